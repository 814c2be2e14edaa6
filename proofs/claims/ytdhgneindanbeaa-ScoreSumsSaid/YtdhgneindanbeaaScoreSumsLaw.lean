
/- ScoreSums: for every input the call of the statement returns true and leaves its arguments as they were. Conditions: none. -/
import Derived.Deep.Grids
import Derived.StillTailTactics
import Derived.Deep.RegionWith
import Derived.Deep.RegionHeld3
import Derived.Deep.CutRange
import Derived.Deep.Heap
import Derived.Test.YtdhgneindanbeaaScoreLimitsLaw
import Derived.Test.YtdhgneindanbeaaScoreDecayLaw
set_option linter.unusedVariables false
set_option linter.unusedSimpArgs false
namespace Go.Proofs.Ytdhgneindanbeaa
open Go.RowKit Go.Proofs.YtdhgneindanbeaaW.PrintWords Go.Proofs.YtdhgneindanbeaaW.PrintLast Go.Proofs.YtdhgneindanbeaaW.PrintMore
open Go.ChangeShapes Go.WideShapes Go.ChangeAt
open Go.ChangeMaps (open_string shut_string)

def nthb (xs : List Bool) (i : Nat) : Bool := xs.getD i false
theorem C_natb {w : World} {A : Option Addr} {n : Nat} {xs : List Bool} (h : Kd.bool.C w A n xs) (i : Nat) (hi : i < n) :
    ∃ b o s, A = some ⟨b, o, s⟩ ∧ w.cell? ((⟨b, o, s⟩ : Addr).add i) = some (.bool (nthb xs i)) := by
  obtain ⟨ad, e, hc⟩ := Kd.at_bool h (i : Int) (by omega) (by omega)
  refine ⟨ad.block, ad.off, ad.spot, e, ?_⟩
  exact hc
theorem C_came_bool {H : Type} {enc : TypeId × Value → H} {P : Program} {W : World} {b0 : Nat} {t e : TypeId} {v : Value} {d : DataW H} {ps : List MemPlace} (ht : P.underlying t = some (.slice e)) (he : P.underlying e = some .bool) (hc : P.cellsOf e = 1)
    (hval : Value.okWide P W .any b0 t v) (hd : DataW.Trod enc P W 0 (fun _ => true) true t v d ps) :
    ∃ A n c l, v = .slice A n c ∧ n ≤ c ∧ Kd.bool.C W A n l := by
  obtain ⟨A, n, c, rfl⟩ := okWide_slice ht hval
  obtain ⟨fuel, hf⟩ := hd
  rcases Go.Deep.open_bools ht he hc hf with ⟨hcs, hx⟩ | ⟨a, len, cap, B, hcs, _, hl, hm, hx, hcell⟩
  · simp [Value.cells] at hcs
    obtain ⟨rfl, rfl, rfl⟩ := hcs
    exact ⟨none, 0, 0, [], rfl, Nat.le_refl _, Kd.C_nil _ _⟩
  · simp [Value.cells] at hcs
    obtain ⟨rfl, rfl, rfl⟩ := hcs
    refine ⟨_, _, _, (List.range n).map B, rfl, hl, ?_⟩
    refine Kd.C_of_reads (enc := Value.bool) (d := false) (h1 := fun _ => rfl) ⟨by simp, by unfold maxLen at hm; omega, fun _ => ⟨_, rfl, fun j hj => ?_⟩⟩
    have := hcell j (by omega)
    rw [this]
    simp [List.getD_eq_getElem?_getD, hj]

def wantF (r : RuleV) (p G B : Int) : Int := p + r.cre * (if G < r.most then G else r.most) - r.pen * B
theorem want_bad (r : RuleV) (p G B : Int) : wantF r p G (B + 1) = wantF r p G B - r.pen := by
  unfold wantF
  rw [Int.mul_add]
  omega
theorem want_lt (r : RuleV) (p G B : Int) (h : G < r.most) : wantF r p (G + 1) B = wantF r p G B + r.cre := by
  unfold wantF
  rw [if_pos h]
  have : (if G + 1 < r.most then G + 1 else r.most) = G + 1 := by split <;> omega
  rw [this, Int.mul_add]
  omega
theorem want_ge (r : RuleV) (p G B : Int) (h : r.most ≤ G) : wantF r p (G + 1) B = wantF r p G B := by
  unfold wantF
  rw [if_neg (by omega), if_neg (by omega)]
theorem want_bd (r : RuleV) (p G B : Int) (hr : fitsB r = true) (hp : -200 ≤ p ∧ p ≤ 199) (hG : 0 ≤ G ∧ G ≤ 40) (hB : 0 ≤ B ∧ B ≤ 40) : -50000 ≤ wantF r p G B ∧ wantF r p G B ≤ 50000 := by
  obtain ⟨a1, a2, a3, a4, a5, a6, a7⟩ := (fits_iff r).1 hr
  unfold wantF
  have m1 := mul_bd (B := 40) a2.1 a2.2 (show 0 ≤ (if G < r.most then G else r.most) by split <;> omega) (by split <;> omega)
  have m2 := mul_bd a1.1 a1.2 hB.1 hB.2
  omega
theorem settle_sum (r : RuleV) (p G B : Int) (hr : fitsB r = true) (hp : -200 ≤ p ∧ p ≤ 199) (hG : 0 ≤ G ∧ G ≤ 40) (hB : 0 ≤ B ∧ B ≤ 40) (u : ScoreV) (hu : settleF r ⟨p, G, B, false⟩ = u) :
    u.pts = wantF r p G B ∧ u.good = 0 ∧ u.bad = 0 ∧ settleF r u = u ∧ rightB u = true := by
  have hw := want_bd r p G B hr hp hG hB
  have a3 := ((fits_iff r).1 hr).2.2.1
  have e : sumP r ⟨p, G, B, false⟩ = wantF r p G B := by
    show p + r.cre * min G r.most - r.pen * B = _
    unfold wantF
    have : min G r.most = (if G < r.most then G else r.most) := by split <;> omega
    rw [this]
  have ec : capP (wantF r p G B) = wantF r p G B := by unfold capP hel; omega
  have hu' : u = ⟨wantF r p G B, 0, 0, if wantF r p G B < r.ban then true else if r.back ≤ wantF r p G B then false else false⟩ := by
    rw [← hu]
    unfold settleF judgedF
    rw [e, ec]
  refine ⟨by rw [hu'], by rw [hu'], by rw [hu'], ?_, ?_⟩
  · rw [hu']
    unfold settleF judgedF sumP
    have hm : min 0 r.most = 0 := by omega
    simp only [hm, Int.mul_zero, Int.add_zero, Int.sub_zero, ec]
    congr 1
    split <;> simp_all
  · rw [hu']
    refine (right_iff _).2 ⟨?_, by simp, by simp⟩
    simp only
    omega
theorem Settle_same (r : RuleV) (u : ScoreV) (w : World) (h : okB r u = true) (hs : settleF r u = u) : Calls Try.prog 12 #[.agg #[.int .i64 r.pen, .int .i64 r.cre, .int .i64 r.most, .int .i64 r.num, .int .i64 r.den, .int .i64 r.ban, .int .i64 r.back], .agg #[.int .i64 u.pts, .int .i64 u.good, .int .i64 u.bad, .bool u.ban]] w fun e w' =>
    e = .returned (.tuple #[.agg #[.int .i64 u.pts, .int .i64 u.good, .int .i64 u.bad, .bool u.ban], .int .i64 0]) ∧ Below w.heap.size w w' := by
  have := Settle_yes r u w h
  rwa [hs] at this
theorem cnt_good (p G B : Int) (w : World) (hp : -200 ≤ p ∧ p ≤ 199) (hG : 0 ≤ G ∧ G ≤ 40) (hB : 0 ≤ B ∧ B ≤ 40) : Calls Try.prog 16 #[.agg #[.int .i64 p, .int .i64 G, .int .i64 B, .bool false], .bool true] w fun e w' =>
    e = .returned (.tuple #[.agg #[.int .i64 p, .int .i64 (G + 1), .int .i64 B, .bool false], .int .i64 0]) ∧ Below w.heap.size w w' := by
  have h := Count_yes ⟨p, G, B, false⟩ true w ((right_iff _).2 ⟨by simp only; omega, by simp only; omega, by simp only; omega⟩)
  have e : countF ⟨p, G, B, false⟩ true = ⟨p, G + 1, B, false⟩ := by
    show (⟨p, hel (G + 1) 0 1099511627776, B, false⟩ : ScoreV) = _
    rw [show hel (G + 1) 0 1099511627776 = G + 1 by unfold hel; omega]
  rwa [e] at h
theorem cnt_bad (p G B : Int) (w : World) (hp : -200 ≤ p ∧ p ≤ 199) (hG : 0 ≤ G ∧ G ≤ 40) (hB : 0 ≤ B ∧ B ≤ 40) : Calls Try.prog 16 #[.agg #[.int .i64 p, .int .i64 G, .int .i64 B, .bool false], .bool false] w fun e w' =>
    e = .returned (.tuple #[.agg #[.int .i64 p, .int .i64 G, .int .i64 (B + 1), .bool false], .int .i64 0]) ∧ Below w.heap.size w w' := by
  have h := Count_yes ⟨p, G, B, false⟩ false w ((right_iff _).2 ⟨by simp only; omega, by simp only; omega, by simp only; omega⟩)
  have e : countF ⟨p, G, B, false⟩ false = ⟨p, G, B + 1, false⟩ := by
    show (⟨p, G, hel (B + 1) 0 1099511627776, false⟩ : ScoreV) = _
    rw [show hel (B + 1) 0 1099511627776 = B + 1 by unfold hel; omega]
  rwa [e] at h
theorem cnt_g (p G B : Int) (w : World) (g : Bool) (G' B' : Int) (h : (g = true ∧ G' = G + 1 ∧ B' = B) ∨ (g = false ∧ G' = G ∧ B' = B + 1)) (hp : -200 ≤ p ∧ p ≤ 199) (hG : 0 ≤ G ∧ G ≤ 40) (hB : 0 ≤ B ∧ B ≤ 40) : Calls Try.prog 16 #[.agg #[.int .i64 p, .int .i64 G, .int .i64 B, .bool false], .bool g] w fun e w' =>
    e = .returned (.tuple #[.agg #[.int .i64 p, .int .i64 G', .int .i64 B', .bool false], .int .i64 0]) ∧ Below w.heap.size w w' := by
  rcases h with ⟨rfl, rfl, rfl⟩ | ⟨rfl, rfl, rfl⟩
  · exact cnt_good p _ _ w hp hG hB
  · exact cnt_bad p _ _ w hp hG hB
theorem cell_set_far {W : World} {a : Addr} {b j : Nat} {v : Value} (h : a.block ≠ b) : (W.setCell ⟨b, j, none⟩ v).cell? a = W.cell? a := by
  simp only [World.cell?, Go.Deep.blk_setCell_other W ⟨b, j, none⟩ v a.block h]
theorem Box.other {w : World} {b b' j : Nat} {cs : Array Value} {T : TypeId} {v : Value} (h : Box w b cs T) (hne : b ≠ b') : Box (w.setCell ⟨b', j, none⟩ v) b cs T := by
  unfold Box at h ⊢
  rw [← h]
  exact Go.Deep.blk_setCell_other w ⟨b', j, none⟩ v b hne

theorem Box.score4 {w : World} {b : Nat} {x0 x1 x2 x3 y0 y1 y2 y3 : Value} {T : TypeId} (h : Box w b #[x0, x1, x2, x3] T) : Box ((((w.setCell ⟨b, 0, none⟩ y0).setCell ⟨b, 1, none⟩ y1).setCell ⟨b, 2, none⟩ y2).setCell ⟨b, 3, none⟩ y3) b #[y0, y1, y2, y3] T :=
  Box.set (Box.set (Box.set (Box.set h)))
theorem Box.other4 {w : World} {b b' : Nat} {y0 y1 y2 y3 : Value} {cs : Array Value} {T : TypeId} (h : Box w b cs T) (hne : b ≠ b') : Box ((((w.setCell ⟨b', 0, none⟩ y0).setCell ⟨b', 1, none⟩ y1).setCell ⟨b', 2, none⟩ y2).setCell ⟨b', 3, none⟩ y3) b cs T :=
  Box.other (Box.other (Box.other (Box.other h hne) hne) hne) hne
theorem cell_score4 {W : World} {a : Addr} {b : Nat} {y0 y1 y2 y3 : Value} (h : a.block ≠ b) : ((((W.setCell ⟨b, 0, none⟩ y0).setCell ⟨b, 1, none⟩ y1).setCell ⟨b, 2, none⟩ y2).setCell ⟨b, 3, none⟩ y3).cell? a = W.cell? a := by
  rw [cell_set_far h, cell_set_far h, cell_set_far h, cell_set_far h]
theorem below_score4 {w v : World} {b : Nat} {y0 y1 y2 y3 : Value} (h : Below w.heap.size w v) (hb : w.heap.size ≤ b) : Below w.heap.size w ((((v.setCell ⟨b, 0, none⟩ y0).setCell ⟨b, 1, none⟩ y1).setCell ⟨b, 2, none⟩ y2).setCell ⟨b, 3, none⟩ y3) :=
  below_set (below_set (below_set (below_set h hb) hb) hb) hb
set_option maxHeartbeats 16000000 in
set_option maxRecDepth 100000 in
theorem ScoreSums_calls (n : Seven) (pt : Int) (hp : i64ok pt) (A : Option Addr) (m c : Nat) (good : List Bool) (w : World) (hr : Kd.bool.C w A m good) : Calls Try.prog 4 #[.agg #[.int .i64 n.a, .int .i64 n.b, .int .i64 n.c, .int .i64 n.d, .int .i64 n.e, .int .i64 n.f, .int .i64 n.g], .int .i64 pt, .slice A m c] w fun e w' =>
    e = .returned (.bool true) ∧ Below w.heap.size w w' := by
  obtain rfl := Kd.C_len hr
  have hm := Kd.C_max hr
  have HR := Aside0.mk hr
  clear hr
  obtain ⟨hp0, hp1⟩ := hp
  have HB := Aside0.mk (Below.refl w.heap.size w)
  have HN := Aside0.mk (ruleF_fits n)
  go_enter Try.func4, Try.ntmps4
  go_wp2_with fail
  refine (awake_calls _).mono ?_
  rintro e w1 ⟨rfl, hb_⟩
  have Y4 : Box w1 (w.heap.size) _ _ := Box.below (by repeat (with_reducible first | exact X4.out | exact Box.new | exact Box.new1 | exact Box.new2 | exact Box.new3 | apply Box.alloc | apply Box.drew | apply Box.drewN | apply Box.set)) hb_
  (try clear X4 r4 k4 f4); have X4 := Aside0.mk Y4; have r4 := Y4.cell; have f4 := Y4.frozen; have k4 := Y4.lt; clear Y4
  have n_ := Aside0.mk (below_step (by repeat (first | exact HB.out | apply below_alloc | apply pw_below_drewN | apply below_drew1 | refine below_set ?_ (by first | omega | (simp; omega)))) hb_); clear HB hb_; have HB := n_; clear n_
  go_wp2_with fail
  refine (Rule_calls n _).mono ?_
  rintro e w2 ⟨rfl, hb_⟩
  have n_ := Aside0.mk (below_step (by repeat (first | exact HB.out | apply below_alloc | apply pw_below_drewN | apply below_drew1 | refine below_set ?_ (by first | omega | (simp; omega)))) hb_); clear HB hb_; have HB := n_; clear n_
  have z2 := HB.out.size
  have pp := pickF_bd pt 400 (by omega)
  go_upto_region 4 with (go_at_call 10; ((with_reducible refine (pick_calls _ _ _ (by omega) (by omega) (by omega) (by omega)).mono ?_)); rintro e w_ ⟨rfl, rfl⟩)
  generalize hpe : pickF pt 400 - 200 = p at *
  have hpb : -200 ≤ p ∧ p ≤ 199 := by omega
  clear hpe pp hp0 hp1
  generalize ruleF n = r at *
  have fr := (fits_iff r).1 HN.out
  have hz0 : (if (0 : Int) < r.most then 0 else r.most) = 0 := by split <;> omega
  go_wp2
  go_loopw [10, 11, 12] (fun wv gv iv wr => ∃ (k : Nat) (G B gd : Int), k ≤ good.length ∧ k ≤ 40 ∧ 0 ≤ G ∧ 0 ≤ B ∧ G + B = k ∧ iv = .int .i64 k ∧ wv = .int .i64 (wantF r p G B) ∧ gv = .int .i64 gd ∧ ((G < r.most ∧ gd = G) ∨ (r.most ≤ G ∧ gd = r.most)) ∧
    Box wr w2.heap.size #[.int .i64 r.pen, .int .i64 r.cre, .int .i64 r.most, .int .i64 r.num, .int .i64 r.den, .int .i64 r.ban, .int .i64 r.back] 23 ∧ Box wr (w2.heap.size + 1) #[.int .i64 p, .int .i64 G, .int .i64 B, .bool false] 25 ∧ Below w.heap.size w wr) (fun _ _ i _ => good.length - (intOf i).toNat)
  case atStart => exact ⟨0, 0, 0, 0, by omega, by omega, by omega, by omega, by omega, rfl, (by rw [wantF, hz0]; simp), rfl, (by omega), Box.alloc Box.new, Box.new1, (by repeat (first | exact HB.out | apply below_alloc | apply pw_below_drewN | apply below_drew1 | refine below_set ?_ (by first | omega | (simp; omega))))⟩
  case round =>
    obtain ⟨k, G, B, gd, hk, hk40, hG0, hB0, hGB, rfl, rfl, rfl, hgd, b6, b7, hb⟩ := hrel
    have HD := Aside0.mk hgd
    clear hgd
    have HB := Aside0.mk hb
    clear hb hz0
    have X6 := Aside0.mk b6
    have r6 := b6.cell
    have f6 := b6.frozen
    have k6 := b6.lt
    have X7 := Aside0.mk b7
    have r7 := b7.cell
    have f7 := b7.frozen
    have k7 := b7.lt
    have wb := want_bd r p G B HN.out hpb (by omega) (by omega)
    rcases Nat.lt_or_ge k good.length with hlt | hge
    · rcases Nat.lt_or_ge k 40 with h40 | h40
      · obtain ⟨b, o, s, rfl, hc0⟩ := C_natb HR.out k hlt
        have hbl := cell_lt hc0
        have HC0 := Aside0.mk hc0
        have hc := (HB.out.cell hbl).trans hc0
        clear hc0
        have d0 := b7.cell 0
        have d1 := b7.cell 1
        have d2 := b7.cell 2
        have d3 := b7.cell 3
        simp only [List.getElem?_toArray, List.getElem?_cons_zero, List.getElem?_cons_succ] at d0 d1 d2 d3
        clear b6 b7
        have hGb : 0 ≤ G ∧ G ≤ 40 := by omega
        have hBb : 0 ≤ B ∧ B ≤ 40 := by omega
        generalize nthb good k = g at *
        obtain ⟨G', B', hgg⟩ : ∃ G' B' : Int, (g = true ∧ G' = G + 1 ∧ B' = B) ∨ (g = false ∧ G' = G ∧ B' = B + 1) := by
          cases g
          · exact ⟨G, B + 1, Or.inr ⟨rfl, rfl, rfl⟩⟩
          · exact ⟨G + 1, B, Or.inl ⟨rfl, rfl, rfl⟩⟩
        have HGG := Aside0.mk hgg
        clear hgg
        have q6 := k6
        have q7 := k7
        have zr := HB.out.size
        have hblr := Nat.lt_of_lt_of_le hbl zr
        have hblb := hbl
        rw [Go.ChangeShapes.block_add] at hblb
        replace hblb : b < w.heap.size := hblb
        go_upto_region 9 with (fail)
        go_cut [13, 14] from 28 to 82 (fun v13 v14 wx => ∃ bt : Nat, v13 = .pointer (some ⟨bt, 0, none⟩) ∧ v14 = .int .i64 0 ∧ w2.heap.size + 1 < bt ∧ Box wx bt #[.int .i64 p, .int .i64 G', .int .i64 B', .bool false] 25 ∧ Box wx w2.heap.size #[.int .i64 r.pen, .int .i64 r.cre, .int .i64 r.most, .int .i64 r.num, .int .i64 r.den, .int .i64 r.ban, .int .i64 r.back] 23 ∧ Box wx (w2.heap.size + 1) #[.int .i64 p, .int .i64 G, .int .i64 B, .bool false] 25 ∧ Below w.heap.size w wx)
        case first =>
          go_region_held3 (fun w' => Below wr.heap.size wr w' ∧ (∀ j, w'.cell? ⟨w2.heap.size + 1, j, none⟩ = (#[.int .i64 p, .int .i64 G, .int .i64 B, .bool false] : Array Value)[j]?) ∧ w'.cell? ((⟨b, o, s⟩ : Addr).add k) = some (.bool g)) (first | with_reducible exact ⟨j0, jS, jG⟩ | with_reducible exact ⟨below_score4 j0 (Nat.le_refl _), fun j => (cell_score4 (Nat.ne_of_lt k7)).trans (jS j), (cell_score4 (Nat.ne_of_lt hblr)).trans jG⟩ | with_reducible exact ⟨below_alloc j0 _, fun j => (cell_alloc_old (Nat.lt_of_lt_of_le k7 j0.size)).trans (jS j), ((below_alloc (Below.refl _ _) _).cell (Nat.lt_of_lt_of_le hblr j0.size)).trans jG⟩ | with_reducible assumption | exact ⟨below_drew1 (Below.refl _ _), r7, hc⟩ | exact ⟨below_alloc (below_drew1 (Below.refl _ _)) _, fun j => (cell_alloc_old k7).trans (r7 j), ((below_alloc (Below.refl _ _) _).cell hblr).trans hc⟩) (first | (go_at_call 16; ((with_reducible refine (cnt_g p G B _ g G' B' HGG.out hpb hGb hBb).mono ?_)); obtain ⟨g0, gS, gG⟩ := ‹Below wr.heap.size wr _ ∧ _›; rintro e w4 ⟨rfl, hb_⟩; have j0 := below_step g0 hb_; have jS := fun j => (hb_.cell (p := ⟨w2.heap.size + 1, j, none⟩) (Nat.lt_of_lt_of_le k7 g0.size)).trans (gS j); have jG := (hb_.cell (Nat.lt_of_lt_of_le hblr g0.size)).trans gG; (try (have YN : Box w4 wr.heap.size #[.int .i64 0, .int .i64 0, .int .i64 0, .bool false] 25 := Box.below (w := wr.drew.alloc (.cells #[.int .i64 0, .int .i64 0, .int .i64 0, .bool false] 25)) (Box.new (w := wr.drew)) hb_; have rN := YN.cell; have fN := YN.frozen; have kN := YN.lt; have XN := Aside0.mk YN; clear YN))))
          all_goals
            (try go_wp2_with fail)
            go_meet
            case rel =>
              have hz4 := j0.size
              first
                | with_reducible exact ⟨w4.heap.size, rfl, rfl, by omega, Box.new, Box.alloc (X6.out.below j0), Box.alloc (X7.out.below j0), below_alloc (below_step HB.out j0) _⟩
                | with_reducible exact ⟨wr.heap.size, rfl, rfl, by omega, Box.score4 XN.out, Box.other4 (X6.out.below j0) (by omega), Box.other4 (X7.out.below j0) (by omega), below_score4 (below_step HB.out j0) (by omega)⟩
        case rest =>
          obtain ⟨bt, rfl, rfl, hbt, bN, b6, b7, hb⟩ := hcut
          clear hblr hc d0 d1 d2 d3 HB X6 X7 r6 r7 f6 f7 k6 k7 q6 q7 zr
          have HB := Aside0.mk hb
          clear hb
          have X6 := Aside0.mk b6
          have r6 := b6.cell
          have f6 := b6.frozen
          have k6 := b6.lt
          have X7 := Aside0.mk b7
          have r7 := b7.cell
          have f7 := b7.frozen
          have k7 := b7.lt
          have rN := bN.cell
          have fN := bN.frozen
          have kN := bN.lt
          clear b6 b7 bN
          have hc4 := (HB.out.cell hbl).trans HC0.out
          have hcs : ∀ (W : World) (j : Nat) (v : Value), (W.setCell ⟨w2.heap.size + 1, j, none⟩ v).cell? ((⟨b, o, s⟩ : Addr).add k) = W.cell? ((⟨b, o, s⟩ : Addr).add k) := fun W j v => cell_set_far (by rw [Go.ChangeShapes.block_add]; show b ≠ _; omega)
          rcases HGG.out with ⟨rfl, rfl, rfl⟩ | ⟨rfl, rfl, rfl⟩
          · have wb2 := want_bd r p (G + 1) B' HN.out hpb (by omega) (by omega)
            rcases HD.out with ⟨hd1, hd2⟩ | ⟨hd1, hd2⟩
            · have HW := Aside0.mk (want_lt r p G B' hd1)
              rw [want_lt r p G B' hd1] at wb2
              subst hd2
              go_wp2
              go_roundw
              case rel =>
                rw [← HW.out]
                exact ⟨k + 1, gd + 1, B', gd + 1, by omega, by omega, by omega, by omega, by omega, by go_num, rfl, rfl, by omega, Box.other4 X6.out (by omega), Box.score4 X7.out, below_score4 HB.out (by omega)⟩
              case measure => simp [intOf]; omega
            · have HW := Aside0.mk (want_ge r p G B' hd1)
              subst hd2
              go_wp2
              go_roundw
              case rel =>
                rw [← HW.out]
                exact ⟨k + 1, G + 1, B', r.most, by omega, by omega, by omega, by omega, by omega, by go_num, rfl, rfl, by omega, Box.other4 X6.out (by omega), Box.score4 X7.out, below_score4 HB.out (by omega)⟩
              case measure => simp [intOf]; omega
          · have HW := Aside0.mk (want_bad r p G' B)
            have wb2 := want_bd r p G' (B + 1) HN.out hpb (by omega) (by omega)
            rw [want_bad r p G' B] at wb2
            go_wp2
            go_roundw
            case rel =>
              rw [← HW.out]
              exact ⟨k + 1, G', B + 1, gd, by omega, by omega, by omega, by omega, by omega, by go_num, rfl, rfl, HD.out, Box.other4 X6.out (by omega), Box.score4 X7.out, below_score4 HB.out (by omega)⟩
            case measure => simp [intOf]; omega
      · clear b6 b7
        obtain ⟨g1, g2, g3, g4, g5⟩ := settle_sum r p G B HN.out hpb (by omega) (by omega) _ rfl
        have hok : okB r ⟨p, G, B, false⟩ = true := by rw [okB, HN.out, (right_iff _).2 ⟨by simp only; omega, by simp only; omega, by simp only; omega⟩]; rfl
        go_wp2_with fail
        refine (Settle_yes r ⟨p, G, B, false⟩ _ hok).mono ?_
        rintro e w5 ⟨rfl, hb_⟩
        have Y6 : Box w5 (w2.heap.size) _ _ := Box.below (by repeat (with_reducible first | exact X6.out | exact Box.new | exact Box.new1 | exact Box.new2 | exact Box.new3 | apply Box.alloc | apply Box.drew | apply Box.drewN | apply Box.set)) hb_
        (try clear X6 r6 k6 f6); have X6 := Aside0.mk Y6; have r6 := Y6.cell; have f6 := Y6.frozen; have k6 := Y6.lt; clear Y6
        have Y7 : Box w5 (w2.heap.size + 1) _ _ := Box.below (by repeat (with_reducible first | exact X7.out | exact Box.new | exact Box.new1 | exact Box.new2 | exact Box.new3 | apply Box.alloc | apply Box.drew | apply Box.drewN | apply Box.set)) hb_
        (try clear X7 r7 k7 f7); have X7 := Aside0.mk Y7; have r7 := Y7.cell; have f7 := Y7.frozen; have k7 := Y7.lt; clear Y7
        have n_ := Aside0.mk (below_step (by repeat (first | exact HB.out | apply below_alloc | apply pw_below_drewN | apply below_drew1 | refine below_set ?_ (by first | omega | (simp; omega)))) hb_); clear HB hb_; have HB := n_; clear n_
        generalize settleF r ⟨p, G, B, false⟩ = u at *
        have hok2 : okB r u = true := by rw [okB, HN.out, g5]; rfl
        have HG4 := Aside0.mk g4
        have HG1 := Aside0.mk (And.intro g1 (And.intro g2 g3))
        clear g1 g2 g3 g4
        go_wp2_with fail
        refine (Settle_same r u _ hok2 HG4.out).mono ?_
        rintro e w6 ⟨rfl, hb_⟩
        have Y6 : Box w6 (w2.heap.size) _ _ := Box.below (by repeat (with_reducible first | exact X6.out | exact Box.new | exact Box.new1 | exact Box.new2 | exact Box.new3 | apply Box.alloc | apply Box.drew | apply Box.drewN | apply Box.set)) hb_
        (try clear X6 r6 k6 f6); have X6 := Aside0.mk Y6; have r6 := Y6.cell; have f6 := Y6.frozen; have k6 := Y6.lt; clear Y6
        have Y7 : Box w6 (w2.heap.size + 1) _ _ := Box.below (by repeat (with_reducible first | exact X7.out | exact Box.new | exact Box.new1 | exact Box.new2 | exact Box.new3 | apply Box.alloc | apply Box.drew | apply Box.drewN | apply Box.set)) hb_
        (try clear X7 r7 k7 f7); have X7 := Aside0.mk Y7; have r7 := Y7.cell; have f7 := Y7.frozen; have k7 := Y7.lt; clear Y7
        have Y8 : Box w6 (w5.heap.size) _ _ := Box.below (by repeat (with_reducible first | exact X8.out | exact Box.new | exact Box.new1 | exact Box.new2 | exact Box.new3 | apply Box.alloc | apply Box.drew | apply Box.drewN | apply Box.set)) hb_
        (try clear X8 r8 k8 f8); have X8 := Aside0.mk Y8; have r8 := Y8.cell; have f8 := Y8.frozen; have k8 := Y8.lt; clear Y8
        have n_ := Aside0.mk (below_step (by repeat (first | exact HB.out | apply below_alloc | apply pw_below_drewN | apply below_drew1 | refine below_set ?_ (by first | omega | (simp; omega)))) hb_); clear HB hb_; have HB := n_; clear n_
        obtain ⟨g1, g2, g3⟩ := HG1.out
        go_wp2
        go_ret
        exact ⟨rfl, (by repeat (first | exact HB.out | apply below_alloc | apply pw_below_drewN | apply below_drew1 | refine below_set ?_ (by first | omega | (simp; omega))))⟩
    · clear b6 b7
      obtain ⟨g1, g2, g3, g4, g5⟩ := settle_sum r p G B HN.out hpb (by omega) (by omega) _ rfl
      have hok : okB r ⟨p, G, B, false⟩ = true := by rw [okB, HN.out, (right_iff _).2 ⟨by simp only; omega, by simp only; omega, by simp only; omega⟩]; rfl
      go_wp2_with fail
      refine (Settle_yes r ⟨p, G, B, false⟩ _ hok).mono ?_
      rintro e w5 ⟨rfl, hb_⟩
      have Y6 : Box w5 (w2.heap.size) _ _ := Box.below (by repeat (with_reducible first | exact X6.out | exact Box.new | exact Box.new1 | exact Box.new2 | exact Box.new3 | apply Box.alloc | apply Box.drew | apply Box.drewN | apply Box.set)) hb_
      (try clear X6 r6 k6 f6); have X6 := Aside0.mk Y6; have r6 := Y6.cell; have f6 := Y6.frozen; have k6 := Y6.lt; clear Y6
      have Y7 : Box w5 (w2.heap.size + 1) _ _ := Box.below (by repeat (with_reducible first | exact X7.out | exact Box.new | exact Box.new1 | exact Box.new2 | exact Box.new3 | apply Box.alloc | apply Box.drew | apply Box.drewN | apply Box.set)) hb_
      (try clear X7 r7 k7 f7); have X7 := Aside0.mk Y7; have r7 := Y7.cell; have f7 := Y7.frozen; have k7 := Y7.lt; clear Y7
      have n_ := Aside0.mk (below_step (by repeat (first | exact HB.out | apply below_alloc | apply pw_below_drewN | apply below_drew1 | refine below_set ?_ (by first | omega | (simp; omega)))) hb_); clear HB hb_; have HB := n_; clear n_
      generalize settleF r ⟨p, G, B, false⟩ = u at *
      have hok2 : okB r u = true := by rw [okB, HN.out, g5]; rfl
      have HG4 := Aside0.mk g4
      have HG1 := Aside0.mk (And.intro g1 (And.intro g2 g3))
      clear g1 g2 g3 g4
      go_wp2_with fail
      refine (Settle_same r u _ hok2 HG4.out).mono ?_
      rintro e w6 ⟨rfl, hb_⟩
      have Y6 : Box w6 (w2.heap.size) _ _ := Box.below (by repeat (with_reducible first | exact X6.out | exact Box.new | exact Box.new1 | exact Box.new2 | exact Box.new3 | apply Box.alloc | apply Box.drew | apply Box.drewN | apply Box.set)) hb_
      (try clear X6 r6 k6 f6); have X6 := Aside0.mk Y6; have r6 := Y6.cell; have f6 := Y6.frozen; have k6 := Y6.lt; clear Y6
      have Y7 : Box w6 (w2.heap.size + 1) _ _ := Box.below (by repeat (with_reducible first | exact X7.out | exact Box.new | exact Box.new1 | exact Box.new2 | exact Box.new3 | apply Box.alloc | apply Box.drew | apply Box.drewN | apply Box.set)) hb_
      (try clear X7 r7 k7 f7); have X7 := Aside0.mk Y7; have r7 := Y7.cell; have f7 := Y7.frozen; have k7 := Y7.lt; clear Y7
      have Y8 : Box w6 (w5.heap.size) _ _ := Box.below (by repeat (with_reducible first | exact X8.out | exact Box.new | exact Box.new1 | exact Box.new2 | exact Box.new3 | apply Box.alloc | apply Box.drew | apply Box.drewN | apply Box.set)) hb_
      (try clear X8 r8 k8 f8); have X8 := Aside0.mk Y8; have r8 := Y8.cell; have f8 := Y8.frozen; have k8 := Y8.lt; clear Y8
      have n_ := Aside0.mk (below_step (by repeat (first | exact HB.out | apply below_alloc | apply pw_below_drewN | apply below_drew1 | refine below_set ?_ (by first | omega | (simp; omega)))) hb_); clear HB hb_; have HB := n_; clear n_
      obtain ⟨g1, g2, g3⟩ := HG1.out
      go_wp2
      go_ret
      exact ⟨rfl, (by repeat (first | exact HB.out | apply below_alloc | apply pw_below_drewN | apply below_drew1 | refine below_set ?_ (by first | omega | (simp; omega))))⟩

set_option maxRecDepth 100000 in
theorem scoreSums_lifted (os : Os) (started : os.Started) (H : Type) (enc : TypeId × Value → H) :
    ReturnsInHanded {} Try.checked os 4 .any (Rows.scoreSumsSpec.pre6 enc Try.prog Try.f4 Rows.scoreSumsRow.domain false) (Rows.scoreSumsSpec.post enc Try.prog Try.f4 false true false false) := by
  refine returnsInHanded_of_change_sized (C := Try.checked) own started (by kernel_rfl) Try.func4
    (ChangeSpec.witness6 (enc := enc) (C := Try.checked) false ⟨#[], #[.agg #[.int .i64 0, .int .i64 0, .int .i64 0, .int .i64 0, .int .i64 0, .int .i64 0, .int .i64 0], .int .i64 0, .slice none 0 0], []⟩ 8 (by kernel_rfl) (by kernel_rfl) (by kernel_rfl) (by kernel_rfl)) ?_
  intro W base args ds gs before hval0 hW hcnd hsz0 _
  have hsz : (DataW.weightsEach Try.prog (Try.f4.params.toList ++ Rows.scoreSumsSpec.plain.varTypes Try.prog) (ds ++ gs)).all (· ≤ reachBytes) = true := hsz0
  have hval : ∀ (j : Nat) t v, Try.f4.params[j]? = some t → args[j]? = some v → Value.okWide Try.prog W .any base t v := hval0
  have hW' := hW
  obtain ⟨p, q, hA0, hV, rfl, hfz, hnd⟩ := hW
  have hA : DataW.TrodAll enc Try.prog W 0 (fun _ => true) true Try.f4.params.toList args.toList ds p := hA0
  have hAll := hA
  rw [Try.params4] at hA hval hsz
  obtain ⟨v0, vs0, d0, ds0, p0, q0, hargs, rfl, rfl, h0, r0⟩ := trodAll_cons hA
  obtain ⟨v1, vs1, d1, ds1, p1, q1, rfl, rfl, rfl, h1, r1⟩ := trodAll_cons r0
  obtain ⟨v2, vs2, d2, ds2, p2, q2, rfl, rfl, rfl, h2, r2⟩ := trodAll_cons r1
  obtain ⟨rfl, rfl, rfl⟩ := trodAll_nil r2
  obtain rfl : args = #[v0, v1, v2] := by cases args; simp_all
  obtain ⟨rfl, rfl⟩ := trodVars_none hV
  have hlt := trodAll_lt hAll
  obtain ⟨n, rfl⟩ := seven_came (hval 0 26 v0 rfl rfl)
  obtain ⟨p, rfl, rfl, rfl, w1⟩ := open_int Try.underlying3 (hval 1 3 v1 rfl rfl) h1
  obtain ⟨A, m, c, l, rfl, _, hC⟩ := C_came_bool Try.underlying41 Try.underlying4 (by kernel_rfl) (hval 2 41 v2 rfl rfl) h2
  clear hA0 hval0 hsz0 hsz
  refine (ScoreSums_calls n p (bounds_i64 w1) A m c l W hC).mono fun e W' ⟨he, bel⟩ => ?_
  subst he
  exact ⟨_, rfl, _, _, _, [], _, [], hW', trodAll_mk1 (shut_bool Try.underlying4 _), below_trodAll laidOut bel (by kernel_rfl) hAll hlt, rfl, bel.frame _, fun h => by cases h⟩
theorem scoreSums_over : Rows.scoreSumsRow.holds Try.pinned (OpenSpec.ofChange Rows.scoreSumsSpec) :=
  OpenClaim.holds_of_wide 4 Try.f4 rfl rfl rfl rfl rfl rfl rfl ⟨rfl, rfl, rfl, rfl, rfl⟩ rfl rfl rfl rfl rfl (by kernel_rfl) Try.func4 (by kernel_rfl)
    (of_decide_eq_true (by kernel_rfl)) (by unfold Func.isWrapper; first | (rw [if_pos (by decide +kernel)]; kernel_rfl) | (rw [if_neg (by decide +kernel)]; exact ⟨rfl, rfl⟩))
    (fun os started H enc _ => scoreSums_lifted os started H enc)
theorem scoreSums_holds : Rows.ScoreSumsSaid := scoreSums_over
#print axioms scoreSums_holds
end Go.Proofs.Ytdhgneindanbeaa
