import Derived.Deep.RegionHeld3
import Derived.Deep.CutBlock
import Derived.Test.YtdepmbnoecpccaaDoorF0
import Derived.Test.YtdepmbnoecpccaaDoorDutyNo
import Derived.Test.YtdepmbnoecpccaaDoorBoxes
import Derived.StillTailTactics
set_option linter.unusedVariables false
set_option linter.unusedSimpArgs false

/- Raw tokens (chapter 5's statements). -/
namespace Go.Proofs.YtdepmbnoecpccaaDoor
open Go.RowKit Go.Proofs.YtdepmbnoecpccaaDoorW.PrintWords Go.Proofs.YtdepmbnoecpccaaDoorW.PrintLast Go.Proofs.YtdepmbnoecpccaaDoorW.PrintMore

open Go.Proofs.YtdepmbnoecpccaaDoor.PQ Go.Proofs.YtdepmbnoecpccaaDoorW.PrintLast

theorem info53 : (Tryd.prog.info? 53).map (fun i => (i.zero, i.size, i.bytes)) = some (some (.agg #[(.int .u64 0), (.int .u64 0)]), 2, 16) := by kernel_rfl
theorem kP_of_K {w : World} {base : Nat} {ok : Nat → Prop} (x : Pr) (cs : List Value) (h : kP.K w x cs) : kP.M w base ok x cs := by
  rw [k53_open h]
  exact k53_mkM _ _ _ _
theorem C_takeG {α : Type} {d : Kd α} {A : Option Addr} {l : List α} {w : World} {n p : Nat} (h : d.C w A n l) (hp : p ≤ n) : d.C w A p (l.take p) := by
  obtain rfl := Kd.C_len h
  have e := Kd.C_take h hp
  rw [List.length_take, Nat.min_eq_left hp] at e
  exact e
theorem C_dropP {A : Option Addr} {l : List Pr} {w : World} {n p c : Nat} (h : kP.C w A n l) (hp : p ≤ n) (hc : n ≤ c) : kP.C w (if c = p then A else A.map (·.add (p * 2))) (n - p) (l.drop p) := by
  obtain rfl := Kd.C_len h
  have e := Kd.C_drop h hp hc
  rw [List.length_drop] at e
  exact e
theorem C_noP {w : World} {A : Option Addr} {l : List Pr} {p : Nat} (h : p = l.length) : kP.C w A 0 (l.drop p) := by
  rw [List.drop_of_length_le (by omega)]
  exact ⟨by simp, by simp, fun h => absurd h (by simp)⟩
theorem C_oneP {W : World} {vb : Nat} {m : Pr} (h : Box W vb #[.int .u64 m.f0, .int .u64 m.f1] 53) : kP.C W (some ⟨vb, 0, none⟩) 1 [m] := by
  refine ⟨rfl, by omega, fun _ => ⟨_, rfl, fun j p hj => ?_⟩⟩
  have hj0 : j = 0 := by
    rcases Nat.eq_zero_or_pos j with h | h
    · exact h
    · rw [List.getElem?_eq_none (by simp; omega)] at hj
      cases hj
  subst hj0
  obtain rfl : m = p := by simpa using hj
  refine ⟨[.int .u64 m.f0, .int .u64 m.f1], rfl, k53_mk _ _, fun i u hu => ?_⟩
  have h2 := h.cell i
  rw [show ((⟨vb, 0, none⟩ : Addr).add (0 * kP.sz + i)) = ⟨vb, i, none⟩ by rw [Nat.zero_mul, Nat.zero_add]; unfold Addr.add; split <;> simp_all, h2]
  simpa using hu
theorem rAheadE (a b : Pr) (r : Bool) (w : World) (h : ltP a b = r) : Calls Tryd.prog 43 #[.agg #[.int .u64 a.f0, .int .u64 a.f1], .agg #[.int .u64 b.f0, .int .u64 b.f1]] w fun e w' => e = .returned (.bool r) ∧ Below w.heap.size w w' := by
  refine mootbellref05_Ahead.calls a.f0 a.f1 b.f0 b.f1 r w ?_
  subst h
  unfold mootbellref05_Ahead.f ltP
  split
  · rename_i h
    simp [h]
  · rename_i h
    split
    · rename_i h2
      congr 1
      simp [h2]
    · rename_i h2
      congr 1
      simp [h, h2]
def In64 (c : Int) : Prop := -9223372036854775808 ≤ c ∧ c ≤ 9223372036854775807
def pickZ (c n : Int) : Int := Int.tmod (if c < 0 then -(c + 1) else c) n
theorem w64 {x : Int} (h : In64 x) : wrap64 x = x := by
  rw [← i64_w]
  exact IntWalk.i64_in _ h
theorem pick5_f (c n : Int) (hc : In64 c) (hn : 0 < n) : mootbelllaw05_pick.f c n = some (pickZ c n) := by
  unfold mootbelllaw05_pick.f pickZ
  unfold In64 at hc
  by_cases h : c < 0
  · rw [if_pos h, if_neg (by omega), if_pos h, w64 (x := c + 1) (by unfold In64; omega), w64 (x := -(c + 1)) (by unfold In64; omega)]
  · rw [if_neg h, if_neg (by omega), if_neg h]
theorem pickZ_lt (c n : Int) (hn : 0 < n) : 0 ≤ pickZ c n ∧ pickZ c n < n := by
  unfold pickZ
  have h0 : 0 ≤ (if c < 0 then -(c + 1) else c) := by split <;> omega
  rw [Int.tmod_eq_emod_of_nonneg h0]
  exact ⟨Int.emod_nonneg _ (by omega), Int.emod_lt_of_pos _ hn⟩
theorem tdiv_in {c : Int} (h : In64 c) : In64 (c.tdiv 16) := by
  unfold In64 at *
  by_cases h0 : 0 ≤ c
  · rw [Int.tdiv_eq_ediv_of_nonneg h0]
    omega
  · have e : c.tdiv 16 = -((-c) / 16) := by rw [← Int.tdiv_eq_ediv_of_nonneg (by omega : 0 ≤ -c), ← Int.neg_tdiv, Int.neg_neg]
    omega
theorem pick5E (c n r : Int) (hc : In64 c) (hn : 0 < n) (w : World) (h : pickZ c n = r) : Calls Tryd.prog 42 #[.int .i64 c, .int .i64 n] w fun e w' => e = .returned (.int .i64 r) ∧ Below w.heap.size w w' :=
  (mootbelllaw05_pick.calls c n r w (by rw [pick5_f c n hc hn, h])).mono fun e w' hh => ⟨hh.1, hh.2.below⟩
/-- The pair of a raw number, and where Token puts it: behind all that it is not ahead of. -/
def rawP (x : Int) : Pr := ⟨pickZ x 12, pickZ (x.tdiv 16) 3⟩
def posT (l : List Pr) (p : Pr) : Nat → Nat
  | 0 => 0
  | k + 1 => if ltP p (rdP l (k : Int)) = true then posT l p k else k + 1
theorem posT_le (l : List Pr) (p : Pr) : ∀ k, posT l p k ≤ k
  | 0 => Nat.le_refl _
  | k + 1 => by
    unfold posT
    split
    · exact Nat.le_succ_of_le (posT_le l p k)
    · exact Nat.le_refl _
def insT (l : List Pr) (p : Pr) : List Pr := l.take (posT l p l.length) ++ p :: l.drop (posT l p l.length)
theorem insT_R {l : List Pr} {m : Pr} {p b e : Nat} {w : World} {ok : Nat → Prop} {v : Value} (h : kP.R e w b ok v (l.take p ++ [m] ++ l.drop p)) (hp : p = posT l m l.length) : kP.R e w b ok v (insT l m) := by
  subst hp
  rw [List.append_assoc] at h
  exact h
theorem insT_len (l : List Pr) (p : Pr) : (insT l p).length = l.length + 1 := by
  have := posT_le l p l.length
  unfold insT
  rw [List.length_append, List.length_cons, List.length_take, List.length_drop]
  omega
def tokR (raw : List Int) : List Pr := (raw.take 30).foldl (fun l x => insT l (rawP x)) []
theorem tokR_len (raw : List Int) : ∀ (xs : List Int) (l : List Pr), (xs.foldl (fun l x => insT l (rawP x)) l).length = l.length + xs.length
  | [], l => by simp
  | x :: r, l => by
    rw [List.foldl_cons, tokR_len raw r, insT_len]
    simp
    omega
set_option maxRecDepth 100000 in
set_option maxHeartbeats 8000000 in
theorem lToken (A : Option Addr) (n c : Nat) (raw : List Int) (f : Bool) (w : World) (hA : (Kd.int .i64).C w A n raw) (hc : n ≤ c) (hi : ∀ x ∈ raw, In64 x) : Calls Tryd.prog 21 #[.slice A n c, .bool f] w
    fun r w' => ∃ v, r = .returned (.agg #[.bool f, v]) ∧ kP.R 53 w' w.heap.size (fun _ => True) v (tokR raw) ∧ Below w.heap.size w w' := by
  have HN := Aside0.mk (show n = raw.length from (Kd.C_len hA).symm)
  have hn63 : n ≤ 9223372036854775807 := by rw [HN.out]; exact Kd.C_len hA ▸ Kd.C_max hA
  have HX := Aside0.mk hA
  have HI := Aside0.mk hi
  clear hA hi
  go_enter Tryd.func21, Tryd.ntmps21
  go_wp2
  obtain ⟨W0, hW0⟩ : ∃ W, w.alloc (.cells #[.bool false, .slice none 0 0] 28) = W := ⟨_, rfl⟩
  rw [hW0]
  obtain ⟨W, hW⟩ : ∃ W, W0.alloc (.cells #[.bool f, .slice none 0 0] 28) = W := ⟨_, rfl⟩
  rw [hW]
  obtain ⟨s, hs⟩ : ∃ s, w.heap.size = s := ⟨_, rfl⟩
  have hs0 : W0.heap.size = s + 1 := by rw [← hW0, size_alloc, hs]
  have hs1 : W.heap.size = s + 2 := by rw [← hW, size_alloc, hs0]
  have b0 : Box W0 s #[.bool false, .slice none 0 0] 28 := hs ▸ hW0 ▸ Box.new
  have bR := Aside0.mk (hW ▸ b0.alloc : Box W s _ _)
  have bT := Aside0.mk (hs0 ▸ hW ▸ Box.new : Box W (s + 1) #[.bool f, .slice none 0 0] 28)
  have HB := Aside0.mk (hW ▸ below_alloc (hW0 ▸ below_alloc (Below.refl _ _) _) _ : Below w.heap.size w W)
  rw [hs]
  have HS := Aside0.mk (And.intro hs hs1)
  clear hW0 hW b0 hs0 hs hs1
  go_loopw [6] (fun v6 wx => ∃ (i : Nat) (v : Value), i ≤ n ∧ i ≤ 30 ∧ v6 = .int .i64 i ∧ Box wx (s + 1) #[.bool f, v] 28 ∧ kP.R 53 wx (s + 2) (fun _ => True) v ((raw.take i).foldl (fun l x => insT l (rawP x)) []) ∧ Box wx s #[.bool false, .slice none 0 0] 28 ∧ Below w.heap.size w wx) (fun v6 _ => 30 - (intOf v6).toNat)
  case atStart => exact ⟨0, .slice none 0 0, by omega, by omega, rfl, bT.out, Kd.R_nil _ _ _ _ _, bR.out, HB.out⟩
  case round =>
    clear HB bR bT
    obtain ⟨i, v, hi, hi30, rfl, hT, hO, hR, hb⟩ := hrel
    obtain ⟨Ao, co, rfl⟩ := Kd.R_slice hO
    by_cases hlt : i < n ∧ i < 30
    · obtain ⟨z, hz⟩ : ∃ z : Int, (i : Int) = z := ⟨_, rfl⟩
      have hil : i < raw.length := by rw [← HN.out]; exact hlt.1
      obtain ⟨x, hx⟩ : ∃ x, rd raw z = x := ⟨_, rfl⟩
      have hxe : raw[i] = x := by
        rw [← hx, ← hz]
        unfold rd
        rw [Int.toNat_natCast, List.getD_eq_getElem?_getD, List.getElem?_eq_getElem hil]
        rfl
      have HF := Aside0.mk (show (raw.take (i + 1)).foldl (fun l x => insT l (rawP x)) [] = insT ((raw.take i).foldl (fun l x => insT l (rawP x)) []) (rawP x) by rw [List.take_succ_eq_append_getElem hil, List.foldl_append, hxe]; rfl)
      have HLN := Aside0.mk (show ((raw.take i).foldl (fun l x => insT l (rawP x)) []).length ≤ 30 by rw [tokR_len raw, List.length_take]; simp; omega)
      have HXI := Aside0.mk (HI.out x (by rw [← hxe]; exact List.getElem_mem hil))
      generalize ((raw.take i).foldl (fun l x => insT l (rawP x)) []) = l at *
      obtain ⟨ln, hln⟩ : ∃ q, l.length = q := ⟨_, rfl⟩
      rw [hln] at HLN hT hO
      have HL := Aside0.mk hln
      clear hln
      rw [hz]
      have hz0 : 0 ≤ z := by omega
      have hz1 : z < (n : Int) := by omega
      have hz2 : z < 30 := by omega
      have hd1 : decide (z < (n : Int)) = true := decide_eq_true hz1
      have hd2 : decide (z < 30) = true := decide_eq_true hz2
      obtain ⟨ad, rfl, rX⟩ := Kd.at_int (Kd.C_below HX.out hb) z hz0 hz1
      rw [hx] at rX
      have kX := cell_lt rX
      have HZ := Aside0.mk hz
      obtain ⟨p0, hp0⟩ : ∃ p, pickZ x 12 = p := ⟨_, rfl⟩
      obtain ⟨y, hy⟩ : ∃ y, x.tdiv 16 = y := ⟨_, rfl⟩
      have hyi := tdiv_in HXI.out
      rw [hy] at hyi
      have HYI := Aside0.mk hyi
      have hwq : IntKind.i64.wrap (x.tdiv 16) = y := by rw [hy]; exact IntWalk.i64_in _ hyi
      obtain ⟨p1, hp1⟩ : ∃ p, pickZ y 3 = p := ⟨_, rfl⟩
      have q0 := pickZ_lt x 12 (by omega)
      have q1 := pickZ_lt y 3 (by omega)
      rw [hp0] at q0
      rw [hp1] at q1
      have HP := Aside0.mk (And.intro hp0 hp1)
      have HPE := Aside0.mk (show rawP x = ⟨p0, p1⟩ by unfold rawP; rw [hp0, hy, hp1])
      have hc0 : IntKind.u64.wrap p0 = p0 := by rw [IntKind.wrap_u64]; omega
      have hc1 : IntKind.u64.wrap p1 = p1 := by rw [IntKind.wrap_u64]; omega
      have HT := Aside0.mk hT
      have HO := Aside0.mk hO
      have HR := Aside0.mk hR
      have HB := Aside0.mk hb
      clear hy hyi hz hx hxe hp0 hp1 hT hO hR hb hil hlt q0 q1
      go_upto_region 5 with (fail)
      go_cut [6, 7] (fun v6 v7 wd => ∃ B, v6 = .int .i64 z ∧ v7 = .pointer (some ⟨B, 0, none⟩) ∧ wr.heap.size ≤ B ∧ Box wd B #[.int .u64 p0, .int .u64 p1] 53 ∧ Below wr.heap.size wr wd)
      case first =>
        refine wp_region_last_drew (S := (fun w' => Below wr.heap.size wr w' ∧ (w'.cell? ((ad.add z.toNat)) = some (.int .i64 x)))) (ds := [15]) (by kernel_rfl) ?hS1x0 (fun hHeld => ?hR1x0)
        case hS1x0 => ((try dsimp only); (first | exact ⟨below_drew1 (Below.refl _ _), rX⟩ | exact ⟨below_drew1 b0_, rX⟩ | exact ⟨j0, jX⟩ | exact ⟨below_alloc j0 _, (cell_alloc_oldp (Nat.lt_of_lt_of_le kX j0.size)).trans jX⟩ | exact ⟨below_alloc (below_drew1 (Below.refl _ _)) _, (cell_alloc_oldp kX).trans rX⟩ | assumption))
        refine wpAnyLast_take (i := 0) (oi := ⟨some 21, _, _, _, _, _⟩) (v := ?_) rfl (by kernel_rfl) (by kernel_rfl) (by kernel_rfl) (by kernel_rfl) (by kernel_rfl) (fun _ _ _ h => h) (Or.inl ⟨by rfl, ?hY1x2⟩) (by assumption) ?hR1x2
        case hY1x2 => (intro w hSw; (try dsimp only at hSw); go_simp; try with_reducible rfl)
        (try simp only [Act.put, qa_, qb_, qc_])
        refine wpAnyLast_take (i := 1) (oi := ⟨some 22, _, _, _, _, _⟩) (v := ?_) rfl (by kernel_rfl) (by kernel_rfl) (by kernel_rfl) (by kernel_rfl) (by kernel_rfl) (fun _ _ _ h => h) (Or.inl ⟨by rfl, ?hY1x3⟩) (by assumption) ?hR1x3
        case hY1x3 => (intro w hSw; (try dsimp only at hSw); go_simp; try with_reducible rfl)
        (try simp only [Act.put, qa_, qb_, qc_])
        refine wpAnyLast_take (i := 2) (oi := ⟨some 23, _, _, _, _, _⟩) (v := ?_) rfl (by kernel_rfl) (by kernel_rfl) (by kernel_rfl) (by kernel_rfl) (by kernel_rfl) (fun _ _ _ h => h) (Or.inl ⟨by rfl, ?hY1x4⟩) (by assumption) ?hR1x4
        case hY1x4 => (intro w hSw; (try dsimp only at hSw); go_simp; try with_reducible rfl)
        (try simp only [Act.put, qa_, qb_, qc_])
        refine wpAnyLast_take (i := 3) (oi := ⟨some 24, _, _, _, _, _⟩) (v := ?_) rfl (by kernel_rfl) (by kernel_rfl) (by kernel_rfl) (by kernel_rfl) (by kernel_rfl) (fun _ _ _ h => h) (Or.inl ⟨by rfl, ?hY1x5⟩) (by assumption) ?hR1x5
        case hY1x5 => (intro w hSw; (try dsimp only at hSw); go_simp; try with_reducible rfl)
        (try simp only [Act.put, qa_, qb_, qc_])
        refine wpAnyLast_take (i := 6) (oi := ⟨some 27, _, _, _, _, _⟩) (v := ?_) rfl (by kernel_rfl) (by kernel_rfl) (by kernel_rfl) (by kernel_rfl) (by kernel_rfl) (fun _ _ _ h => h) (Or.inl ⟨by rfl, ?hY1x6⟩) (by assumption) ?hR1x6
        case hY1x6 => (intro w hSw; (try dsimp only at hSw); go_simp; try with_reducible rfl)
        (try simp only [Act.put, qa_, qb_, qc_])
        refine wpAnyLast_take (i := 7) (oi := ⟨some 28, _, _, _, _, _⟩) (v := ?_) rfl (by kernel_rfl) (by kernel_rfl) (by kernel_rfl) (by kernel_rfl) (by kernel_rfl) (fun _ _ _ h => h) (Or.inl ⟨by rfl, ?hY1x7⟩) (by assumption) ?hR1x7
        case hY1x7 => (intro w hSw; (try dsimp only at hSw); go_simp; try with_reducible rfl)
        (try simp only [Act.put, qa_, qb_, qc_])
        refine wpAnyLast_take (i := 8) (oi := ⟨some 29, _, _, _, _, _⟩) (v := ?_) rfl (by kernel_rfl) (by kernel_rfl) (by kernel_rfl) (by kernel_rfl) (by kernel_rfl) (fun _ _ _ h => h) (Or.inl ⟨by rfl, ?hY1x8⟩) (by assumption) ?hR1x8
        case hY1x8 => (intro w hSw; (try dsimp only at hSw); go_simp; try with_reducible rfl)
        (try simp only [Act.put, qa_, qb_, qc_])
        refine wpAnyLast_take (i := 9) (oi := ⟨some 30, _, _, _, _, _⟩) (v := ?_) rfl (by kernel_rfl) (by kernel_rfl) (by kernel_rfl) (by kernel_rfl) (by kernel_rfl) (fun _ _ _ h => h) (Or.inl ⟨by rfl, ?hY1x9⟩) (by assumption) ?hR1x9
        case hY1x9 => (intro w hSw; (try dsimp only at hSw); go_simp; try with_reducible rfl)
        (try simp only [Act.put, qa_, qb_, qc_])
        refine wpAnyLast_take (i := 10) (oi := ⟨some 31, _, _, _, _, _⟩) (v := ?_) rfl (by kernel_rfl) (by kernel_rfl) (by kernel_rfl) (by kernel_rfl) (by kernel_rfl) (fun _ _ _ h => h) (Or.inl ⟨by rfl, ?hY1x10⟩) (by assumption) ?hR1x10
        case hY1x10 => (intro w hSw; (try dsimp only at hSw); go_simp; try with_reducible rfl)
        (try simp only [Act.put, qa_, qb_, qc_])
        refine wpAnyLast_ready (rs := [4, 14]) (by kernel_rfl) (by simp) ?_
        refine AllReadyL.cons (o := ⟨some 25, _, _, _, _, _⟩) rfl (by decide) (fun K hK => ?hT1x110) (AllReadyL.cons (o := ⟨some 7, _, _, _, _, _⟩) rfl (by decide) (fun K hK => ?hT1x111) (AllReadyL.nil))
        case hT1x110 =>
          go_simp
          (first | (go_at_call 42; obtain ⟨g0, gX⟩ := ‹Below wr.heap.size wr _ ∧ _›; ((with_reducible refine (pick5E x 12 p0 HXI.out (by omega) _ HP.out.1).mono ?_));  rintro e w5 ⟨rfl, hb_⟩; have j0 := below_step g0 hb_; have s5 := j0.size; have jX := (j0.cell (p := (ad.add z.toNat)) kX).trans rX; (try first | have bq5 := Box.below Box.new hb_ | have bq5 := Box.below (Box.drew Box.new) hb_); (try have rq5 := bq5.cell); (try have fq5 := bq5.frozen)) | (go_at_call 42; obtain ⟨g0, gX⟩ := ‹Below wr.heap.size wr _ ∧ _›; ((with_reducible refine (pick5E y 3 p1 HYI.out (by omega) _ HP.out.2).mono ?_));  rintro e w6 ⟨rfl, hb_⟩; have j0 := below_step g0 hb_; have s6 := j0.size; have jX := (j0.cell (p := (ad.add z.toNat)) kX).trans rX; (try first | have bq6 := Box.below Box.new hb_ | have bq6 := Box.below (Box.drew Box.new) hb_ | have bq6 := Box.below bq5 hb_); (try have rq6 := bq6.cell); (try have fq6 := bq6.frozen)))
          (try go_wp2_with fail)
          refine hK.out _ _ ?hS1x12 (fun hHeld => ?hR1x12)
          case hS1x12 => ((try dsimp only); (first | exact ⟨below_drew1 (Below.refl _ _), rX⟩ | exact ⟨below_drew1 b0_, rX⟩ | exact ⟨j0, jX⟩ | exact ⟨below_alloc j0 _, (cell_alloc_oldp (Nat.lt_of_lt_of_le kX j0.size)).trans jX⟩ | exact ⟨below_alloc (below_drew1 (Below.refl _ _)) _, (cell_alloc_oldp kX).trans rX⟩ | assumption))
          clear hK K
          (try simp only [Act.put, qa_, qb_, qc_])
          refine wpAnyLast_take (i := 5) (oi := ⟨some 26, _, _, _, _, _⟩) (v := ?_) rfl (by kernel_rfl) (by kernel_rfl) (by kernel_rfl) (by kernel_rfl) (by kernel_rfl) (fun _ _ _ h => h) (Or.inl ⟨by rfl, ?hY1x13⟩) (by assumption) ?hR1x13
          case hY1x13 => (intro w hSw; (try dsimp only at hSw); go_simp; try with_reducible rfl)
          (try simp only [Act.put, qa_, qb_, qc_])
          refine wpAnyLast_ready (rs := [11, 14]) (by kernel_rfl) (by simp) ?_
          refine AllReadyL.cons (o := ⟨some 32, _, _, _, _, _⟩) rfl (by decide) (fun K hK => ?hT1x140) (AllReadyL.cons (o := ⟨some 7, _, _, _, _, _⟩) rfl (by decide) (fun K hK => ?hT1x141) (AllReadyL.nil))
          case hT1x140 =>
            go_simp
            (first | (go_at_call 42; obtain ⟨g0, gX⟩ := ‹Below wr.heap.size wr _ ∧ _›; ((with_reducible refine (pick5E x 12 p0 HXI.out (by omega) _ HP.out.1).mono ?_));  rintro e w5 ⟨rfl, hb_⟩; have j0 := below_step g0 hb_; have s5 := j0.size; have jX := (j0.cell (p := (ad.add z.toNat)) kX).trans rX; (try first | have bq5 := Box.below Box.new hb_ | have bq5 := Box.below (Box.drew Box.new) hb_); (try have rq5 := bq5.cell); (try have fq5 := bq5.frozen)) | (go_at_call 42; obtain ⟨g0, gX⟩ := ‹Below wr.heap.size wr _ ∧ _›; ((with_reducible refine (pick5E y 3 p1 HYI.out (by omega) _ HP.out.2).mono ?_));  rintro e w6 ⟨rfl, hb_⟩; have j0 := below_step g0 hb_; have s6 := j0.size; have jX := (j0.cell (p := (ad.add z.toNat)) kX).trans rX; (try first | have bq6 := Box.below Box.new hb_ | have bq6 := Box.below (Box.drew Box.new) hb_ | have bq6 := Box.below bq5 hb_); (try have rq6 := bq6.cell); (try have fq6 := bq6.frozen)))
            (try go_wp2_with fail)
            refine hK.out _ _ ?hS1x15 (fun hHeld => ?hR1x15)
            case hS1x15 => ((try dsimp only); (first | exact ⟨below_drew1 (Below.refl _ _), rX⟩ | exact ⟨below_drew1 b0_, rX⟩ | exact ⟨j0, jX⟩ | exact ⟨below_alloc j0 _, (cell_alloc_oldp (Nat.lt_of_lt_of_le kX j0.size)).trans jX⟩ | exact ⟨below_alloc (below_drew1 (Below.refl _ _)) _, (cell_alloc_oldp kX).trans rX⟩ | assumption))
            clear hK K
            (try simp only [Act.put, qa_, qb_, qc_])
            refine wpAnyLast_take (i := 12) (oi := ⟨some 33, _, _, _, _, _⟩) (v := ?_) rfl (by kernel_rfl) (by kernel_rfl) (by kernel_rfl) (by kernel_rfl) (by kernel_rfl) (fun _ _ _ h => h) (Or.inl ⟨by rfl, ?hY1x16⟩) (by assumption) ?hR1x16
            case hY1x16 => (intro w hSw; (try dsimp only at hSw); go_simp; try with_reducible rfl)
            (try simp only [Act.put, qa_, qb_, qc_])
            refine wpAnyLast_take (i := 13) (oi := ⟨some 34, _, _, _, _, _⟩) (v := ?_) rfl (by kernel_rfl) (by kernel_rfl) (by kernel_rfl) (by kernel_rfl) (by kernel_rfl) (fun _ _ _ h => h) (Or.inl ⟨by rfl, ?hY1x17⟩) (by assumption) ?hR1x17
            case hY1x17 => (intro w hSw; (try dsimp only at hSw); go_simp; try with_reducible rfl)
            (try simp only [Act.put, qa_, qb_, qc_])
            refine wpAnyLast_ready (rs := [14]) (by kernel_rfl) (by simp) ?_
            refine AllReadyL.cons (o := ⟨some 7, _, _, _, _, _⟩) rfl (by decide) (fun K hK => ?hT1x18) ?hM1x18
            case hM1x18 => exact AllReadyL.nil
            go_simp
            (try go_wp2_with fail)
            refine hK.out _ _ ?hS1x18 (fun hHeld => ?hR1x18)
            case hS1x18 => ((try dsimp only); (first | exact ⟨below_drew1 (Below.refl _ _), rX⟩ | exact ⟨below_drew1 b0_, rX⟩ | exact ⟨j0, jX⟩ | exact ⟨below_alloc j0 _, (cell_alloc_oldp (Nat.lt_of_lt_of_le kX j0.size)).trans jX⟩ | exact ⟨below_alloc (below_drew1 (Below.refl _ _)) _, (cell_alloc_oldp kX).trans rX⟩ | assumption))
            clear hK K
            (try simp only [Act.put, qa_, qb_, qc_])
            refine wpAnyLast_ready (rs := [15]) (by kernel_rfl) (by simp) ?_
            refine AllReadyL.cons_last (o := ⟨none, _, _, _, _, _⟩) rfl (by decide) (fun K hK => ?hT1x19) ?hM1x19
            case hM1x19 => exact AllReadyL.nil
            go_simp
            (try go_wp2_with fail)
            refine hK.out _ _ ?hR1x19
            clear hK K
            (try simp only [Act.put, qa_, qb_, qc_])
            refine wpAnyLast_done (by kernel_rfl) ?_ _
            go_wp2
            go_meet
            case rel =>
              first
                | exact ⟨w6.heap.size, rfl, rfl, j0.size, Box.new, below_alloc j0 _⟩
                | exact ⟨w5.heap.size, rfl, rfl, s5, Box.two bq6, below_set (below_set j0 (by first | omega | (simp only; omega))) (by first | omega | (simp only; omega))⟩
                | exact ⟨wr.heap.size, rfl, rfl, Nat.le_refl _, Box.two bq6, below_set (below_set j0 (by first | omega | (simp only; omega))) (by first | omega | (simp only; omega))⟩
          case hT1x141 =>
            go_simp
            (try go_wp2_with fail)
            refine hK.out _ _ ?hS1x20 (fun hHeld => ?hR1x20)
            case hS1x20 => ((try dsimp only); (first | exact ⟨below_drew1 (Below.refl _ _), rX⟩ | exact ⟨below_drew1 b0_, rX⟩ | exact ⟨j0, jX⟩ | exact ⟨below_alloc j0 _, (cell_alloc_oldp (Nat.lt_of_lt_of_le kX j0.size)).trans jX⟩ | exact ⟨below_alloc (below_drew1 (Below.refl _ _)) _, (cell_alloc_oldp kX).trans rX⟩ | assumption))
            clear hK K
            (try simp only [Act.put, qa_, qb_, qc_])
            refine wpAnyLast_ready (rs := [11]) (by kernel_rfl) (by simp) ?_
            refine AllReadyL.cons (o := ⟨some 32, _, _, _, _, _⟩) rfl (by decide) (fun K hK => ?hT1x21) ?hM1x21
            case hM1x21 => exact AllReadyL.nil
            go_simp
            (first | (go_at_call 42; obtain ⟨g0, gX⟩ := ‹Below wr.heap.size wr _ ∧ _›; ((with_reducible refine (pick5E x 12 p0 HXI.out (by omega) _ HP.out.1).mono ?_));  rintro e w5 ⟨rfl, hb_⟩; have j0 := below_step g0 hb_; have s5 := j0.size; have jX := (j0.cell (p := (ad.add z.toNat)) kX).trans rX; (try first | have bq5 := Box.below Box.new hb_ | have bq5 := Box.below (Box.drew Box.new) hb_); (try have rq5 := bq5.cell); (try have fq5 := bq5.frozen)) | (go_at_call 42; obtain ⟨g0, gX⟩ := ‹Below wr.heap.size wr _ ∧ _›; ((with_reducible refine (pick5E y 3 p1 HYI.out (by omega) _ HP.out.2).mono ?_));  rintro e w6 ⟨rfl, hb_⟩; have j0 := below_step g0 hb_; have s6 := j0.size; have jX := (j0.cell (p := (ad.add z.toNat)) kX).trans rX; (try first | have bq6 := Box.below Box.new hb_ | have bq6 := Box.below (Box.drew Box.new) hb_ | have bq6 := Box.below bq5 hb_); (try have rq6 := bq6.cell); (try have fq6 := bq6.frozen)))
            (try go_wp2_with fail)
            refine hK.out _ _ ?hS1x21 (fun hHeld => ?hR1x21)
            case hS1x21 => ((try dsimp only); (first | exact ⟨below_drew1 (Below.refl _ _), rX⟩ | exact ⟨below_drew1 b0_, rX⟩ | exact ⟨j0, jX⟩ | exact ⟨below_alloc j0 _, (cell_alloc_oldp (Nat.lt_of_lt_of_le kX j0.size)).trans jX⟩ | exact ⟨below_alloc (below_drew1 (Below.refl _ _)) _, (cell_alloc_oldp kX).trans rX⟩ | assumption))
            clear hK K
            (try simp only [Act.put, qa_, qb_, qc_])
            refine wpAnyLast_take (i := 12) (oi := ⟨some 33, _, _, _, _, _⟩) (v := ?_) rfl (by kernel_rfl) (by kernel_rfl) (by kernel_rfl) (by kernel_rfl) (by kernel_rfl) (fun _ _ _ h => h) (Or.inl ⟨by rfl, ?hY1x22⟩) (by assumption) ?hR1x22
            case hY1x22 => (intro w hSw; (try dsimp only at hSw); go_simp; try with_reducible rfl)
            (try simp only [Act.put, qa_, qb_, qc_])
            refine wpAnyLast_take (i := 13) (oi := ⟨some 34, _, _, _, _, _⟩) (v := ?_) rfl (by kernel_rfl) (by kernel_rfl) (by kernel_rfl) (by kernel_rfl) (by kernel_rfl) (fun _ _ _ h => h) (Or.inl ⟨by rfl, ?hY1x23⟩) (by assumption) ?hR1x23
            case hY1x23 => (intro w hSw; (try dsimp only at hSw); go_simp; try with_reducible rfl)
            (try simp only [Act.put, qa_, qb_, qc_])
            refine wpAnyLast_ready (rs := [15]) (by kernel_rfl) (by simp) ?_
            refine AllReadyL.cons_last (o := ⟨none, _, _, _, _, _⟩) rfl (by decide) (fun K hK => ?hT1x24) ?hM1x24
            case hM1x24 => exact AllReadyL.nil
            go_simp
            (try go_wp2_with fail)
            refine hK.out _ _ ?hR1x24
            clear hK K
            (try simp only [Act.put, qa_, qb_, qc_])
            refine wpAnyLast_done (by kernel_rfl) ?_ _
            go_wp2
            go_meet
            case rel =>
              first
                | exact ⟨w6.heap.size, rfl, rfl, j0.size, Box.new, below_alloc j0 _⟩
                | exact ⟨w5.heap.size, rfl, rfl, s5, Box.two bq6, below_set (below_set j0 (by first | omega | (simp only; omega))) (by first | omega | (simp only; omega))⟩
                | exact ⟨wr.heap.size, rfl, rfl, Nat.le_refl _, Box.two bq6, below_set (below_set j0 (by first | omega | (simp only; omega))) (by first | omega | (simp only; omega))⟩
        case hT1x111 =>
          go_simp
          (try go_wp2_with fail)
          refine hK.out _ _ ?hS1x25 (fun hHeld => ?hR1x25)
          case hS1x25 => ((try dsimp only); (first | exact ⟨below_drew1 (Below.refl _ _), rX⟩ | exact ⟨below_drew1 b0_, rX⟩ | exact ⟨j0, jX⟩ | exact ⟨below_alloc j0 _, (cell_alloc_oldp (Nat.lt_of_lt_of_le kX j0.size)).trans jX⟩ | exact ⟨below_alloc (below_drew1 (Below.refl _ _)) _, (cell_alloc_oldp kX).trans rX⟩ | assumption))
          clear hK K
          (try simp only [Act.put, qa_, qb_, qc_])
          refine wpAnyLast_ready (rs := [4]) (by kernel_rfl) (by simp) ?_
          refine AllReadyL.cons (o := ⟨some 25, _, _, _, _, _⟩) rfl (by decide) (fun K hK => ?hT1x26) ?hM1x26
          case hM1x26 => exact AllReadyL.nil
          go_simp
          (first | (go_at_call 42; obtain ⟨g0, gX⟩ := ‹Below wr.heap.size wr _ ∧ _›; ((with_reducible refine (pick5E x 12 p0 HXI.out (by omega) _ HP.out.1).mono ?_));  rintro e w5 ⟨rfl, hb_⟩; have j0 := below_step g0 hb_; have s5 := j0.size; have jX := (j0.cell (p := (ad.add z.toNat)) kX).trans rX; (try first | have bq5 := Box.below Box.new hb_ | have bq5 := Box.below (Box.drew Box.new) hb_); (try have rq5 := bq5.cell); (try have fq5 := bq5.frozen)) | (go_at_call 42; obtain ⟨g0, gX⟩ := ‹Below wr.heap.size wr _ ∧ _›; ((with_reducible refine (pick5E y 3 p1 HYI.out (by omega) _ HP.out.2).mono ?_));  rintro e w6 ⟨rfl, hb_⟩; have j0 := below_step g0 hb_; have s6 := j0.size; have jX := (j0.cell (p := (ad.add z.toNat)) kX).trans rX; (try first | have bq6 := Box.below Box.new hb_ | have bq6 := Box.below (Box.drew Box.new) hb_ | have bq6 := Box.below bq5 hb_); (try have rq6 := bq6.cell); (try have fq6 := bq6.frozen)))
          (try go_wp2_with fail)
          refine hK.out _ _ ?hS1x26 (fun hHeld => ?hR1x26)
          case hS1x26 => ((try dsimp only); (first | exact ⟨below_drew1 (Below.refl _ _), rX⟩ | exact ⟨below_drew1 b0_, rX⟩ | exact ⟨j0, jX⟩ | exact ⟨below_alloc j0 _, (cell_alloc_oldp (Nat.lt_of_lt_of_le kX j0.size)).trans jX⟩ | exact ⟨below_alloc (below_drew1 (Below.refl _ _)) _, (cell_alloc_oldp kX).trans rX⟩ | assumption))
          clear hK K
          (try simp only [Act.put, qa_, qb_, qc_])
          refine wpAnyLast_take (i := 5) (oi := ⟨some 26, _, _, _, _, _⟩) (v := ?_) rfl (by kernel_rfl) (by kernel_rfl) (by kernel_rfl) (by kernel_rfl) (by kernel_rfl) (fun _ _ _ h => h) (Or.inl ⟨by rfl, ?hY1x27⟩) (by assumption) ?hR1x27
          case hY1x27 => (intro w hSw; (try dsimp only at hSw); go_simp; try with_reducible rfl)
          (try simp only [Act.put, qa_, qb_, qc_])
          refine wpAnyLast_ready (rs := [11]) (by kernel_rfl) (by simp) ?_
          refine AllReadyL.cons (o := ⟨some 32, _, _, _, _, _⟩) rfl (by decide) (fun K hK => ?hT1x28) ?hM1x28
          case hM1x28 => exact AllReadyL.nil
          go_simp
          (first | (go_at_call 42; obtain ⟨g0, gX⟩ := ‹Below wr.heap.size wr _ ∧ _›; ((with_reducible refine (pick5E x 12 p0 HXI.out (by omega) _ HP.out.1).mono ?_));  rintro e w5 ⟨rfl, hb_⟩; have j0 := below_step g0 hb_; have s5 := j0.size; have jX := (j0.cell (p := (ad.add z.toNat)) kX).trans rX; (try first | have bq5 := Box.below Box.new hb_ | have bq5 := Box.below (Box.drew Box.new) hb_); (try have rq5 := bq5.cell); (try have fq5 := bq5.frozen)) | (go_at_call 42; obtain ⟨g0, gX⟩ := ‹Below wr.heap.size wr _ ∧ _›; ((with_reducible refine (pick5E y 3 p1 HYI.out (by omega) _ HP.out.2).mono ?_));  rintro e w6 ⟨rfl, hb_⟩; have j0 := below_step g0 hb_; have s6 := j0.size; have jX := (j0.cell (p := (ad.add z.toNat)) kX).trans rX; (try first | have bq6 := Box.below Box.new hb_ | have bq6 := Box.below (Box.drew Box.new) hb_ | have bq6 := Box.below bq5 hb_); (try have rq6 := bq6.cell); (try have fq6 := bq6.frozen)))
          (try go_wp2_with fail)
          refine hK.out _ _ ?hS1x28 (fun hHeld => ?hR1x28)
          case hS1x28 => ((try dsimp only); (first | exact ⟨below_drew1 (Below.refl _ _), rX⟩ | exact ⟨below_drew1 b0_, rX⟩ | exact ⟨j0, jX⟩ | exact ⟨below_alloc j0 _, (cell_alloc_oldp (Nat.lt_of_lt_of_le kX j0.size)).trans jX⟩ | exact ⟨below_alloc (below_drew1 (Below.refl _ _)) _, (cell_alloc_oldp kX).trans rX⟩ | assumption))
          clear hK K
          (try simp only [Act.put, qa_, qb_, qc_])
          refine wpAnyLast_take (i := 12) (oi := ⟨some 33, _, _, _, _, _⟩) (v := ?_) rfl (by kernel_rfl) (by kernel_rfl) (by kernel_rfl) (by kernel_rfl) (by kernel_rfl) (fun _ _ _ h => h) (Or.inl ⟨by rfl, ?hY1x29⟩) (by assumption) ?hR1x29
          case hY1x29 => (intro w hSw; (try dsimp only at hSw); go_simp; try with_reducible rfl)
          (try simp only [Act.put, qa_, qb_, qc_])
          refine wpAnyLast_take (i := 13) (oi := ⟨some 34, _, _, _, _, _⟩) (v := ?_) rfl (by kernel_rfl) (by kernel_rfl) (by kernel_rfl) (by kernel_rfl) (by kernel_rfl) (fun _ _ _ h => h) (Or.inl ⟨by rfl, ?hY1x30⟩) (by assumption) ?hR1x30
          case hY1x30 => (intro w hSw; (try dsimp only at hSw); go_simp; try with_reducible rfl)
          (try simp only [Act.put, qa_, qb_, qc_])
          refine wpAnyLast_ready (rs := [15]) (by kernel_rfl) (by simp) ?_
          refine AllReadyL.cons_last (o := ⟨none, _, _, _, _, _⟩) rfl (by decide) (fun K hK => ?hT1x31) ?hM1x31
          case hM1x31 => exact AllReadyL.nil
          go_simp
          (try go_wp2_with fail)
          refine hK.out _ _ ?hR1x31
          clear hK K
          (try simp only [Act.put, qa_, qb_, qc_])
          refine wpAnyLast_done (by kernel_rfl) ?_ _
          go_wp2
          go_meet
          case rel =>
            first
              | exact ⟨w6.heap.size, rfl, rfl, j0.size, Box.new, below_alloc j0 _⟩
              | exact ⟨w5.heap.size, rfl, rfl, s5, Box.two bq6, below_set (below_set j0 (by first | omega | (simp only; omega))) (by first | omega | (simp only; omega))⟩
              | exact ⟨wr.heap.size, rfl, rfl, Nat.le_refl _, Box.two bq6, below_set (below_set j0 (by first | omega | (simp only; omega))) (by first | omega | (simp only; omega))⟩
      case rest =>
        obtain ⟨B, rfl, rfl, hB0, bE, hbc⟩ := hcut
        have HTC := Aside0.mk (HT.out.below hbc)
        have HOC := Aside0.mk (Kd.R_below HO.out hbc)
        have HRC := Aside0.mk (HR.out.below hbc)
        have HBC := Aside0.mk (below_step HB.out hbc)
        have XE := Aside0.mk bE
        have hBs : s + 2 ≤ B := by have := HT.out.lt; omega
        have hsz : s + 2 ≤ wc.heap.size := by have := bE.lt; omega
        clear HT HO HR HB hbc bE rX kX hB0
        have HXL := Aside0.mk (show kP.C wc Ao ln l from HL.out ▸ (Kd.R_reads' HOC.out).2.2)
        have hlc := (Kd.R_reads' HOC.out).2.1
        have rT := HTC.out.cell
        have t1 : wc.cell? ⟨s + 1, 1, none⟩ = some (.slice Ao ln co) := rT 1
        go_upto_block 2 with (fail)
        clear t1 rT
        go_cut [8] (fun v8 wd => ∃ p : Nat, p ≤ ln ∧ v8 = .int .i64 p ∧ p = posT l ⟨p0, p1⟩ ln ∧ Below wc.heap.size wc wd)
        case first =>
          go_wp2
          go_loopw [8] (fun iv wx => ∃ p : Nat, p ≤ ln ∧ iv = .int .i64 p ∧ posT l ⟨p0, p1⟩ p = posT l ⟨p0, p1⟩ ln ∧ Below wc.heap.size wc wx) (fun iv _ => (intOf iv).toNat)
          case atStart => exact ⟨ln, Nat.le_refl _, rfl, rfl, Below.refl _ _⟩
          case round =>
            obtain ⟨p, hp, rfl, hpp, hbx⟩ := hrel
            have HBX := Aside0.mk hbx
            have HPP := Aside0.mk hpp
            clear hbx hpp
            have rE := (Box.below XE.out HBX.out).cell
            have kE := (Box.below XE.out HBX.out).lt
            have rT := (Box.below HTC.out HBX.out).cell
            have kT := (Box.below HTC.out HBX.out).lt
            have HXW := Aside0.mk (Kd.C_below HXL.out HBX.out)
            cases p with
            | zero =>
              have hd : decide ((0 : Int) < ((0 : Nat) : Int)) = false := by decide
              have HQ := Aside0.mk (show 0 = posT l ⟨p0, p1⟩ ln from HPP.out)
              go_upto_region 7 with (fail)
              refine wp_region_held_drew (S := (fun w' => Below wr.heap.size wr w' ∧ (∀ j, w'.cell? ⟨B, j, none⟩ = (#[.int .u64 p0, .int .u64 p1] : Array Value)[j]?))) (by kernel_rfl) ?hS2x0 (fun hHeld => ?hR2x0)
              case hS2x0 => ((try dsimp only); (first | exact ⟨below_drew1 (Below.refl _ _), rE⟩ | exact ⟨below_drew1 b0_, rE⟩ | exact ⟨j0, jE⟩ | exact ⟨below_alloc j0 _, fun j => (cell_alloc_old (Nat.lt_of_lt_of_le kE j0.size)).trans (jE j)⟩ | exact ⟨below_alloc (below_drew1 (Below.refl _ _)) _, fun j => (cell_alloc_old kE).trans (rE j)⟩ | assumption))
              refine wpAnyH_take (i := 0) (oi := ⟨some 38, _, _, _, _, _⟩) (v := ?_) rfl (by kernel_rfl) (by kernel_rfl) (by kernel_rfl) (fun _ _ _ h => h) (Or.inl ⟨by rfl, ?hY2x2⟩) (by assumption) ?hR2x2
              case hY2x2 => (intro w hSw; (try dsimp only at hSw); go_simp; try with_reducible rfl)
              (try simp only [Act.put, qa_, qb_, qc_])
              refine wpAnyH_take (i := 1) (oi := ⟨some 39, _, _, _, _, _⟩) (v := ?_) rfl (by kernel_rfl) (by kernel_rfl) (by kernel_rfl) (fun _ _ _ h => h) (Or.inl ⟨by rfl, ?hY2x3⟩) (by assumption) ?hR2x3
              case hY2x3 => (intro w hSw; (try dsimp only at hSw); go_simp; try with_reducible rfl)
              (try simp only [Act.put, qa_, qb_, qc_])
              refine wpAnyH_take (i := 2) (oi := ⟨some 40, _, _, _, _, _⟩) (v := ?_) rfl (by kernel_rfl) (by kernel_rfl) (by kernel_rfl) (fun _ _ _ h => h) (Or.inl ⟨by rfl, ?hY2x4⟩) (by assumption) ?hR2x4
              case hY2x4 => (intro w hSw; (try dsimp only at hSw); go_simp; try with_reducible rfl)
              (try simp only [Act.put, qa_, qb_, qc_])
              refine wpAnyH_take (i := 3) (oi := ⟨some 41, _, _, _, _, _⟩) (v := undef) rfl (by kernel_rfl) (by kernel_rfl) (by kernel_rfl) (fun _ _ _ h => h) (Or.inr ⟨by rfl, rfl⟩) (by assumption) ?_
              (try simp only [Act.put, qa_, qb_, qc_])
              refine wpAnyH_take (i := 4) (oi := ⟨some 42, _, _, _, _, _⟩) (v := undef) rfl (by kernel_rfl) (by kernel_rfl) (by kernel_rfl) (fun _ _ _ h => h) (Or.inr ⟨by rfl, rfl⟩) (by assumption) ?_
              (try simp only [Act.put, qa_, qb_, qc_])
              refine wpAnyH_take (i := 5) (oi := ⟨some 43, _, _, _, _, _⟩) (v := undef) rfl (by kernel_rfl) (by kernel_rfl) (by kernel_rfl) (fun _ _ _ h => h) (Or.inr ⟨by rfl, rfl⟩) (by assumption) ?_
              (try simp only [Act.put, qa_, qb_, qc_])
              refine wpAnyH_take (i := 6) (oi := ⟨some 44, _, _, _, _, _⟩) (v := undef) rfl (by kernel_rfl) (by kernel_rfl) (by kernel_rfl) (fun _ _ _ h => h) (Or.inr ⟨by rfl, rfl⟩) (by assumption) ?_
              (try simp only [Act.put, qa_, qb_, qc_])
              refine wpAnyH_take (i := 7) (oi := ⟨some 45, _, _, _, _, _⟩) (v := undef) rfl (by kernel_rfl) (by kernel_rfl) (by kernel_rfl) (fun _ _ _ h => h) (Or.inr ⟨by rfl, rfl⟩) (by assumption) ?_
              (try simp only [Act.put, qa_, qb_, qc_])
              refine wpAnyH_take (i := 8) (oi := ⟨some 46, _, _, _, _, _⟩) (v := undef) rfl (by kernel_rfl) (by kernel_rfl) (by kernel_rfl) (fun _ _ _ h => h) (Or.inr ⟨by rfl, rfl⟩) (by assumption) ?_
              (try simp only [Act.put, qa_, qb_, qc_])
              refine wpAnyH_take (i := 9) (oi := ⟨some 47, _, _, _, _, _⟩) (v := undef) rfl (by kernel_rfl) (by kernel_rfl) (by kernel_rfl) (fun _ _ _ h => h) (Or.inr ⟨by rfl, rfl⟩) (by assumption) ?_
              (try simp only [Act.put, qa_, qb_, qc_])
              refine wpAnyH_take (i := 10) (oi := ⟨some 48, _, _, _, _, _⟩) (v := undef) rfl (by kernel_rfl) (by kernel_rfl) (by kernel_rfl) (fun _ _ _ h => h) (Or.inr ⟨by rfl, rfl⟩) (by assumption) ?_
              (try simp only [Act.put, qa_, qb_, qc_])
              refine wpAnyH_take (i := 11) (oi := ⟨some 49, _, _, _, _, _⟩) (v := ?_) rfl (by kernel_rfl) (by kernel_rfl) (by kernel_rfl) (fun _ _ _ h => h) (Or.inl ⟨by rfl, ?hY2x13⟩) (by assumption) ?hR2x13
              case hY2x13 => (intro w hSw; (try dsimp only at hSw); go_simp; try with_reducible rfl)
              (try simp only [Act.put, qa_, qb_, qc_])
              refine wpAnyH_done (by kernel_rfl) ?_ _
              go_wp2
              go_meet
              case rel => exact ⟨0, by omega, rfl, HQ.out, below_drew1 HBX.out⟩
            | succ k =>
              obtain ⟨z9, hz9⟩ : ∃ z : Int, ((k + 1 : Nat) : Int) = z := ⟨_, rfl⟩
              rw [hz9]
              have hd : decide ((0 : Int) < z9) = true := decide_eq_true (by omega)
              obtain ⟨z8, hz8⟩ : ∃ z0 : Int, (k : Int) = z0 := ⟨_, rfl⟩
              have hw : IntKind.i64.wrap (z9 - 1) = z8 := by rw [IntKind.wrap_i64]; have := HLN.out; omega
              have h0 : 0 ≤ z8 := by omega
              have h1 : z8 < (ln : Int) := by omega
              have HZ9 := Aside0.mk (And.intro hz9 hz8)
              obtain ⟨ad9, rfl, rC, rD⟩ := at_P HXW.out z8 h0 h1
              obtain ⟨x9, hx9⟩ : ∃ x, rdP l z8 = x := ⟨_, rfl⟩
              rw [hx9] at rC rD
              obtain ⟨b, hb⟩ : ∃ b, ltP ⟨p0, p1⟩ x9 = b := ⟨_, rfl⟩
              have HXX := Aside0.mk hx9
              have HBB := Aside0.mk hb
              have kC := cell_lt rC
              have kD := cell_lt rD
              clear hx9 hb hz9 hz8
              go_upto_region 7 with (fail)
              refine wp_region_held_drew (S := (fun w' => Below wr.heap.size wr w' ∧ (∀ j, w'.cell? ⟨B, j, none⟩ = (#[.int .u64 p0, .int .u64 p1] : Array Value)[j]?) ∧ (∀ j, w'.cell? ⟨s + 1, j, none⟩ = (#[.bool f, .slice (some ad9) ln co] : Array Value)[j]?) ∧ (w'.cell? ((ad9.add (z8.toNat * 2))) = some (.int .u64 x9.f0)) ∧ (w'.cell? ((⟨(ad9.add (z8.toNat * 2)).block, (ad9.add (z8.toNat * 2)).off + 1, none⟩ : Addr)) = some (.int .u64 x9.f1)))) (by kernel_rfl) ?hS3x0 (fun hHeld => ?hR3x0)
              case hS3x0 => ((try dsimp only); (first | exact ⟨below_drew1 (Below.refl _ _), rE, rT, rC, rD⟩ | exact ⟨below_drew1 b0_, rE, rT, rC, rD⟩ | exact ⟨j0, jE, jT, jC, jD⟩ | exact ⟨below_alloc j0 _, fun j => (cell_alloc_old (Nat.lt_of_lt_of_le kE j0.size)).trans (jE j), fun j => (cell_alloc_old (Nat.lt_of_lt_of_le kT j0.size)).trans (jT j), (cell_alloc_oldp (Nat.lt_of_lt_of_le kC j0.size)).trans jC, (cell_alloc_oldp (Nat.lt_of_lt_of_le kD j0.size)).trans jD⟩ | exact ⟨below_alloc (below_drew1 (Below.refl _ _)) _, fun j => (cell_alloc_old kE).trans (rE j), fun j => (cell_alloc_old kT).trans (rT j), (cell_alloc_oldp kC).trans rC, (cell_alloc_oldp kD).trans rD⟩ | assumption))
              refine wpAnyH_take (i := 0) (oi := ⟨some 38, _, _, _, _, _⟩) (v := ?_) rfl (by kernel_rfl) (by kernel_rfl) (by kernel_rfl) (fun _ _ _ h => h) (Or.inl ⟨by rfl, ?hY3x2⟩) (by assumption) ?hR3x2
              case hY3x2 => (intro w hSw; (try dsimp only at hSw); go_simp; try with_reducible rfl)
              (try simp only [Act.put, qa_, qb_, qc_])
              refine wpAnyH_take (i := 1) (oi := ⟨some 39, _, _, _, _, _⟩) (v := ?_) rfl (by kernel_rfl) (by kernel_rfl) (by kernel_rfl) (fun _ _ _ h => h) (Or.inl ⟨by rfl, ?hY3x3⟩) (by assumption) ?hR3x3
              case hY3x3 => (intro w hSw; (try dsimp only at hSw); go_simp; try with_reducible rfl)
              (try simp only [Act.put, qa_, qb_, qc_])
              refine wpAnyH_take (i := 2) (oi := ⟨some 40, _, _, _, _, _⟩) (v := ?_) rfl (by kernel_rfl) (by kernel_rfl) (by kernel_rfl) (fun _ _ _ h => h) (Or.inl ⟨by rfl, ?hY3x4⟩) (by assumption) ?hR3x4
              case hY3x4 => (intro w hSw; (try dsimp only at hSw); go_simp; try with_reducible rfl)
              (try simp only [Act.put, qa_, qb_, qc_])
              refine wpAnyH_take (i := 3) (oi := ⟨some 41, _, _, _, _, _⟩) (v := ?_) rfl (by kernel_rfl) (by kernel_rfl) (by kernel_rfl) (fun _ _ _ h => h) (Or.inl ⟨by rfl, ?hY3x5⟩) (by assumption) ?hR3x5
              case hY3x5 => (intro w hSw; (try dsimp only at hSw); go_simp; try with_reducible rfl)
              (try simp only [Act.put, qa_, qb_, qc_])
              refine wpAnyH_take (i := 4) (oi := ⟨some 42, _, _, _, _, _⟩) (v := ?_) rfl (by kernel_rfl) (by kernel_rfl) (by kernel_rfl) (fun _ _ _ h => h) (Or.inl ⟨by rfl, ?hY3x6⟩) (by assumption) ?hR3x6
              case hY3x6 => (intro w hSw; (try dsimp only at hSw); go_simp; try with_reducible rfl)
              (try simp only [Act.put, qa_, qb_, qc_])
              refine wpAnyH_take (i := 5) (oi := ⟨some 43, _, _, _, _, _⟩) (v := ?_) rfl (by kernel_rfl) (by kernel_rfl) (by kernel_rfl) (fun _ _ _ h => h) (Or.inl ⟨by rfl, ?hY3x7⟩) (by assumption) ?hR3x7
              case hY3x7 => (intro w hSw; (try dsimp only at hSw); go_simp; try with_reducible rfl)
              (try simp only [Act.put, qa_, qb_, qc_])
              refine wpAnyH_take (i := 6) (oi := ⟨some 44, _, _, _, _, _⟩) (v := ?_) rfl (by kernel_rfl) (by kernel_rfl) (by kernel_rfl) (fun _ _ _ h => h) (Or.inl ⟨by rfl, ?hY3x8⟩) (by assumption) ?hR3x8
              case hY3x8 => (intro w hSw; (try dsimp only at hSw); go_simp; try with_reducible rfl)
              (try simp only [Act.put, qa_, qb_, qc_])
              refine wpAnyH_take (i := 7) (oi := ⟨some 45, _, _, _, _, _⟩) (v := ?_) rfl (by kernel_rfl) (by kernel_rfl) (by kernel_rfl) (fun _ _ _ h => h) (Or.inl ⟨by rfl, ?hY3x9⟩) (by assumption) ?hR3x9
              case hY3x9 => (intro w hSw; (try dsimp only at hSw); go_simp; try with_reducible rfl)
              (try simp only [Act.put, qa_, qb_, qc_])
              refine wpAnyH_take (i := 8) (oi := ⟨some 46, _, _, _, _, _⟩) (v := ?_) rfl (by kernel_rfl) (by kernel_rfl) (by kernel_rfl) (fun _ _ _ h => h) (Or.inl ⟨by rfl, ?hY3x10⟩) (by assumption) ?hR3x10
              case hY3x10 => (intro w hSw; (try dsimp only at hSw); go_simp; try with_reducible rfl)
              (try simp only [Act.put, qa_, qb_, qc_])
              refine wpAnyH_take (i := 9) (oi := ⟨some 47, _, _, _, _, _⟩) (v := ?_) rfl (by kernel_rfl) (by kernel_rfl) (by kernel_rfl) (fun _ _ _ h => h) (Or.inl ⟨by rfl, ?hY3x11⟩) (by assumption) ?hR3x11
              case hY3x11 => (intro w hSw; (try dsimp only at hSw); go_simp; try with_reducible rfl)
              (try simp only [Act.put, qa_, qb_, qc_])
              refine wpAnyH_ready (rs := [10]) (by kernel_rfl) (by simp) ?_
              refine AllReadyH.cons (o := ⟨some 48, _, _, _, _, _⟩) rfl (fun K hK => ?hT3x12) ?hM3x12
              case hM3x12 => exact AllReadyH.nil
              go_simp
              (first | (go_at_call 43; obtain ⟨g0, gE, gT, gC, gD⟩ := ‹Below wr.heap.size wr _ ∧ _›; ((with_reducible refine (rAheadE ⟨p0, p1⟩ x9 b _ HBB.out).mono ?_));  rintro e w5 ⟨rfl, hb_⟩; have j0 := below_step g0 hb_; have s5 := j0.size; have jE := fun j => (j0.cell (p := ⟨B, j, none⟩) kE).trans (rE j); have jT := fun j => (j0.cell (p := ⟨s + 1, j, none⟩) kT).trans (rT j); have jC := (j0.cell (p := (ad9.add (z8.toNat * 2))) kC).trans rC; have jD := (j0.cell (p := (⟨(ad9.add (z8.toNat * 2)).block, (ad9.add (z8.toNat * 2)).off + 1, none⟩ : Addr)) kD).trans rD))
              (try go_wp2_with fail)
              refine hK.out _ _ ?hS3x12 (fun hHeld => ?hR3x12)
              case hS3x12 => ((try dsimp only); (first | exact ⟨below_drew1 (Below.refl _ _), rE, rT, rC, rD⟩ | exact ⟨below_drew1 b0_, rE, rT, rC, rD⟩ | exact ⟨j0, jE, jT, jC, jD⟩ | exact ⟨below_alloc j0 _, fun j => (cell_alloc_old (Nat.lt_of_lt_of_le kE j0.size)).trans (jE j), fun j => (cell_alloc_old (Nat.lt_of_lt_of_le kT j0.size)).trans (jT j), (cell_alloc_oldp (Nat.lt_of_lt_of_le kC j0.size)).trans jC, (cell_alloc_oldp (Nat.lt_of_lt_of_le kD j0.size)).trans jD⟩ | exact ⟨below_alloc (below_drew1 (Below.refl _ _)) _, fun j => (cell_alloc_old kE).trans (rE j), fun j => (cell_alloc_old kT).trans (rT j), (cell_alloc_oldp kC).trans rC, (cell_alloc_oldp kD).trans rD⟩ | assumption))
              clear hK K
              (try simp only [Act.put, qa_, qb_, qc_])
              refine wpAnyH_take (i := 11) (oi := ⟨some 49, _, _, _, _, _⟩) (v := ?_) rfl (by kernel_rfl) (by kernel_rfl) (by kernel_rfl) (fun _ _ _ h => h) (Or.inl ⟨by rfl, ?hY3x13⟩) (by assumption) ?hR3x13
              case hY3x13 => (intro w hSw; (try dsimp only at hSw); go_simp; try with_reducible rfl)
              (try simp only [Act.put, qa_, qb_, qc_])
              refine wpAnyH_done (by kernel_rfl) ?_ _
              cases b with
              | false =>
                go_wp2
                go_meet
                case rel =>
                  refine ⟨k + 1, hp, by rw [HZ9.out.1], ?_, below_step HBX.out j0⟩
                  rw [← HPP.out]
                  show k + 1 = posT l ⟨p0, p1⟩ (k + 1)
                  unfold posT
                  rw [HZ9.out.2, HXX.out, HBB.out, if_neg (by decide)]
              | true =>
                go_wp2
                go_roundw
                case rel =>
                  refine ⟨k, by omega, by rw [HZ9.out.2], ?_, below_step HBX.out j0⟩
                  rw [← HPP.out]
                  show posT l ⟨p0, p1⟩ k = posT l ⟨p0, p1⟩ (k + 1)
                  conv => rhs; unfold posT
                  rw [HZ9.out.2, HXX.out, HBB.out, if_pos rfl]
                case measure =>
                  have := HZ9.out
                  simp [intOf]
                  omega
        case rest =>
          obtain ⟨p, hp, rfl, hpe, hbx⟩ := hcut
          have HPO := Aside0.mk hpe
          clear hpe
          rename World => V
          have HTV := Aside0.mk (HTC.out.below hbx)
          have HRV := Aside0.mk (HRC.out.below hbx)
          have HBV := Aside0.mk (below_step HBC.out hbx)
          have XEV := Aside0.mk (XE.out.below hbx)
          have HXV := Aside0.mk (Kd.C_below HXL.out hbx)
          have hszV : s + 2 ≤ V.heap.size := Nat.le_trans hsz hbx.size
          have rE := XEV.out.cell
          have kE := XEV.out.lt
          have rT := HTV.out.cell
          have kT := HTV.out.lt
          have hpc : p ≤ co := by omega
          have hl30 := HLN.out
          clear hbx HTC HOC HRC HBC XE HXL hsz
          go_upto_region 9 with (fail)
          have key : p < ln ∨ (p = ln ∧ p = co) ∨ (p = ln ∧ p ≠ co) := by omega
          rcases key with hlt | ⟨hpl, hpe⟩ | ⟨hpl, hne⟩
          · refine wp_region_last_drew (S := (fun w' => Below V.heap.size V w' ∧ (∀ j, w'.cell? ⟨B, j, none⟩ = (#[.int .u64 p0, .int .u64 p1] : Array Value)[j]?) ∧ (∀ j, w'.cell? ⟨s + 1, j, none⟩ = (#[.bool f, .slice Ao ln co] : Array Value)[j]?))) (ds := [14]) (by kernel_rfl) ?hS4x0 (fun hHeld => ?hR4x0)
            case hS4x0 => ((try dsimp only); (first | exact ⟨below_drew1 (Below.refl _ _), rE, rT⟩ | exact ⟨below_drew1 b0_, rE, rT⟩ | exact ⟨j0, jE, jT⟩ | exact ⟨below_alloc j0 _, fun j => (cell_alloc_old (Nat.lt_of_lt_of_le kE j0.size)).trans (jE j), fun j => (cell_alloc_old (Nat.lt_of_lt_of_le kT j0.size)).trans (jT j)⟩ | exact ⟨below_alloc (below_drew1 (Below.refl _ _)) _, fun j => (cell_alloc_old kE).trans (rE j), fun j => (cell_alloc_old kT).trans (rT j)⟩ | assumption))
            refine wpAnyLast_take (i := 0) (oi := ⟨some 52, _, _, _, _, _⟩) (v := ?_) rfl (by kernel_rfl) (by kernel_rfl) (by kernel_rfl) (by kernel_rfl) (by kernel_rfl) (fun _ _ _ h => h) (Or.inl ⟨by rfl, ?hY4x2⟩) (by assumption) ?hR4x2
            case hY4x2 => (intro w hSw; (try dsimp only at hSw); go_simp; try with_reducible rfl)
            (try simp only [Act.put, qa_, qb_, qc_])
            refine wpAnyLast_take (i := 1) (oi := ⟨some 53, _, _, _, _, _⟩) (v := ?_) rfl (by kernel_rfl) (by kernel_rfl) (by kernel_rfl) (by kernel_rfl) (by kernel_rfl) (fun _ _ _ h => h) (Or.inl ⟨by rfl, ?hY4x3⟩) (by assumption) ?hR4x3
            case hY4x3 => (intro w hSw; (try dsimp only at hSw); go_simp; try with_reducible rfl)
            (try simp only [Act.put, qa_, qb_, qc_])
            refine wpAnyLast_take (i := 2) (oi := ⟨some 54, _, _, _, _, _⟩) (v := ?_) rfl (by kernel_rfl) (by kernel_rfl) (by kernel_rfl) (by kernel_rfl) (by kernel_rfl) (fun _ _ _ h => h) (Or.inl ⟨by rfl, ?hY4x4⟩) (by assumption) ?hR4x4
            case hY4x4 => (intro w hSw; (try dsimp only at hSw); go_simp; try with_reducible rfl)
            (try simp only [Act.put, qa_, qb_, qc_])
            refine wpAnyLast_take (i := 3) (oi := ⟨some 55, _, _, _, _, _⟩) (v := ?_) rfl (by kernel_rfl) (by kernel_rfl) (by kernel_rfl) (by kernel_rfl) (by kernel_rfl) (fun _ _ _ h => h) (Or.inl ⟨by rfl, ?hY4x5⟩) (by assumption) ?hR4x5
            case hY4x5 => (intro w hSw; (try dsimp only at hSw); go_simp; try with_reducible rfl)
            (try simp only [Act.put, qa_, qb_, qc_])
            refine wpAnyLast_take (i := 5) (oi := ⟨some 57, _, _, _, _, _⟩) (v := ?_) rfl (by kernel_rfl) (by kernel_rfl) (by kernel_rfl) (by kernel_rfl) (by kernel_rfl) (fun _ _ _ h => h) (Or.inl ⟨by rfl, ?hY4x6⟩) (by assumption) ?hR4x6
            case hY4x6 => (intro w hSw; (try dsimp only at hSw); go_simp; try with_reducible rfl)
            (try simp only [Act.put, qa_, qb_, qc_])
            refine wpAnyLast_take (i := 8) (oi := ⟨some 60, _, _, _, _, _⟩) (v := ?_) rfl (by kernel_rfl) (by kernel_rfl) (by kernel_rfl) (by kernel_rfl) (by kernel_rfl) (fun _ _ _ h => h) (Or.inl ⟨by rfl, ?hY4x7⟩) (by assumption) ?hR4x7
            case hY4x7 => (intro w hSw; (try dsimp only at hSw); go_simp; try with_reducible rfl)
            (try simp only [Act.put, qa_, qb_, qc_])
            refine wpAnyLast_take (i := 9) (oi := ⟨some 61, _, _, _, _, _⟩) (v := ?_) rfl (by kernel_rfl) (by kernel_rfl) (by kernel_rfl) (by kernel_rfl) (by kernel_rfl) (fun _ _ _ h => h) (Or.inl ⟨by rfl, ?hY4x8⟩) (by assumption) ?hR4x8
            case hY4x8 => (intro w hSw; (try dsimp only at hSw); go_simp; try with_reducible rfl)
            (try simp only [Act.put, qa_, qb_, qc_])
            refine wpAnyLast_take (i := 10) (oi := ⟨some 62, _, _, _, _, _⟩) (v := ?_) rfl (by kernel_rfl) (by kernel_rfl) (by kernel_rfl) (by kernel_rfl) (by kernel_rfl) (fun _ _ _ h => h) (Or.inl ⟨by rfl, ?hY4x9⟩) (by assumption) ?hR4x9
            case hY4x9 => (intro w hSw; (try dsimp only at hSw); go_simp; try with_reducible rfl)
            (try simp only [Act.put, qa_, qb_, qc_])
            refine wpAnyLast_take (i := 11) (oi := ⟨some 63, _, _, _, _, _⟩) (v := ?_) rfl (by kernel_rfl) (by kernel_rfl) (by kernel_rfl) (by kernel_rfl) (by kernel_rfl) (fun _ _ _ h => h) (Or.inl ⟨by rfl, ?hY4x10⟩) (by assumption) ?hR4x10
            case hY4x10 => (intro w hSw; (try dsimp only at hSw); go_simp; try with_reducible rfl)
            (try simp only [Act.put, qa_, qb_, qc_])
            refine wpAnyLast_ready (rs := [4, 6]) (by kernel_rfl) (by simp) ?_
            refine AllReadyL.cons (o := ⟨some 56, _, _, _, _, _⟩) rfl (by decide) (fun K hK => ?hT4x11) (AllReadyL.cons (o := ⟨some 58, _, _, _, _, _⟩) rfl (by decide) (fun K hK => ?hM4x11) AllReadyL.nil)
            case hT4x11 =>
              (obtain ⟨g0, gE, gT⟩ := ‹Below V.heap.size V _ ∧ _›; refine Kd.R_append_rows_step (kP) (w0 := V) V.heap.size (by rfl) (.const (.slice none 0 0)) (.tmp 55) 26 53 (.agg #[.int .u64 0, .int .u64 0]) 16 rfl Tryd.underlying26 info53 rfl (by decide) (by omega) (.slice none 0 0) ([]) ((l).take p) (_) (p) (_) (fun _ => True) (fun _ => False) rfl rfl (Kd.R_nil _ _ _ _ _) (C_takeG (Kd.C_below HXV.out g0) (by omega)) (fun x cs h => kP_of_K x cs h) (fun _ hk => hk.elim) (fun _ _ => trivial) g0 g0.size (by simp; omega) ?_; (intro v4 w4 ho_ hb_ hg_ hat_; have HO4 := Aside0.mk ho_; have HG4 := Aside0.mk ((Below.refl _ _).grown (row := none) hg_ (Nat.le_refl _) (fun k hk => by cases hk)); clear ho_ hg_ hat_; have j0 := hb_; have jE := fun j => (j0.cell (p := ⟨B, j, none⟩) kE).trans (rE j); have jT := fun j => (j0.cell (p := ⟨s + 1, j, none⟩) kT).trans (rT j)))
              refine hK.out _ _ ?hS4x12 (fun hHeld => ?hR4x12)
              case hS4x12 => ((try dsimp only); (first | exact ⟨below_drew1 (Below.refl _ _), rE, rT⟩ | exact ⟨below_drew1 b0_, rE, rT⟩ | exact ⟨j0, jE, jT⟩ | exact ⟨below_alloc j0 _, fun j => (cell_alloc_old (Nat.lt_of_lt_of_le kE j0.size)).trans (jE j), fun j => (cell_alloc_old (Nat.lt_of_lt_of_le kT j0.size)).trans (jT j)⟩ | exact ⟨below_alloc (below_drew1 (Below.refl _ _)) _, fun j => (cell_alloc_old kE).trans (rE j), fun j => (cell_alloc_old kT).trans (rT j)⟩ | assumption))
              clear hK K
              (try simp only [Act.put, qa_, qb_, qc_])
              refine wpAnyLast_ready (rs := [6]) (by kernel_rfl) (by simp) ?_
              refine AllReadyL.cons (o := ⟨some 58, _, _, _, _, _⟩) rfl (by decide) (fun K hK => ?hT4x13) ?hM4x13
              case hM4x13 => exact AllReadyL.nil
              go_simp
              (try go_wp2_with fail)
              refine hK.out _ _ ?hS4x13 (fun hHeld => ?hR4x13)
              case hS4x13 => ((try dsimp only); (first | exact ⟨below_drew1 (Below.refl _ _), rE, rT⟩ | exact ⟨below_drew1 b0_, rE, rT⟩ | exact ⟨j0, jE, jT⟩ | exact ⟨below_alloc j0 _, fun j => (cell_alloc_old (Nat.lt_of_lt_of_le kE j0.size)).trans (jE j), fun j => (cell_alloc_old (Nat.lt_of_lt_of_le kT j0.size)).trans (jT j)⟩ | exact ⟨below_alloc (below_drew1 (Below.refl _ _)) _, fun j => (cell_alloc_old kE).trans (rE j), fun j => (cell_alloc_old kT).trans (rT j)⟩ | assumption))
              clear hK K
              (try simp only [Act.put, qa_, qb_, qc_])
              refine wpAnyLast_ready (rs := [7]) (by kernel_rfl) (by simp) ?_
              refine AllReadyL.cons (o := ⟨some 59, _, _, _, _, _⟩) rfl (by decide) (fun K hK => ?hT4x14) ?hM4x14
              case hM4x14 => exact AllReadyL.nil
              (obtain ⟨g0, gE, gT⟩ := ‹Below V.heap.size V _ ∧ _›; refine Kd.R_append_rows_step (kP) (w0 := V) V.heap.size (by rfl) (.tmp 56) (.tmp 58) 26 53 (.agg #[.int .u64 0, .int .u64 0]) 16 rfl Tryd.underlying26 info53 rfl (by decide) (by omega) (v4) ((l).take p) ([(⟨p0, p1⟩ : Pr)]) (_) (1) (1) (fun _ => True) (fun _ => False) rfl rfl ((by (with_reducible repeat (first | apply Kd.R_alloc | apply Kd.R_drewN | apply Kd.R_drew)); exact HO4.out)) (by first | exact C_oneP Box.new | exact C_oneP (Box.drew Box.new) | exact C_oneP (Box.below (Box.drew Box.new) HG4.out) | exact C_oneP (Box.below Box.new HG4.out)) (fun x cs h => kP_of_K x cs h) (fun _ hk => hk.elim) (fun _ _ => trivial) g0 g0.size (by simp; omega) ?_; (intro v7 w7 ho_ hb_ hg_ hat_; have HO7 := Aside0.mk ho_; clear ho_ hg_ hat_; have j0 := hb_; have jE := fun j => (j0.cell (p := ⟨B, j, none⟩) kE).trans (rE j); have jT := fun j => (j0.cell (p := ⟨s + 1, j, none⟩) kT).trans (rT j)))
              refine hK.out _ _ ?hS4x14 (fun hHeld => ?hR4x14)
              case hS4x14 => ((try dsimp only); (first | exact ⟨below_drew1 (Below.refl _ _), rE, rT⟩ | exact ⟨below_drew1 b0_, rE, rT⟩ | exact ⟨j0, jE, jT⟩ | exact ⟨below_alloc j0 _, fun j => (cell_alloc_old (Nat.lt_of_lt_of_le kE j0.size)).trans (jE j), fun j => (cell_alloc_old (Nat.lt_of_lt_of_le kT j0.size)).trans (jT j)⟩ | exact ⟨below_alloc (below_drew1 (Below.refl _ _)) _, fun j => (cell_alloc_old kE).trans (rE j), fun j => (cell_alloc_old kT).trans (rT j)⟩ | assumption))
              clear hK K
              (try simp only [Act.put, qa_, qb_, qc_])
              refine wpAnyLast_ready (rs := [12]) (by kernel_rfl) (by simp) ?_
              refine AllReadyL.cons (o := ⟨some 64, _, _, _, _, _⟩) rfl (by decide) (fun K hK => ?hT4x15) ?hM4x15
              case hM4x15 => exact AllReadyL.nil
              (obtain ⟨g0, gE, gT⟩ := ‹Below V.heap.size V _ ∧ _›; refine Kd.R_append_rows_step (kP) (w0 := V) V.heap.size (by rfl) (.tmp 59) (.tmp 63) 26 53 (.agg #[.int .u64 0, .int .u64 0]) 16 rfl Tryd.underlying26 info53 rfl (by decide) (by omega) (v7) ((l).take p ++ [(⟨p0, p1⟩ : Pr)]) ((l).drop p) (_) (_) (_) (fun _ => True) (fun _ => False) rfl rfl ((by (with_reducible repeat (first | apply Kd.R_alloc | apply Kd.R_drewN | apply Kd.R_drew)); exact HO7.out)) (by have e := C_dropP (Kd.C_below HXV.out g0) hp hlc; first | exact e | (rw [if_neg (by omega)] at e; exact e)) (fun x cs h => kP_of_K x cs h) (fun _ hk => hk.elim) (fun _ _ => trivial) g0 g0.size (by simp; omega) ?_; (intro v12 w12 ho_ hb_ hg_ hat_; have HO12 := Aside0.mk ho_; clear ho_ hg_ hat_; have j0 := hb_; have jE := fun j => (j0.cell (p := ⟨B, j, none⟩) kE).trans (rE j); have jT := fun j => (j0.cell (p := ⟨s + 1, j, none⟩) kT).trans (rT j); have HO13 := Aside0.mk (insT_R HO12.out (by rw [HL.out]; exact HPO.out)); obtain ⟨A12, c12, rfl⟩ := Kd.R_slice HO13.out; have fT12 := (HTV.out.below j0).frozen; have rT12 := (HTV.out.below j0).cell))
              refine hK.out _ _ ?hS4x15 (fun hHeld => ?hR4x15)
              case hS4x15 => ((try dsimp only); (first | exact ⟨below_drew1 (Below.refl _ _), rE, rT⟩ | exact ⟨below_drew1 b0_, rE, rT⟩ | exact ⟨j0, jE, jT⟩ | exact ⟨below_alloc j0 _, fun j => (cell_alloc_old (Nat.lt_of_lt_of_le kE j0.size)).trans (jE j), fun j => (cell_alloc_old (Nat.lt_of_lt_of_le kT j0.size)).trans (jT j)⟩ | exact ⟨below_alloc (below_drew1 (Below.refl _ _)) _, fun j => (cell_alloc_old kE).trans (rE j), fun j => (cell_alloc_old kT).trans (rT j)⟩ | assumption))
              clear hK K
              (try simp only [Act.put, qa_, qb_, qc_])
              refine wpAnyLast_take (i := 13) (oi := ⟨some 65, _, _, _, _, _⟩) (v := ?_) rfl (by kernel_rfl) (by kernel_rfl) (by kernel_rfl) (by kernel_rfl) (by kernel_rfl) (fun _ _ _ h => h) (Or.inl ⟨by rfl, ?hY4x16⟩) (by assumption) ?hR4x16
              case hY4x16 => (intro w hSw; (try dsimp only at hSw); go_simp; try with_reducible rfl)
              (try simp only [Act.put, qa_, qb_, qc_])
              refine wpAnyLast_ready (rs := [14]) (by kernel_rfl) (by simp) ?_
              refine AllReadyL.cons_last (o := ⟨none, _, _, _, _, _⟩) rfl (by decide) (fun K hK => ?hT4x17) ?hM4x17
              case hM4x17 => exact AllReadyL.nil
              go_simp
              (try go_wp2_with fail)
              refine hK.out _ _ ?hR4x17
              clear hK K
              (try simp only [Act.put, qa_, qb_, qc_])
              refine wpAnyLast_done (by kernel_rfl) ?_ _
              go_wp2
              go_roundw
              case rel =>
                refine ⟨i + 1, .slice A12 (insT l ⟨p0, p1⟩).length c12, by have := HZ.out; omega, by have := HZ.out; omega, by have := HZ.out; subst this; go_num, ?_, ?_, (HRV.out.below j0).far (by simp), below_set (below_step HBV.out j0) (by have := HS.out.1; show _ ≤ s + 1; omega)⟩
                · have := Box.put (j := 1) (v := .slice A12 (insT l ⟨p0, p1⟩).length c12) (HTV.out.below j0)
                  simpa using this
                · rw [HF.out, HPE.out]
                  exact Kd.R_mono (Kd.R_far (p := ⟨s + 1, 1, none⟩) (Kd.R_bound (Kd.R_lower HO13.out hszV)) (fun k hk => by have := hk.2.1; show k ≠ s + 1; omega) _) (fun _ _ => trivial)
              case measure =>
                have := HZ.out
                simp [intOf]
                omega
            case hM4x11 =>
              go_simp
              (try go_wp2_with fail)
              refine hK.out _ _ ?hS4x18 (fun hHeld => ?hR4x18)
              case hS4x18 => ((try dsimp only); (first | exact ⟨below_drew1 (Below.refl _ _), rE, rT⟩ | exact ⟨below_drew1 b0_, rE, rT⟩ | exact ⟨j0, jE, jT⟩ | exact ⟨below_alloc j0 _, fun j => (cell_alloc_old (Nat.lt_of_lt_of_le kE j0.size)).trans (jE j), fun j => (cell_alloc_old (Nat.lt_of_lt_of_le kT j0.size)).trans (jT j)⟩ | exact ⟨below_alloc (below_drew1 (Below.refl _ _)) _, fun j => (cell_alloc_old kE).trans (rE j), fun j => (cell_alloc_old kT).trans (rT j)⟩ | assumption))
              clear hK K
              (try simp only [Act.put, qa_, qb_, qc_])
              refine wpAnyLast_ready (rs := [4]) (by kernel_rfl) (by simp) ?_
              refine AllReadyL.cons (o := ⟨some 56, _, _, _, _, _⟩) rfl (by decide) (fun K hK => ?hT4x19) ?hM4x19
              case hM4x19 => exact AllReadyL.nil
              (obtain ⟨g0, gE, gT⟩ := ‹Below V.heap.size V _ ∧ _›; refine Kd.R_append_rows_step (kP) (w0 := V) V.heap.size (by rfl) (.const (.slice none 0 0)) (.tmp 55) 26 53 (.agg #[.int .u64 0, .int .u64 0]) 16 rfl Tryd.underlying26 info53 rfl (by decide) (by omega) (.slice none 0 0) ([]) ((l).take p) (_) (p) (_) (fun _ => True) (fun _ => False) rfl rfl (Kd.R_nil _ _ _ _ _) (C_takeG (Kd.C_below HXV.out g0) (by omega)) (fun x cs h => kP_of_K x cs h) (fun _ hk => hk.elim) (fun _ _ => trivial) g0 g0.size (by simp; omega) ?_; (intro v4 w4 ho_ hb_ hg_ hat_; have HO4 := Aside0.mk ho_; have HG4 := Aside0.mk ((Below.refl _ _).grown (row := none) hg_ (Nat.le_refl _) (fun k hk => by cases hk)); clear ho_ hg_ hat_; have j0 := hb_; have jE := fun j => (j0.cell (p := ⟨B, j, none⟩) kE).trans (rE j); have jT := fun j => (j0.cell (p := ⟨s + 1, j, none⟩) kT).trans (rT j)))
              refine hK.out _ _ ?hS4x19 (fun hHeld => ?hR4x19)
              case hS4x19 => ((try dsimp only); (first | exact ⟨below_drew1 (Below.refl _ _), rE, rT⟩ | exact ⟨below_drew1 b0_, rE, rT⟩ | exact ⟨j0, jE, jT⟩ | exact ⟨below_alloc j0 _, fun j => (cell_alloc_old (Nat.lt_of_lt_of_le kE j0.size)).trans (jE j), fun j => (cell_alloc_old (Nat.lt_of_lt_of_le kT j0.size)).trans (jT j)⟩ | exact ⟨below_alloc (below_drew1 (Below.refl _ _)) _, fun j => (cell_alloc_old kE).trans (rE j), fun j => (cell_alloc_old kT).trans (rT j)⟩ | assumption))
              clear hK K
              (try simp only [Act.put, qa_, qb_, qc_])
              refine wpAnyLast_ready (rs := [7]) (by kernel_rfl) (by simp) ?_
              refine AllReadyL.cons (o := ⟨some 59, _, _, _, _, _⟩) rfl (by decide) (fun K hK => ?hT4x20) ?hM4x20
              case hM4x20 => exact AllReadyL.nil
              (obtain ⟨g0, gE, gT⟩ := ‹Below V.heap.size V _ ∧ _›; refine Kd.R_append_rows_step (kP) (w0 := V) V.heap.size (by rfl) (.tmp 56) (.tmp 58) 26 53 (.agg #[.int .u64 0, .int .u64 0]) 16 rfl Tryd.underlying26 info53 rfl (by decide) (by omega) (v4) ((l).take p) ([(⟨p0, p1⟩ : Pr)]) (_) (1) (1) (fun _ => True) (fun _ => False) rfl rfl ((by (with_reducible repeat (first | apply Kd.R_alloc | apply Kd.R_drewN | apply Kd.R_drew)); exact HO4.out)) (by first | exact C_oneP Box.new | exact C_oneP (Box.drew Box.new) | exact C_oneP (Box.below (Box.drew Box.new) HG4.out) | exact C_oneP (Box.below Box.new HG4.out)) (fun x cs h => kP_of_K x cs h) (fun _ hk => hk.elim) (fun _ _ => trivial) g0 g0.size (by simp; omega) ?_; (intro v7 w7 ho_ hb_ hg_ hat_; have HO7 := Aside0.mk ho_; clear ho_ hg_ hat_; have j0 := hb_; have jE := fun j => (j0.cell (p := ⟨B, j, none⟩) kE).trans (rE j); have jT := fun j => (j0.cell (p := ⟨s + 1, j, none⟩) kT).trans (rT j)))
              refine hK.out _ _ ?hS4x20 (fun hHeld => ?hR4x20)
              case hS4x20 => ((try dsimp only); (first | exact ⟨below_drew1 (Below.refl _ _), rE, rT⟩ | exact ⟨below_drew1 b0_, rE, rT⟩ | exact ⟨j0, jE, jT⟩ | exact ⟨below_alloc j0 _, fun j => (cell_alloc_old (Nat.lt_of_lt_of_le kE j0.size)).trans (jE j), fun j => (cell_alloc_old (Nat.lt_of_lt_of_le kT j0.size)).trans (jT j)⟩ | exact ⟨below_alloc (below_drew1 (Below.refl _ _)) _, fun j => (cell_alloc_old kE).trans (rE j), fun j => (cell_alloc_old kT).trans (rT j)⟩ | assumption))
              clear hK K
              (try simp only [Act.put, qa_, qb_, qc_])
              refine wpAnyLast_ready (rs := [12]) (by kernel_rfl) (by simp) ?_
              refine AllReadyL.cons (o := ⟨some 64, _, _, _, _, _⟩) rfl (by decide) (fun K hK => ?hT4x21) ?hM4x21
              case hM4x21 => exact AllReadyL.nil
              (obtain ⟨g0, gE, gT⟩ := ‹Below V.heap.size V _ ∧ _›; refine Kd.R_append_rows_step (kP) (w0 := V) V.heap.size (by rfl) (.tmp 59) (.tmp 63) 26 53 (.agg #[.int .u64 0, .int .u64 0]) 16 rfl Tryd.underlying26 info53 rfl (by decide) (by omega) (v7) ((l).take p ++ [(⟨p0, p1⟩ : Pr)]) ((l).drop p) (_) (_) (_) (fun _ => True) (fun _ => False) rfl rfl ((by (with_reducible repeat (first | apply Kd.R_alloc | apply Kd.R_drewN | apply Kd.R_drew)); exact HO7.out)) (by have e := C_dropP (Kd.C_below HXV.out g0) hp hlc; first | exact e | (rw [if_neg (by omega)] at e; exact e)) (fun x cs h => kP_of_K x cs h) (fun _ hk => hk.elim) (fun _ _ => trivial) g0 g0.size (by simp; omega) ?_; (intro v12 w12 ho_ hb_ hg_ hat_; have HO12 := Aside0.mk ho_; clear ho_ hg_ hat_; have j0 := hb_; have jE := fun j => (j0.cell (p := ⟨B, j, none⟩) kE).trans (rE j); have jT := fun j => (j0.cell (p := ⟨s + 1, j, none⟩) kT).trans (rT j); have HO13 := Aside0.mk (insT_R HO12.out (by rw [HL.out]; exact HPO.out)); obtain ⟨A12, c12, rfl⟩ := Kd.R_slice HO13.out; have fT12 := (HTV.out.below j0).frozen; have rT12 := (HTV.out.below j0).cell))
              refine hK.out _ _ ?hS4x21 (fun hHeld => ?hR4x21)
              case hS4x21 => ((try dsimp only); (first | exact ⟨below_drew1 (Below.refl _ _), rE, rT⟩ | exact ⟨below_drew1 b0_, rE, rT⟩ | exact ⟨j0, jE, jT⟩ | exact ⟨below_alloc j0 _, fun j => (cell_alloc_old (Nat.lt_of_lt_of_le kE j0.size)).trans (jE j), fun j => (cell_alloc_old (Nat.lt_of_lt_of_le kT j0.size)).trans (jT j)⟩ | exact ⟨below_alloc (below_drew1 (Below.refl _ _)) _, fun j => (cell_alloc_old kE).trans (rE j), fun j => (cell_alloc_old kT).trans (rT j)⟩ | assumption))
              clear hK K
              (try simp only [Act.put, qa_, qb_, qc_])
              refine wpAnyLast_take (i := 13) (oi := ⟨some 65, _, _, _, _, _⟩) (v := ?_) rfl (by kernel_rfl) (by kernel_rfl) (by kernel_rfl) (by kernel_rfl) (by kernel_rfl) (fun _ _ _ h => h) (Or.inl ⟨by rfl, ?hY4x22⟩) (by assumption) ?hR4x22
              case hY4x22 => (intro w hSw; (try dsimp only at hSw); go_simp; try with_reducible rfl)
              (try simp only [Act.put, qa_, qb_, qc_])
              refine wpAnyLast_ready (rs := [14]) (by kernel_rfl) (by simp) ?_
              refine AllReadyL.cons_last (o := ⟨none, _, _, _, _, _⟩) rfl (by decide) (fun K hK => ?hT4x23) ?hM4x23
              case hM4x23 => exact AllReadyL.nil
              go_simp
              (try go_wp2_with fail)
              refine hK.out _ _ ?hR4x23
              clear hK K
              (try simp only [Act.put, qa_, qb_, qc_])
              refine wpAnyLast_done (by kernel_rfl) ?_ _
              go_wp2
              go_roundw
              case rel =>
                refine ⟨i + 1, .slice A12 (insT l ⟨p0, p1⟩).length c12, by have := HZ.out; omega, by have := HZ.out; omega, by have := HZ.out; subst this; go_num, ?_, ?_, (HRV.out.below j0).far (by simp), below_set (below_step HBV.out j0) (by have := HS.out.1; show _ ≤ s + 1; omega)⟩
                · have := Box.put (j := 1) (v := .slice A12 (insT l ⟨p0, p1⟩).length c12) (HTV.out.below j0)
                  simpa using this
                · rw [HF.out, HPE.out]
                  exact Kd.R_mono (Kd.R_far (p := ⟨s + 1, 1, none⟩) (Kd.R_bound (Kd.R_lower HO13.out hszV)) (fun k hk => by have := hk.2.1; show k ≠ s + 1; omega) _) (fun _ _ => trivial)
              case measure =>
                have := HZ.out
                simp [intOf]
                omega
          · obtain rfl : p = ln := hpl
            obtain rfl : p = co := hpe
            refine wp_region_last_drew (S := (fun w' => Below V.heap.size V w' ∧ (∀ j, w'.cell? ⟨B, j, none⟩ = (#[.int .u64 p0, .int .u64 p1] : Array Value)[j]?) ∧ (∀ j, w'.cell? ⟨s + 1, j, none⟩ = (#[.bool f, .slice Ao p p] : Array Value)[j]?))) (ds := [14]) (by kernel_rfl) ?hS5x0 (fun hHeld => ?hR5x0)
            case hS5x0 => ((try dsimp only); (first | exact ⟨below_drew1 (Below.refl _ _), rE, rT⟩ | exact ⟨below_drew1 b0_, rE, rT⟩ | exact ⟨j0, jE, jT⟩ | exact ⟨below_alloc j0 _, fun j => (cell_alloc_old (Nat.lt_of_lt_of_le kE j0.size)).trans (jE j), fun j => (cell_alloc_old (Nat.lt_of_lt_of_le kT j0.size)).trans (jT j)⟩ | exact ⟨below_alloc (below_drew1 (Below.refl _ _)) _, fun j => (cell_alloc_old kE).trans (rE j), fun j => (cell_alloc_old kT).trans (rT j)⟩ | assumption))
            refine wpAnyLast_take (i := 0) (oi := ⟨some 52, _, _, _, _, _⟩) (v := ?_) rfl (by kernel_rfl) (by kernel_rfl) (by kernel_rfl) (by kernel_rfl) (by kernel_rfl) (fun _ _ _ h => h) (Or.inl ⟨by rfl, ?hY5x2⟩) (by assumption) ?hR5x2
            case hY5x2 => (intro w hSw; (try dsimp only at hSw); go_simp; try with_reducible rfl)
            (try simp only [Act.put, qa_, qb_, qc_])
            refine wpAnyLast_take (i := 1) (oi := ⟨some 53, _, _, _, _, _⟩) (v := ?_) rfl (by kernel_rfl) (by kernel_rfl) (by kernel_rfl) (by kernel_rfl) (by kernel_rfl) (fun _ _ _ h => h) (Or.inl ⟨by rfl, ?hY5x3⟩) (by assumption) ?hR5x3
            case hY5x3 => (intro w hSw; (try dsimp only at hSw); go_simp; try with_reducible rfl)
            (try simp only [Act.put, qa_, qb_, qc_])
            refine wpAnyLast_take (i := 2) (oi := ⟨some 54, _, _, _, _, _⟩) (v := ?_) rfl (by kernel_rfl) (by kernel_rfl) (by kernel_rfl) (by kernel_rfl) (by kernel_rfl) (fun _ _ _ h => h) (Or.inl ⟨by rfl, ?hY5x4⟩) (by assumption) ?hR5x4
            case hY5x4 => (intro w hSw; (try dsimp only at hSw); go_simp; try with_reducible rfl)
            (try simp only [Act.put, qa_, qb_, qc_])
            refine wpAnyLast_take (i := 3) (oi := ⟨some 55, _, _, _, _, _⟩) (v := ?_) rfl (by kernel_rfl) (by kernel_rfl) (by kernel_rfl) (by kernel_rfl) (by kernel_rfl) (fun _ _ _ h => h) (Or.inl ⟨by rfl, ?hY5x5⟩) (by assumption) ?hR5x5
            case hY5x5 => (intro w hSw; (try dsimp only at hSw); go_simp; try with_reducible rfl)
            (try simp only [Act.put, qa_, qb_, qc_])
            refine wpAnyLast_take (i := 5) (oi := ⟨some 57, _, _, _, _, _⟩) (v := ?_) rfl (by kernel_rfl) (by kernel_rfl) (by kernel_rfl) (by kernel_rfl) (by kernel_rfl) (fun _ _ _ h => h) (Or.inl ⟨by rfl, ?hY5x6⟩) (by assumption) ?hR5x6
            case hY5x6 => (intro w hSw; (try dsimp only at hSw); go_simp; try with_reducible rfl)
            (try simp only [Act.put, qa_, qb_, qc_])
            refine wpAnyLast_take (i := 8) (oi := ⟨some 60, _, _, _, _, _⟩) (v := ?_) rfl (by kernel_rfl) (by kernel_rfl) (by kernel_rfl) (by kernel_rfl) (by kernel_rfl) (fun _ _ _ h => h) (Or.inl ⟨by rfl, ?hY5x7⟩) (by assumption) ?hR5x7
            case hY5x7 => (intro w hSw; (try dsimp only at hSw); go_simp; try with_reducible rfl)
            (try simp only [Act.put, qa_, qb_, qc_])
            refine wpAnyLast_take (i := 9) (oi := ⟨some 61, _, _, _, _, _⟩) (v := ?_) rfl (by kernel_rfl) (by kernel_rfl) (by kernel_rfl) (by kernel_rfl) (by kernel_rfl) (fun _ _ _ h => h) (Or.inl ⟨by rfl, ?hY5x8⟩) (by assumption) ?hR5x8
            case hY5x8 => (intro w hSw; (try dsimp only at hSw); go_simp; try with_reducible rfl)
            (try simp only [Act.put, qa_, qb_, qc_])
            refine wpAnyLast_take (i := 10) (oi := ⟨some 62, _, _, _, _, _⟩) (v := ?_) rfl (by kernel_rfl) (by kernel_rfl) (by kernel_rfl) (by kernel_rfl) (by kernel_rfl) (fun _ _ _ h => h) (Or.inl ⟨by rfl, ?hY5x9⟩) (by assumption) ?hR5x9
            case hY5x9 => (intro w hSw; (try dsimp only at hSw); go_simp; try with_reducible rfl)
            (try simp only [Act.put, qa_, qb_, qc_])
            refine wpAnyLast_take (i := 11) (oi := ⟨some 63, _, _, _, _, _⟩) (v := ?_) rfl (by kernel_rfl) (by kernel_rfl) (by kernel_rfl) (by kernel_rfl) (by kernel_rfl) (fun _ _ _ h => h) (Or.inl ⟨by rfl, ?hY5x10⟩) (by assumption) ?hR5x10
            case hY5x10 => (intro w hSw; (try dsimp only at hSw); go_simp; try with_reducible rfl)
            (try simp only [Act.put, qa_, qb_, qc_])
            refine wpAnyLast_ready (rs := [4, 6]) (by kernel_rfl) (by simp) ?_
            refine AllReadyL.cons (o := ⟨some 56, _, _, _, _, _⟩) rfl (by decide) (fun K hK => ?hT5x11) (AllReadyL.cons (o := ⟨some 58, _, _, _, _, _⟩) rfl (by decide) (fun K hK => ?hM5x11) AllReadyL.nil)
            case hT5x11 =>
              (obtain ⟨g0, gE, gT⟩ := ‹Below V.heap.size V _ ∧ _›; refine Kd.R_append_rows_step (kP) (w0 := V) V.heap.size (by rfl) (.const (.slice none 0 0)) (.tmp 55) 26 53 (.agg #[.int .u64 0, .int .u64 0]) 16 rfl Tryd.underlying26 info53 rfl (by decide) (by omega) (.slice none 0 0) ([]) ((l).take p) (_) (p) (_) (fun _ => True) (fun _ => False) rfl rfl (Kd.R_nil _ _ _ _ _) (C_takeG (Kd.C_below HXV.out g0) (by omega)) (fun x cs h => kP_of_K x cs h) (fun _ hk => hk.elim) (fun _ _ => trivial) g0 g0.size (by simp; omega) ?_; (intro v4 w4 ho_ hb_ hg_ hat_; have HO4 := Aside0.mk ho_; have HG4 := Aside0.mk ((Below.refl _ _).grown (row := none) hg_ (Nat.le_refl _) (fun k hk => by cases hk)); clear ho_ hg_ hat_; have j0 := hb_; have jE := fun j => (j0.cell (p := ⟨B, j, none⟩) kE).trans (rE j); have jT := fun j => (j0.cell (p := ⟨s + 1, j, none⟩) kT).trans (rT j)))
              refine hK.out _ _ ?hS5x12 (fun hHeld => ?hR5x12)
              case hS5x12 => ((try dsimp only); (first | exact ⟨below_drew1 (Below.refl _ _), rE, rT⟩ | exact ⟨below_drew1 b0_, rE, rT⟩ | exact ⟨j0, jE, jT⟩ | exact ⟨below_alloc j0 _, fun j => (cell_alloc_old (Nat.lt_of_lt_of_le kE j0.size)).trans (jE j), fun j => (cell_alloc_old (Nat.lt_of_lt_of_le kT j0.size)).trans (jT j)⟩ | exact ⟨below_alloc (below_drew1 (Below.refl _ _)) _, fun j => (cell_alloc_old kE).trans (rE j), fun j => (cell_alloc_old kT).trans (rT j)⟩ | assumption))
              clear hK K
              (try simp only [Act.put, qa_, qb_, qc_])
              refine wpAnyLast_ready (rs := [6]) (by kernel_rfl) (by simp) ?_
              refine AllReadyL.cons (o := ⟨some 58, _, _, _, _, _⟩) rfl (by decide) (fun K hK => ?hT5x13) ?hM5x13
              case hM5x13 => exact AllReadyL.nil
              go_simp
              (try go_wp2_with fail)
              refine hK.out _ _ ?hS5x13 (fun hHeld => ?hR5x13)
              case hS5x13 => ((try dsimp only); (first | exact ⟨below_drew1 (Below.refl _ _), rE, rT⟩ | exact ⟨below_drew1 b0_, rE, rT⟩ | exact ⟨j0, jE, jT⟩ | exact ⟨below_alloc j0 _, fun j => (cell_alloc_old (Nat.lt_of_lt_of_le kE j0.size)).trans (jE j), fun j => (cell_alloc_old (Nat.lt_of_lt_of_le kT j0.size)).trans (jT j)⟩ | exact ⟨below_alloc (below_drew1 (Below.refl _ _)) _, fun j => (cell_alloc_old kE).trans (rE j), fun j => (cell_alloc_old kT).trans (rT j)⟩ | assumption))
              clear hK K
              (try simp only [Act.put, qa_, qb_, qc_])
              refine wpAnyLast_ready (rs := [7]) (by kernel_rfl) (by simp) ?_
              refine AllReadyL.cons (o := ⟨some 59, _, _, _, _, _⟩) rfl (by decide) (fun K hK => ?hT5x14) ?hM5x14
              case hM5x14 => exact AllReadyL.nil
              (obtain ⟨g0, gE, gT⟩ := ‹Below V.heap.size V _ ∧ _›; refine Kd.R_append_rows_step (kP) (w0 := V) V.heap.size (by rfl) (.tmp 56) (.tmp 58) 26 53 (.agg #[.int .u64 0, .int .u64 0]) 16 rfl Tryd.underlying26 info53 rfl (by decide) (by omega) (v4) ((l).take p) ([(⟨p0, p1⟩ : Pr)]) (_) (1) (1) (fun _ => True) (fun _ => False) rfl rfl ((by (with_reducible repeat (first | apply Kd.R_alloc | apply Kd.R_drewN | apply Kd.R_drew)); exact HO4.out)) (by first | exact C_oneP Box.new | exact C_oneP (Box.drew Box.new) | exact C_oneP (Box.below (Box.drew Box.new) HG4.out) | exact C_oneP (Box.below Box.new HG4.out)) (fun x cs h => kP_of_K x cs h) (fun _ hk => hk.elim) (fun _ _ => trivial) g0 g0.size (by simp; omega) ?_; (intro v7 w7 ho_ hb_ hg_ hat_; have HO7 := Aside0.mk ho_; clear ho_ hg_ hat_; have j0 := hb_; have jE := fun j => (j0.cell (p := ⟨B, j, none⟩) kE).trans (rE j); have jT := fun j => (j0.cell (p := ⟨s + 1, j, none⟩) kT).trans (rT j)))
              refine hK.out _ _ ?hS5x14 (fun hHeld => ?hR5x14)
              case hS5x14 => ((try dsimp only); (first | exact ⟨below_drew1 (Below.refl _ _), rE, rT⟩ | exact ⟨below_drew1 b0_, rE, rT⟩ | exact ⟨j0, jE, jT⟩ | exact ⟨below_alloc j0 _, fun j => (cell_alloc_old (Nat.lt_of_lt_of_le kE j0.size)).trans (jE j), fun j => (cell_alloc_old (Nat.lt_of_lt_of_le kT j0.size)).trans (jT j)⟩ | exact ⟨below_alloc (below_drew1 (Below.refl _ _)) _, fun j => (cell_alloc_old kE).trans (rE j), fun j => (cell_alloc_old kT).trans (rT j)⟩ | assumption))
              clear hK K
              (try simp only [Act.put, qa_, qb_, qc_])
              refine wpAnyLast_ready (rs := [12]) (by kernel_rfl) (by simp) ?_
              refine AllReadyL.cons (o := ⟨some 64, _, _, _, _, _⟩) rfl (by decide) (fun K hK => ?hT5x15) ?hM5x15
              case hM5x15 => exact AllReadyL.nil
              (obtain ⟨g0, gE, gT⟩ := ‹Below V.heap.size V _ ∧ _›; refine Kd.R_append_rows_step (kP) (w0 := V) V.heap.size (by rfl) (.tmp 59) (.tmp 63) 26 53 (.agg #[.int .u64 0, .int .u64 0]) 16 rfl Tryd.underlying26 info53 rfl (by decide) (by omega) (v7) ((l).take p ++ [(⟨p0, p1⟩ : Pr)]) ((l).drop p) (_) (_) (_) (fun _ => True) (fun _ => False) rfl rfl ((by (with_reducible repeat (first | apply Kd.R_alloc | apply Kd.R_drewN | apply Kd.R_drew)); exact HO7.out)) (C_noP HL.out.symm) (fun x cs h => kP_of_K x cs h) (fun _ hk => hk.elim) (fun _ _ => trivial) g0 g0.size (by simp; omega) ?_; (intro v12 w12 ho_ hb_ hg_ hat_; have HO12 := Aside0.mk ho_; clear ho_ hg_ hat_; have j0 := hb_; have jE := fun j => (j0.cell (p := ⟨B, j, none⟩) kE).trans (rE j); have jT := fun j => (j0.cell (p := ⟨s + 1, j, none⟩) kT).trans (rT j); have HO13 := Aside0.mk (insT_R HO12.out (by rw [HL.out]; exact HPO.out)); obtain ⟨A12, c12, rfl⟩ := Kd.R_slice HO13.out; have fT12 := (HTV.out.below j0).frozen; have rT12 := (HTV.out.below j0).cell))
              refine hK.out _ _ ?hS5x15 (fun hHeld => ?hR5x15)
              case hS5x15 => ((try dsimp only); (first | exact ⟨below_drew1 (Below.refl _ _), rE, rT⟩ | exact ⟨below_drew1 b0_, rE, rT⟩ | exact ⟨j0, jE, jT⟩ | exact ⟨below_alloc j0 _, fun j => (cell_alloc_old (Nat.lt_of_lt_of_le kE j0.size)).trans (jE j), fun j => (cell_alloc_old (Nat.lt_of_lt_of_le kT j0.size)).trans (jT j)⟩ | exact ⟨below_alloc (below_drew1 (Below.refl _ _)) _, fun j => (cell_alloc_old kE).trans (rE j), fun j => (cell_alloc_old kT).trans (rT j)⟩ | assumption))
              clear hK K
              (try simp only [Act.put, qa_, qb_, qc_])
              refine wpAnyLast_take (i := 13) (oi := ⟨some 65, _, _, _, _, _⟩) (v := ?_) rfl (by kernel_rfl) (by kernel_rfl) (by kernel_rfl) (by kernel_rfl) (by kernel_rfl) (fun _ _ _ h => h) (Or.inl ⟨by rfl, ?hY5x16⟩) (by assumption) ?hR5x16
              case hY5x16 => (intro w hSw; (try dsimp only at hSw); go_simp; try with_reducible rfl)
              (try simp only [Act.put, qa_, qb_, qc_])
              refine wpAnyLast_ready (rs := [14]) (by kernel_rfl) (by simp) ?_
              refine AllReadyL.cons_last (o := ⟨none, _, _, _, _, _⟩) rfl (by decide) (fun K hK => ?hT5x17) ?hM5x17
              case hM5x17 => exact AllReadyL.nil
              go_simp
              (try go_wp2_with fail)
              refine hK.out _ _ ?hR5x17
              clear hK K
              (try simp only [Act.put, qa_, qb_, qc_])
              refine wpAnyLast_done (by kernel_rfl) ?_ _
              go_wp2
              go_roundw
              case rel =>
                refine ⟨i + 1, .slice A12 (insT l ⟨p0, p1⟩).length c12, by have := HZ.out; omega, by have := HZ.out; omega, by have := HZ.out; subst this; go_num, ?_, ?_, (HRV.out.below j0).far (by simp), below_set (below_step HBV.out j0) (by have := HS.out.1; show _ ≤ s + 1; omega)⟩
                · have := Box.put (j := 1) (v := .slice A12 (insT l ⟨p0, p1⟩).length c12) (HTV.out.below j0)
                  simpa using this
                · rw [HF.out, HPE.out]
                  exact Kd.R_mono (Kd.R_far (p := ⟨s + 1, 1, none⟩) (Kd.R_bound (Kd.R_lower HO13.out hszV)) (fun k hk => by have := hk.2.1; show k ≠ s + 1; omega) _) (fun _ _ => trivial)
              case measure =>
                have := HZ.out
                simp [intOf]
                omega
            case hM5x11 =>
              go_simp
              (try go_wp2_with fail)
              refine hK.out _ _ ?hS5x18 (fun hHeld => ?hR5x18)
              case hS5x18 => ((try dsimp only); (first | exact ⟨below_drew1 (Below.refl _ _), rE, rT⟩ | exact ⟨below_drew1 b0_, rE, rT⟩ | exact ⟨j0, jE, jT⟩ | exact ⟨below_alloc j0 _, fun j => (cell_alloc_old (Nat.lt_of_lt_of_le kE j0.size)).trans (jE j), fun j => (cell_alloc_old (Nat.lt_of_lt_of_le kT j0.size)).trans (jT j)⟩ | exact ⟨below_alloc (below_drew1 (Below.refl _ _)) _, fun j => (cell_alloc_old kE).trans (rE j), fun j => (cell_alloc_old kT).trans (rT j)⟩ | assumption))
              clear hK K
              (try simp only [Act.put, qa_, qb_, qc_])
              refine wpAnyLast_ready (rs := [4]) (by kernel_rfl) (by simp) ?_
              refine AllReadyL.cons (o := ⟨some 56, _, _, _, _, _⟩) rfl (by decide) (fun K hK => ?hT5x19) ?hM5x19
              case hM5x19 => exact AllReadyL.nil
              (obtain ⟨g0, gE, gT⟩ := ‹Below V.heap.size V _ ∧ _›; refine Kd.R_append_rows_step (kP) (w0 := V) V.heap.size (by rfl) (.const (.slice none 0 0)) (.tmp 55) 26 53 (.agg #[.int .u64 0, .int .u64 0]) 16 rfl Tryd.underlying26 info53 rfl (by decide) (by omega) (.slice none 0 0) ([]) ((l).take p) (_) (p) (_) (fun _ => True) (fun _ => False) rfl rfl (Kd.R_nil _ _ _ _ _) (C_takeG (Kd.C_below HXV.out g0) (by omega)) (fun x cs h => kP_of_K x cs h) (fun _ hk => hk.elim) (fun _ _ => trivial) g0 g0.size (by simp; omega) ?_; (intro v4 w4 ho_ hb_ hg_ hat_; have HO4 := Aside0.mk ho_; have HG4 := Aside0.mk ((Below.refl _ _).grown (row := none) hg_ (Nat.le_refl _) (fun k hk => by cases hk)); clear ho_ hg_ hat_; have j0 := hb_; have jE := fun j => (j0.cell (p := ⟨B, j, none⟩) kE).trans (rE j); have jT := fun j => (j0.cell (p := ⟨s + 1, j, none⟩) kT).trans (rT j)))
              refine hK.out _ _ ?hS5x19 (fun hHeld => ?hR5x19)
              case hS5x19 => ((try dsimp only); (first | exact ⟨below_drew1 (Below.refl _ _), rE, rT⟩ | exact ⟨below_drew1 b0_, rE, rT⟩ | exact ⟨j0, jE, jT⟩ | exact ⟨below_alloc j0 _, fun j => (cell_alloc_old (Nat.lt_of_lt_of_le kE j0.size)).trans (jE j), fun j => (cell_alloc_old (Nat.lt_of_lt_of_le kT j0.size)).trans (jT j)⟩ | exact ⟨below_alloc (below_drew1 (Below.refl _ _)) _, fun j => (cell_alloc_old kE).trans (rE j), fun j => (cell_alloc_old kT).trans (rT j)⟩ | assumption))
              clear hK K
              (try simp only [Act.put, qa_, qb_, qc_])
              refine wpAnyLast_ready (rs := [7]) (by kernel_rfl) (by simp) ?_
              refine AllReadyL.cons (o := ⟨some 59, _, _, _, _, _⟩) rfl (by decide) (fun K hK => ?hT5x20) ?hM5x20
              case hM5x20 => exact AllReadyL.nil
              (obtain ⟨g0, gE, gT⟩ := ‹Below V.heap.size V _ ∧ _›; refine Kd.R_append_rows_step (kP) (w0 := V) V.heap.size (by rfl) (.tmp 56) (.tmp 58) 26 53 (.agg #[.int .u64 0, .int .u64 0]) 16 rfl Tryd.underlying26 info53 rfl (by decide) (by omega) (v4) ((l).take p) ([(⟨p0, p1⟩ : Pr)]) (_) (1) (1) (fun _ => True) (fun _ => False) rfl rfl ((by (with_reducible repeat (first | apply Kd.R_alloc | apply Kd.R_drewN | apply Kd.R_drew)); exact HO4.out)) (by first | exact C_oneP Box.new | exact C_oneP (Box.drew Box.new) | exact C_oneP (Box.below (Box.drew Box.new) HG4.out) | exact C_oneP (Box.below Box.new HG4.out)) (fun x cs h => kP_of_K x cs h) (fun _ hk => hk.elim) (fun _ _ => trivial) g0 g0.size (by simp; omega) ?_; (intro v7 w7 ho_ hb_ hg_ hat_; have HO7 := Aside0.mk ho_; clear ho_ hg_ hat_; have j0 := hb_; have jE := fun j => (j0.cell (p := ⟨B, j, none⟩) kE).trans (rE j); have jT := fun j => (j0.cell (p := ⟨s + 1, j, none⟩) kT).trans (rT j)))
              refine hK.out _ _ ?hS5x20 (fun hHeld => ?hR5x20)
              case hS5x20 => ((try dsimp only); (first | exact ⟨below_drew1 (Below.refl _ _), rE, rT⟩ | exact ⟨below_drew1 b0_, rE, rT⟩ | exact ⟨j0, jE, jT⟩ | exact ⟨below_alloc j0 _, fun j => (cell_alloc_old (Nat.lt_of_lt_of_le kE j0.size)).trans (jE j), fun j => (cell_alloc_old (Nat.lt_of_lt_of_le kT j0.size)).trans (jT j)⟩ | exact ⟨below_alloc (below_drew1 (Below.refl _ _)) _, fun j => (cell_alloc_old kE).trans (rE j), fun j => (cell_alloc_old kT).trans (rT j)⟩ | assumption))
              clear hK K
              (try simp only [Act.put, qa_, qb_, qc_])
              refine wpAnyLast_ready (rs := [12]) (by kernel_rfl) (by simp) ?_
              refine AllReadyL.cons (o := ⟨some 64, _, _, _, _, _⟩) rfl (by decide) (fun K hK => ?hT5x21) ?hM5x21
              case hM5x21 => exact AllReadyL.nil
              (obtain ⟨g0, gE, gT⟩ := ‹Below V.heap.size V _ ∧ _›; refine Kd.R_append_rows_step (kP) (w0 := V) V.heap.size (by rfl) (.tmp 59) (.tmp 63) 26 53 (.agg #[.int .u64 0, .int .u64 0]) 16 rfl Tryd.underlying26 info53 rfl (by decide) (by omega) (v7) ((l).take p ++ [(⟨p0, p1⟩ : Pr)]) ((l).drop p) (_) (_) (_) (fun _ => True) (fun _ => False) rfl rfl ((by (with_reducible repeat (first | apply Kd.R_alloc | apply Kd.R_drewN | apply Kd.R_drew)); exact HO7.out)) (C_noP HL.out.symm) (fun x cs h => kP_of_K x cs h) (fun _ hk => hk.elim) (fun _ _ => trivial) g0 g0.size (by simp; omega) ?_; (intro v12 w12 ho_ hb_ hg_ hat_; have HO12 := Aside0.mk ho_; clear ho_ hg_ hat_; have j0 := hb_; have jE := fun j => (j0.cell (p := ⟨B, j, none⟩) kE).trans (rE j); have jT := fun j => (j0.cell (p := ⟨s + 1, j, none⟩) kT).trans (rT j); have HO13 := Aside0.mk (insT_R HO12.out (by rw [HL.out]; exact HPO.out)); obtain ⟨A12, c12, rfl⟩ := Kd.R_slice HO13.out; have fT12 := (HTV.out.below j0).frozen; have rT12 := (HTV.out.below j0).cell))
              refine hK.out _ _ ?hS5x21 (fun hHeld => ?hR5x21)
              case hS5x21 => ((try dsimp only); (first | exact ⟨below_drew1 (Below.refl _ _), rE, rT⟩ | exact ⟨below_drew1 b0_, rE, rT⟩ | exact ⟨j0, jE, jT⟩ | exact ⟨below_alloc j0 _, fun j => (cell_alloc_old (Nat.lt_of_lt_of_le kE j0.size)).trans (jE j), fun j => (cell_alloc_old (Nat.lt_of_lt_of_le kT j0.size)).trans (jT j)⟩ | exact ⟨below_alloc (below_drew1 (Below.refl _ _)) _, fun j => (cell_alloc_old kE).trans (rE j), fun j => (cell_alloc_old kT).trans (rT j)⟩ | assumption))
              clear hK K
              (try simp only [Act.put, qa_, qb_, qc_])
              refine wpAnyLast_take (i := 13) (oi := ⟨some 65, _, _, _, _, _⟩) (v := ?_) rfl (by kernel_rfl) (by kernel_rfl) (by kernel_rfl) (by kernel_rfl) (by kernel_rfl) (fun _ _ _ h => h) (Or.inl ⟨by rfl, ?hY5x22⟩) (by assumption) ?hR5x22
              case hY5x22 => (intro w hSw; (try dsimp only at hSw); go_simp; try with_reducible rfl)
              (try simp only [Act.put, qa_, qb_, qc_])
              refine wpAnyLast_ready (rs := [14]) (by kernel_rfl) (by simp) ?_
              refine AllReadyL.cons_last (o := ⟨none, _, _, _, _, _⟩) rfl (by decide) (fun K hK => ?hT5x23) ?hM5x23
              case hM5x23 => exact AllReadyL.nil
              go_simp
              (try go_wp2_with fail)
              refine hK.out _ _ ?hR5x23
              clear hK K
              (try simp only [Act.put, qa_, qb_, qc_])
              refine wpAnyLast_done (by kernel_rfl) ?_ _
              go_wp2
              go_roundw
              case rel =>
                refine ⟨i + 1, .slice A12 (insT l ⟨p0, p1⟩).length c12, by have := HZ.out; omega, by have := HZ.out; omega, by have := HZ.out; subst this; go_num, ?_, ?_, (HRV.out.below j0).far (by simp), below_set (below_step HBV.out j0) (by have := HS.out.1; show _ ≤ s + 1; omega)⟩
                · have := Box.put (j := 1) (v := .slice A12 (insT l ⟨p0, p1⟩).length c12) (HTV.out.below j0)
                  simpa using this
                · rw [HF.out, HPE.out]
                  exact Kd.R_mono (Kd.R_far (p := ⟨s + 1, 1, none⟩) (Kd.R_bound (Kd.R_lower HO13.out hszV)) (fun k hk => by have := hk.2.1; show k ≠ s + 1; omega) _) (fun _ _ => trivial)
              case measure =>
                have := HZ.out
                simp [intOf]
                omega
          · obtain rfl : p = ln := hpl
            refine wp_region_last_drew (S := (fun w' => Below V.heap.size V w' ∧ (∀ j, w'.cell? ⟨B, j, none⟩ = (#[.int .u64 p0, .int .u64 p1] : Array Value)[j]?) ∧ (∀ j, w'.cell? ⟨s + 1, j, none⟩ = (#[.bool f, .slice Ao p co] : Array Value)[j]?))) (ds := [14]) (by kernel_rfl) ?hS6x0 (fun hHeld => ?hR6x0)
            case hS6x0 => ((try dsimp only); (first | exact ⟨below_drew1 (Below.refl _ _), rE, rT⟩ | exact ⟨below_drew1 b0_, rE, rT⟩ | exact ⟨j0, jE, jT⟩ | exact ⟨below_alloc j0 _, fun j => (cell_alloc_old (Nat.lt_of_lt_of_le kE j0.size)).trans (jE j), fun j => (cell_alloc_old (Nat.lt_of_lt_of_le kT j0.size)).trans (jT j)⟩ | exact ⟨below_alloc (below_drew1 (Below.refl _ _)) _, fun j => (cell_alloc_old kE).trans (rE j), fun j => (cell_alloc_old kT).trans (rT j)⟩ | assumption))
            refine wpAnyLast_take (i := 0) (oi := ⟨some 52, _, _, _, _, _⟩) (v := ?_) rfl (by kernel_rfl) (by kernel_rfl) (by kernel_rfl) (by kernel_rfl) (by kernel_rfl) (fun _ _ _ h => h) (Or.inl ⟨by rfl, ?hY6x2⟩) (by assumption) ?hR6x2
            case hY6x2 => (intro w hSw; (try dsimp only at hSw); go_simp; try with_reducible rfl)
            (try simp only [Act.put, qa_, qb_, qc_])
            refine wpAnyLast_take (i := 1) (oi := ⟨some 53, _, _, _, _, _⟩) (v := ?_) rfl (by kernel_rfl) (by kernel_rfl) (by kernel_rfl) (by kernel_rfl) (by kernel_rfl) (fun _ _ _ h => h) (Or.inl ⟨by rfl, ?hY6x3⟩) (by assumption) ?hR6x3
            case hY6x3 => (intro w hSw; (try dsimp only at hSw); go_simp; try with_reducible rfl)
            (try simp only [Act.put, qa_, qb_, qc_])
            refine wpAnyLast_take (i := 2) (oi := ⟨some 54, _, _, _, _, _⟩) (v := ?_) rfl (by kernel_rfl) (by kernel_rfl) (by kernel_rfl) (by kernel_rfl) (by kernel_rfl) (fun _ _ _ h => h) (Or.inl ⟨by rfl, ?hY6x4⟩) (by assumption) ?hR6x4
            case hY6x4 => (intro w hSw; (try dsimp only at hSw); go_simp; try with_reducible rfl)
            (try simp only [Act.put, qa_, qb_, qc_])
            refine wpAnyLast_take (i := 3) (oi := ⟨some 55, _, _, _, _, _⟩) (v := ?_) rfl (by kernel_rfl) (by kernel_rfl) (by kernel_rfl) (by kernel_rfl) (by kernel_rfl) (fun _ _ _ h => h) (Or.inl ⟨by rfl, ?hY6x5⟩) (by assumption) ?hR6x5
            case hY6x5 => (intro w hSw; (try dsimp only at hSw); go_simp; try with_reducible rfl)
            (try simp only [Act.put, qa_, qb_, qc_])
            refine wpAnyLast_take (i := 5) (oi := ⟨some 57, _, _, _, _, _⟩) (v := ?_) rfl (by kernel_rfl) (by kernel_rfl) (by kernel_rfl) (by kernel_rfl) (by kernel_rfl) (fun _ _ _ h => h) (Or.inl ⟨by rfl, ?hY6x6⟩) (by assumption) ?hR6x6
            case hY6x6 => (intro w hSw; (try dsimp only at hSw); go_simp; try with_reducible rfl)
            (try simp only [Act.put, qa_, qb_, qc_])
            refine wpAnyLast_take (i := 8) (oi := ⟨some 60, _, _, _, _, _⟩) (v := ?_) rfl (by kernel_rfl) (by kernel_rfl) (by kernel_rfl) (by kernel_rfl) (by kernel_rfl) (fun _ _ _ h => h) (Or.inl ⟨by rfl, ?hY6x7⟩) (by assumption) ?hR6x7
            case hY6x7 => (intro w hSw; (try dsimp only at hSw); go_simp; try with_reducible rfl)
            (try simp only [Act.put, qa_, qb_, qc_])
            refine wpAnyLast_take (i := 9) (oi := ⟨some 61, _, _, _, _, _⟩) (v := ?_) rfl (by kernel_rfl) (by kernel_rfl) (by kernel_rfl) (by kernel_rfl) (by kernel_rfl) (fun _ _ _ h => h) (Or.inl ⟨by rfl, ?hY6x8⟩) (by assumption) ?hR6x8
            case hY6x8 => (intro w hSw; (try dsimp only at hSw); go_simp; try with_reducible rfl)
            (try simp only [Act.put, qa_, qb_, qc_])
            refine wpAnyLast_take (i := 10) (oi := ⟨some 62, _, _, _, _, _⟩) (v := ?_) rfl (by kernel_rfl) (by kernel_rfl) (by kernel_rfl) (by kernel_rfl) (by kernel_rfl) (fun _ _ _ h => h) (Or.inl ⟨by rfl, ?hY6x9⟩) (by assumption) ?hR6x9
            case hY6x9 => (intro w hSw; (try dsimp only at hSw); go_simp; try with_reducible rfl)
            (try simp only [Act.put, qa_, qb_, qc_])
            refine wpAnyLast_take (i := 11) (oi := ⟨some 63, _, _, _, _, _⟩) (v := ?_) rfl (by kernel_rfl) (by kernel_rfl) (by kernel_rfl) (by kernel_rfl) (by kernel_rfl) (fun _ _ _ h => h) (Or.inl ⟨by rfl, ?hY6x10⟩) (by assumption) ?hR6x10
            case hY6x10 => (intro w hSw; (try dsimp only at hSw); go_simp; try with_reducible rfl)
            (try simp only [Act.put, qa_, qb_, qc_])
            refine wpAnyLast_ready (rs := [4, 6]) (by kernel_rfl) (by simp) ?_
            refine AllReadyL.cons (o := ⟨some 56, _, _, _, _, _⟩) rfl (by decide) (fun K hK => ?hT6x11) (AllReadyL.cons (o := ⟨some 58, _, _, _, _, _⟩) rfl (by decide) (fun K hK => ?hM6x11) AllReadyL.nil)
            case hT6x11 =>
              (obtain ⟨g0, gE, gT⟩ := ‹Below V.heap.size V _ ∧ _›; refine Kd.R_append_rows_step (kP) (w0 := V) V.heap.size (by rfl) (.const (.slice none 0 0)) (.tmp 55) 26 53 (.agg #[.int .u64 0, .int .u64 0]) 16 rfl Tryd.underlying26 info53 rfl (by decide) (by omega) (.slice none 0 0) ([]) ((l).take p) (_) (p) (_) (fun _ => True) (fun _ => False) rfl rfl (Kd.R_nil _ _ _ _ _) (C_takeG (Kd.C_below HXV.out g0) (by omega)) (fun x cs h => kP_of_K x cs h) (fun _ hk => hk.elim) (fun _ _ => trivial) g0 g0.size (by simp; omega) ?_; (intro v4 w4 ho_ hb_ hg_ hat_; have HO4 := Aside0.mk ho_; have HG4 := Aside0.mk ((Below.refl _ _).grown (row := none) hg_ (Nat.le_refl _) (fun k hk => by cases hk)); clear ho_ hg_ hat_; have j0 := hb_; have jE := fun j => (j0.cell (p := ⟨B, j, none⟩) kE).trans (rE j); have jT := fun j => (j0.cell (p := ⟨s + 1, j, none⟩) kT).trans (rT j)))
              refine hK.out _ _ ?hS6x12 (fun hHeld => ?hR6x12)
              case hS6x12 => ((try dsimp only); (first | exact ⟨below_drew1 (Below.refl _ _), rE, rT⟩ | exact ⟨below_drew1 b0_, rE, rT⟩ | exact ⟨j0, jE, jT⟩ | exact ⟨below_alloc j0 _, fun j => (cell_alloc_old (Nat.lt_of_lt_of_le kE j0.size)).trans (jE j), fun j => (cell_alloc_old (Nat.lt_of_lt_of_le kT j0.size)).trans (jT j)⟩ | exact ⟨below_alloc (below_drew1 (Below.refl _ _)) _, fun j => (cell_alloc_old kE).trans (rE j), fun j => (cell_alloc_old kT).trans (rT j)⟩ | assumption))
              clear hK K
              (try simp only [Act.put, qa_, qb_, qc_])
              refine wpAnyLast_ready (rs := [6]) (by kernel_rfl) (by simp) ?_
              refine AllReadyL.cons (o := ⟨some 58, _, _, _, _, _⟩) rfl (by decide) (fun K hK => ?hT6x13) ?hM6x13
              case hM6x13 => exact AllReadyL.nil
              go_simp
              (try go_wp2_with fail)
              refine hK.out _ _ ?hS6x13 (fun hHeld => ?hR6x13)
              case hS6x13 => ((try dsimp only); (first | exact ⟨below_drew1 (Below.refl _ _), rE, rT⟩ | exact ⟨below_drew1 b0_, rE, rT⟩ | exact ⟨j0, jE, jT⟩ | exact ⟨below_alloc j0 _, fun j => (cell_alloc_old (Nat.lt_of_lt_of_le kE j0.size)).trans (jE j), fun j => (cell_alloc_old (Nat.lt_of_lt_of_le kT j0.size)).trans (jT j)⟩ | exact ⟨below_alloc (below_drew1 (Below.refl _ _)) _, fun j => (cell_alloc_old kE).trans (rE j), fun j => (cell_alloc_old kT).trans (rT j)⟩ | assumption))
              clear hK K
              (try simp only [Act.put, qa_, qb_, qc_])
              refine wpAnyLast_ready (rs := [7]) (by kernel_rfl) (by simp) ?_
              refine AllReadyL.cons (o := ⟨some 59, _, _, _, _, _⟩) rfl (by decide) (fun K hK => ?hT6x14) ?hM6x14
              case hM6x14 => exact AllReadyL.nil
              (obtain ⟨g0, gE, gT⟩ := ‹Below V.heap.size V _ ∧ _›; refine Kd.R_append_rows_step (kP) (w0 := V) V.heap.size (by rfl) (.tmp 56) (.tmp 58) 26 53 (.agg #[.int .u64 0, .int .u64 0]) 16 rfl Tryd.underlying26 info53 rfl (by decide) (by omega) (v4) ((l).take p) ([(⟨p0, p1⟩ : Pr)]) (_) (1) (1) (fun _ => True) (fun _ => False) rfl rfl ((by (with_reducible repeat (first | apply Kd.R_alloc | apply Kd.R_drewN | apply Kd.R_drew)); exact HO4.out)) (by first | exact C_oneP Box.new | exact C_oneP (Box.drew Box.new) | exact C_oneP (Box.below (Box.drew Box.new) HG4.out) | exact C_oneP (Box.below Box.new HG4.out)) (fun x cs h => kP_of_K x cs h) (fun _ hk => hk.elim) (fun _ _ => trivial) g0 g0.size (by simp; omega) ?_; (intro v7 w7 ho_ hb_ hg_ hat_; have HO7 := Aside0.mk ho_; clear ho_ hg_ hat_; have j0 := hb_; have jE := fun j => (j0.cell (p := ⟨B, j, none⟩) kE).trans (rE j); have jT := fun j => (j0.cell (p := ⟨s + 1, j, none⟩) kT).trans (rT j)))
              refine hK.out _ _ ?hS6x14 (fun hHeld => ?hR6x14)
              case hS6x14 => ((try dsimp only); (first | exact ⟨below_drew1 (Below.refl _ _), rE, rT⟩ | exact ⟨below_drew1 b0_, rE, rT⟩ | exact ⟨j0, jE, jT⟩ | exact ⟨below_alloc j0 _, fun j => (cell_alloc_old (Nat.lt_of_lt_of_le kE j0.size)).trans (jE j), fun j => (cell_alloc_old (Nat.lt_of_lt_of_le kT j0.size)).trans (jT j)⟩ | exact ⟨below_alloc (below_drew1 (Below.refl _ _)) _, fun j => (cell_alloc_old kE).trans (rE j), fun j => (cell_alloc_old kT).trans (rT j)⟩ | assumption))
              clear hK K
              (try simp only [Act.put, qa_, qb_, qc_])
              refine wpAnyLast_ready (rs := [12]) (by kernel_rfl) (by simp) ?_
              refine AllReadyL.cons (o := ⟨some 64, _, _, _, _, _⟩) rfl (by decide) (fun K hK => ?hT6x15) ?hM6x15
              case hM6x15 => exact AllReadyL.nil
              (obtain ⟨g0, gE, gT⟩ := ‹Below V.heap.size V _ ∧ _›; refine Kd.R_append_rows_step (kP) (w0 := V) V.heap.size (by rfl) (.tmp 59) (.tmp 63) 26 53 (.agg #[.int .u64 0, .int .u64 0]) 16 rfl Tryd.underlying26 info53 rfl (by decide) (by omega) (v7) ((l).take p ++ [(⟨p0, p1⟩ : Pr)]) ((l).drop p) (_) (_) (_) (fun _ => True) (fun _ => False) rfl rfl ((by (with_reducible repeat (first | apply Kd.R_alloc | apply Kd.R_drewN | apply Kd.R_drew)); exact HO7.out)) (C_noP HL.out.symm) (fun x cs h => kP_of_K x cs h) (fun _ hk => hk.elim) (fun _ _ => trivial) g0 g0.size (by simp; omega) ?_; (intro v12 w12 ho_ hb_ hg_ hat_; have HO12 := Aside0.mk ho_; clear ho_ hg_ hat_; have j0 := hb_; have jE := fun j => (j0.cell (p := ⟨B, j, none⟩) kE).trans (rE j); have jT := fun j => (j0.cell (p := ⟨s + 1, j, none⟩) kT).trans (rT j); have HO13 := Aside0.mk (insT_R HO12.out (by rw [HL.out]; exact HPO.out)); obtain ⟨A12, c12, rfl⟩ := Kd.R_slice HO13.out; have fT12 := (HTV.out.below j0).frozen; have rT12 := (HTV.out.below j0).cell))
              refine hK.out _ _ ?hS6x15 (fun hHeld => ?hR6x15)
              case hS6x15 => ((try dsimp only); (first | exact ⟨below_drew1 (Below.refl _ _), rE, rT⟩ | exact ⟨below_drew1 b0_, rE, rT⟩ | exact ⟨j0, jE, jT⟩ | exact ⟨below_alloc j0 _, fun j => (cell_alloc_old (Nat.lt_of_lt_of_le kE j0.size)).trans (jE j), fun j => (cell_alloc_old (Nat.lt_of_lt_of_le kT j0.size)).trans (jT j)⟩ | exact ⟨below_alloc (below_drew1 (Below.refl _ _)) _, fun j => (cell_alloc_old kE).trans (rE j), fun j => (cell_alloc_old kT).trans (rT j)⟩ | assumption))
              clear hK K
              (try simp only [Act.put, qa_, qb_, qc_])
              refine wpAnyLast_take (i := 13) (oi := ⟨some 65, _, _, _, _, _⟩) (v := ?_) rfl (by kernel_rfl) (by kernel_rfl) (by kernel_rfl) (by kernel_rfl) (by kernel_rfl) (fun _ _ _ h => h) (Or.inl ⟨by rfl, ?hY6x16⟩) (by assumption) ?hR6x16
              case hY6x16 => (intro w hSw; (try dsimp only at hSw); go_simp; try with_reducible rfl)
              (try simp only [Act.put, qa_, qb_, qc_])
              refine wpAnyLast_ready (rs := [14]) (by kernel_rfl) (by simp) ?_
              refine AllReadyL.cons_last (o := ⟨none, _, _, _, _, _⟩) rfl (by decide) (fun K hK => ?hT6x17) ?hM6x17
              case hM6x17 => exact AllReadyL.nil
              go_simp
              (try go_wp2_with fail)
              refine hK.out _ _ ?hR6x17
              clear hK K
              (try simp only [Act.put, qa_, qb_, qc_])
              refine wpAnyLast_done (by kernel_rfl) ?_ _
              go_wp2
              go_roundw
              case rel =>
                refine ⟨i + 1, .slice A12 (insT l ⟨p0, p1⟩).length c12, by have := HZ.out; omega, by have := HZ.out; omega, by have := HZ.out; subst this; go_num, ?_, ?_, (HRV.out.below j0).far (by simp), below_set (below_step HBV.out j0) (by have := HS.out.1; show _ ≤ s + 1; omega)⟩
                · have := Box.put (j := 1) (v := .slice A12 (insT l ⟨p0, p1⟩).length c12) (HTV.out.below j0)
                  simpa using this
                · rw [HF.out, HPE.out]
                  exact Kd.R_mono (Kd.R_far (p := ⟨s + 1, 1, none⟩) (Kd.R_bound (Kd.R_lower HO13.out hszV)) (fun k hk => by have := hk.2.1; show k ≠ s + 1; omega) _) (fun _ _ => trivial)
              case measure =>
                have := HZ.out
                simp [intOf]
                omega
            case hM6x11 =>
              go_simp
              (try go_wp2_with fail)
              refine hK.out _ _ ?hS6x18 (fun hHeld => ?hR6x18)
              case hS6x18 => ((try dsimp only); (first | exact ⟨below_drew1 (Below.refl _ _), rE, rT⟩ | exact ⟨below_drew1 b0_, rE, rT⟩ | exact ⟨j0, jE, jT⟩ | exact ⟨below_alloc j0 _, fun j => (cell_alloc_old (Nat.lt_of_lt_of_le kE j0.size)).trans (jE j), fun j => (cell_alloc_old (Nat.lt_of_lt_of_le kT j0.size)).trans (jT j)⟩ | exact ⟨below_alloc (below_drew1 (Below.refl _ _)) _, fun j => (cell_alloc_old kE).trans (rE j), fun j => (cell_alloc_old kT).trans (rT j)⟩ | assumption))
              clear hK K
              (try simp only [Act.put, qa_, qb_, qc_])
              refine wpAnyLast_ready (rs := [4]) (by kernel_rfl) (by simp) ?_
              refine AllReadyL.cons (o := ⟨some 56, _, _, _, _, _⟩) rfl (by decide) (fun K hK => ?hT6x19) ?hM6x19
              case hM6x19 => exact AllReadyL.nil
              (obtain ⟨g0, gE, gT⟩ := ‹Below V.heap.size V _ ∧ _›; refine Kd.R_append_rows_step (kP) (w0 := V) V.heap.size (by rfl) (.const (.slice none 0 0)) (.tmp 55) 26 53 (.agg #[.int .u64 0, .int .u64 0]) 16 rfl Tryd.underlying26 info53 rfl (by decide) (by omega) (.slice none 0 0) ([]) ((l).take p) (_) (p) (_) (fun _ => True) (fun _ => False) rfl rfl (Kd.R_nil _ _ _ _ _) (C_takeG (Kd.C_below HXV.out g0) (by omega)) (fun x cs h => kP_of_K x cs h) (fun _ hk => hk.elim) (fun _ _ => trivial) g0 g0.size (by simp; omega) ?_; (intro v4 w4 ho_ hb_ hg_ hat_; have HO4 := Aside0.mk ho_; have HG4 := Aside0.mk ((Below.refl _ _).grown (row := none) hg_ (Nat.le_refl _) (fun k hk => by cases hk)); clear ho_ hg_ hat_; have j0 := hb_; have jE := fun j => (j0.cell (p := ⟨B, j, none⟩) kE).trans (rE j); have jT := fun j => (j0.cell (p := ⟨s + 1, j, none⟩) kT).trans (rT j)))
              refine hK.out _ _ ?hS6x19 (fun hHeld => ?hR6x19)
              case hS6x19 => ((try dsimp only); (first | exact ⟨below_drew1 (Below.refl _ _), rE, rT⟩ | exact ⟨below_drew1 b0_, rE, rT⟩ | exact ⟨j0, jE, jT⟩ | exact ⟨below_alloc j0 _, fun j => (cell_alloc_old (Nat.lt_of_lt_of_le kE j0.size)).trans (jE j), fun j => (cell_alloc_old (Nat.lt_of_lt_of_le kT j0.size)).trans (jT j)⟩ | exact ⟨below_alloc (below_drew1 (Below.refl _ _)) _, fun j => (cell_alloc_old kE).trans (rE j), fun j => (cell_alloc_old kT).trans (rT j)⟩ | assumption))
              clear hK K
              (try simp only [Act.put, qa_, qb_, qc_])
              refine wpAnyLast_ready (rs := [7]) (by kernel_rfl) (by simp) ?_
              refine AllReadyL.cons (o := ⟨some 59, _, _, _, _, _⟩) rfl (by decide) (fun K hK => ?hT6x20) ?hM6x20
              case hM6x20 => exact AllReadyL.nil
              (obtain ⟨g0, gE, gT⟩ := ‹Below V.heap.size V _ ∧ _›; refine Kd.R_append_rows_step (kP) (w0 := V) V.heap.size (by rfl) (.tmp 56) (.tmp 58) 26 53 (.agg #[.int .u64 0, .int .u64 0]) 16 rfl Tryd.underlying26 info53 rfl (by decide) (by omega) (v4) ((l).take p) ([(⟨p0, p1⟩ : Pr)]) (_) (1) (1) (fun _ => True) (fun _ => False) rfl rfl ((by (with_reducible repeat (first | apply Kd.R_alloc | apply Kd.R_drewN | apply Kd.R_drew)); exact HO4.out)) (by first | exact C_oneP Box.new | exact C_oneP (Box.drew Box.new) | exact C_oneP (Box.below (Box.drew Box.new) HG4.out) | exact C_oneP (Box.below Box.new HG4.out)) (fun x cs h => kP_of_K x cs h) (fun _ hk => hk.elim) (fun _ _ => trivial) g0 g0.size (by simp; omega) ?_; (intro v7 w7 ho_ hb_ hg_ hat_; have HO7 := Aside0.mk ho_; clear ho_ hg_ hat_; have j0 := hb_; have jE := fun j => (j0.cell (p := ⟨B, j, none⟩) kE).trans (rE j); have jT := fun j => (j0.cell (p := ⟨s + 1, j, none⟩) kT).trans (rT j)))
              refine hK.out _ _ ?hS6x20 (fun hHeld => ?hR6x20)
              case hS6x20 => ((try dsimp only); (first | exact ⟨below_drew1 (Below.refl _ _), rE, rT⟩ | exact ⟨below_drew1 b0_, rE, rT⟩ | exact ⟨j0, jE, jT⟩ | exact ⟨below_alloc j0 _, fun j => (cell_alloc_old (Nat.lt_of_lt_of_le kE j0.size)).trans (jE j), fun j => (cell_alloc_old (Nat.lt_of_lt_of_le kT j0.size)).trans (jT j)⟩ | exact ⟨below_alloc (below_drew1 (Below.refl _ _)) _, fun j => (cell_alloc_old kE).trans (rE j), fun j => (cell_alloc_old kT).trans (rT j)⟩ | assumption))
              clear hK K
              (try simp only [Act.put, qa_, qb_, qc_])
              refine wpAnyLast_ready (rs := [12]) (by kernel_rfl) (by simp) ?_
              refine AllReadyL.cons (o := ⟨some 64, _, _, _, _, _⟩) rfl (by decide) (fun K hK => ?hT6x21) ?hM6x21
              case hM6x21 => exact AllReadyL.nil
              (obtain ⟨g0, gE, gT⟩ := ‹Below V.heap.size V _ ∧ _›; refine Kd.R_append_rows_step (kP) (w0 := V) V.heap.size (by rfl) (.tmp 59) (.tmp 63) 26 53 (.agg #[.int .u64 0, .int .u64 0]) 16 rfl Tryd.underlying26 info53 rfl (by decide) (by omega) (v7) ((l).take p ++ [(⟨p0, p1⟩ : Pr)]) ((l).drop p) (_) (_) (_) (fun _ => True) (fun _ => False) rfl rfl ((by (with_reducible repeat (first | apply Kd.R_alloc | apply Kd.R_drewN | apply Kd.R_drew)); exact HO7.out)) (C_noP HL.out.symm) (fun x cs h => kP_of_K x cs h) (fun _ hk => hk.elim) (fun _ _ => trivial) g0 g0.size (by simp; omega) ?_; (intro v12 w12 ho_ hb_ hg_ hat_; have HO12 := Aside0.mk ho_; clear ho_ hg_ hat_; have j0 := hb_; have jE := fun j => (j0.cell (p := ⟨B, j, none⟩) kE).trans (rE j); have jT := fun j => (j0.cell (p := ⟨s + 1, j, none⟩) kT).trans (rT j); have HO13 := Aside0.mk (insT_R HO12.out (by rw [HL.out]; exact HPO.out)); obtain ⟨A12, c12, rfl⟩ := Kd.R_slice HO13.out; have fT12 := (HTV.out.below j0).frozen; have rT12 := (HTV.out.below j0).cell))
              refine hK.out _ _ ?hS6x21 (fun hHeld => ?hR6x21)
              case hS6x21 => ((try dsimp only); (first | exact ⟨below_drew1 (Below.refl _ _), rE, rT⟩ | exact ⟨below_drew1 b0_, rE, rT⟩ | exact ⟨j0, jE, jT⟩ | exact ⟨below_alloc j0 _, fun j => (cell_alloc_old (Nat.lt_of_lt_of_le kE j0.size)).trans (jE j), fun j => (cell_alloc_old (Nat.lt_of_lt_of_le kT j0.size)).trans (jT j)⟩ | exact ⟨below_alloc (below_drew1 (Below.refl _ _)) _, fun j => (cell_alloc_old kE).trans (rE j), fun j => (cell_alloc_old kT).trans (rT j)⟩ | assumption))
              clear hK K
              (try simp only [Act.put, qa_, qb_, qc_])
              refine wpAnyLast_take (i := 13) (oi := ⟨some 65, _, _, _, _, _⟩) (v := ?_) rfl (by kernel_rfl) (by kernel_rfl) (by kernel_rfl) (by kernel_rfl) (by kernel_rfl) (fun _ _ _ h => h) (Or.inl ⟨by rfl, ?hY6x22⟩) (by assumption) ?hR6x22
              case hY6x22 => (intro w hSw; (try dsimp only at hSw); go_simp; try with_reducible rfl)
              (try simp only [Act.put, qa_, qb_, qc_])
              refine wpAnyLast_ready (rs := [14]) (by kernel_rfl) (by simp) ?_
              refine AllReadyL.cons_last (o := ⟨none, _, _, _, _, _⟩) rfl (by decide) (fun K hK => ?hT6x23) ?hM6x23
              case hM6x23 => exact AllReadyL.nil
              go_simp
              (try go_wp2_with fail)
              refine hK.out _ _ ?hR6x23
              clear hK K
              (try simp only [Act.put, qa_, qb_, qc_])
              refine wpAnyLast_done (by kernel_rfl) ?_ _
              go_wp2
              go_roundw
              case rel =>
                refine ⟨i + 1, .slice A12 (insT l ⟨p0, p1⟩).length c12, by have := HZ.out; omega, by have := HZ.out; omega, by have := HZ.out; subst this; go_num, ?_, ?_, (HRV.out.below j0).far (by simp), below_set (below_step HBV.out j0) (by have := HS.out.1; show _ ≤ s + 1; omega)⟩
                · have := Box.put (j := 1) (v := .slice A12 (insT l ⟨p0, p1⟩).length c12) (HTV.out.below j0)
                  simpa using this
                · rw [HF.out, HPE.out]
                  exact Kd.R_mono (Kd.R_far (p := ⟨s + 1, 1, none⟩) (Kd.R_bound (Kd.R_lower HO13.out hszV)) (fun k hk => by have := hk.2.1; show k ≠ s + 1; omega) _) (fun _ _ => trivial)
              case measure =>
                have := HZ.out
                simp [intOf]
                omega
    · have HT := Aside0.mk hT
      have HO := Aside0.mk hO
      have HR := Aside0.mk hR
      have rT := hT.cell
      have kT := hT.lt
      have rR := hR.cell
      have fR := hR.frozen
      have kR := hR.lt
      clear hT hO hR
      have hd : (decide ((i : Int) < (n : Int)) = false ∧ decide (i < n) = false) ∨ ((decide ((i : Int) < (n : Int)) = true ∧ decide (i < n) = true) ∧ decide ((i : Int) < 30) = false ∧ decide (i < 30) = false) := by
        by_cases h1 : i < n
        · exact Or.inr ⟨⟨decide_eq_true (by omega), decide_eq_true h1⟩, decide_eq_false (by omega), decide_eq_false (by omega)⟩
        · exact Or.inl ⟨decide_eq_false (by omega), decide_eq_false h1⟩
      have HE := Aside0.mk (show raw.take i = raw.take 30 by
        by_cases h1 : i < n
        · rw [show i = 30 by omega]
        · rw [List.take_of_length_le (by rw [← HN.out]; omega), List.take_of_length_le (by rw [← HN.out]; omega)])
      obtain ⟨m, hm⟩ : ∃ m, (List.foldl (fun l x => insT l (rawP x)) [] (List.take i raw)).length = m := ⟨_, rfl⟩
      rw [hm] at rT HT
      rcases hd with ⟨hd, hd1⟩ | ⟨⟨hd, hd1⟩, hd2, hd3⟩
      · go_wp2
        refine bodyPost_ret (v := .agg #[.bool f, .slice Ao m co]) (by simp [results, Tryd.results21, go_sem, rR, fR]) rfl ⟨_, rfl, ?_, below_set (below_set hb (by have := HS.out.1; show _ ≤ s; omega)) (by have := HS.out.1; show _ ≤ s; omega)⟩
        have e : tokR raw = List.foldl (fun l x => insT l (rawP x)) [] (List.take i raw) := by
          unfold tokR
          rw [HE.out]
        rw [e]
        have ho := HO.out
        rw [hm] at ho
        exact Kd.R_mono (Kd.R_lower (Kd.R_far (p := ⟨s, 1, none⟩) (Kd.R_far (p := ⟨s, 0, none⟩) (Kd.R_bound ho) (fun k hk => by have := hk.2.1; show k ≠ s; omega) _) (fun k hk => by have := hk.2.1; show k ≠ s; omega) _) (by have := HS.out.1; omega)) (fun _ _ => trivial)
      · go_wp2
        refine bodyPost_ret (v := .agg #[.bool f, .slice Ao m co]) (by simp [results, Tryd.results21, go_sem, rR, fR]) rfl ⟨_, rfl, ?_, below_set (below_set hb (by have := HS.out.1; show _ ≤ s; omega)) (by have := HS.out.1; show _ ≤ s; omega)⟩
        have e : tokR raw = List.foldl (fun l x => insT l (rawP x)) [] (List.take i raw) := by
          unfold tokR
          rw [HE.out]
        rw [e]
        have ho := HO.out
        rw [hm] at ho
        exact Kd.R_mono (Kd.R_lower (Kd.R_far (p := ⟨s, 1, none⟩) (Kd.R_far (p := ⟨s, 0, none⟩) (Kd.R_bound ho) (fun k hk => by have := hk.2.1; show k ≠ s; omega) _) (fun k hk => by have := hk.2.1; show k ≠ s; omega) _) (by have := HS.out.1; omega)) (fun _ _ => trivial)
end Go.Proofs.YtdepmbnoecpccaaDoor


/- Raw tokens are right (chapter 5), in plain Lean. -/
namespace Go.Proofs.YtdepmbnoecpccaaDoor
open Go.RowKit Go.Proofs.YtdepmbnoecpccaaDoorW.PrintWords Go.Proofs.YtdepmbnoecpccaaDoorW.PrintLast Go.Proofs.YtdepmbnoecpccaaDoorW.PrintMore
open Go.Proofs.YtdepmbnoecpccaaDoor.PQ

abbrev ndP (l : List Pr) : Prop := l.Pairwise (fun a b => ltP b a = false)
theorem nd_trans {a b c : Pr} (h1 : ltP b a = false) (h2 : ltP c b = false) : ltP c a = false := by
  rw [← Bool.not_eq_true, ltP_iff] at *
  omega
theorem nd_of_lt {a b : Pr} (h : ltP a b = true) : ltP b a = false := ltP_asymm h
theorem sortB_nd {l : List Pr} (h : ndP l) : sortB l = true := sortB_iff.2 fun j hj => by
  rw [rdP_eq (l := l) (i := j) (by omega), rdP_eq (l := l) (i := j + 1) hj]
  exact List.pairwise_iff_getElem.1 h j (j + 1) (by omega) hj (by omega)
theorem posT_max (l : List Pr) (p : Pr) : ∀ (k : Nat), k ≤ l.length → ∀ j : Nat, posT l p k ≤ j → j < k → ltP p (rdP l (j : Int)) = true
  | 0, _, j, _, h => absurd h (by omega)
  | k + 1, hk, j, h1, h2 => by
    unfold posT at h1
    split at h1
    · rename_i hn
      rcases Nat.lt_or_ge j k with hj | hj
      · exact posT_max l p k (by omega) j h1 hj
      · obtain rfl : j = k := by omega
        exact hn
    · omega
theorem posT_min (l : List Pr) (p : Pr) : ∀ (k : Nat), posT l p k = 0 ∨ ∃ j : Nat, j + 1 = posT l p k ∧ ltP p (rdP l (j : Int)) = false
  | 0 => Or.inl rfl
  | k + 1 => by
    unfold posT
    split
    · exact posT_min l p k
    · rename_i h
      exact Or.inr ⟨k, rfl, by simpa using h⟩
theorem mem_insT (l : List Pr) (p x : Pr) : x ∈ insT l p ↔ x = p ∨ x ∈ l := by
  unfold insT
  rw [List.mem_append, List.mem_cons]
  conv => rhs; rw [← List.take_append_drop (posT l p l.length) l, List.mem_append]
  constructor
  · rintro (h | h | h)
    · exact Or.inr (Or.inl h)
    · exact Or.inl h
    · exact Or.inr (Or.inr h)
  · rintro (h | h | h)
    · exact Or.inr (Or.inl h)
    · exact Or.inl h
    · exact Or.inr (Or.inr h)
theorem insT_nd (l : List Pr) (p : Pr) (h : ndP l) : ndP (insT l p) := by
  have hle := posT_le l p l.length
  obtain ⟨q, hq⟩ : ∃ q, posT l p l.length = q := ⟨_, rfl⟩
  have hlt : ∀ j : Nat, ∀ hj : j < l.length, j < q → ltP p l[j] = false := fun j hj hjq => by
    rcases posT_min l p l.length with h0 | ⟨i, h1, h2⟩
    · omega
    · rw [rdP_eq (l := l) (i := i) (by omega)] at h2
      rcases Nat.lt_or_ge j i with hji | hji
      · exact nd_trans (List.pairwise_iff_getElem.1 h j i hj (by omega) hji) h2
      · obtain rfl : j = i := by omega
        exact h2
  have hgt : ∀ j : Nat, ∀ hj : j < l.length, q ≤ j → ltP l[j] p = false := fun j hj hjq => by
    have h1 := posT_max l p l.length (Nat.le_refl _) j (by omega) hj
    rw [rdP_eq (l := l) (i := j) hj] at h1
    exact nd_of_lt h1
  unfold insT
  rw [hq] at hle ⊢
  refine List.pairwise_append.2 ⟨h.sublist (List.take_sublist _ _), List.pairwise_cons.2 ⟨fun y hy => ?_, h.sublist (List.drop_sublist _ _)⟩, fun x hx y hy => ?_⟩
  · obtain ⟨j, hj, rfl⟩ := List.getElem_of_mem hy
    rw [List.length_drop] at hj
    rw [List.getElem_drop]
    exact hgt (q + j) (by omega) (by omega)
  · obtain ⟨i, hi, rfl⟩ := List.getElem_of_mem hx
    rw [List.length_take] at hi
    rw [List.getElem_take]
    rcases List.mem_cons.1 hy with rfl | hy
    · exact hlt i (by omega) (by omega)
    · obtain ⟨j, hj, rfl⟩ := List.getElem_of_mem hy
      rw [List.length_drop] at hj
      rw [List.getElem_drop]
      exact nd_trans (hlt i (by omega) (by omega)) (hgt (q + j) (by omega) (by omega))
theorem fold_nd : ∀ (xs : List Int) (l : List Pr), ndP l → ndP (xs.foldl (fun l x => insT l (rawP x)) l)
  | [], _, h => h
  | x :: r, l, h => fold_nd r _ (insT_nd l _ h)
theorem fold_bd : ∀ (xs : List Int) (l : List Pr), (∀ p ∈ l, (0 ≤ p.f0 ∧ p.f0 < 12) ∧ (0 ≤ p.f1 ∧ p.f1 < 3)) → ∀ p ∈ xs.foldl (fun l x => insT l (rawP x)) l, (0 ≤ p.f0 ∧ p.f0 < 12) ∧ (0 ≤ p.f1 ∧ p.f1 < 3)
  | [], _, h => h
  | x :: r, l, h => fold_bd r _ fun p hp => by
    rcases (mem_insT l _ p).1 hp with rfl | hp
    · exact ⟨pickZ_lt x 12 (by omega), pickZ_lt (x.tdiv 16) 3 (by omega)⟩
    · exact h p hp
theorem tokR_bd (raw : List Int) : ∀ p ∈ tokR raw, (0 ≤ p.f0 ∧ p.f0 < 12) ∧ (0 ≤ p.f1 ∧ p.f1 < 3) := fold_bd _ _ (fun p hp => by cases hp)
theorem tokR_30 (raw : List Int) : (tokR raw).length ≤ 30 := by
  have h := tokR_len raw (raw.take 30) []
  unfold tokR
  rw [h, List.length_take]
  simp
  omega
theorem tokR_right (raw : List Int) : rightT (tokR raw) = true := by
  have h := tokR_30 raw
  unfold rightT
  rw [Bool.and_eq_true, decide_eq_true_iff]
  exact ⟨by omega, sortB_nd (fold_nd _ _ List.Pairwise.nil)⟩
/-- With a pair that is behind all others put ahead of them it is right no more. -/
theorem wrong_right (p : Pr) (l : List Pr) (h0 : l.length ≠ 0) (h : ∀ q ∈ l, ltP q p = true) : rightT (p :: l) = false := by
  unfold rightT
  rw [Bool.and_eq_false_iff]
  right
  rw [← Bool.not_eq_true]
  intro hs
  have h1 := sortB_iff.1 hs 0 (by rw [List.length_cons]; omega)
  rw [rdP_eq (l := p :: l) (i := 0 + 1) (by rw [List.length_cons]; omega), rdP_eq (l := p :: l) (i := 0) (by rw [List.length_cons]; omega)] at h1
  simp only [List.getElem_cons_zero, List.getElem_cons_succ, Nat.zero_add] at h1
  rw [h _ (List.getElem_mem (by omega))] at h1
  cases h1
end Go.Proofs.YtdepmbnoecpccaaDoor


/- The statements' own first calls of chapter 10 answer true. -/
namespace Go.Proofs.YtdepmbnoecpccaaDoor
open Go.RowKit Go.Proofs.YtdepmbnoecpccaaDoorW.PrintWords Go.Proofs.YtdepmbnoecpccaaDoorW.PrintLast Go.Proofs.YtdepmbnoecpccaaDoorW.PrintMore

def c0 : ChainV := ⟨3, 2, 2, 3, 1, 0, 1, 0, 2, 0⟩
theorem mem_one (e k p : Int) (h1 : cntF c0 k = 1) (h2 : fromK c0 k = p) : memF c0 e k = [p] := by
  unfold memF memPart
  rw [h1, h2]
  simp [show c0.ro.toNat = 0 from rfl, place_zero]
theorem am1 (w : World) (hG : DutyLaid w) : Calls Tryd.prog 12 #[.agg #[.int .i64 3, .int .i64 2, .int .i64 2, .int .i64 3, .int .i64 1, .int .i64 0, .int .i64 1, .int .i64 0, .int .i64 2, .int .u64 0], .int .i64 0, .int .i64 0] w fun e w' =>
    ∃ A cap, e = .returned (.tuple #[.slice A 0 cap, .int .i64 0]) ∧ Below w.heap.size w w' := by
  refine (Members_yes c0 0 0 w (by decide) (by decide) hG).mono fun e w' hh => ?_
  obtain ⟨v, he, hR, hb⟩ := hh
  obtain ⟨A, c, rfl⟩ := Kd.R_slice hR
  have hl : (memF c0 (0 / c0.sl) (commF c0 0 0)).length = 0 := by
    unfold memF
    rw [memPart_len]
    decide
  rw [hl] at he
  exact ⟨A, c, he, hb⟩
theorem am2 (w : World) (hG : DutyLaid w) : Calls Tryd.prog 12 #[.agg #[.int .i64 3, .int .i64 2, .int .i64 2, .int .i64 3, .int .i64 1, .int .i64 0, .int .i64 1, .int .i64 0, .int .i64 2, .int .u64 0], .int .i64 0, .int .i64 1] w fun e w' =>
    ∃ A cap, e = .returned (.tuple #[.slice A 1 cap, .int .i64 0]) ∧ (Kd.int .i64).C w' A 1 [0] ∧ Below w.heap.size w w' := by
  refine (Members_yes c0 0 1 w (by decide) (by decide) hG).mono fun e w' hh => ?_
  obtain ⟨v, he, hR, hb⟩ := hh
  rw [mem_one (0 / c0.sl) (commF c0 0 1) 0 (by decide) (by decide)] at hR
  obtain ⟨A, c, rfl, _, hC⟩ := Kd.R_reads hR
  exact ⟨A, c, he, hC, hb⟩
theorem am3 (w : World) (hG : DutyLaid w) : Calls Tryd.prog 12 #[.agg #[.int .i64 3, .int .i64 2, .int .i64 2, .int .i64 3, .int .i64 1, .int .i64 0, .int .i64 1, .int .i64 0, .int .i64 2, .int .u64 0], .int .i64 5, .int .i64 1] w fun e w' =>
    ∃ A cap, e = .returned (.tuple #[.slice A 1 cap, .int .i64 0]) ∧ (Kd.int .i64).C w' A 1 [2] ∧ Below w.heap.size w w' := by
  refine (Members_yes c0 5 1 w (by decide) (by decide) hG).mono fun e w' hh => ?_
  obtain ⟨v, he, hR, hb⟩ := hh
  rw [mem_one (5 / c0.sl) (commF c0 5 1) 2 (by decide) (by decide)] at hR
  obtain ⟨A, c, rfl, _, hC⟩ := Kd.R_reads hR
  exact ⟨A, c, he, hC, hb⟩
theorem am4 (w : World) (hG : DutyLaid w) : Calls Tryd.prog 16 #[.agg #[.int .i64 3, .int .i64 2, .int .i64 2, .int .i64 3, .int .i64 1, .int .i64 0, .int .i64 1, .int .i64 0, .int .i64 2, .int .u64 0], .int .i64 2, .int .i64 2] w fun e w' =>
    e = .returned (.tuple #[.int .i64 5, .int .i64 1, .int .i64 0, .int .i64 0]) ∧ Below w.heap.size w w' := by
  have h := Where_yes c0 2 2 w (by decide) (by decide) hG
  have e1 : placeOf c0 2 2 = 2 := by
    unfold placeOf
    rw [show c0.ro.toNat = 0 from rfl, back_zero]
  have e2 : whichOf c0 2 2 = 3 := by
    unfold whichOf
    rw [e1]
    decide
  rw [e1, e2] at h
  exact h
theorem am5 (w : World) (hG : DutyLaid w) : Calls Tryd.prog 12 #[.agg #[.int .i64 3, .int .i64 2, .int .i64 2, .int .i64 3, .int .i64 1, .int .i64 0, .int .i64 1, .int .i64 0, .int .i64 2, .int .u64 0], .int .i64 0, .int .i64 2] w fun e w' =>
    e = .returned (.tuple #[.slice none 0 0, .int .i64 1]) ∧ Below w.heap.size w w' := Members_no c0 0 2 w (by decide) hG
theorem am6 (w : World) (hG : DutyLaid w) : Calls Tryd.prog 16 #[.agg #[.int .i64 3, .int .i64 2, .int .i64 2, .int .i64 3, .int .i64 1, .int .i64 0, .int .i64 1, .int .i64 0, .int .i64 2, .int .u64 0], .int .i64 0, .int .i64 3] w fun e w' =>
    e = .returned (.tuple #[.int .i64 0, .int .i64 0, .int .i64 0, .int .i64 1]) ∧ Below w.heap.size w w' := Where_no c0 0 3 w (by decide) hG
theorem am7 (w : World) (hG : DutyLaid w) : Calls Tryd.prog 14 #[.agg #[.int .i64 3, .int .i64 2, .int .i64 2, .int .i64 3, .int .i64 1, .int .i64 0, .int .i64 1, .int .i64 0, .int .i64 2, .int .u64 0], .int .i64 5, .int .i64 1] w fun e w' =>
    e = .returned (.tuple #[.int .i64 0, .int .i64 0]) ∧ Below w.heap.size w w' := by
  have h := Subnet_yes c0 5 1 w (by decide) hG
  have e : commF c0 5 1 % c0.su = 0 := by decide
  rw [e] at h
  exact h
theorem am8 (w : World) (hG : DutyLaid w) : Calls Tryd.prog 22 #[.agg #[.int .i64 3, .int .i64 2, .int .i64 2, .int .i64 3, .int .i64 1, .int .i64 0, .int .i64 1, .int .i64 0, .int .i64 2, .int .u64 0], .int .i64 1, .agg #[.bool false, .slice none 0 0]] w fun e w' =>
    e = .returned (.bool true) ∧ Below w.heap.size w w' := Selected_one c0 w (by decide) (by decide) hG
theorem am9 (w : World) (hG : DutyLaid w) : Calls Tryd.prog 22 #[.agg #[.int .i64 3, .int .i64 2, .int .i64 2, .int .i64 3, .int .i64 1, .int .i64 0, .int .i64 1, .int .i64 0, .int .i64 2, .int .u64 0], .int .i64 0, .agg #[.bool false, .slice none 0 0]] w fun e w' =>
    e = .returned (.bool false) ∧ Below w.heap.size w w' := Selected_zero c0 w (by decide) hG
theorem am10 (w : World) (hG : DutyLaid w) : Calls Tryd.prog 19 #[.int .i64 0] w fun e w' => e = .returned (.int .u64 (foldF [0])) ∧ Below w.heap.size w w' := SlotRoot_calls 0 w (by decide) hG
theorem am11 (w : World) : Calls Tryd.prog 20 #[.int .i64 0] w fun e w' => e = .returned (.int .u64 (foldF [0])) ∧ Below w.heap.size w w' := rSlotRoot_calls 0 w (by decide)
theorem am12 (A : Option Addr) (cap : Nat) (p : Int) (b : Nat) (T : TypeId) (w : World) (h : (Kd.int .i64).C w A 1 [p]) (hb : Box w b #[.int .i64 p] T) : Calls Tryd.prog 18 #[.slice A 1 cap, .slice (some ⟨b, 0, none⟩) 1 1] w fun e w' => e = .returned (.bool true) ∧ Below w.heap.size w w' := by
  have := Ints_calls A _ 1 1 cap 1 [p] [p] w h (C_box .i64 w b T [p] (by simp) hb)
  rw [decide_eq_true rfl] at this
  exact this

set_option maxRecDepth 100000 in
set_option maxHeartbeats 4000000 in
theorem dawake_calls (w : World) (hG : DutyLaid w) : Calls Tryd.prog 9 #[] w fun e w' => e = .returned (.bool true) ∧ Below w.heap.size w w' := by
  have HB := Aside0.mk (Below.refl w.heap.size w)
  have HG := Aside0.mk hG
  clear hG
  go_enter Tryd.func9, Tryd.ntmps9
  go_wp2_with fail
  refine (am1 _ ?hG).mono ?_
  case hG => exact HG.out.below (by repeat (first | exact HB.out | apply below_alloc | apply pw_below_drewN | apply below_drew1 | refine below_set ?_ (by first | omega | (simp; omega))))
  rintro e w1 ⟨A1, p1, rfl, hb_⟩
  have Y1 : Box w1 (w.heap.size) _ _ := Box.below (by repeat (with_reducible first | exact X1.out | exact Box.new | exact Box.new1 | exact Box.new2 | exact Box.new3 | apply Box.alloc | apply Box.drew | apply Box.drewN | apply Box.set)) hb_
  (try clear X1 r1 k1 f1); have X1 := Aside0.mk Y1; have r1 := Y1.cell; have f1 := Y1.frozen; have k1 := Y1.lt; clear Y1
  have n_ := Aside0.mk (below_step (by repeat (first | exact HB.out | apply below_alloc | apply pw_below_drewN | apply below_drew1 | refine below_set ?_ (by first | omega | (simp; omega)))) hb_); clear HB hb_; have HB := n_; clear n_
  go_wp2_with fail
  refine (am2 _ ?hG).mono ?_
  case hG => exact HG.out.below (by repeat (first | exact HB.out | apply below_alloc | apply pw_below_drewN | apply below_drew1 | refine below_set ?_ (by first | omega | (simp; omega))))
  rintro e w2 ⟨A2, p2, rfl, hc2, hb_⟩
  have Y1 : Box w2 (w.heap.size) _ _ := Box.below (by repeat (with_reducible first | exact X1.out | exact Box.new | exact Box.new1 | exact Box.new2 | exact Box.new3 | apply Box.alloc | apply Box.drew | apply Box.drewN | apply Box.set)) hb_
  (try clear X1 r1 k1 f1); have X1 := Aside0.mk Y1; have r1 := Y1.cell; have f1 := Y1.frozen; have k1 := Y1.lt; clear Y1
  have n_ := Aside0.mk (below_step (by repeat (first | exact HB.out | apply below_alloc | apply pw_below_drewN | apply below_drew1 | refine below_set ?_ (by first | omega | (simp; omega)))) hb_); clear HB hb_; have HB := n_; clear n_
  have C2 := Aside0.mk hc2
  clear hc2
  go_wp2_with fail
  refine (am3 _ ?hG).mono ?_
  case hG => exact HG.out.below (by repeat (first | exact HB.out | apply below_alloc | apply pw_below_drewN | apply below_drew1 | refine below_set ?_ (by first | omega | (simp; omega))))
  rintro e w3 ⟨A3, p3, rfl, hc3, hb_⟩
  have Y1 : Box w3 (w.heap.size) _ _ := Box.below (by repeat (with_reducible first | exact X1.out | exact Box.new | exact Box.new1 | exact Box.new2 | exact Box.new3 | apply Box.alloc | apply Box.drew | apply Box.drewN | apply Box.set)) hb_
  (try clear X1 r1 k1 f1); have X1 := Aside0.mk Y1; have r1 := Y1.cell; have f1 := Y1.frozen; have k1 := Y1.lt; clear Y1
  have ZC2 := Aside0.mk (Kd.C_below (by repeat (with_reducible first | exact C2.out | apply C_alloc | apply C_drew)) hb_); clear C2; have C2 := ZC2; clear ZC2
  have n_ := Aside0.mk (below_step (by repeat (first | exact HB.out | apply below_alloc | apply pw_below_drewN | apply below_drew1 | refine below_set ?_ (by first | omega | (simp; omega)))) hb_); clear HB hb_; have HB := n_; clear n_
  have C3 := Aside0.mk hc3
  clear hc3
  go_wp2_with fail
  refine (am4 _ ?hG).mono ?_
  case hG => exact HG.out.below (by repeat (first | exact HB.out | apply below_alloc | apply pw_below_drewN | apply below_drew1 | refine below_set ?_ (by first | omega | (simp; omega))))
  rintro e w4 ⟨rfl, hb_⟩
  have Y1 : Box w4 (w.heap.size) _ _ := Box.below (by repeat (with_reducible first | exact X1.out | exact Box.new | exact Box.new1 | exact Box.new2 | exact Box.new3 | apply Box.alloc | apply Box.drew | apply Box.drewN | apply Box.set)) hb_
  (try clear X1 r1 k1 f1); have X1 := Aside0.mk Y1; have r1 := Y1.cell; have f1 := Y1.frozen; have k1 := Y1.lt; clear Y1
  have ZC2 := Aside0.mk (Kd.C_below (by repeat (with_reducible first | exact C2.out | apply C_alloc | apply C_drew)) hb_); clear C2; have C2 := ZC2; clear ZC2
  have ZC3 := Aside0.mk (Kd.C_below (by repeat (with_reducible first | exact C3.out | apply C_alloc | apply C_drew)) hb_); clear C3; have C3 := ZC3; clear ZC3
  have n_ := Aside0.mk (below_step (by repeat (first | exact HB.out | apply below_alloc | apply pw_below_drewN | apply below_drew1 | refine below_set ?_ (by first | omega | (simp; omega)))) hb_); clear HB hb_; have HB := n_; clear n_
  go_wp2_with fail
  refine (am5 _ ?hG).mono ?_
  case hG => exact HG.out.below (by repeat (first | exact HB.out | apply below_alloc | apply pw_below_drewN | apply below_drew1 | refine below_set ?_ (by first | omega | (simp; omega))))
  rintro e w5 ⟨rfl, hb_⟩
  have Y1 : Box w5 (w.heap.size) _ _ := Box.below (by repeat (with_reducible first | exact X1.out | exact Box.new | exact Box.new1 | exact Box.new2 | exact Box.new3 | apply Box.alloc | apply Box.drew | apply Box.drewN | apply Box.set)) hb_
  (try clear X1 r1 k1 f1); have X1 := Aside0.mk Y1; have r1 := Y1.cell; have f1 := Y1.frozen; have k1 := Y1.lt; clear Y1
  have ZC2 := Aside0.mk (Kd.C_below (by repeat (with_reducible first | exact C2.out | apply C_alloc | apply C_drew)) hb_); clear C2; have C2 := ZC2; clear ZC2
  have ZC3 := Aside0.mk (Kd.C_below (by repeat (with_reducible first | exact C3.out | apply C_alloc | apply C_drew)) hb_); clear C3; have C3 := ZC3; clear ZC3
  have n_ := Aside0.mk (below_step (by repeat (first | exact HB.out | apply below_alloc | apply pw_below_drewN | apply below_drew1 | refine below_set ?_ (by first | omega | (simp; omega)))) hb_); clear HB hb_; have HB := n_; clear n_
  go_wp2_with fail
  refine (am6 _ ?hG).mono ?_
  case hG => exact HG.out.below (by repeat (first | exact HB.out | apply below_alloc | apply pw_below_drewN | apply below_drew1 | refine below_set ?_ (by first | omega | (simp; omega))))
  rintro e w6 ⟨rfl, hb_⟩
  have Y1 : Box w6 (w.heap.size) _ _ := Box.below (by repeat (with_reducible first | exact X1.out | exact Box.new | exact Box.new1 | exact Box.new2 | exact Box.new3 | apply Box.alloc | apply Box.drew | apply Box.drewN | apply Box.set)) hb_
  (try clear X1 r1 k1 f1); have X1 := Aside0.mk Y1; have r1 := Y1.cell; have f1 := Y1.frozen; have k1 := Y1.lt; clear Y1
  have ZC2 := Aside0.mk (Kd.C_below (by repeat (with_reducible first | exact C2.out | apply C_alloc | apply C_drew)) hb_); clear C2; have C2 := ZC2; clear ZC2
  have ZC3 := Aside0.mk (Kd.C_below (by repeat (with_reducible first | exact C3.out | apply C_alloc | apply C_drew)) hb_); clear C3; have C3 := ZC3; clear ZC3
  have n_ := Aside0.mk (below_step (by repeat (first | exact HB.out | apply below_alloc | apply pw_below_drewN | apply below_drew1 | refine below_set ?_ (by first | omega | (simp; omega)))) hb_); clear HB hb_; have HB := n_; clear n_
  go_wp2_with fail
  refine (am7 _ ?hG).mono ?_
  case hG => exact HG.out.below (by repeat (first | exact HB.out | apply below_alloc | apply pw_below_drewN | apply below_drew1 | refine below_set ?_ (by first | omega | (simp; omega))))
  rintro e w7 ⟨rfl, hb_⟩
  have Y1 : Box w7 (w.heap.size) _ _ := Box.below (by repeat (with_reducible first | exact X1.out | exact Box.new | exact Box.new1 | exact Box.new2 | exact Box.new3 | apply Box.alloc | apply Box.drew | apply Box.drewN | apply Box.set)) hb_
  (try clear X1 r1 k1 f1); have X1 := Aside0.mk Y1; have r1 := Y1.cell; have f1 := Y1.frozen; have k1 := Y1.lt; clear Y1
  have ZC2 := Aside0.mk (Kd.C_below (by repeat (with_reducible first | exact C2.out | apply C_alloc | apply C_drew)) hb_); clear C2; have C2 := ZC2; clear ZC2
  have ZC3 := Aside0.mk (Kd.C_below (by repeat (with_reducible first | exact C3.out | apply C_alloc | apply C_drew)) hb_); clear C3; have C3 := ZC3; clear ZC3
  have n_ := Aside0.mk (below_step (by repeat (first | exact HB.out | apply below_alloc | apply pw_below_drewN | apply below_drew1 | refine below_set ?_ (by first | omega | (simp; omega)))) hb_); clear HB hb_; have HB := n_; clear n_
  go_wp2_with fail
  refine (am12 A2 p2 0 _ 3 _ ?hc ?hb).mono ?_
  (case hc => exact C_alloc C2.out); (case hb => exact Box.new)
  rintro e w8 ⟨rfl, hb_⟩
  have Y1 : Box w8 (w.heap.size) _ _ := Box.below (by repeat (with_reducible first | exact X1.out | exact Box.new | exact Box.new1 | exact Box.new2 | exact Box.new3 | apply Box.alloc | apply Box.drew | apply Box.drewN | apply Box.set)) hb_
  (try clear X1 r1 k1 f1); have X1 := Aside0.mk Y1; have r1 := Y1.cell; have f1 := Y1.frozen; have k1 := Y1.lt; clear Y1
  have ZC3 := Aside0.mk (Kd.C_below (by repeat (with_reducible first | exact C3.out | apply C_alloc | apply C_drew)) hb_); clear C3; have C3 := ZC3; clear ZC3
  have n_ := Aside0.mk (below_step (by repeat (first | exact HB.out | apply below_alloc | apply pw_below_drewN | apply below_drew1 | refine below_set ?_ (by first | omega | (simp; omega)))) hb_); clear HB hb_; have HB := n_; clear n_
  go_wp2_with fail
  refine (am12 A3 p3 2 _ 3 _ ?hc ?hb).mono ?_
  (case hc => exact C_alloc C3.out); (case hb => exact Box.new)
  rintro e w9 ⟨rfl, hb_⟩
  have Y1 : Box w9 (w.heap.size) _ _ := Box.below (by repeat (with_reducible first | exact X1.out | exact Box.new | exact Box.new1 | exact Box.new2 | exact Box.new3 | apply Box.alloc | apply Box.drew | apply Box.drewN | apply Box.set)) hb_
  (try clear X1 r1 k1 f1); have X1 := Aside0.mk Y1; have r1 := Y1.cell; have f1 := Y1.frozen; have k1 := Y1.lt; clear Y1
  have n_ := Aside0.mk (below_step (by repeat (first | exact HB.out | apply below_alloc | apply pw_below_drewN | apply below_drew1 | refine below_set ?_ (by first | omega | (simp; omega)))) hb_); clear HB hb_; have HB := n_; clear n_
  go_wp2_with fail
  refine (am8 _ ?hG).mono ?_
  case hG => exact HG.out.below (by repeat (first | exact HB.out | apply below_alloc | apply pw_below_drewN | apply below_drew1 | refine below_set ?_ (by first | omega | (simp; omega))))
  rintro e w10 ⟨rfl, hb_⟩
  have Y1 : Box w10 (w.heap.size) _ _ := Box.below (by repeat (with_reducible first | exact X1.out | exact Box.new | exact Box.new1 | exact Box.new2 | exact Box.new3 | apply Box.alloc | apply Box.drew | apply Box.drewN | apply Box.set)) hb_
  (try clear X1 r1 k1 f1); have X1 := Aside0.mk Y1; have r1 := Y1.cell; have f1 := Y1.frozen; have k1 := Y1.lt; clear Y1
  have n_ := Aside0.mk (below_step (by repeat (first | exact HB.out | apply below_alloc | apply pw_below_drewN | apply below_drew1 | refine below_set ?_ (by first | omega | (simp; omega)))) hb_); clear HB hb_; have HB := n_; clear n_
  go_wp2_with fail
  refine (am9 _ ?hG).mono ?_
  case hG => exact HG.out.below (by repeat (first | exact HB.out | apply below_alloc | apply pw_below_drewN | apply below_drew1 | refine below_set ?_ (by first | omega | (simp; omega))))
  rintro e w11 ⟨rfl, hb_⟩
  have Y1 : Box w11 (w.heap.size) _ _ := Box.below (by repeat (with_reducible first | exact X1.out | exact Box.new | exact Box.new1 | exact Box.new2 | exact Box.new3 | apply Box.alloc | apply Box.drew | apply Box.drewN | apply Box.set)) hb_
  (try clear X1 r1 k1 f1); have X1 := Aside0.mk Y1; have r1 := Y1.cell; have f1 := Y1.frozen; have k1 := Y1.lt; clear Y1
  have n_ := Aside0.mk (below_step (by repeat (first | exact HB.out | apply below_alloc | apply pw_below_drewN | apply below_drew1 | refine below_set ?_ (by first | omega | (simp; omega)))) hb_); clear HB hb_; have HB := n_; clear n_
  go_wp2_with fail
  refine (am10 _ ?hG).mono ?_
  case hG => exact HG.out.below (by repeat (first | exact HB.out | apply below_alloc | apply pw_below_drewN | apply below_drew1 | refine below_set ?_ (by first | omega | (simp; omega))))
  rintro e w12 ⟨rfl, hb_⟩
  have n_ := Aside0.mk (below_step (by repeat (first | exact HB.out | apply below_alloc | apply pw_below_drewN | apply below_drew1 | refine below_set ?_ (by first | omega | (simp; omega)))) hb_); clear HB hb_; have HB := n_; clear n_
  go_wp2_with fail
  refine (am11 _).mono ?_
  rintro e w13 ⟨rfl, hb_⟩
  have n_ := Aside0.mk (below_step (by repeat (first | exact HB.out | apply below_alloc | apply pw_below_drewN | apply below_drew1 | refine below_set ?_ (by first | omega | (simp; omega)))) hb_); clear HB hb_; have HB := n_; clear n_
  go_wp2
  go_ret
  exact ⟨rfl, HB.out⟩
set_option maxHeartbeats 400000 in
theorem pick10_calls (c n : Int) (w : World) (hc0 : -9223372036854775808 ≤ c) (hc1 : c ≤ 9223372036854775807) (hn : 1 ≤ n) (hn1 : n ≤ 9223372036854775807) :
    Calls Tryd.prog 11 #[.int .i64 c, .int .i64 n] w fun e w' => e = .returned (.int .i64 (pickF c n)) ∧ w = w' := by
  unfold pickF
  have hb : -9223372036854775808 ≤ (if c < 0 then -(c + 1) else c) % n ∧ (if c < 0 then -(c + 1) else c) % n ≤ 9223372036854775807 := by
    have := pickF_bd c n hn
    unfold pickF at this
    omega
  by_cases h : c < 0
  · rw [if_pos h] at hb ⊢
    go_enter Tryd.func11, Tryd.ntmps11
    go_wp2
    go_ret
    exact ⟨by first | rfl | exact ret_int (by rw [← Int.neg_tmod, Int.tmod_eq_emod_of_nonneg (by omega)]), rfl⟩
  · rw [if_neg h] at hb ⊢
    go_enter Tryd.func11, Tryd.ntmps11
    go_wp2
    go_ret
    exact ⟨by first | rfl | exact ret_int (by rw [Int.tmod_eq_emod_of_nonneg (by omega)]), rfl⟩
end Go.Proofs.YtdepmbnoecpccaaDoor


/- DutySelected (chapter 10): what its code does. -/
namespace Go.Proofs.YtdepmbnoecpccaaDoor
open Go.RowKit Go.Proofs.YtdepmbnoecpccaaDoorW.PrintWords Go.Proofs.YtdepmbnoecpccaaDoorW.PrintLast Go.Proofs.YtdepmbnoecpccaaDoorW.PrintMore

open Go.Proofs.YtdepmbnoecpccaaDoor.PQ Go.Proofs.YtdepmbnoecpccaaDoorW.PrintLast

theorem selF_true (c : ChainV) (s : Int) (f : Bool) (l : List Pr) (hf : fitsC c = true) (h1 : 1 ≤ s) (hr : rightT l = true) (h2 : s / c.ag < 2) (h0 : 0 ≤ s / c.ag) : selF c s f l = true := by
  unfold selF byF
  rw [hf, decide_eq_true h1, hr, Bool.true_and, Bool.true_and, Bool.true_and, decide_eq_true_iff]
  have : (if s / c.ag < 1 then 1 else s / c.ag) = 1 := by split <;> omega
  rw [this, Int.emod_one]
theorem selF_same (c d : ChainV) (s z : Int) (f : Bool) (l : List Pr) (hf : fitsC c = true) (hd : fitsC d = true) (h1 : 1 ≤ s) (h2 : 1 ≤ z) (h : byF c s = byF d z) : selF c s f l = selF d z f l := by
  unfold selF
  rw [hf, hd, decide_eq_true h1, decide_eq_true h2, h]
theorem selF_no (c : ChainV) (s : Int) (f : Bool) (l : List Pr) (h : fitsC c = false ∨ s < 1 ∨ rightT l = false) : selF c s f l = false := by
  unfold selF
  rcases h with h | h | h
  · rw [h, Bool.false_and]
  · rw [decide_eq_false (by omega : ¬ 1 ≤ s), Bool.false_and, Bool.and_false]
  · rw [h, Bool.false_and, Bool.and_false, Bool.and_false]
theorem lTokenS (A : Option Addr) (n c : Nat) (raw : List Int) (f : Bool) (l : List Pr) (w : World) (hA : (Kd.int .i64).C w A n raw) (hc : n ≤ c) (hi : ∀ x ∈ raw, In64 x) (h : tokR raw = l) : Calls Tryd.prog 21 #[.slice A n c, .bool f] w
    fun r w' => ∃ T k, r = .returned (.agg #[.bool f, .slice T l.length k]) ∧ l.length ≤ k ∧ kP.C w' T l.length l ∧ Below w.heap.size w w' := by
  subst h
  refine (lToken A n c raw f w hA hc hi).mono fun r w' hh => ?_
  obtain ⟨v, rfl, hR, hb⟩ := hh
  obtain ⟨T, k, rfl⟩ := Kd.R_slice hR
  exact ⟨T, k, rfl, (Kd.R_reads' hR).2.1, (Kd.R_reads' hR).2.2, hb⟩
def dC (c : ChainV) : ChainV := ⟨c.va, 1 + c.sl % 32, c.co, c.su, c.ti, c.di, c.ra, c.ro, c.ag, 77⟩
def zC : ChainV := ⟨0, 0, 0, 0, 0, 0, 0, 0, 0, 0⟩
theorem dC_fits (c : ChainV) (h : fitsC c = true) : fitsC (dC c) = true := by
  rw [fitsC_iff] at *
  obtain ⟨h1, h2, h3, h4, h5, h6, h7, h8, h9⟩ := h
  exact ⟨h1, by show 1 ≤ 1 + c.sl % 32 ∧ 1 + c.sl % 32 ≤ 32; omega, h3, h4, h5, h6, h7, h8, h9⟩
theorem SelD (c : ChainV) (size : Int) (f : Bool) (A : Option Addr) (n cap : Nat) (l : List Pr) (r : Bool) (w : World) (hA : kP.C w A n l) (hc : n ≤ cap) (hp : ∀ p ∈ l, 0 ≤ p.f0 ∧ 0 ≤ p.f1) (hsz : -9223372036854775808 ≤ size ∧ size ≤ 9223372036854775807) (h : selF (dC c) size f l = r) (hG : DutyLaid w) :
    Calls Tryd.prog 22 #[.agg #[.int .i64 c.va, .int .i64 (1 + c.sl % 32), .int .i64 c.co, .int .i64 c.su, .int .i64 c.ti, .int .i64 c.di, .int .i64 c.ra, .int .i64 c.ro, .int .i64 c.ag, .int .u64 77], .int .i64 size, .agg #[.bool f, .slice A n cap]] w fun e w' => e = .returned (.bool r) ∧ Below w.heap.size w w' := Selected_calls (dC c) size f A n cap l r w hA hc hp hsz h hG
theorem SelZ (size : Int) (f : Bool) (A : Option Addr) (n cap : Nat) (l : List Pr) (w : World) (hA : kP.C w A n l) (hc : n ≤ cap) (hp : ∀ p ∈ l, 0 ≤ p.f0 ∧ 0 ≤ p.f1) (hsz : -9223372036854775808 ≤ size ∧ size ≤ 9223372036854775807) (hG : DutyLaid w) :
    Calls Tryd.prog 22 #[.agg #[.int .i64 0, .int .i64 0, .int .i64 0, .int .i64 0, .int .i64 0, .int .i64 0, .int .i64 0, .int .i64 0, .int .i64 0, .int .u64 0], .int .i64 size, .agg #[.bool f, .slice A n cap]] w fun e w' => e = .returned (.bool false) ∧ Below w.heap.size w w' := Selected_calls zC size f A n cap l false w hA hc hp hsz (selF_no zC size f l (Or.inl (by decide))) hG
theorem wl_R {e base : Nat} {w : World} {v : Value} {l : List Pr} (h : kP.R e w base (fun _ => True) v (([] ++ [⟨99, 0⟩]) ++ l)) : kP.R e w base (fun _ => True) v (⟨99, 0⟩ :: l) := h
attribute [local go_sem] max2_int min2_int max_two min_two
set_option maxRecDepth 100000 in
set_option maxHeartbeats 8000000 in
theorem sel_calls (n : Six) (p : Int) (hp : i64ok p) (A : Option Addr) (m cap : Nat) (raw : List Int) (f : Bool) (w : World) (hA : (Kd.int .i64).C w A m raw) (hc : m ≤ cap) (hi : ∀ x ∈ raw, In64 x) (hG : DutyLaid w) :
    Calls Tryd.prog 7 #[.agg #[.int .i64 n.a, .int .i64 n.b, .int .i64 n.c, .int .i64 n.d, .int .i64 n.e, .int .i64 n.f], .int .i64 p, .slice A m cap, .bool f] w fun e w' =>
    e = .returned (.bool true) ∧ Below w.heap.size w w' := by
  obtain ⟨hp0, hp1⟩ := hp
  have HB := Aside0.mk (Below.refl w.heap.size w)
  have HG := Aside0.mk hG
  have HA := Aside0.mk hA
  have HI := Aside0.mk hi
  clear hG hA hi
  have HN := Aside0.mk (chainF_fits n 0)
  go_enter Tryd.func7, Tryd.ntmps7
  go_wp2_with fail
  refine (dawake_calls _ ?hG).mono ?_
  case hG => exact HG.out.below (by repeat (first | exact HB.out | apply below_alloc | apply pw_below_drewN | apply below_drew1 | refine below_set ?_ (by first | omega | (simp; omega))))
  rintro e w1 ⟨rfl, hb_⟩
  have YN : Box w1 (w.heap.size) _ _ := Box.below (by repeat (with_reducible first | exact XN.out | exact Box.new | exact Box.new1 | exact Box.new2 | exact Box.new3 | apply Box.alloc | apply Box.drew | apply Box.drewN | apply Box.set)) hb_
  (try clear XN rN kN fN); have XN := Aside0.mk YN; have rN := YN.cell; have fN := YN.frozen; have kN := YN.lt; clear YN
  have ZHA := Aside0.mk (Kd.C_below (by repeat (with_reducible first | exact HA.out | apply C_alloc | apply C_drew)) hb_); clear HA; have HA := ZHA; clear ZHA
  have n_ := Aside0.mk (below_step (by repeat (first | exact HB.out | apply below_alloc | apply pw_below_drewN | apply below_drew1 | refine below_set ?_ (by first | omega | (simp; omega)))) hb_); clear HB hb_; have HB := n_; clear n_
  go_wp2_with fail
  refine (Chain_calls n 0 _).mono ?_
  rintro e w2 ⟨rfl, hb_⟩
  have ZHA := Aside0.mk (Kd.C_below (by repeat (with_reducible first | exact HA.out | apply C_alloc | apply C_drew)) hb_); clear HA; have HA := ZHA; clear ZHA
  have n_ := Aside0.mk (below_step (by repeat (first | exact HB.out | apply below_alloc | apply pw_below_drewN | apply below_drew1 | refine below_set ?_ (by first | omega | (simp; omega)))) hb_); clear HB hb_; have HB := n_; clear n_
  generalize chainF n 0 = c at *
  obtain ⟨h1, h2, h3, h4, h5, h6, h7, h8, h9⟩ := (fitsC_iff c).1 HN.out
  obtain ⟨l, hl⟩ : ∃ l, tokR raw = l := ⟨_, rfl⟩
  have HL := Aside0.mk hl
  have HLR := Aside0.mk (show rightT l = true by rw [← hl]; exact tokR_right raw)
  have HLB := Aside0.mk (show ∀ p ∈ l, (0 ≤ p.f0 ∧ p.f0 < 12) ∧ (0 ≤ p.f1 ∧ p.f1 < 3) by rw [← hl]; exact tokR_bd raw)
  have hl30 : l.length ≤ 30 := by rw [← hl]; exact tokR_30 raw
  clear hl
  go_wp2_with fail
  refine (lTokenS A m cap raw f l _ (C_alloc HA.out) hc HI.out HL.out).mono ?_
  rintro e w3 ⟨T, kt, rfl, hkt, hT, hb_⟩
  have YC : Box w3 (w2.heap.size) _ _ := Box.below (by repeat (with_reducible first | exact XC.out | exact Box.new | exact Box.new1 | exact Box.new2 | exact Box.new3 | apply Box.alloc | apply Box.drew | apply Box.drewN | apply Box.set)) hb_
  (try clear XC rC kC fC); have XC := Aside0.mk YC; have rC := YC.cell; have fC := YC.frozen; have kC := YC.lt; clear YC
  have n_ := Aside0.mk (below_step (by repeat (first | exact HB.out | apply below_alloc | apply pw_below_drewN | apply below_drew1 | refine below_set ?_ (by first | omega | (simp; omega)))) hb_); clear HB hb_; have HB := n_; clear n_
  have HTC := Aside0.mk hT
  clear hT HA HL HI
  have pe := pickF_bd p 200 (by omega)
  obtain ⟨cb, hcb⟩ : ∃ b, w2.heap.size = b := ⟨_, rfl⟩
  obtain ⟨tb, htb⟩ : ∃ b, w3.heap.size = b := ⟨_, rfl⟩
  go_upto_region 5 with (go_at_call 11; ((with_reducible refine (pick10_calls _ _ _ (by omega) (by omega) (by omega) (by omega)).mono ?_)); rintro e w_ ⟨rfl, rfl⟩)
  generalize pickF p 200 = pz at *
  obtain ⟨s, hs⟩ : ∃ s, 1 + pz = s := ⟨_, rfl⟩
  rw [hs]
  generalize hW : World.alloc _ _ = W at *
  have XCW := Aside0.mk (show Box W cb #[.int .i64 c.va, .int .i64 c.sl, .int .i64 c.co, .int .i64 c.su, .int .i64 c.ti, .int .i64 c.di, .int .i64 c.ra, .int .i64 c.ro, .int .i64 c.ag, .int .u64 c.se] 24 by rw [← hW, ← hcb]; exact Box.alloc XC.out)
  have XTW := Aside0.mk (show Box W tb #[.bool f, .slice T l.length kt] 28 by rw [← hW, ← htb]; exact Box.new)
  have HTW := Aside0.mk (show kP.C W T l.length l by rw [← hW]; exact C_alloc HTC.out)
  have HBW := Aside0.mk (show Below w.heap.size w W by rw [← hW]; exact below_alloc HB.out _)
  clear hW XC rC fC kC HTC HB hcb htb hp0 hp1
  have hs0 : 1 ≤ s ∧ s ≤ 200 := by omega
  have HPN := Aside0.mk (show ∀ p ∈ l, 0 ≤ p.f0 ∧ 0 ≤ p.f1 from fun p hp => ⟨(HLB.out p hp).1.1, (HLB.out p hp).2.1⟩)
  clear hs pe
  go_cut [36] (fun v36 wc => v36 = .bool false ∧ Box wc cb #[.int .i64 c.va, .int .i64 c.sl, .int .i64 c.co, .int .i64 c.su, .int .i64 c.ti, .int .i64 c.di, .int .i64 c.ra, .int .i64 c.ro, .int .i64 c.ag, .int .u64 c.se] 24 ∧ Box wc tb #[.bool f, .slice T l.length kt] 28 ∧ kP.C wc T l.length l ∧ Below w.heap.size w wc)
  case first =>
    have XC := XCW
    have XT := XTW
    have HB := HBW
    clear XCW XTW HBW
    have rC := XC.out.cell
    have rT := XT.out.cell
    have kC := XC.out.lt
    have kT := XT.out.lt
    have fC := XC.out.frozen
    have fT := XT.out.frozen
    by_cases hlt : s < 2 * c.ag
    · have hd : decide (s < 2 * c.ag) = true := decide_eq_true hlt
      have HSE := Aside0.mk (show selF c s f l = true from selF_true c s f l HN.out (by omega) HLR.out (Int.ediv_lt_of_lt_mul (by omega) hlt) (Int.ediv_nonneg (by omega) (by omega)))
      go_wp2_with fail
      refine (Selected_calls c s f T l.length kt l true _ HTW.out hkt HPN.out (by omega) HSE.out ?hG).mono ?_
      case hG => exact HG.out.below (by repeat (first | exact HB.out | apply below_alloc | apply pw_below_drewN | apply below_drew1 | refine below_set ?_ (by first | omega | (simp; omega))))
      rintro e w6 ⟨rfl, hb_⟩
      have YC : Box w6 (cb) _ _ := Box.below (by repeat (with_reducible first | exact XC.out | exact Box.new | exact Box.new1 | exact Box.new2 | exact Box.new3 | apply Box.alloc | apply Box.drew | apply Box.drewN | apply Box.set)) hb_
      (try clear XC rC kC fC); have XC := Aside0.mk YC; have rC := YC.cell; have fC := YC.frozen; have kC := YC.lt; clear YC
      have YT : Box w6 (tb) _ _ := Box.below (by repeat (with_reducible first | exact XT.out | exact Box.new | exact Box.new1 | exact Box.new2 | exact Box.new3 | apply Box.alloc | apply Box.drew | apply Box.drewN | apply Box.set)) hb_
      (try clear XT rT kT fT); have XT := Aside0.mk YT; have rT := YT.cell; have fT := YT.frozen; have kT := YT.lt; clear YT
      have ZHTW := Aside0.mk (Kd.C_below (by repeat (with_reducible first | exact HTW.out | apply C_alloc | apply C_drew)) hb_); clear HTW; have HTW := ZHTW; clear ZHTW
      have n_ := Aside0.mk (below_step (by repeat (first | exact HB.out | apply below_alloc | apply pw_below_drewN | apply below_drew1 | refine below_set ?_ (by first | omega | (simp; omega)))) hb_); clear HB hb_; have HB := n_; clear n_
      go_wp2
      go_meet
      case rel => exact ⟨rfl, XC.out, XT.out, HTW.out, HB.out⟩
    · have hd : decide (s < 2 * c.ag) = false := decide_eq_false hlt
      go_wp2
      go_meet
      case rel => exact ⟨rfl, XC.out, XT.out, HTW.out, HB.out⟩
  case rest =>
    obtain ⟨rfl, bC, bT, hT, hb⟩ := hcut
    clear XCW XTW HTW HBW
    have XC := Aside0.mk bC
    have XT := Aside0.mk bT
    have HTC := Aside0.mk hT
    have HB := Aside0.mk hb
    have rC := bC.cell
    have rT := bT.cell
    have kC := bC.lt
    have kT := bT.lt
    have fC := bC.frozen
    have fT := bT.frozen
    clear bC bT hT hb
    obtain ⟨q, hq⟩ : ∃ q, s / c.ag = q := ⟨_, rfl⟩
    have hq0 : s.tdiv c.ag = q := by rw [Int.tdiv_eq_ediv_of_nonneg (by omega), hq]
    have hq1 : 0 ≤ q := by rw [← hq]; exact Int.ediv_nonneg (by omega) (by omega)
    have hq2 : q ≤ 200 := by
      rw [← hq]
      exact Int.le_trans (Int.ediv_le_self _ (by omega)) hs0.2
    have HQ := Aside0.mk hq
    have hsl : c.sl.tmod 32 = c.sl % 32 := Int.tmod_eq_emod_of_nonneg (by omega)
    clear hq
    go_upto_region 12 with (fail)
    obtain ⟨db, hdb⟩ : ∃ b, wc.heap.size = b := ⟨_, rfl⟩
    have hcd : c.sl % 32 = c.sl % 32 := rfl
    generalize hV : World.alloc (World.alloc _ _) _ = V at *
    have XD := Aside0.mk (show Box V db #[.int .i64 c.va, .int .i64 (1 + c.sl % 32), .int .i64 c.co, .int .i64 c.su, .int .i64 c.ti, .int .i64 c.di, .int .i64 c.ra, .int .i64 c.ro, .int .i64 c.ag, .int .u64 77] 24 by rw [← hV, ← hdb]; exact Box.alloc Box.new)
    have XX := Aside0.mk (show Box V (db + 1) #[.bool f, .slice T l.length kt] 28 by rw [← hV, ← hdb]; exact Box.new1)
    have hVb : Below wc.heap.size wc V := by rw [← hV]; exact below_alloc (below_alloc (Below.refl _ _) _) _
    have HVB := Aside0.mk hVb
    have HTV := Aside0.mk (Kd.C_below HTC.out hVb)
    have XTV := Aside0.mk (XT.out.below hVb)
    have XCV := Aside0.mk (XC.out.below hVb)
    have HDB := Aside0.mk hdb
    (try rw [hdb])
    clear hV hVb rC kC fC rT kT fT hcd hdb
    have rT := XTV.out.cell
    have kT := XTV.out.lt
    refine wp_region_last_drew (S := (fun w' => Below V.heap.size V w' ∧ (∀ j, w'.cell? ⟨tb, j, none⟩ = (#[.bool f, .slice T l.length kt] : Array Value)[j]?))) (ds := [7]) (by kernel_rfl) ?hS3x0 (fun hHeld => ?hR3x0)
    case hS3x0 => ((try dsimp only); (first | exact ⟨below_drew1 (Below.refl _ _), rT⟩ | exact ⟨below_drew1 b0_, rT⟩ | exact ⟨j0, jT⟩ | exact ⟨below_alloc j0 _, fun j => (cell_alloc_old (Nat.lt_of_lt_of_le kT j0.size)).trans (jT j)⟩ | exact ⟨below_alloc (below_drew1 (Below.refl _ _)) _, fun j => (cell_alloc_old kT).trans (rT j)⟩ | assumption))
    refine wpAnyLast_take (i := 0) (oi := ⟨some 49, _, _, _, _, _⟩) (v := ?_) rfl (by kernel_rfl) (by kernel_rfl) (by kernel_rfl) (by kernel_rfl) (by kernel_rfl) (fun _ _ _ h => h) (Or.inl ⟨by rfl, ?hY3x2⟩) (by assumption) ?hR3x2
    case hY3x2 => (intro w hSw; (try dsimp only at hSw); go_simp; try with_reducible rfl)
    (try simp only [Act.put, qa_, qb_, qc_])
    refine wpAnyLast_take (i := 3) (oi := ⟨some 52, _, _, _, _, _⟩) (v := ?_) rfl (by kernel_rfl) (by kernel_rfl) (by kernel_rfl) (by kernel_rfl) (by kernel_rfl) (fun _ _ _ h => h) (Or.inl ⟨by rfl, ?hY3x3⟩) (by assumption) ?hR3x3
    case hY3x3 => (intro w hSw; (try dsimp only at hSw); go_simp; try with_reducible rfl)
    (try simp only [Act.put, qa_, qb_, qc_])
    refine wpAnyLast_take (i := 4) (oi := ⟨some 53, _, _, _, _, _⟩) (v := ?_) rfl (by kernel_rfl) (by kernel_rfl) (by kernel_rfl) (by kernel_rfl) (by kernel_rfl) (fun _ _ _ h => h) (Or.inl ⟨by rfl, ?hY3x4⟩) (by assumption) ?hR3x4
    case hY3x4 => (intro w hSw; (try dsimp only at hSw); go_simp; try with_reducible rfl)
    (try simp only [Act.put, qa_, qb_, qc_])
    refine wpAnyLast_ready (rs := [1]) (by kernel_rfl) (by simp) ?_
    refine AllReadyL.cons (o := ⟨some 50, _, _, _, _, _⟩) rfl (by decide) (fun K hK => ?hT3x5) ?hM3x5
    case hM3x5 => exact AllReadyL.nil
    go_simp
    (try go_wp2_with fail)
    refine hK.out _ _ ?hS3x5 (fun hHeld => ?hR3x5)
    case hS3x5 => ((try dsimp only); (first | exact ⟨below_drew1 (Below.refl _ _), rT⟩ | exact ⟨below_drew1 b0_, rT⟩ | exact ⟨j0, jT⟩ | exact ⟨below_alloc j0 _, fun j => (cell_alloc_old (Nat.lt_of_lt_of_le kT j0.size)).trans (jT j)⟩ | exact ⟨below_alloc (below_drew1 (Below.refl _ _)) _, fun j => (cell_alloc_old kT).trans (rT j)⟩ | assumption))
    clear hK K
    (try simp only [Act.put, qa_, qb_, qc_])
    refine wpAnyLast_ready (rs := [2]) (by kernel_rfl) (by simp) ?_
    refine AllReadyL.cons (o := ⟨some 51, _, _, _, _, _⟩) rfl (by decide) (fun K hK => ?hT3x6) ?hM3x6
    case hM3x6 => exact AllReadyL.nil
    (obtain ⟨g0, gT⟩ := ‹Below V.heap.size V _ ∧ _›; refine Kd.R_append_rows_step (kP) (w0 := V) V.heap.size (by rfl) (.const (.slice none 0 0)) (.tmp 50) 26 53 (.agg #[.int .u64 0, .int .u64 0]) 16 rfl Tryd.underlying26 info53 rfl (by decide) (by omega) (.slice none 0 0) ([]) ([⟨99, 0⟩]) _ _ _ (fun _ => True) (fun _ => False) rfl rfl (Kd.R_nil _ _ _ _ _) (by first | exact C_oneP Box.new | exact C_oneP (Box.drew Box.new)) (fun x cs h => kP_of_K x cs h) (fun _ hk => hk.elim) (fun _ _ => trivial) g0 g0.size (by first | omega | (simp; done) | (simp; omega)) ?_; (intro v2 w2 ho_ hb_ hg_ hat_; have HO2 := Aside0.mk ho_; clear ho_ hg_ hat_; have j0 := hb_; have jT := fun j => (j0.cell (p := ⟨tb, j, none⟩) kT).trans (rT j)))
    refine hK.out _ _ ?hS3x6 (fun hHeld => ?hR3x6)
    case hS3x6 => ((try dsimp only); (first | exact ⟨below_drew1 (Below.refl _ _), rT⟩ | exact ⟨below_drew1 b0_, rT⟩ | exact ⟨j0, jT⟩ | exact ⟨below_alloc j0 _, fun j => (cell_alloc_old (Nat.lt_of_lt_of_le kT j0.size)).trans (jT j)⟩ | exact ⟨below_alloc (below_drew1 (Below.refl _ _)) _, fun j => (cell_alloc_old kT).trans (rT j)⟩ | assumption))
    clear hK K
    (try simp only [Act.put, qa_, qb_, qc_])
    refine wpAnyLast_ready (rs := [5]) (by kernel_rfl) (by simp) ?_
    refine AllReadyL.cons (o := ⟨some 54, _, _, _, _, _⟩) rfl (by decide) (fun K hK => ?hT3x7) ?hM3x7
    case hM3x7 => exact AllReadyL.nil
    (obtain ⟨g0, gT⟩ := ‹Below V.heap.size V _ ∧ _›; refine Kd.R_append_rows_step (kP) (w0 := V) V.heap.size (by rfl) (.tmp 51) (.tmp 53) 26 53 (.agg #[.int .u64 0, .int .u64 0]) 16 rfl Tryd.underlying26 info53 rfl (by decide) (by omega) (v2) ([] ++ [⟨99, 0⟩]) (l) _ _ _ (fun _ => True) (fun _ => False) rfl rfl ((by (with_reducible repeat (first | apply Kd.R_alloc | apply Kd.R_drewN | apply Kd.R_drew)); exact HO2.out)) (Kd.C_below HTV.out g0) (fun x cs h => kP_of_K x cs h) (fun _ hk => hk.elim) (fun _ _ => trivial) g0 g0.size (by first | omega | (simp; done) | (simp; omega)) ?_; (intro v5 w5 ho_ hb_ hg_ hat_; have HO5 := Aside0.mk ho_; clear ho_ hg_ hat_; have j0 := hb_; have jT := fun j => (j0.cell (p := ⟨tb, j, none⟩) kT).trans (rT j); have HO9 := Aside0.mk (wl_R HO5.out); obtain ⟨A5, c5, rfl⟩ := Kd.R_slice HO9.out; have fX5 := (XX.out.below j0).frozen; have rX5 := (XX.out.below j0).cell))
    refine hK.out _ _ ?hS3x7 (fun hHeld => ?hR3x7)
    case hS3x7 => ((try dsimp only); (first | exact ⟨below_drew1 (Below.refl _ _), rT⟩ | exact ⟨below_drew1 b0_, rT⟩ | exact ⟨j0, jT⟩ | exact ⟨below_alloc j0 _, fun j => (cell_alloc_old (Nat.lt_of_lt_of_le kT j0.size)).trans (jT j)⟩ | exact ⟨below_alloc (below_drew1 (Below.refl _ _)) _, fun j => (cell_alloc_old kT).trans (rT j)⟩ | assumption))
    clear hK K
    (try simp only [Act.put, qa_, qb_, qc_])
    refine wpAnyLast_take (i := 6) (oi := ⟨some 55, _, _, _, _, _⟩) (v := ?_) rfl (by kernel_rfl) (by kernel_rfl) (by kernel_rfl) (by kernel_rfl) (by kernel_rfl) (fun _ _ _ h => h) (Or.inl ⟨by rfl, ?hY3x8⟩) (by assumption) ?hR3x8
    case hY3x8 => (intro w hSw; (try dsimp only at hSw); go_simp; try with_reducible rfl)
    (try simp only [Act.put, qa_, qb_, qc_])
    refine wpAnyLast_ready (rs := [7]) (by kernel_rfl) (by simp) ?_
    refine AllReadyL.cons_last (o := ⟨none, _, _, _, _, _⟩) rfl (by decide) (fun K hK => ?hT3x9) ?hM3x9
    case hM3x9 => exact AllReadyL.nil
    go_simp
    (try go_wp2_with fail)
    refine hK.out _ _ ?hR3x9
    clear hK K
    (try simp only [Act.put, qa_, qb_, qc_])
    refine wpAnyLast_done (by kernel_rfl) ?_ _
    have hdv : db + 1 < V.heap.size := XX.out.lt
    have HC9 := Aside0.mk (Kd.R_reads' (Kd.R_far (p := ⟨db + 1, 1, none⟩) (Kd.R_bound HO9.out) (fun k hk => by have := hk.2.1; show k ≠ db + 1; omega) (.slice A5 (⟨99, 0⟩ :: l : List Pr).length c5)))
    have HBW5 := Aside0.mk (below_set (j := 1) (v := .slice A5 (⟨99, 0⟩ :: l : List Pr).length c5) (below_step HVB.out j0) (show wc.heap.size ≤ db + 1 by have := HDB.out; omega))
    have bX5 := Box.put (j := 1) (v := .slice A5 (⟨99, 0⟩ :: l : List Pr).length c5) (XX.out.below j0)
    have bD5 := (XD.out.below j0).far (p := ⟨db + 1, 1, none⟩) (u := .slice A5 (⟨99, 0⟩ :: l : List Pr).length c5) (by simp)
    simp only [List.length_cons] at HC9 HBW5 bX5 bD5
    generalize hW5 : World.setCell _ _ _ = W5 at *
    have XX5 := Aside0.mk (show Box W5 (db + 1) #[.bool f, .slice A5 (l.length + 1) c5] 28 by simpa using bX5)
    have XD5 := Aside0.mk bD5
    have XC5 := Aside0.mk (XC.out.below HBW5.out)
    have XT5 := Aside0.mk (XT.out.below HBW5.out)
    have HTW5 := Aside0.mk (Kd.C_below HTC.out HBW5.out)
    have HB5 := Aside0.mk (below_step HB.out HBW5.out)
    have HGW := Aside0.mk (HG.out.below HB5.out)
    have HWL := Aside0.mk HC9.out.2.2
    have hc5 : l.length + 1 ≤ c5 := HC9.out.2.1
    clear hW5 bX5 bD5 HC9 XX XD XC XT HTC HB XTV XCV HTV HVB HO2 HO5 HO9 fX5 rX5 j0 jT rT kT HDB hdv HBW5
    have HPW := Aside0.mk (show ∀ p ∈ (⟨99, 0⟩ :: l : List Pr), 0 ≤ p.f0 ∧ 0 ≤ p.f1 by
      intro p hp
      rcases List.mem_cons.1 hp with rfl | hp
      · exact ⟨by show (0 : Int) ≤ 99; omega, by show (0 : Int) ≤ 0; omega⟩
      · exact HPN.out p hp)
    obtain ⟨mq, hmq⟩ : ∃ m : Int, (if q < 1 then 1 else q) = m := ⟨_, rfl⟩
    have hm1 : 1 ≤ mq ∧ mq ≤ 200 := by rw [← hmq]; split <;> omega
    obtain ⟨P, hP⟩ : ∃ P, mq * c.ag = P := ⟨_, rfl⟩
    have hP1 : 1 ≤ P ∧ P ≤ 200 * 16 := by
      rw [← hP]
      have h := mul_bd (show 0 ≤ mq by omega) hm1.2 (show 0 ≤ c.ag by omega) h8.2
      have h2 : mq * 1 ≤ mq * c.ag := Int.mul_le_mul_of_nonneg_left h8.1 (by omega)
      omega
    obtain ⟨r1, hr1⟩ : ∃ r, selF c s f l = r := ⟨_, rfl⟩
    have HR1 := Aside0.mk hr1
    have HR2 := Aside0.mk (show selF (dC c) P f l = r1 by
      rw [← hr1]
      refine (selF_same c (dC c) s P f l HN.out (dC_fits c HN.out) (by omega) (by omega) ?_).symm
      unfold byF
      show (if s / c.ag < 1 then 1 else s / c.ag) = if P / c.ag < 1 then 1 else P / c.ag
      rw [HQ.out, hmq, ← hP, Int.mul_ediv_cancel _ (by omega), if_neg (by omega)])
    have HR4 := Aside0.mk (selF_no c (-s) f l (Or.inr (Or.inl (by omega))))
    clear hr1
    have rC := XC5.out.cell
    have rT := XT5.out.cell
    have rD := XD5.out.cell
    have rX := XX5.out.cell
    have kC := XC5.out.lt
    have kT := XT5.out.lt
    have kD := XD5.out.lt
    have kX := XX5.out.lt
    have hrr : (r1 == r1) = true := by cases r1 <;> rfl
    by_cases hle : l.length = 0
    · have hlz : ((l.length : Int) == 0) = true := by rw [beq_iff_eq]; omega
      clear hle
      have hwP : IntKind.i64.wrap P = P := by rw [IntKind.wrap_i64]; omega
      have hwS : IntKind.i64.wrap (-s) = -s := by rw [IntKind.wrap_i64]; omega
      go_upto_region 13 with (fail)
      refine wp_region_held_drew (S := (fun w' => Below W5.heap.size W5 w' ∧ (∀ j, w'.cell? ⟨cb, j, none⟩ = (#[.int .i64 c.va, .int .i64 c.sl, .int .i64 c.co, .int .i64 c.su, .int .i64 c.ti, .int .i64 c.di, .int .i64 c.ra, .int .i64 c.ro, .int .i64 c.ag, .int .u64 c.se] : Array Value)[j]?) ∧ (∀ j, w'.cell? ⟨tb, j, none⟩ = (#[.bool f, .slice T l.length kt] : Array Value)[j]?) ∧ (∀ j, w'.cell? ⟨db, j, none⟩ = (#[.int .i64 c.va, .int .i64 (1 + c.sl % 32), .int .i64 c.co, .int .i64 c.su, .int .i64 c.ti, .int .i64 c.di, .int .i64 c.ra, .int .i64 c.ro, .int .i64 c.ag, .int .u64 77] : Array Value)[j]?) ∧ (∀ j, w'.cell? ⟨db + 1, j, none⟩ = (#[.bool f, .slice A5 (l.length + 1) c5] : Array Value)[j]?))) (by kernel_rfl) ?hS1x0 (fun hHeld => ?hR1x0)
      case hS1x0 => ((try dsimp only); (first | exact ⟨below_drew1 (Below.refl _ _), rC, rT, rD, rX⟩ | exact ⟨below_drew1 b0_, rC, rT, rD, rX⟩ | exact ⟨j0, jC, jT, jD, jX⟩ | exact ⟨below_alloc j0 _, fun j => (cell_alloc_old (Nat.lt_of_lt_of_le kC j0.size)).trans (jC j), fun j => (cell_alloc_old (Nat.lt_of_lt_of_le kT j0.size)).trans (jT j), fun j => (cell_alloc_old (Nat.lt_of_lt_of_le kD j0.size)).trans (jD j), fun j => (cell_alloc_old (Nat.lt_of_lt_of_le kX j0.size)).trans (jX j)⟩ | exact ⟨below_alloc (below_drew1 (Below.refl _ _)) _, fun j => (cell_alloc_old kC).trans (rC j), fun j => (cell_alloc_old kT).trans (rT j), fun j => (cell_alloc_old kD).trans (rD j), fun j => (cell_alloc_old kX).trans (rX j)⟩ | assumption))
      refine wpAnyH_take (i := 0) (oi := ⟨some 56, _, _, _, _, _⟩) (v := ?_) rfl (by kernel_rfl) (by kernel_rfl) (by kernel_rfl) (fun _ _ _ h => h) (Or.inl ⟨by rfl, ?hY1x2⟩) (by assumption) ?hR1x2
      case hY1x2 => (intro w hSw; (try dsimp only at hSw); go_simp; try with_reducible rfl)
      (try simp only [Act.put, qa_, qb_, qc_])
      refine wpAnyH_take (i := 1) (oi := ⟨some 57, _, _, _, _, _⟩) (v := ?_) rfl (by kernel_rfl) (by kernel_rfl) (by kernel_rfl) (fun _ _ _ h => h) (Or.inl ⟨by rfl, ?hY1x3⟩) (by assumption) ?hR1x3
      case hY1x3 => (intro w hSw; (try dsimp only at hSw); go_simp; try with_reducible rfl)
      (try simp only [Act.put, qa_, qb_, qc_])
      refine wpAnyH_take (i := 2) (oi := ⟨some 58, _, _, _, _, _⟩) (v := ?_) rfl (by kernel_rfl) (by kernel_rfl) (by kernel_rfl) (fun _ _ _ h => h) (Or.inl ⟨by rfl, ?hY1x4⟩) (by assumption) ?hR1x4
      case hY1x4 => (intro w hSw; (try dsimp only at hSw); go_simp; try with_reducible rfl)
      (try simp only [Act.put, qa_, qb_, qc_])
      refine wpAnyH_take (i := 3) (oi := ⟨some 59, _, _, _, _, _⟩) (v := ?_) rfl (by kernel_rfl) (by kernel_rfl) (by kernel_rfl) (fun _ _ _ h => h) (Or.inl ⟨by rfl, ?hY1x5⟩) (by assumption) ?hR1x5
      case hY1x5 => (intro w hSw; (try dsimp only at hSw); go_simp; try with_reducible rfl)
      (try simp only [Act.put, qa_, qb_, qc_])
      refine wpAnyH_take (i := 4) (oi := ⟨some 60, _, _, _, _, _⟩) (v := ?_) rfl (by kernel_rfl) (by kernel_rfl) (by kernel_rfl) (fun _ _ _ h => h) (Or.inl ⟨by rfl, ?hY1x6⟩) (by assumption) ?hR1x6
      case hY1x6 => (intro w hSw; (try dsimp only at hSw); go_simp; try with_reducible rfl)
      (try simp only [Act.put, qa_, qb_, qc_])
      refine wpAnyH_take (i := 6) (oi := ⟨some 62, _, _, _, _, _⟩) (v := ?_) rfl (by kernel_rfl) (by kernel_rfl) (by kernel_rfl) (fun _ _ _ h => h) (Or.inl ⟨by rfl, ?hY1x7⟩) (by assumption) ?hR1x7
      case hY1x7 => (intro w hSw; (try dsimp only at hSw); go_simp; try with_reducible rfl)
      (try simp only [Act.put, qa_, qb_, qc_])
      refine wpAnyH_take (i := 7) (oi := ⟨some 63, _, _, _, _, _⟩) (v := ?_) rfl (by kernel_rfl) (by kernel_rfl) (by kernel_rfl) (fun _ _ _ h => h) (Or.inl ⟨by rfl, ?hY1x8⟩) (by assumption) ?hR1x8
      case hY1x8 => (intro w hSw; (try dsimp only at hSw); go_simp; try with_reducible rfl)
      (try simp only [Act.put, qa_, qb_, qc_])
      refine wpAnyH_take (i := 8) (oi := ⟨some 64, _, _, _, _, _⟩) (v := ?_) rfl (by kernel_rfl) (by kernel_rfl) (by kernel_rfl) (fun _ _ _ h => h) (Or.inl ⟨by rfl, ?hY1x9⟩) (by assumption) ?hR1x9
      case hY1x9 => (intro w hSw; (try dsimp only at hSw); go_simp; try with_reducible rfl)
      (try simp only [Act.put, qa_, qb_, qc_])
      refine wpAnyH_take (i := 9) (oi := ⟨some 65, _, _, _, _, _⟩) (v := ?_) rfl (by kernel_rfl) (by kernel_rfl) (by kernel_rfl) (fun _ _ _ h => h) (Or.inl ⟨by rfl, ?hY1x10⟩) (by assumption) ?hR1x10
      case hY1x10 => (intro w hSw; (try dsimp only at hSw); go_simp; try with_reducible rfl)
      (try simp only [Act.put, qa_, qb_, qc_])
      refine wpAnyH_take (i := 10) (oi := ⟨some 66, _, _, _, _, _⟩) (v := ?_) rfl (by kernel_rfl) (by kernel_rfl) (by kernel_rfl) (fun _ _ _ h => h) (Or.inl ⟨by rfl, ?hY1x11⟩) (by assumption) ?hR1x11
      case hY1x11 => (intro w hSw; (try dsimp only at hSw); go_simp; try with_reducible rfl)
      (try simp only [Act.put, qa_, qb_, qc_])
      refine wpAnyH_take (i := 11) (oi := ⟨some 67, _, _, _, _, _⟩) (v := ?_) rfl (by kernel_rfl) (by kernel_rfl) (by kernel_rfl) (fun _ _ _ h => h) (Or.inl ⟨by rfl, ?hY1x12⟩) (by assumption) ?hR1x12
      case hY1x12 => (intro w hSw; (try dsimp only at hSw); go_simp; try with_reducible rfl)
      (try simp only [Act.put, qa_, qb_, qc_])
      refine wpAnyH_take (i := 12) (oi := ⟨some 68, _, _, _, _, _⟩) (v := ?_) rfl (by kernel_rfl) (by kernel_rfl) (by kernel_rfl) (fun _ _ _ h => h) (Or.inl ⟨by rfl, ?hY1x13⟩) (by assumption) ?hR1x13
      case hY1x13 => (intro w hSw; (try dsimp only at hSw); go_simp; try with_reducible rfl)
      (try simp only [Act.put, qa_, qb_, qc_])
      refine wpAnyH_ready (rs := [5]) (by kernel_rfl) (by simp) ?_
      refine AllReadyH.cons (o := ⟨some 61, _, _, _, _, _⟩) rfl (fun K hK => ?hT1x14) ?hM1x14
      case hM1x14 => exact AllReadyH.nil
      go_simp
      (first | (go_at_call 22; obtain ⟨g0, gC, gT, gD, gX⟩ := ‹Below W5.heap.size W5 _ ∧ _›; ((with_reducible refine (Selected_calls c s f T l.length kt l r1 _ (Kd.C_below HTW5.out g0) hkt HPN.out (by omega) HR1.out (HGW.out.below g0)).mono ?_));  rintro e w5 ⟨rfl, hb_⟩; have j0 := below_step g0 hb_; have s5 := j0.size; have jC := fun j => (j0.cell (p := ⟨cb, j, none⟩) kC).trans (rC j); have jT := fun j => (j0.cell (p := ⟨tb, j, none⟩) kT).trans (rT j); have jD := fun j => (j0.cell (p := ⟨db, j, none⟩) kD).trans (rD j); have jX := fun j => (j0.cell (p := ⟨db + 1, j, none⟩) kX).trans (rX j)) | (go_at_call 22; obtain ⟨g0, gC, gT, gD, gX⟩ := ‹Below W5.heap.size W5 _ ∧ _›; ((with_reducible refine (SelD c P f T l.length kt l r1 _ (Kd.C_below HTW5.out g0) hkt HPN.out (by omega) HR2.out (HGW.out.below g0)).mono ?_));  rintro e w13 ⟨rfl, hb_⟩; have j0 := below_step g0 hb_; have s13 := j0.size; have jC := fun j => (j0.cell (p := ⟨cb, j, none⟩) kC).trans (rC j); have jT := fun j => (j0.cell (p := ⟨tb, j, none⟩) kT).trans (rT j); have jD := fun j => (j0.cell (p := ⟨db, j, none⟩) kD).trans (rD j); have jX := fun j => (j0.cell (p := ⟨db + 1, j, none⟩) kX).trans (rX j)) | (go_at_call 22; obtain ⟨g0, gC, gT, gD, gX⟩ := ‹Below W5.heap.size W5 _ ∧ _›; ((with_reducible refine (Selected_calls c (-s) f T l.length kt l false _ (Kd.C_below HTW5.out g0) hkt HPN.out (by omega) HR4.out (HGW.out.below g0)).mono ?_));  rintro e w34 ⟨rfl, hb_⟩; have j0 := below_step g0 hb_; have s34 := j0.size; have jC := fun j => (j0.cell (p := ⟨cb, j, none⟩) kC).trans (rC j); have jT := fun j => (j0.cell (p := ⟨tb, j, none⟩) kT).trans (rT j); have jD := fun j => (j0.cell (p := ⟨db, j, none⟩) kD).trans (rD j); have jX := fun j => (j0.cell (p := ⟨db + 1, j, none⟩) kX).trans (rX j)) | (go_at_call 22; obtain ⟨g0, gC, gT, gD, gX⟩ := ‹Below W5.heap.size W5 _ ∧ _›; ((with_reducible refine (SelZ s f T l.length kt l _ (Kd.C_below HTW5.out g0) hkt HPN.out (by omega) (HGW.out.below g0)).mono ?_));  rintro e w41 ⟨rfl, hb_⟩; have j0 := below_step g0 hb_; have s41 := j0.size; have jC := fun j => (j0.cell (p := ⟨cb, j, none⟩) kC).trans (rC j); have jT := fun j => (j0.cell (p := ⟨tb, j, none⟩) kT).trans (rT j); have jD := fun j => (j0.cell (p := ⟨db, j, none⟩) kD).trans (rD j); have jX := fun j => (j0.cell (p := ⟨db + 1, j, none⟩) kX).trans (rX j)))
      (try go_wp2_with fail)
      refine hK.out _ _ ?hS1x14 (fun hHeld => ?hR1x14)
      case hS1x14 => ((try dsimp only); (first | exact ⟨below_drew1 (Below.refl _ _), rC, rT, rD, rX⟩ | exact ⟨below_drew1 b0_, rC, rT, rD, rX⟩ | exact ⟨j0, jC, jT, jD, jX⟩ | exact ⟨below_alloc j0 _, fun j => (cell_alloc_old (Nat.lt_of_lt_of_le kC j0.size)).trans (jC j), fun j => (cell_alloc_old (Nat.lt_of_lt_of_le kT j0.size)).trans (jT j), fun j => (cell_alloc_old (Nat.lt_of_lt_of_le kD j0.size)).trans (jD j), fun j => (cell_alloc_old (Nat.lt_of_lt_of_le kX j0.size)).trans (jX j)⟩ | exact ⟨below_alloc (below_drew1 (Below.refl _ _)) _, fun j => (cell_alloc_old kC).trans (rC j), fun j => (cell_alloc_old kT).trans (rT j), fun j => (cell_alloc_old kD).trans (rD j), fun j => (cell_alloc_old kX).trans (rX j)⟩ | assumption))
      clear hK K
      (try simp only [Act.put, qa_, qb_, qc_])
      refine wpAnyH_ready (rs := [13]) (by kernel_rfl) (by simp) ?_
      refine AllReadyH.cons (o := ⟨some 69, _, _, _, _, _⟩) rfl (fun K hK => ?hT1x15) ?hM1x15
      case hM1x15 => exact AllReadyH.nil
      go_simp
      (first | (go_at_call 22; obtain ⟨g0, gC, gT, gD, gX⟩ := ‹Below W5.heap.size W5 _ ∧ _›; ((with_reducible refine (Selected_calls c s f T l.length kt l r1 _ (Kd.C_below HTW5.out g0) hkt HPN.out (by omega) HR1.out (HGW.out.below g0)).mono ?_));  rintro e w5 ⟨rfl, hb_⟩; have j0 := below_step g0 hb_; have s5 := j0.size; have jC := fun j => (j0.cell (p := ⟨cb, j, none⟩) kC).trans (rC j); have jT := fun j => (j0.cell (p := ⟨tb, j, none⟩) kT).trans (rT j); have jD := fun j => (j0.cell (p := ⟨db, j, none⟩) kD).trans (rD j); have jX := fun j => (j0.cell (p := ⟨db + 1, j, none⟩) kX).trans (rX j)) | (go_at_call 22; obtain ⟨g0, gC, gT, gD, gX⟩ := ‹Below W5.heap.size W5 _ ∧ _›; ((with_reducible refine (SelD c P f T l.length kt l r1 _ (Kd.C_below HTW5.out g0) hkt HPN.out (by omega) HR2.out (HGW.out.below g0)).mono ?_));  rintro e w13 ⟨rfl, hb_⟩; have j0 := below_step g0 hb_; have s13 := j0.size; have jC := fun j => (j0.cell (p := ⟨cb, j, none⟩) kC).trans (rC j); have jT := fun j => (j0.cell (p := ⟨tb, j, none⟩) kT).trans (rT j); have jD := fun j => (j0.cell (p := ⟨db, j, none⟩) kD).trans (rD j); have jX := fun j => (j0.cell (p := ⟨db + 1, j, none⟩) kX).trans (rX j)) | (go_at_call 22; obtain ⟨g0, gC, gT, gD, gX⟩ := ‹Below W5.heap.size W5 _ ∧ _›; ((with_reducible refine (Selected_calls c (-s) f T l.length kt l false _ (Kd.C_below HTW5.out g0) hkt HPN.out (by omega) HR4.out (HGW.out.below g0)).mono ?_));  rintro e w34 ⟨rfl, hb_⟩; have j0 := below_step g0 hb_; have s34 := j0.size; have jC := fun j => (j0.cell (p := ⟨cb, j, none⟩) kC).trans (rC j); have jT := fun j => (j0.cell (p := ⟨tb, j, none⟩) kT).trans (rT j); have jD := fun j => (j0.cell (p := ⟨db, j, none⟩) kD).trans (rD j); have jX := fun j => (j0.cell (p := ⟨db + 1, j, none⟩) kX).trans (rX j)) | (go_at_call 22; obtain ⟨g0, gC, gT, gD, gX⟩ := ‹Below W5.heap.size W5 _ ∧ _›; ((with_reducible refine (SelZ s f T l.length kt l _ (Kd.C_below HTW5.out g0) hkt HPN.out (by omega) (HGW.out.below g0)).mono ?_));  rintro e w41 ⟨rfl, hb_⟩; have j0 := below_step g0 hb_; have s41 := j0.size; have jC := fun j => (j0.cell (p := ⟨cb, j, none⟩) kC).trans (rC j); have jT := fun j => (j0.cell (p := ⟨tb, j, none⟩) kT).trans (rT j); have jD := fun j => (j0.cell (p := ⟨db, j, none⟩) kD).trans (rD j); have jX := fun j => (j0.cell (p := ⟨db + 1, j, none⟩) kX).trans (rX j)))
      (try go_wp2_with fail)
      refine hK.out _ _ ?hS1x15 (fun hHeld => ?hR1x15)
      case hS1x15 => ((try dsimp only); (first | exact ⟨below_drew1 (Below.refl _ _), rC, rT, rD, rX⟩ | exact ⟨below_drew1 b0_, rC, rT, rD, rX⟩ | exact ⟨j0, jC, jT, jD, jX⟩ | exact ⟨below_alloc j0 _, fun j => (cell_alloc_old (Nat.lt_of_lt_of_le kC j0.size)).trans (jC j), fun j => (cell_alloc_old (Nat.lt_of_lt_of_le kT j0.size)).trans (jT j), fun j => (cell_alloc_old (Nat.lt_of_lt_of_le kD j0.size)).trans (jD j), fun j => (cell_alloc_old (Nat.lt_of_lt_of_le kX j0.size)).trans (jX j)⟩ | exact ⟨below_alloc (below_drew1 (Below.refl _ _)) _, fun j => (cell_alloc_old kC).trans (rC j), fun j => (cell_alloc_old kT).trans (rT j), fun j => (cell_alloc_old kD).trans (rD j), fun j => (cell_alloc_old kX).trans (rX j)⟩ | assumption))
      clear hK K
      (try simp only [Act.put, qa_, qb_, qc_])
      refine wpAnyH_take (i := 14) (oi := ⟨some 70, _, _, _, _, _⟩) (v := ?_) rfl (by kernel_rfl) (by kernel_rfl) (by kernel_rfl) (fun _ _ _ h => h) (Or.inl ⟨by rfl, ?hY1x16⟩) (by assumption) ?hR1x16
      case hY1x16 => (intro w hSw; (try dsimp only at hSw); go_simp; try with_reducible rfl)
      (try simp only [Act.put, qa_, qb_, qc_])
      refine wpAnyH_take (i := 15) (oi := ⟨some 71, _, _, _, _, _⟩) (v := ?_) rfl (by kernel_rfl) (by kernel_rfl) (by kernel_rfl) (fun _ _ _ h => h) (Or.inl ⟨by rfl, ?hY1x17⟩) (by assumption) ?hR1x17
      case hY1x17 => (intro w hSw; (try dsimp only at hSw); go_simp; try with_reducible rfl)
      (try simp only [Act.put, qa_, qb_, qc_])
      refine wpAnyH_take (i := 16) (oi := ⟨some 72, _, _, _, _, _⟩) (v := ?_) rfl (by kernel_rfl) (by kernel_rfl) (by kernel_rfl) (fun _ _ _ h => h) (Or.inl ⟨by rfl, ?hY1x18⟩) (by assumption) ?hR1x18
      case hY1x18 => (intro w hSw; (try dsimp only at hSw); go_simp; try with_reducible rfl)
      (try simp only [Act.put, qa_, qb_, qc_])
      refine wpAnyH_take (i := 17) (oi := ⟨some 73, _, _, _, _, _⟩) (v := ?_) rfl (by kernel_rfl) (by kernel_rfl) (by kernel_rfl) (fun _ _ _ h => h) (Or.inl ⟨by rfl, ?hY1x19⟩) (by assumption) ?hR1x19
      case hY1x19 => (intro w hSw; (try dsimp only at hSw); go_simp; try with_reducible rfl)
      (try simp only [Act.put, qa_, qb_, qc_])
      refine wpAnyH_take (i := 18) (oi := ⟨some 74, _, _, _, _, _⟩) (v := ?_) rfl (by kernel_rfl) (by kernel_rfl) (by kernel_rfl) (fun _ _ _ h => h) (Or.inl ⟨by rfl, ?hY1x20⟩) (by assumption) ?hR1x20
      case hY1x20 => (intro w hSw; (try dsimp only at hSw); go_simp; try with_reducible rfl)
      (try simp only [Act.put, qa_, qb_, qc_])
      refine wpAnyH_take (i := 19) (oi := ⟨some 75, _, _, _, _, _⟩) (v := ?_) rfl (by kernel_rfl) (by kernel_rfl) (by kernel_rfl) (fun _ _ _ h => h) (Or.inl ⟨by rfl, ?hY1x21⟩) (by assumption) ?hR1x21
      case hY1x21 => (intro w hSw; (try dsimp only at hSw); go_simp; try with_reducible rfl)
      (try simp only [Act.put, qa_, qb_, qc_])
      refine wpAnyH_take (i := 20) (oi := ⟨some 76, _, _, _, _, _⟩) (v := ?_) rfl (by kernel_rfl) (by kernel_rfl) (by kernel_rfl) (fun _ _ _ h => h) (Or.inl ⟨by rfl, ?hY1x22⟩) (by assumption) ?hR1x22
      case hY1x22 => (intro w hSw; (try dsimp only at hSw); go_simp; try with_reducible rfl)
      (try simp only [Act.put, qa_, qb_, qc_])
      refine wpAnyH_take (i := 21) (oi := ⟨some 77, _, _, _, _, _⟩) (v := ?_) rfl (by kernel_rfl) (by kernel_rfl) (by kernel_rfl) (fun _ _ _ h => h) (Or.inl ⟨by rfl, ?hY1x23⟩) (by assumption) ?hR1x23
      case hY1x23 => (intro w hSw; (try dsimp only at hSw); go_simp; try with_reducible rfl)
      (try simp only [Act.put, qa_, qb_, qc_])
      refine wpAnyH_take (i := 22) (oi := ⟨some 78, _, _, _, _, _⟩) (v := undef) rfl (by kernel_rfl) (by kernel_rfl) (by kernel_rfl) (fun _ _ _ h => h) (Or.inr ⟨by rfl, rfl⟩) (by assumption) ?_
      (try simp only [Act.put, qa_, qb_, qc_])
      refine wpAnyH_take (i := 23) (oi := ⟨some 79, _, _, _, _, _⟩) (v := undef) rfl (by kernel_rfl) (by kernel_rfl) (by kernel_rfl) (fun _ _ _ h => h) (Or.inr ⟨by rfl, rfl⟩) (by assumption) ?_
      (try simp only [Act.put, qa_, qb_, qc_])
      refine wpAnyH_take (i := 24) (oi := ⟨some 80, _, _, _, _, _⟩) (v := undef) rfl (by kernel_rfl) (by kernel_rfl) (by kernel_rfl) (fun _ _ _ h => h) (Or.inr ⟨by rfl, rfl⟩) (by assumption) ?_
      (try simp only [Act.put, qa_, qb_, qc_])
      refine wpAnyH_take (i := 25) (oi := ⟨some 81, _, _, _, _, _⟩) (v := undef) rfl (by kernel_rfl) (by kernel_rfl) (by kernel_rfl) (fun _ _ _ h => h) (Or.inr ⟨by rfl, rfl⟩) (by assumption) ?_
      (try simp only [Act.put, qa_, qb_, qc_])
      refine wpAnyH_take (i := 26) (oi := ⟨some 82, _, _, _, _, _⟩) (v := undef) rfl (by kernel_rfl) (by kernel_rfl) (by kernel_rfl) (fun _ _ _ h => h) (Or.inr ⟨by rfl, rfl⟩) (by assumption) ?_
      (try simp only [Act.put, qa_, qb_, qc_])
      refine wpAnyH_take (i := 27) (oi := ⟨some 83, _, _, _, _, _⟩) (v := ?_) rfl (by kernel_rfl) (by kernel_rfl) (by kernel_rfl) (fun _ _ _ h => h) (Or.inl ⟨by rfl, ?hY1x29⟩) (by assumption) ?hR1x29
      case hY1x29 => (intro w hSw; (try dsimp only at hSw); go_simp; try with_reducible rfl)
      (try simp only [Act.put, qa_, qb_, qc_])
      refine wpAnyH_take (i := 28) (oi := ⟨some 84, _, _, _, _, _⟩) (v := ?_) rfl (by kernel_rfl) (by kernel_rfl) (by kernel_rfl) (fun _ _ _ h => h) (Or.inl ⟨by rfl, ?hY1x30⟩) (by assumption) ?hR1x30
      case hY1x30 => (intro w hSw; (try dsimp only at hSw); go_simp; try with_reducible rfl)
      (try simp only [Act.put, qa_, qb_, qc_])
      refine wpAnyH_take (i := 29) (oi := ⟨some 85, _, _, _, _, _⟩) (v := ?_) rfl (by kernel_rfl) (by kernel_rfl) (by kernel_rfl) (fun _ _ _ h => h) (Or.inl ⟨by rfl, ?hY1x31⟩) (by assumption) ?hR1x31
      case hY1x31 => (intro w hSw; (try dsimp only at hSw); go_simp; try with_reducible rfl)
      (try simp only [Act.put, qa_, qb_, qc_])
      refine wpAnyH_take (i := 30) (oi := ⟨some 86, _, _, _, _, _⟩) (v := ?_) rfl (by kernel_rfl) (by kernel_rfl) (by kernel_rfl) (fun _ _ _ h => h) (Or.inl ⟨by rfl, ?hY1x32⟩) (by assumption) ?hR1x32
      case hY1x32 => (intro w hSw; (try dsimp only at hSw); go_simp; try with_reducible rfl)
      (try simp only [Act.put, qa_, qb_, qc_])
      refine wpAnyH_take (i := 31) (oi := ⟨some 87, _, _, _, _, _⟩) (v := ?_) rfl (by kernel_rfl) (by kernel_rfl) (by kernel_rfl) (fun _ _ _ h => h) (Or.inl ⟨by rfl, ?hY1x33⟩) (by assumption) ?hR1x33
      case hY1x33 => (intro w hSw; (try dsimp only at hSw); go_simp; try with_reducible rfl)
      (try simp only [Act.put, qa_, qb_, qc_])
      refine wpAnyH_take (i := 32) (oi := ⟨some 88, _, _, _, _, _⟩) (v := ?_) rfl (by kernel_rfl) (by kernel_rfl) (by kernel_rfl) (fun _ _ _ h => h) (Or.inl ⟨by rfl, ?hY1x34⟩) (by assumption) ?hR1x34
      case hY1x34 => (intro w hSw; (try dsimp only at hSw); go_simp; try with_reducible rfl)
      (try simp only [Act.put, qa_, qb_, qc_])
      refine wpAnyH_take (i := 33) (oi := ⟨some 89, _, _, _, _, _⟩) (v := ?_) rfl (by kernel_rfl) (by kernel_rfl) (by kernel_rfl) (fun _ _ _ h => h) (Or.inl ⟨by rfl, ?hY1x35⟩) (by assumption) ?hR1x35
      case hY1x35 => (intro w hSw; (try dsimp only at hSw); go_simp; try with_reducible rfl)
      (try simp only [Act.put, qa_, qb_, qc_])
      refine wpAnyH_ready (rs := [34]) (by kernel_rfl) (by simp) ?_
      refine AllReadyH.cons (o := ⟨some 90, _, _, _, _, _⟩) rfl (fun K hK => ?hT1x36) ?hM1x36
      case hM1x36 => exact AllReadyH.nil
      go_simp
      (first | (go_at_call 22; obtain ⟨g0, gC, gT, gD, gX⟩ := ‹Below W5.heap.size W5 _ ∧ _›; ((with_reducible refine (Selected_calls c s f T l.length kt l r1 _ (Kd.C_below HTW5.out g0) hkt HPN.out (by omega) HR1.out (HGW.out.below g0)).mono ?_));  rintro e w5 ⟨rfl, hb_⟩; have j0 := below_step g0 hb_; have s5 := j0.size; have jC := fun j => (j0.cell (p := ⟨cb, j, none⟩) kC).trans (rC j); have jT := fun j => (j0.cell (p := ⟨tb, j, none⟩) kT).trans (rT j); have jD := fun j => (j0.cell (p := ⟨db, j, none⟩) kD).trans (rD j); have jX := fun j => (j0.cell (p := ⟨db + 1, j, none⟩) kX).trans (rX j)) | (go_at_call 22; obtain ⟨g0, gC, gT, gD, gX⟩ := ‹Below W5.heap.size W5 _ ∧ _›; ((with_reducible refine (SelD c P f T l.length kt l r1 _ (Kd.C_below HTW5.out g0) hkt HPN.out (by omega) HR2.out (HGW.out.below g0)).mono ?_));  rintro e w13 ⟨rfl, hb_⟩; have j0 := below_step g0 hb_; have s13 := j0.size; have jC := fun j => (j0.cell (p := ⟨cb, j, none⟩) kC).trans (rC j); have jT := fun j => (j0.cell (p := ⟨tb, j, none⟩) kT).trans (rT j); have jD := fun j => (j0.cell (p := ⟨db, j, none⟩) kD).trans (rD j); have jX := fun j => (j0.cell (p := ⟨db + 1, j, none⟩) kX).trans (rX j)) | (go_at_call 22; obtain ⟨g0, gC, gT, gD, gX⟩ := ‹Below W5.heap.size W5 _ ∧ _›; ((with_reducible refine (Selected_calls c (-s) f T l.length kt l false _ (Kd.C_below HTW5.out g0) hkt HPN.out (by omega) HR4.out (HGW.out.below g0)).mono ?_));  rintro e w34 ⟨rfl, hb_⟩; have j0 := below_step g0 hb_; have s34 := j0.size; have jC := fun j => (j0.cell (p := ⟨cb, j, none⟩) kC).trans (rC j); have jT := fun j => (j0.cell (p := ⟨tb, j, none⟩) kT).trans (rT j); have jD := fun j => (j0.cell (p := ⟨db, j, none⟩) kD).trans (rD j); have jX := fun j => (j0.cell (p := ⟨db + 1, j, none⟩) kX).trans (rX j)) | (go_at_call 22; obtain ⟨g0, gC, gT, gD, gX⟩ := ‹Below W5.heap.size W5 _ ∧ _›; ((with_reducible refine (SelZ s f T l.length kt l _ (Kd.C_below HTW5.out g0) hkt HPN.out (by omega) (HGW.out.below g0)).mono ?_));  rintro e w41 ⟨rfl, hb_⟩; have j0 := below_step g0 hb_; have s41 := j0.size; have jC := fun j => (j0.cell (p := ⟨cb, j, none⟩) kC).trans (rC j); have jT := fun j => (j0.cell (p := ⟨tb, j, none⟩) kT).trans (rT j); have jD := fun j => (j0.cell (p := ⟨db, j, none⟩) kD).trans (rD j); have jX := fun j => (j0.cell (p := ⟨db + 1, j, none⟩) kX).trans (rX j)))
      (try go_wp2_with fail)
      refine hK.out _ _ ?hS1x36 (fun hHeld => ?hR1x36)
      case hS1x36 => ((try dsimp only); (first | exact ⟨below_drew1 (Below.refl _ _), rC, rT, rD, rX⟩ | exact ⟨below_drew1 b0_, rC, rT, rD, rX⟩ | exact ⟨j0, jC, jT, jD, jX⟩ | exact ⟨below_alloc j0 _, fun j => (cell_alloc_old (Nat.lt_of_lt_of_le kC j0.size)).trans (jC j), fun j => (cell_alloc_old (Nat.lt_of_lt_of_le kT j0.size)).trans (jT j), fun j => (cell_alloc_old (Nat.lt_of_lt_of_le kD j0.size)).trans (jD j), fun j => (cell_alloc_old (Nat.lt_of_lt_of_le kX j0.size)).trans (jX j)⟩ | exact ⟨below_alloc (below_drew1 (Below.refl _ _)) _, fun j => (cell_alloc_old kC).trans (rC j), fun j => (cell_alloc_old kT).trans (rT j), fun j => (cell_alloc_old kD).trans (rD j), fun j => (cell_alloc_old kX).trans (rX j)⟩ | assumption))
      clear hK K
      (try simp only [Act.put, qa_, qb_, qc_])
      refine wpAnyH_take (i := 35) (oi := ⟨some 91, _, _, _, _, _⟩) (v := ?_) rfl (by kernel_rfl) (by kernel_rfl) (by kernel_rfl) (fun _ _ _ h => h) (Or.inl ⟨by rfl, ?hY1x37⟩) (by assumption) ?hR1x37
      case hY1x37 => (intro w hSw; (try dsimp only at hSw); go_simp; try with_reducible rfl)
      (try simp only [Act.put, qa_, qb_, qc_])
      refine wpAnyH_take (i := 36) (oi := ⟨some 92, _, _, _, _, _⟩) (v := ?_) rfl (by kernel_rfl) (by kernel_rfl) (by kernel_rfl) (fun _ _ _ h => h) (Or.inl ⟨by rfl, ?hY1x38⟩) (by assumption) ?hR1x38
      case hY1x38 => (intro w hSw; (try dsimp only at hSw); go_simp; try with_reducible rfl)
      (try simp only [Act.put, qa_, qb_, qc_])
      refine wpAnyH_take (i := 37) (oi := ⟨some 93, _, _, _, _, _⟩) (v := ?_) rfl (by kernel_rfl) (by kernel_rfl) (by kernel_rfl) (fun _ _ _ h => h) (Or.inl ⟨by rfl, ?hY1x39⟩) (by assumption) ?hR1x39
      case hY1x39 => (intro w hSw; (try dsimp only at hSw); go_simp; try with_reducible rfl)
      (try simp only [Act.put, qa_, qb_, qc_])
      refine wpAnyH_take (i := 38) (oi := ⟨some 94, _, _, _, _, _⟩) (v := ?_) rfl (by kernel_rfl) (by kernel_rfl) (by kernel_rfl) (fun _ _ _ h => h) (Or.inl ⟨by rfl, ?hY1x40⟩) (by assumption) ?hR1x40
      case hY1x40 => (intro w hSw; (try dsimp only at hSw); go_simp; try with_reducible rfl)
      (try simp only [Act.put, qa_, qb_, qc_])
      refine wpAnyH_take (i := 39) (oi := ⟨some 95, _, _, _, _, _⟩) (v := ?_) rfl (by kernel_rfl) (by kernel_rfl) (by kernel_rfl) (fun _ _ _ h => h) (Or.inl ⟨by rfl, ?hY1x41⟩) (by assumption) ?hR1x41
      case hY1x41 => (intro w hSw; (try dsimp only at hSw); go_simp; try with_reducible rfl)
      (try simp only [Act.put, qa_, qb_, qc_])
      refine wpAnyH_take (i := 40) (oi := ⟨some 96, _, _, _, _, _⟩) (v := ?_) rfl (by kernel_rfl) (by kernel_rfl) (by kernel_rfl) (fun _ _ _ h => h) (Or.inl ⟨by rfl, ?hY1x42⟩) (by assumption) ?hR1x42
      case hY1x42 => (intro w hSw; (try dsimp only at hSw); go_simp; try with_reducible rfl)
      (try simp only [Act.put, qa_, qb_, qc_])
      refine wpAnyH_ready (rs := [41]) (by kernel_rfl) (by simp) ?_
      refine AllReadyH.cons (o := ⟨some 97, _, _, _, _, _⟩) rfl (fun K hK => ?hT1x43) ?hM1x43
      case hM1x43 => exact AllReadyH.nil
      go_simp
      (first | (go_at_call 22; obtain ⟨g0, gC, gT, gD, gX⟩ := ‹Below W5.heap.size W5 _ ∧ _›; ((with_reducible refine (Selected_calls c s f T l.length kt l r1 _ (Kd.C_below HTW5.out g0) hkt HPN.out (by omega) HR1.out (HGW.out.below g0)).mono ?_));  rintro e w5 ⟨rfl, hb_⟩; have j0 := below_step g0 hb_; have s5 := j0.size; have jC := fun j => (j0.cell (p := ⟨cb, j, none⟩) kC).trans (rC j); have jT := fun j => (j0.cell (p := ⟨tb, j, none⟩) kT).trans (rT j); have jD := fun j => (j0.cell (p := ⟨db, j, none⟩) kD).trans (rD j); have jX := fun j => (j0.cell (p := ⟨db + 1, j, none⟩) kX).trans (rX j)) | (go_at_call 22; obtain ⟨g0, gC, gT, gD, gX⟩ := ‹Below W5.heap.size W5 _ ∧ _›; ((with_reducible refine (SelD c P f T l.length kt l r1 _ (Kd.C_below HTW5.out g0) hkt HPN.out (by omega) HR2.out (HGW.out.below g0)).mono ?_));  rintro e w13 ⟨rfl, hb_⟩; have j0 := below_step g0 hb_; have s13 := j0.size; have jC := fun j => (j0.cell (p := ⟨cb, j, none⟩) kC).trans (rC j); have jT := fun j => (j0.cell (p := ⟨tb, j, none⟩) kT).trans (rT j); have jD := fun j => (j0.cell (p := ⟨db, j, none⟩) kD).trans (rD j); have jX := fun j => (j0.cell (p := ⟨db + 1, j, none⟩) kX).trans (rX j)) | (go_at_call 22; obtain ⟨g0, gC, gT, gD, gX⟩ := ‹Below W5.heap.size W5 _ ∧ _›; ((with_reducible refine (Selected_calls c (-s) f T l.length kt l false _ (Kd.C_below HTW5.out g0) hkt HPN.out (by omega) HR4.out (HGW.out.below g0)).mono ?_));  rintro e w34 ⟨rfl, hb_⟩; have j0 := below_step g0 hb_; have s34 := j0.size; have jC := fun j => (j0.cell (p := ⟨cb, j, none⟩) kC).trans (rC j); have jT := fun j => (j0.cell (p := ⟨tb, j, none⟩) kT).trans (rT j); have jD := fun j => (j0.cell (p := ⟨db, j, none⟩) kD).trans (rD j); have jX := fun j => (j0.cell (p := ⟨db + 1, j, none⟩) kX).trans (rX j)) | (go_at_call 22; obtain ⟨g0, gC, gT, gD, gX⟩ := ‹Below W5.heap.size W5 _ ∧ _›; ((with_reducible refine (SelZ s f T l.length kt l _ (Kd.C_below HTW5.out g0) hkt HPN.out (by omega) (HGW.out.below g0)).mono ?_));  rintro e w41 ⟨rfl, hb_⟩; have j0 := below_step g0 hb_; have s41 := j0.size; have jC := fun j => (j0.cell (p := ⟨cb, j, none⟩) kC).trans (rC j); have jT := fun j => (j0.cell (p := ⟨tb, j, none⟩) kT).trans (rT j); have jD := fun j => (j0.cell (p := ⟨db, j, none⟩) kD).trans (rD j); have jX := fun j => (j0.cell (p := ⟨db + 1, j, none⟩) kX).trans (rX j)))
      (try go_wp2_with fail)
      refine hK.out _ _ ?hS1x43 (fun hHeld => ?hR1x43)
      case hS1x43 => ((try dsimp only); (first | exact ⟨below_drew1 (Below.refl _ _), rC, rT, rD, rX⟩ | exact ⟨below_drew1 b0_, rC, rT, rD, rX⟩ | exact ⟨j0, jC, jT, jD, jX⟩ | exact ⟨below_alloc j0 _, fun j => (cell_alloc_old (Nat.lt_of_lt_of_le kC j0.size)).trans (jC j), fun j => (cell_alloc_old (Nat.lt_of_lt_of_le kT j0.size)).trans (jT j), fun j => (cell_alloc_old (Nat.lt_of_lt_of_le kD j0.size)).trans (jD j), fun j => (cell_alloc_old (Nat.lt_of_lt_of_le kX j0.size)).trans (jX j)⟩ | exact ⟨below_alloc (below_drew1 (Below.refl _ _)) _, fun j => (cell_alloc_old kC).trans (rC j), fun j => (cell_alloc_old kT).trans (rT j), fun j => (cell_alloc_old kD).trans (rD j), fun j => (cell_alloc_old kX).trans (rX j)⟩ | assumption))
      clear hK K
      (try simp only [Act.put, qa_, qb_, qc_])
      refine wpAnyH_take (i := 42) (oi := ⟨some 98, _, _, _, _, _⟩) (v := ?_) rfl (by kernel_rfl) (by kernel_rfl) (by kernel_rfl) (fun _ _ _ h => h) (Or.inl ⟨by rfl, ?hY1x44⟩) (by assumption) ?hR1x44
      case hY1x44 => (intro w hSw; (try dsimp only at hSw); go_simp; try with_reducible rfl)
      (try simp only [Act.put, qa_, qb_, qc_])
      refine wpAnyH_take (i := 43) (oi := ⟨some 99, _, _, _, _, _⟩) (v := ?_) rfl (by kernel_rfl) (by kernel_rfl) (by kernel_rfl) (fun _ _ _ h => h) (Or.inl ⟨by rfl, ?hY1x45⟩) (by assumption) ?hR1x45
      case hY1x45 => (intro w hSw; (try dsimp only at hSw); go_simp; try with_reducible rfl)
      (try simp only [Act.put, qa_, qb_, qc_])
      refine wpAnyH_take (i := 44) (oi := ⟨some 8, _, _, _, _, _⟩) (v := ?_) rfl (by kernel_rfl) (by kernel_rfl) (by kernel_rfl) (fun _ _ _ h => h) (Or.inl ⟨by rfl, ?hY1x46⟩) (by assumption) ?hR1x46
      case hY1x46 => (intro w hSw; (try dsimp only at hSw); go_simp; try with_reducible rfl)
      (try simp only [Act.put, qa_, qb_, qc_])
      refine wpAnyH_done (by kernel_rfl) ?_ _
      go_wp2
      go_ret
      exact ⟨rfl, below_step HB5.out j0⟩
    · have hlz : ((l.length : Int) == 0) = false := by rw [beq_eq_false_iff_ne]; omega
      have HR3 := Aside0.mk (selF_no c s f (⟨99, 0⟩ :: l) (Or.inr (Or.inr (wrong_right ⟨99, 0⟩ l hle (fun q hq => by
        have := (HLB.out q hq).1.2
        rw [ltP_iff]
        left
        show q.f0 < 99
        omega)))))
      clear hle
      have hwP : IntKind.i64.wrap P = P := by rw [IntKind.wrap_i64]; omega
      have hwS : IntKind.i64.wrap (-s) = -s := by rw [IntKind.wrap_i64]; omega
      go_upto_region 13 with (fail)
      refine wp_region_held_drew (S := (fun w' => Below W5.heap.size W5 w' ∧ (∀ j, w'.cell? ⟨cb, j, none⟩ = (#[.int .i64 c.va, .int .i64 c.sl, .int .i64 c.co, .int .i64 c.su, .int .i64 c.ti, .int .i64 c.di, .int .i64 c.ra, .int .i64 c.ro, .int .i64 c.ag, .int .u64 c.se] : Array Value)[j]?) ∧ (∀ j, w'.cell? ⟨tb, j, none⟩ = (#[.bool f, .slice T l.length kt] : Array Value)[j]?) ∧ (∀ j, w'.cell? ⟨db, j, none⟩ = (#[.int .i64 c.va, .int .i64 (1 + c.sl % 32), .int .i64 c.co, .int .i64 c.su, .int .i64 c.ti, .int .i64 c.di, .int .i64 c.ra, .int .i64 c.ro, .int .i64 c.ag, .int .u64 77] : Array Value)[j]?) ∧ (∀ j, w'.cell? ⟨db + 1, j, none⟩ = (#[.bool f, .slice A5 (l.length + 1) c5] : Array Value)[j]?))) (by kernel_rfl) ?hS2x0 (fun hHeld => ?hR2x0)
      case hS2x0 => ((try dsimp only); (first | exact ⟨below_drew1 (Below.refl _ _), rC, rT, rD, rX⟩ | exact ⟨below_drew1 b0_, rC, rT, rD, rX⟩ | exact ⟨j0, jC, jT, jD, jX⟩ | exact ⟨below_alloc j0 _, fun j => (cell_alloc_old (Nat.lt_of_lt_of_le kC j0.size)).trans (jC j), fun j => (cell_alloc_old (Nat.lt_of_lt_of_le kT j0.size)).trans (jT j), fun j => (cell_alloc_old (Nat.lt_of_lt_of_le kD j0.size)).trans (jD j), fun j => (cell_alloc_old (Nat.lt_of_lt_of_le kX j0.size)).trans (jX j)⟩ | exact ⟨below_alloc (below_drew1 (Below.refl _ _)) _, fun j => (cell_alloc_old kC).trans (rC j), fun j => (cell_alloc_old kT).trans (rT j), fun j => (cell_alloc_old kD).trans (rD j), fun j => (cell_alloc_old kX).trans (rX j)⟩ | assumption))
      refine wpAnyH_take (i := 0) (oi := ⟨some 56, _, _, _, _, _⟩) (v := ?_) rfl (by kernel_rfl) (by kernel_rfl) (by kernel_rfl) (fun _ _ _ h => h) (Or.inl ⟨by rfl, ?hY2x2⟩) (by assumption) ?hR2x2
      case hY2x2 => (intro w hSw; (try dsimp only at hSw); go_simp; try with_reducible rfl)
      (try simp only [Act.put, qa_, qb_, qc_])
      refine wpAnyH_take (i := 1) (oi := ⟨some 57, _, _, _, _, _⟩) (v := ?_) rfl (by kernel_rfl) (by kernel_rfl) (by kernel_rfl) (fun _ _ _ h => h) (Or.inl ⟨by rfl, ?hY2x3⟩) (by assumption) ?hR2x3
      case hY2x3 => (intro w hSw; (try dsimp only at hSw); go_simp; try with_reducible rfl)
      (try simp only [Act.put, qa_, qb_, qc_])
      refine wpAnyH_take (i := 2) (oi := ⟨some 58, _, _, _, _, _⟩) (v := ?_) rfl (by kernel_rfl) (by kernel_rfl) (by kernel_rfl) (fun _ _ _ h => h) (Or.inl ⟨by rfl, ?hY2x4⟩) (by assumption) ?hR2x4
      case hY2x4 => (intro w hSw; (try dsimp only at hSw); go_simp; try with_reducible rfl)
      (try simp only [Act.put, qa_, qb_, qc_])
      refine wpAnyH_take (i := 3) (oi := ⟨some 59, _, _, _, _, _⟩) (v := ?_) rfl (by kernel_rfl) (by kernel_rfl) (by kernel_rfl) (fun _ _ _ h => h) (Or.inl ⟨by rfl, ?hY2x5⟩) (by assumption) ?hR2x5
      case hY2x5 => (intro w hSw; (try dsimp only at hSw); go_simp; try with_reducible rfl)
      (try simp only [Act.put, qa_, qb_, qc_])
      refine wpAnyH_take (i := 4) (oi := ⟨some 60, _, _, _, _, _⟩) (v := ?_) rfl (by kernel_rfl) (by kernel_rfl) (by kernel_rfl) (fun _ _ _ h => h) (Or.inl ⟨by rfl, ?hY2x6⟩) (by assumption) ?hR2x6
      case hY2x6 => (intro w hSw; (try dsimp only at hSw); go_simp; try with_reducible rfl)
      (try simp only [Act.put, qa_, qb_, qc_])
      refine wpAnyH_take (i := 6) (oi := ⟨some 62, _, _, _, _, _⟩) (v := ?_) rfl (by kernel_rfl) (by kernel_rfl) (by kernel_rfl) (fun _ _ _ h => h) (Or.inl ⟨by rfl, ?hY2x7⟩) (by assumption) ?hR2x7
      case hY2x7 => (intro w hSw; (try dsimp only at hSw); go_simp; try with_reducible rfl)
      (try simp only [Act.put, qa_, qb_, qc_])
      refine wpAnyH_take (i := 7) (oi := ⟨some 63, _, _, _, _, _⟩) (v := ?_) rfl (by kernel_rfl) (by kernel_rfl) (by kernel_rfl) (fun _ _ _ h => h) (Or.inl ⟨by rfl, ?hY2x8⟩) (by assumption) ?hR2x8
      case hY2x8 => (intro w hSw; (try dsimp only at hSw); go_simp; try with_reducible rfl)
      (try simp only [Act.put, qa_, qb_, qc_])
      refine wpAnyH_take (i := 8) (oi := ⟨some 64, _, _, _, _, _⟩) (v := ?_) rfl (by kernel_rfl) (by kernel_rfl) (by kernel_rfl) (fun _ _ _ h => h) (Or.inl ⟨by rfl, ?hY2x9⟩) (by assumption) ?hR2x9
      case hY2x9 => (intro w hSw; (try dsimp only at hSw); go_simp; try with_reducible rfl)
      (try simp only [Act.put, qa_, qb_, qc_])
      refine wpAnyH_take (i := 9) (oi := ⟨some 65, _, _, _, _, _⟩) (v := ?_) rfl (by kernel_rfl) (by kernel_rfl) (by kernel_rfl) (fun _ _ _ h => h) (Or.inl ⟨by rfl, ?hY2x10⟩) (by assumption) ?hR2x10
      case hY2x10 => (intro w hSw; (try dsimp only at hSw); go_simp; try with_reducible rfl)
      (try simp only [Act.put, qa_, qb_, qc_])
      refine wpAnyH_take (i := 10) (oi := ⟨some 66, _, _, _, _, _⟩) (v := ?_) rfl (by kernel_rfl) (by kernel_rfl) (by kernel_rfl) (fun _ _ _ h => h) (Or.inl ⟨by rfl, ?hY2x11⟩) (by assumption) ?hR2x11
      case hY2x11 => (intro w hSw; (try dsimp only at hSw); go_simp; try with_reducible rfl)
      (try simp only [Act.put, qa_, qb_, qc_])
      refine wpAnyH_take (i := 11) (oi := ⟨some 67, _, _, _, _, _⟩) (v := ?_) rfl (by kernel_rfl) (by kernel_rfl) (by kernel_rfl) (fun _ _ _ h => h) (Or.inl ⟨by rfl, ?hY2x12⟩) (by assumption) ?hR2x12
      case hY2x12 => (intro w hSw; (try dsimp only at hSw); go_simp; try with_reducible rfl)
      (try simp only [Act.put, qa_, qb_, qc_])
      refine wpAnyH_take (i := 12) (oi := ⟨some 68, _, _, _, _, _⟩) (v := ?_) rfl (by kernel_rfl) (by kernel_rfl) (by kernel_rfl) (fun _ _ _ h => h) (Or.inl ⟨by rfl, ?hY2x13⟩) (by assumption) ?hR2x13
      case hY2x13 => (intro w hSw; (try dsimp only at hSw); go_simp; try with_reducible rfl)
      (try simp only [Act.put, qa_, qb_, qc_])
      refine wpAnyH_ready (rs := [5]) (by kernel_rfl) (by simp) ?_
      refine AllReadyH.cons (o := ⟨some 61, _, _, _, _, _⟩) rfl (fun K hK => ?hT2x14) ?hM2x14
      case hM2x14 => exact AllReadyH.nil
      go_simp
      (first | (go_at_call 22; obtain ⟨g0, gC, gT, gD, gX⟩ := ‹Below W5.heap.size W5 _ ∧ _›; ((with_reducible refine (Selected_calls c s f T l.length kt l r1 _ (Kd.C_below HTW5.out g0) hkt HPN.out (by omega) HR1.out (HGW.out.below g0)).mono ?_));  rintro e w5 ⟨rfl, hb_⟩; have j0 := below_step g0 hb_; have s5 := j0.size; have jC := fun j => (j0.cell (p := ⟨cb, j, none⟩) kC).trans (rC j); have jT := fun j => (j0.cell (p := ⟨tb, j, none⟩) kT).trans (rT j); have jD := fun j => (j0.cell (p := ⟨db, j, none⟩) kD).trans (rD j); have jX := fun j => (j0.cell (p := ⟨db + 1, j, none⟩) kX).trans (rX j)) | (go_at_call 22; obtain ⟨g0, gC, gT, gD, gX⟩ := ‹Below W5.heap.size W5 _ ∧ _›; ((with_reducible refine (SelD c P f T l.length kt l r1 _ (Kd.C_below HTW5.out g0) hkt HPN.out (by omega) HR2.out (HGW.out.below g0)).mono ?_));  rintro e w13 ⟨rfl, hb_⟩; have j0 := below_step g0 hb_; have s13 := j0.size; have jC := fun j => (j0.cell (p := ⟨cb, j, none⟩) kC).trans (rC j); have jT := fun j => (j0.cell (p := ⟨tb, j, none⟩) kT).trans (rT j); have jD := fun j => (j0.cell (p := ⟨db, j, none⟩) kD).trans (rD j); have jX := fun j => (j0.cell (p := ⟨db + 1, j, none⟩) kX).trans (rX j)) | (go_at_call 22; obtain ⟨g0, gC, gT, gD, gX⟩ := ‹Below W5.heap.size W5 _ ∧ _›; ((with_reducible refine (Selected_calls c s f A5 (l.length + 1) c5 (⟨99, 0⟩ :: l) false _ (Kd.C_below HWL.out g0) hc5 HPW.out (by omega) HR3.out (HGW.out.below g0)).mono ?_));  rintro e w25 ⟨rfl, hb_⟩; have j0 := below_step g0 hb_; have s25 := j0.size; have jC := fun j => (j0.cell (p := ⟨cb, j, none⟩) kC).trans (rC j); have jT := fun j => (j0.cell (p := ⟨tb, j, none⟩) kT).trans (rT j); have jD := fun j => (j0.cell (p := ⟨db, j, none⟩) kD).trans (rD j); have jX := fun j => (j0.cell (p := ⟨db + 1, j, none⟩) kX).trans (rX j)) | (go_at_call 22; obtain ⟨g0, gC, gT, gD, gX⟩ := ‹Below W5.heap.size W5 _ ∧ _›; ((with_reducible refine (Selected_calls c (-s) f T l.length kt l false _ (Kd.C_below HTW5.out g0) hkt HPN.out (by omega) HR4.out (HGW.out.below g0)).mono ?_));  rintro e w34 ⟨rfl, hb_⟩; have j0 := below_step g0 hb_; have s34 := j0.size; have jC := fun j => (j0.cell (p := ⟨cb, j, none⟩) kC).trans (rC j); have jT := fun j => (j0.cell (p := ⟨tb, j, none⟩) kT).trans (rT j); have jD := fun j => (j0.cell (p := ⟨db, j, none⟩) kD).trans (rD j); have jX := fun j => (j0.cell (p := ⟨db + 1, j, none⟩) kX).trans (rX j)) | (go_at_call 22; obtain ⟨g0, gC, gT, gD, gX⟩ := ‹Below W5.heap.size W5 _ ∧ _›; ((with_reducible refine (SelZ s f T l.length kt l _ (Kd.C_below HTW5.out g0) hkt HPN.out (by omega) (HGW.out.below g0)).mono ?_));  rintro e w41 ⟨rfl, hb_⟩; have j0 := below_step g0 hb_; have s41 := j0.size; have jC := fun j => (j0.cell (p := ⟨cb, j, none⟩) kC).trans (rC j); have jT := fun j => (j0.cell (p := ⟨tb, j, none⟩) kT).trans (rT j); have jD := fun j => (j0.cell (p := ⟨db, j, none⟩) kD).trans (rD j); have jX := fun j => (j0.cell (p := ⟨db + 1, j, none⟩) kX).trans (rX j)))
      (try go_wp2_with fail)
      refine hK.out _ _ ?hS2x14 (fun hHeld => ?hR2x14)
      case hS2x14 => ((try dsimp only); (first | exact ⟨below_drew1 (Below.refl _ _), rC, rT, rD, rX⟩ | exact ⟨below_drew1 b0_, rC, rT, rD, rX⟩ | exact ⟨j0, jC, jT, jD, jX⟩ | exact ⟨below_alloc j0 _, fun j => (cell_alloc_old (Nat.lt_of_lt_of_le kC j0.size)).trans (jC j), fun j => (cell_alloc_old (Nat.lt_of_lt_of_le kT j0.size)).trans (jT j), fun j => (cell_alloc_old (Nat.lt_of_lt_of_le kD j0.size)).trans (jD j), fun j => (cell_alloc_old (Nat.lt_of_lt_of_le kX j0.size)).trans (jX j)⟩ | exact ⟨below_alloc (below_drew1 (Below.refl _ _)) _, fun j => (cell_alloc_old kC).trans (rC j), fun j => (cell_alloc_old kT).trans (rT j), fun j => (cell_alloc_old kD).trans (rD j), fun j => (cell_alloc_old kX).trans (rX j)⟩ | assumption))
      clear hK K
      (try simp only [Act.put, qa_, qb_, qc_])
      refine wpAnyH_ready (rs := [13]) (by kernel_rfl) (by simp) ?_
      refine AllReadyH.cons (o := ⟨some 69, _, _, _, _, _⟩) rfl (fun K hK => ?hT2x15) ?hM2x15
      case hM2x15 => exact AllReadyH.nil
      go_simp
      (first | (go_at_call 22; obtain ⟨g0, gC, gT, gD, gX⟩ := ‹Below W5.heap.size W5 _ ∧ _›; ((with_reducible refine (Selected_calls c s f T l.length kt l r1 _ (Kd.C_below HTW5.out g0) hkt HPN.out (by omega) HR1.out (HGW.out.below g0)).mono ?_));  rintro e w5 ⟨rfl, hb_⟩; have j0 := below_step g0 hb_; have s5 := j0.size; have jC := fun j => (j0.cell (p := ⟨cb, j, none⟩) kC).trans (rC j); have jT := fun j => (j0.cell (p := ⟨tb, j, none⟩) kT).trans (rT j); have jD := fun j => (j0.cell (p := ⟨db, j, none⟩) kD).trans (rD j); have jX := fun j => (j0.cell (p := ⟨db + 1, j, none⟩) kX).trans (rX j)) | (go_at_call 22; obtain ⟨g0, gC, gT, gD, gX⟩ := ‹Below W5.heap.size W5 _ ∧ _›; ((with_reducible refine (SelD c P f T l.length kt l r1 _ (Kd.C_below HTW5.out g0) hkt HPN.out (by omega) HR2.out (HGW.out.below g0)).mono ?_));  rintro e w13 ⟨rfl, hb_⟩; have j0 := below_step g0 hb_; have s13 := j0.size; have jC := fun j => (j0.cell (p := ⟨cb, j, none⟩) kC).trans (rC j); have jT := fun j => (j0.cell (p := ⟨tb, j, none⟩) kT).trans (rT j); have jD := fun j => (j0.cell (p := ⟨db, j, none⟩) kD).trans (rD j); have jX := fun j => (j0.cell (p := ⟨db + 1, j, none⟩) kX).trans (rX j)) | (go_at_call 22; obtain ⟨g0, gC, gT, gD, gX⟩ := ‹Below W5.heap.size W5 _ ∧ _›; ((with_reducible refine (Selected_calls c s f A5 (l.length + 1) c5 (⟨99, 0⟩ :: l) false _ (Kd.C_below HWL.out g0) hc5 HPW.out (by omega) HR3.out (HGW.out.below g0)).mono ?_));  rintro e w25 ⟨rfl, hb_⟩; have j0 := below_step g0 hb_; have s25 := j0.size; have jC := fun j => (j0.cell (p := ⟨cb, j, none⟩) kC).trans (rC j); have jT := fun j => (j0.cell (p := ⟨tb, j, none⟩) kT).trans (rT j); have jD := fun j => (j0.cell (p := ⟨db, j, none⟩) kD).trans (rD j); have jX := fun j => (j0.cell (p := ⟨db + 1, j, none⟩) kX).trans (rX j)) | (go_at_call 22; obtain ⟨g0, gC, gT, gD, gX⟩ := ‹Below W5.heap.size W5 _ ∧ _›; ((with_reducible refine (Selected_calls c (-s) f T l.length kt l false _ (Kd.C_below HTW5.out g0) hkt HPN.out (by omega) HR4.out (HGW.out.below g0)).mono ?_));  rintro e w34 ⟨rfl, hb_⟩; have j0 := below_step g0 hb_; have s34 := j0.size; have jC := fun j => (j0.cell (p := ⟨cb, j, none⟩) kC).trans (rC j); have jT := fun j => (j0.cell (p := ⟨tb, j, none⟩) kT).trans (rT j); have jD := fun j => (j0.cell (p := ⟨db, j, none⟩) kD).trans (rD j); have jX := fun j => (j0.cell (p := ⟨db + 1, j, none⟩) kX).trans (rX j)) | (go_at_call 22; obtain ⟨g0, gC, gT, gD, gX⟩ := ‹Below W5.heap.size W5 _ ∧ _›; ((with_reducible refine (SelZ s f T l.length kt l _ (Kd.C_below HTW5.out g0) hkt HPN.out (by omega) (HGW.out.below g0)).mono ?_));  rintro e w41 ⟨rfl, hb_⟩; have j0 := below_step g0 hb_; have s41 := j0.size; have jC := fun j => (j0.cell (p := ⟨cb, j, none⟩) kC).trans (rC j); have jT := fun j => (j0.cell (p := ⟨tb, j, none⟩) kT).trans (rT j); have jD := fun j => (j0.cell (p := ⟨db, j, none⟩) kD).trans (rD j); have jX := fun j => (j0.cell (p := ⟨db + 1, j, none⟩) kX).trans (rX j)))
      (try go_wp2_with fail)
      refine hK.out _ _ ?hS2x15 (fun hHeld => ?hR2x15)
      case hS2x15 => ((try dsimp only); (first | exact ⟨below_drew1 (Below.refl _ _), rC, rT, rD, rX⟩ | exact ⟨below_drew1 b0_, rC, rT, rD, rX⟩ | exact ⟨j0, jC, jT, jD, jX⟩ | exact ⟨below_alloc j0 _, fun j => (cell_alloc_old (Nat.lt_of_lt_of_le kC j0.size)).trans (jC j), fun j => (cell_alloc_old (Nat.lt_of_lt_of_le kT j0.size)).trans (jT j), fun j => (cell_alloc_old (Nat.lt_of_lt_of_le kD j0.size)).trans (jD j), fun j => (cell_alloc_old (Nat.lt_of_lt_of_le kX j0.size)).trans (jX j)⟩ | exact ⟨below_alloc (below_drew1 (Below.refl _ _)) _, fun j => (cell_alloc_old kC).trans (rC j), fun j => (cell_alloc_old kT).trans (rT j), fun j => (cell_alloc_old kD).trans (rD j), fun j => (cell_alloc_old kX).trans (rX j)⟩ | assumption))
      clear hK K
      (try simp only [Act.put, qa_, qb_, qc_])
      refine wpAnyH_take (i := 14) (oi := ⟨some 70, _, _, _, _, _⟩) (v := ?_) rfl (by kernel_rfl) (by kernel_rfl) (by kernel_rfl) (fun _ _ _ h => h) (Or.inl ⟨by rfl, ?hY2x16⟩) (by assumption) ?hR2x16
      case hY2x16 => (intro w hSw; (try dsimp only at hSw); go_simp; try with_reducible rfl)
      (try simp only [Act.put, qa_, qb_, qc_])
      refine wpAnyH_take (i := 15) (oi := ⟨some 71, _, _, _, _, _⟩) (v := ?_) rfl (by kernel_rfl) (by kernel_rfl) (by kernel_rfl) (fun _ _ _ h => h) (Or.inl ⟨by rfl, ?hY2x17⟩) (by assumption) ?hR2x17
      case hY2x17 => (intro w hSw; (try dsimp only at hSw); go_simp; try with_reducible rfl)
      (try simp only [Act.put, qa_, qb_, qc_])
      refine wpAnyH_take (i := 16) (oi := ⟨some 72, _, _, _, _, _⟩) (v := ?_) rfl (by kernel_rfl) (by kernel_rfl) (by kernel_rfl) (fun _ _ _ h => h) (Or.inl ⟨by rfl, ?hY2x18⟩) (by assumption) ?hR2x18
      case hY2x18 => (intro w hSw; (try dsimp only at hSw); go_simp; try with_reducible rfl)
      (try simp only [Act.put, qa_, qb_, qc_])
      refine wpAnyH_take (i := 17) (oi := ⟨some 73, _, _, _, _, _⟩) (v := ?_) rfl (by kernel_rfl) (by kernel_rfl) (by kernel_rfl) (fun _ _ _ h => h) (Or.inl ⟨by rfl, ?hY2x19⟩) (by assumption) ?hR2x19
      case hY2x19 => (intro w hSw; (try dsimp only at hSw); go_simp; try with_reducible rfl)
      (try simp only [Act.put, qa_, qb_, qc_])
      refine wpAnyH_take (i := 18) (oi := ⟨some 74, _, _, _, _, _⟩) (v := ?_) rfl (by kernel_rfl) (by kernel_rfl) (by kernel_rfl) (fun _ _ _ h => h) (Or.inl ⟨by rfl, ?hY2x20⟩) (by assumption) ?hR2x20
      case hY2x20 => (intro w hSw; (try dsimp only at hSw); go_simp; try with_reducible rfl)
      (try simp only [Act.put, qa_, qb_, qc_])
      refine wpAnyH_take (i := 19) (oi := ⟨some 75, _, _, _, _, _⟩) (v := ?_) rfl (by kernel_rfl) (by kernel_rfl) (by kernel_rfl) (fun _ _ _ h => h) (Or.inl ⟨by rfl, ?hY2x21⟩) (by assumption) ?hR2x21
      case hY2x21 => (intro w hSw; (try dsimp only at hSw); go_simp; try with_reducible rfl)
      (try simp only [Act.put, qa_, qb_, qc_])
      refine wpAnyH_take (i := 20) (oi := ⟨some 76, _, _, _, _, _⟩) (v := ?_) rfl (by kernel_rfl) (by kernel_rfl) (by kernel_rfl) (fun _ _ _ h => h) (Or.inl ⟨by rfl, ?hY2x22⟩) (by assumption) ?hR2x22
      case hY2x22 => (intro w hSw; (try dsimp only at hSw); go_simp; try with_reducible rfl)
      (try simp only [Act.put, qa_, qb_, qc_])
      refine wpAnyH_take (i := 21) (oi := ⟨some 77, _, _, _, _, _⟩) (v := ?_) rfl (by kernel_rfl) (by kernel_rfl) (by kernel_rfl) (fun _ _ _ h => h) (Or.inl ⟨by rfl, ?hY2x23⟩) (by assumption) ?hR2x23
      case hY2x23 => (intro w hSw; (try dsimp only at hSw); go_simp; try with_reducible rfl)
      (try simp only [Act.put, qa_, qb_, qc_])
      refine wpAnyH_take (i := 22) (oi := ⟨some 78, _, _, _, _, _⟩) (v := ?_) rfl (by kernel_rfl) (by kernel_rfl) (by kernel_rfl) (fun _ _ _ h => h) (Or.inl ⟨by rfl, ?hY2x24⟩) (by assumption) ?hR2x24
      case hY2x24 => (intro w hSw; (try dsimp only at hSw); go_simp; try with_reducible rfl)
      (try simp only [Act.put, qa_, qb_, qc_])
      refine wpAnyH_take (i := 23) (oi := ⟨some 79, _, _, _, _, _⟩) (v := ?_) rfl (by kernel_rfl) (by kernel_rfl) (by kernel_rfl) (fun _ _ _ h => h) (Or.inl ⟨by rfl, ?hY2x25⟩) (by assumption) ?hR2x25
      case hY2x25 => (intro w hSw; (try dsimp only at hSw); go_simp; try with_reducible rfl)
      (try simp only [Act.put, qa_, qb_, qc_])
      refine wpAnyH_take (i := 24) (oi := ⟨some 80, _, _, _, _, _⟩) (v := ?_) rfl (by kernel_rfl) (by kernel_rfl) (by kernel_rfl) (fun _ _ _ h => h) (Or.inl ⟨by rfl, ?hY2x26⟩) (by assumption) ?hR2x26
      case hY2x26 => (intro w hSw; (try dsimp only at hSw); go_simp; try with_reducible rfl)
      (try simp only [Act.put, qa_, qb_, qc_])
      refine wpAnyH_ready (rs := [25]) (by kernel_rfl) (by simp) ?_
      refine AllReadyH.cons (o := ⟨some 81, _, _, _, _, _⟩) rfl (fun K hK => ?hT2x27) ?hM2x27
      case hM2x27 => exact AllReadyH.nil
      go_simp
      (first | (go_at_call 22; obtain ⟨g0, gC, gT, gD, gX⟩ := ‹Below W5.heap.size W5 _ ∧ _›; ((with_reducible refine (Selected_calls c s f T l.length kt l r1 _ (Kd.C_below HTW5.out g0) hkt HPN.out (by omega) HR1.out (HGW.out.below g0)).mono ?_));  rintro e w5 ⟨rfl, hb_⟩; have j0 := below_step g0 hb_; have s5 := j0.size; have jC := fun j => (j0.cell (p := ⟨cb, j, none⟩) kC).trans (rC j); have jT := fun j => (j0.cell (p := ⟨tb, j, none⟩) kT).trans (rT j); have jD := fun j => (j0.cell (p := ⟨db, j, none⟩) kD).trans (rD j); have jX := fun j => (j0.cell (p := ⟨db + 1, j, none⟩) kX).trans (rX j)) | (go_at_call 22; obtain ⟨g0, gC, gT, gD, gX⟩ := ‹Below W5.heap.size W5 _ ∧ _›; ((with_reducible refine (SelD c P f T l.length kt l r1 _ (Kd.C_below HTW5.out g0) hkt HPN.out (by omega) HR2.out (HGW.out.below g0)).mono ?_));  rintro e w13 ⟨rfl, hb_⟩; have j0 := below_step g0 hb_; have s13 := j0.size; have jC := fun j => (j0.cell (p := ⟨cb, j, none⟩) kC).trans (rC j); have jT := fun j => (j0.cell (p := ⟨tb, j, none⟩) kT).trans (rT j); have jD := fun j => (j0.cell (p := ⟨db, j, none⟩) kD).trans (rD j); have jX := fun j => (j0.cell (p := ⟨db + 1, j, none⟩) kX).trans (rX j)) | (go_at_call 22; obtain ⟨g0, gC, gT, gD, gX⟩ := ‹Below W5.heap.size W5 _ ∧ _›; ((with_reducible refine (Selected_calls c s f A5 (l.length + 1) c5 (⟨99, 0⟩ :: l) false _ (Kd.C_below HWL.out g0) hc5 HPW.out (by omega) HR3.out (HGW.out.below g0)).mono ?_));  rintro e w25 ⟨rfl, hb_⟩; have j0 := below_step g0 hb_; have s25 := j0.size; have jC := fun j => (j0.cell (p := ⟨cb, j, none⟩) kC).trans (rC j); have jT := fun j => (j0.cell (p := ⟨tb, j, none⟩) kT).trans (rT j); have jD := fun j => (j0.cell (p := ⟨db, j, none⟩) kD).trans (rD j); have jX := fun j => (j0.cell (p := ⟨db + 1, j, none⟩) kX).trans (rX j)) | (go_at_call 22; obtain ⟨g0, gC, gT, gD, gX⟩ := ‹Below W5.heap.size W5 _ ∧ _›; ((with_reducible refine (Selected_calls c (-s) f T l.length kt l false _ (Kd.C_below HTW5.out g0) hkt HPN.out (by omega) HR4.out (HGW.out.below g0)).mono ?_));  rintro e w34 ⟨rfl, hb_⟩; have j0 := below_step g0 hb_; have s34 := j0.size; have jC := fun j => (j0.cell (p := ⟨cb, j, none⟩) kC).trans (rC j); have jT := fun j => (j0.cell (p := ⟨tb, j, none⟩) kT).trans (rT j); have jD := fun j => (j0.cell (p := ⟨db, j, none⟩) kD).trans (rD j); have jX := fun j => (j0.cell (p := ⟨db + 1, j, none⟩) kX).trans (rX j)) | (go_at_call 22; obtain ⟨g0, gC, gT, gD, gX⟩ := ‹Below W5.heap.size W5 _ ∧ _›; ((with_reducible refine (SelZ s f T l.length kt l _ (Kd.C_below HTW5.out g0) hkt HPN.out (by omega) (HGW.out.below g0)).mono ?_));  rintro e w41 ⟨rfl, hb_⟩; have j0 := below_step g0 hb_; have s41 := j0.size; have jC := fun j => (j0.cell (p := ⟨cb, j, none⟩) kC).trans (rC j); have jT := fun j => (j0.cell (p := ⟨tb, j, none⟩) kT).trans (rT j); have jD := fun j => (j0.cell (p := ⟨db, j, none⟩) kD).trans (rD j); have jX := fun j => (j0.cell (p := ⟨db + 1, j, none⟩) kX).trans (rX j)))
      (try go_wp2_with fail)
      refine hK.out _ _ ?hS2x27 (fun hHeld => ?hR2x27)
      case hS2x27 => ((try dsimp only); (first | exact ⟨below_drew1 (Below.refl _ _), rC, rT, rD, rX⟩ | exact ⟨below_drew1 b0_, rC, rT, rD, rX⟩ | exact ⟨j0, jC, jT, jD, jX⟩ | exact ⟨below_alloc j0 _, fun j => (cell_alloc_old (Nat.lt_of_lt_of_le kC j0.size)).trans (jC j), fun j => (cell_alloc_old (Nat.lt_of_lt_of_le kT j0.size)).trans (jT j), fun j => (cell_alloc_old (Nat.lt_of_lt_of_le kD j0.size)).trans (jD j), fun j => (cell_alloc_old (Nat.lt_of_lt_of_le kX j0.size)).trans (jX j)⟩ | exact ⟨below_alloc (below_drew1 (Below.refl _ _)) _, fun j => (cell_alloc_old kC).trans (rC j), fun j => (cell_alloc_old kT).trans (rT j), fun j => (cell_alloc_old kD).trans (rD j), fun j => (cell_alloc_old kX).trans (rX j)⟩ | assumption))
      clear hK K
      (try simp only [Act.put, qa_, qb_, qc_])
      refine wpAnyH_take (i := 26) (oi := ⟨some 82, _, _, _, _, _⟩) (v := ?_) rfl (by kernel_rfl) (by kernel_rfl) (by kernel_rfl) (fun _ _ _ h => h) (Or.inl ⟨by rfl, ?hY2x28⟩) (by assumption) ?hR2x28
      case hY2x28 => (intro w hSw; (try dsimp only at hSw); go_simp; try with_reducible rfl)
      (try simp only [Act.put, qa_, qb_, qc_])
      refine wpAnyH_take (i := 27) (oi := ⟨some 83, _, _, _, _, _⟩) (v := ?_) rfl (by kernel_rfl) (by kernel_rfl) (by kernel_rfl) (fun _ _ _ h => h) (Or.inl ⟨by rfl, ?hY2x29⟩) (by assumption) ?hR2x29
      case hY2x29 => (intro w hSw; (try dsimp only at hSw); go_simp; try with_reducible rfl)
      (try simp only [Act.put, qa_, qb_, qc_])
      refine wpAnyH_take (i := 28) (oi := ⟨some 84, _, _, _, _, _⟩) (v := ?_) rfl (by kernel_rfl) (by kernel_rfl) (by kernel_rfl) (fun _ _ _ h => h) (Or.inl ⟨by rfl, ?hY2x30⟩) (by assumption) ?hR2x30
      case hY2x30 => (intro w hSw; (try dsimp only at hSw); go_simp; try with_reducible rfl)
      (try simp only [Act.put, qa_, qb_, qc_])
      refine wpAnyH_take (i := 29) (oi := ⟨some 85, _, _, _, _, _⟩) (v := ?_) rfl (by kernel_rfl) (by kernel_rfl) (by kernel_rfl) (fun _ _ _ h => h) (Or.inl ⟨by rfl, ?hY2x31⟩) (by assumption) ?hR2x31
      case hY2x31 => (intro w hSw; (try dsimp only at hSw); go_simp; try with_reducible rfl)
      (try simp only [Act.put, qa_, qb_, qc_])
      refine wpAnyH_take (i := 30) (oi := ⟨some 86, _, _, _, _, _⟩) (v := ?_) rfl (by kernel_rfl) (by kernel_rfl) (by kernel_rfl) (fun _ _ _ h => h) (Or.inl ⟨by rfl, ?hY2x32⟩) (by assumption) ?hR2x32
      case hY2x32 => (intro w hSw; (try dsimp only at hSw); go_simp; try with_reducible rfl)
      (try simp only [Act.put, qa_, qb_, qc_])
      refine wpAnyH_take (i := 31) (oi := ⟨some 87, _, _, _, _, _⟩) (v := ?_) rfl (by kernel_rfl) (by kernel_rfl) (by kernel_rfl) (fun _ _ _ h => h) (Or.inl ⟨by rfl, ?hY2x33⟩) (by assumption) ?hR2x33
      case hY2x33 => (intro w hSw; (try dsimp only at hSw); go_simp; try with_reducible rfl)
      (try simp only [Act.put, qa_, qb_, qc_])
      refine wpAnyH_take (i := 32) (oi := ⟨some 88, _, _, _, _, _⟩) (v := ?_) rfl (by kernel_rfl) (by kernel_rfl) (by kernel_rfl) (fun _ _ _ h => h) (Or.inl ⟨by rfl, ?hY2x34⟩) (by assumption) ?hR2x34
      case hY2x34 => (intro w hSw; (try dsimp only at hSw); go_simp; try with_reducible rfl)
      (try simp only [Act.put, qa_, qb_, qc_])
      refine wpAnyH_take (i := 33) (oi := ⟨some 89, _, _, _, _, _⟩) (v := ?_) rfl (by kernel_rfl) (by kernel_rfl) (by kernel_rfl) (fun _ _ _ h => h) (Or.inl ⟨by rfl, ?hY2x35⟩) (by assumption) ?hR2x35
      case hY2x35 => (intro w hSw; (try dsimp only at hSw); go_simp; try with_reducible rfl)
      (try simp only [Act.put, qa_, qb_, qc_])
      refine wpAnyH_ready (rs := [34]) (by kernel_rfl) (by simp) ?_
      refine AllReadyH.cons (o := ⟨some 90, _, _, _, _, _⟩) rfl (fun K hK => ?hT2x36) ?hM2x36
      case hM2x36 => exact AllReadyH.nil
      go_simp
      (first | (go_at_call 22; obtain ⟨g0, gC, gT, gD, gX⟩ := ‹Below W5.heap.size W5 _ ∧ _›; ((with_reducible refine (Selected_calls c s f T l.length kt l r1 _ (Kd.C_below HTW5.out g0) hkt HPN.out (by omega) HR1.out (HGW.out.below g0)).mono ?_));  rintro e w5 ⟨rfl, hb_⟩; have j0 := below_step g0 hb_; have s5 := j0.size; have jC := fun j => (j0.cell (p := ⟨cb, j, none⟩) kC).trans (rC j); have jT := fun j => (j0.cell (p := ⟨tb, j, none⟩) kT).trans (rT j); have jD := fun j => (j0.cell (p := ⟨db, j, none⟩) kD).trans (rD j); have jX := fun j => (j0.cell (p := ⟨db + 1, j, none⟩) kX).trans (rX j)) | (go_at_call 22; obtain ⟨g0, gC, gT, gD, gX⟩ := ‹Below W5.heap.size W5 _ ∧ _›; ((with_reducible refine (SelD c P f T l.length kt l r1 _ (Kd.C_below HTW5.out g0) hkt HPN.out (by omega) HR2.out (HGW.out.below g0)).mono ?_));  rintro e w13 ⟨rfl, hb_⟩; have j0 := below_step g0 hb_; have s13 := j0.size; have jC := fun j => (j0.cell (p := ⟨cb, j, none⟩) kC).trans (rC j); have jT := fun j => (j0.cell (p := ⟨tb, j, none⟩) kT).trans (rT j); have jD := fun j => (j0.cell (p := ⟨db, j, none⟩) kD).trans (rD j); have jX := fun j => (j0.cell (p := ⟨db + 1, j, none⟩) kX).trans (rX j)) | (go_at_call 22; obtain ⟨g0, gC, gT, gD, gX⟩ := ‹Below W5.heap.size W5 _ ∧ _›; ((with_reducible refine (Selected_calls c s f A5 (l.length + 1) c5 (⟨99, 0⟩ :: l) false _ (Kd.C_below HWL.out g0) hc5 HPW.out (by omega) HR3.out (HGW.out.below g0)).mono ?_));  rintro e w25 ⟨rfl, hb_⟩; have j0 := below_step g0 hb_; have s25 := j0.size; have jC := fun j => (j0.cell (p := ⟨cb, j, none⟩) kC).trans (rC j); have jT := fun j => (j0.cell (p := ⟨tb, j, none⟩) kT).trans (rT j); have jD := fun j => (j0.cell (p := ⟨db, j, none⟩) kD).trans (rD j); have jX := fun j => (j0.cell (p := ⟨db + 1, j, none⟩) kX).trans (rX j)) | (go_at_call 22; obtain ⟨g0, gC, gT, gD, gX⟩ := ‹Below W5.heap.size W5 _ ∧ _›; ((with_reducible refine (Selected_calls c (-s) f T l.length kt l false _ (Kd.C_below HTW5.out g0) hkt HPN.out (by omega) HR4.out (HGW.out.below g0)).mono ?_));  rintro e w34 ⟨rfl, hb_⟩; have j0 := below_step g0 hb_; have s34 := j0.size; have jC := fun j => (j0.cell (p := ⟨cb, j, none⟩) kC).trans (rC j); have jT := fun j => (j0.cell (p := ⟨tb, j, none⟩) kT).trans (rT j); have jD := fun j => (j0.cell (p := ⟨db, j, none⟩) kD).trans (rD j); have jX := fun j => (j0.cell (p := ⟨db + 1, j, none⟩) kX).trans (rX j)) | (go_at_call 22; obtain ⟨g0, gC, gT, gD, gX⟩ := ‹Below W5.heap.size W5 _ ∧ _›; ((with_reducible refine (SelZ s f T l.length kt l _ (Kd.C_below HTW5.out g0) hkt HPN.out (by omega) (HGW.out.below g0)).mono ?_));  rintro e w41 ⟨rfl, hb_⟩; have j0 := below_step g0 hb_; have s41 := j0.size; have jC := fun j => (j0.cell (p := ⟨cb, j, none⟩) kC).trans (rC j); have jT := fun j => (j0.cell (p := ⟨tb, j, none⟩) kT).trans (rT j); have jD := fun j => (j0.cell (p := ⟨db, j, none⟩) kD).trans (rD j); have jX := fun j => (j0.cell (p := ⟨db + 1, j, none⟩) kX).trans (rX j)))
      (try go_wp2_with fail)
      refine hK.out _ _ ?hS2x36 (fun hHeld => ?hR2x36)
      case hS2x36 => ((try dsimp only); (first | exact ⟨below_drew1 (Below.refl _ _), rC, rT, rD, rX⟩ | exact ⟨below_drew1 b0_, rC, rT, rD, rX⟩ | exact ⟨j0, jC, jT, jD, jX⟩ | exact ⟨below_alloc j0 _, fun j => (cell_alloc_old (Nat.lt_of_lt_of_le kC j0.size)).trans (jC j), fun j => (cell_alloc_old (Nat.lt_of_lt_of_le kT j0.size)).trans (jT j), fun j => (cell_alloc_old (Nat.lt_of_lt_of_le kD j0.size)).trans (jD j), fun j => (cell_alloc_old (Nat.lt_of_lt_of_le kX j0.size)).trans (jX j)⟩ | exact ⟨below_alloc (below_drew1 (Below.refl _ _)) _, fun j => (cell_alloc_old kC).trans (rC j), fun j => (cell_alloc_old kT).trans (rT j), fun j => (cell_alloc_old kD).trans (rD j), fun j => (cell_alloc_old kX).trans (rX j)⟩ | assumption))
      clear hK K
      (try simp only [Act.put, qa_, qb_, qc_])
      refine wpAnyH_take (i := 35) (oi := ⟨some 91, _, _, _, _, _⟩) (v := ?_) rfl (by kernel_rfl) (by kernel_rfl) (by kernel_rfl) (fun _ _ _ h => h) (Or.inl ⟨by rfl, ?hY2x37⟩) (by assumption) ?hR2x37
      case hY2x37 => (intro w hSw; (try dsimp only at hSw); go_simp; try with_reducible rfl)
      (try simp only [Act.put, qa_, qb_, qc_])
      refine wpAnyH_take (i := 36) (oi := ⟨some 92, _, _, _, _, _⟩) (v := ?_) rfl (by kernel_rfl) (by kernel_rfl) (by kernel_rfl) (fun _ _ _ h => h) (Or.inl ⟨by rfl, ?hY2x38⟩) (by assumption) ?hR2x38
      case hY2x38 => (intro w hSw; (try dsimp only at hSw); go_simp; try with_reducible rfl)
      (try simp only [Act.put, qa_, qb_, qc_])
      refine wpAnyH_take (i := 37) (oi := ⟨some 93, _, _, _, _, _⟩) (v := ?_) rfl (by kernel_rfl) (by kernel_rfl) (by kernel_rfl) (fun _ _ _ h => h) (Or.inl ⟨by rfl, ?hY2x39⟩) (by assumption) ?hR2x39
      case hY2x39 => (intro w hSw; (try dsimp only at hSw); go_simp; try with_reducible rfl)
      (try simp only [Act.put, qa_, qb_, qc_])
      refine wpAnyH_take (i := 38) (oi := ⟨some 94, _, _, _, _, _⟩) (v := ?_) rfl (by kernel_rfl) (by kernel_rfl) (by kernel_rfl) (fun _ _ _ h => h) (Or.inl ⟨by rfl, ?hY2x40⟩) (by assumption) ?hR2x40
      case hY2x40 => (intro w hSw; (try dsimp only at hSw); go_simp; try with_reducible rfl)
      (try simp only [Act.put, qa_, qb_, qc_])
      refine wpAnyH_take (i := 39) (oi := ⟨some 95, _, _, _, _, _⟩) (v := ?_) rfl (by kernel_rfl) (by kernel_rfl) (by kernel_rfl) (fun _ _ _ h => h) (Or.inl ⟨by rfl, ?hY2x41⟩) (by assumption) ?hR2x41
      case hY2x41 => (intro w hSw; (try dsimp only at hSw); go_simp; try with_reducible rfl)
      (try simp only [Act.put, qa_, qb_, qc_])
      refine wpAnyH_take (i := 40) (oi := ⟨some 96, _, _, _, _, _⟩) (v := ?_) rfl (by kernel_rfl) (by kernel_rfl) (by kernel_rfl) (fun _ _ _ h => h) (Or.inl ⟨by rfl, ?hY2x42⟩) (by assumption) ?hR2x42
      case hY2x42 => (intro w hSw; (try dsimp only at hSw); go_simp; try with_reducible rfl)
      (try simp only [Act.put, qa_, qb_, qc_])
      refine wpAnyH_ready (rs := [41]) (by kernel_rfl) (by simp) ?_
      refine AllReadyH.cons (o := ⟨some 97, _, _, _, _, _⟩) rfl (fun K hK => ?hT2x43) ?hM2x43
      case hM2x43 => exact AllReadyH.nil
      go_simp
      (first | (go_at_call 22; obtain ⟨g0, gC, gT, gD, gX⟩ := ‹Below W5.heap.size W5 _ ∧ _›; ((with_reducible refine (Selected_calls c s f T l.length kt l r1 _ (Kd.C_below HTW5.out g0) hkt HPN.out (by omega) HR1.out (HGW.out.below g0)).mono ?_));  rintro e w5 ⟨rfl, hb_⟩; have j0 := below_step g0 hb_; have s5 := j0.size; have jC := fun j => (j0.cell (p := ⟨cb, j, none⟩) kC).trans (rC j); have jT := fun j => (j0.cell (p := ⟨tb, j, none⟩) kT).trans (rT j); have jD := fun j => (j0.cell (p := ⟨db, j, none⟩) kD).trans (rD j); have jX := fun j => (j0.cell (p := ⟨db + 1, j, none⟩) kX).trans (rX j)) | (go_at_call 22; obtain ⟨g0, gC, gT, gD, gX⟩ := ‹Below W5.heap.size W5 _ ∧ _›; ((with_reducible refine (SelD c P f T l.length kt l r1 _ (Kd.C_below HTW5.out g0) hkt HPN.out (by omega) HR2.out (HGW.out.below g0)).mono ?_));  rintro e w13 ⟨rfl, hb_⟩; have j0 := below_step g0 hb_; have s13 := j0.size; have jC := fun j => (j0.cell (p := ⟨cb, j, none⟩) kC).trans (rC j); have jT := fun j => (j0.cell (p := ⟨tb, j, none⟩) kT).trans (rT j); have jD := fun j => (j0.cell (p := ⟨db, j, none⟩) kD).trans (rD j); have jX := fun j => (j0.cell (p := ⟨db + 1, j, none⟩) kX).trans (rX j)) | (go_at_call 22; obtain ⟨g0, gC, gT, gD, gX⟩ := ‹Below W5.heap.size W5 _ ∧ _›; ((with_reducible refine (Selected_calls c s f A5 (l.length + 1) c5 (⟨99, 0⟩ :: l) false _ (Kd.C_below HWL.out g0) hc5 HPW.out (by omega) HR3.out (HGW.out.below g0)).mono ?_));  rintro e w25 ⟨rfl, hb_⟩; have j0 := below_step g0 hb_; have s25 := j0.size; have jC := fun j => (j0.cell (p := ⟨cb, j, none⟩) kC).trans (rC j); have jT := fun j => (j0.cell (p := ⟨tb, j, none⟩) kT).trans (rT j); have jD := fun j => (j0.cell (p := ⟨db, j, none⟩) kD).trans (rD j); have jX := fun j => (j0.cell (p := ⟨db + 1, j, none⟩) kX).trans (rX j)) | (go_at_call 22; obtain ⟨g0, gC, gT, gD, gX⟩ := ‹Below W5.heap.size W5 _ ∧ _›; ((with_reducible refine (Selected_calls c (-s) f T l.length kt l false _ (Kd.C_below HTW5.out g0) hkt HPN.out (by omega) HR4.out (HGW.out.below g0)).mono ?_));  rintro e w34 ⟨rfl, hb_⟩; have j0 := below_step g0 hb_; have s34 := j0.size; have jC := fun j => (j0.cell (p := ⟨cb, j, none⟩) kC).trans (rC j); have jT := fun j => (j0.cell (p := ⟨tb, j, none⟩) kT).trans (rT j); have jD := fun j => (j0.cell (p := ⟨db, j, none⟩) kD).trans (rD j); have jX := fun j => (j0.cell (p := ⟨db + 1, j, none⟩) kX).trans (rX j)) | (go_at_call 22; obtain ⟨g0, gC, gT, gD, gX⟩ := ‹Below W5.heap.size W5 _ ∧ _›; ((with_reducible refine (SelZ s f T l.length kt l _ (Kd.C_below HTW5.out g0) hkt HPN.out (by omega) (HGW.out.below g0)).mono ?_));  rintro e w41 ⟨rfl, hb_⟩; have j0 := below_step g0 hb_; have s41 := j0.size; have jC := fun j => (j0.cell (p := ⟨cb, j, none⟩) kC).trans (rC j); have jT := fun j => (j0.cell (p := ⟨tb, j, none⟩) kT).trans (rT j); have jD := fun j => (j0.cell (p := ⟨db, j, none⟩) kD).trans (rD j); have jX := fun j => (j0.cell (p := ⟨db + 1, j, none⟩) kX).trans (rX j)))
      (try go_wp2_with fail)
      refine hK.out _ _ ?hS2x43 (fun hHeld => ?hR2x43)
      case hS2x43 => ((try dsimp only); (first | exact ⟨below_drew1 (Below.refl _ _), rC, rT, rD, rX⟩ | exact ⟨below_drew1 b0_, rC, rT, rD, rX⟩ | exact ⟨j0, jC, jT, jD, jX⟩ | exact ⟨below_alloc j0 _, fun j => (cell_alloc_old (Nat.lt_of_lt_of_le kC j0.size)).trans (jC j), fun j => (cell_alloc_old (Nat.lt_of_lt_of_le kT j0.size)).trans (jT j), fun j => (cell_alloc_old (Nat.lt_of_lt_of_le kD j0.size)).trans (jD j), fun j => (cell_alloc_old (Nat.lt_of_lt_of_le kX j0.size)).trans (jX j)⟩ | exact ⟨below_alloc (below_drew1 (Below.refl _ _)) _, fun j => (cell_alloc_old kC).trans (rC j), fun j => (cell_alloc_old kT).trans (rT j), fun j => (cell_alloc_old kD).trans (rD j), fun j => (cell_alloc_old kX).trans (rX j)⟩ | assumption))
      clear hK K
      (try simp only [Act.put, qa_, qb_, qc_])
      refine wpAnyH_take (i := 42) (oi := ⟨some 98, _, _, _, _, _⟩) (v := ?_) rfl (by kernel_rfl) (by kernel_rfl) (by kernel_rfl) (fun _ _ _ h => h) (Or.inl ⟨by rfl, ?hY2x44⟩) (by assumption) ?hR2x44
      case hY2x44 => (intro w hSw; (try dsimp only at hSw); go_simp; try with_reducible rfl)
      (try simp only [Act.put, qa_, qb_, qc_])
      refine wpAnyH_take (i := 43) (oi := ⟨some 99, _, _, _, _, _⟩) (v := ?_) rfl (by kernel_rfl) (by kernel_rfl) (by kernel_rfl) (fun _ _ _ h => h) (Or.inl ⟨by rfl, ?hY2x45⟩) (by assumption) ?hR2x45
      case hY2x45 => (intro w hSw; (try dsimp only at hSw); go_simp; try with_reducible rfl)
      (try simp only [Act.put, qa_, qb_, qc_])
      refine wpAnyH_take (i := 44) (oi := ⟨some 8, _, _, _, _, _⟩) (v := ?_) rfl (by kernel_rfl) (by kernel_rfl) (by kernel_rfl) (fun _ _ _ h => h) (Or.inl ⟨by rfl, ?hY2x46⟩) (by assumption) ?hR2x46
      case hY2x46 => (intro w hSw; (try dsimp only at hSw); go_simp; try with_reducible rfl)
      (try simp only [Act.put, qa_, qb_, qc_])
      refine wpAnyH_done (by kernel_rfl) ?_ _
      go_wp2
      go_ret
      exact ⟨rfl, below_step HB5.out j0⟩
end Go.Proofs.YtdepmbnoecpccaaDoor

