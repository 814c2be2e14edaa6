/- ScoreTells: for every input the call of the statement returns true and leaves its arguments as they were. Conditions: none. -/
import Derived.Deep.Grids
import Derived.StillTailTactics
import Derived.Deep.RegionWith
import Derived.Deep.RegionHeld3
import Derived.Deep.CutRange
import Derived.Deep.CutBlock
import Derived.Deep.Heap
import Derived.Test.YtdhgneindanbeaaScoreShell
import Derived.Test.YtdhgneindanbeaaScoreAwake
import Derived.Test.YtdhgneindanbeaaScoreRef
set_option linter.unusedVariables false
set_option linter.unusedSimpArgs false
namespace Go.Proofs.Ytdhgneindanbeaa
open Go.RowKit Go.Proofs.YtdhgneindanbeaaW.PrintWords Go.Proofs.YtdhgneindanbeaaW.PrintLast Go.Proofs.YtdhgneindanbeaaW.PrintMore
open Go.ChangeShapes Go.WideShapes Go.ChangeAt
open Go.ChangeMaps (open_string shut_string)

theorem Box.new3 {w : World} {o o' o'' : Obj} {cs : Array Value} {T : TypeId} : Box ((((w.alloc o).alloc o').alloc o'').alloc (.cells cs T)) (w.heap.size + 1 + 1 + 1) cs T := by
  have h := Box.new2 (w := w.alloc o) (o := o') (o' := o'') (cs := cs) (T := T)
  rwa [size_alloc] at h
theorem Box.other {w : World} {b b' j : Nat} {cs : Array Value} {T : TypeId} {v : Value} (h : Box w b cs T) (hne : b ≠ b') : Box (w.setCell ⟨b', j, none⟩ v) b cs T := by
  unfold Box at h ⊢
  rw [← h]
  exact Go.Deep.blk_setCell_other w ⟨b', j, none⟩ v b hne

def settleA (r : RuleV) (s : ScoreV) : ScoreV := if okB r s then settleF r s else zeroS
def decayA (r : RuleV) (s : ScoreV) : ScoreV := if okB r s then decayF r s else zeroS
def countA (s : ScoreV) (g : Bool) : ScoreV := if rightB s then countF s g else zeroS
def errA (b : Bool) : Int := if b then 0 else 1
theorem settle_a (r : RuleV) (s : ScoreV) (w : World) : Calls Try.prog 12 #[.agg #[.int .i64 r.pen, .int .i64 r.cre, .int .i64 r.most, .int .i64 r.num, .int .i64 r.den, .int .i64 r.ban, .int .i64 r.back], .agg #[.int .i64 s.pts, .int .i64 s.good, .int .i64 s.bad, .bool s.ban]] w fun e w' =>
    e = .returned (.tuple #[.agg #[.int .i64 (settleA r s).pts, .int .i64 (settleA r s).good, .int .i64 (settleA r s).bad, .bool (settleA r s).ban], .int .i64 (errA (okB r s))]) ∧ Below w.heap.size w w' := by
  rcases Bool.eq_false_or_eq_true (okB r s) with h | h
  · have := Settle_yes r s w h
    rw [settleA, h, if_pos rfl, errA, if_pos rfl]
    exact this
  · have := Settle_no r s w h
    rw [settleA, h, if_neg (by simp), errA, if_neg (by simp)]
    exact this
theorem rsettle_a (r : RuleV) (s : ScoreV) (w : World) : Calls Try.prog 13 #[.agg #[.int .i64 r.pen, .int .i64 r.cre, .int .i64 r.most, .int .i64 r.num, .int .i64 r.den, .int .i64 r.ban, .int .i64 r.back], .agg #[.int .i64 s.pts, .int .i64 s.good, .int .i64 s.bad, .bool s.ban]] w fun e w' =>
    e = .returned (.tuple #[.agg #[.int .i64 (settleA r s).pts, .int .i64 (settleA r s).good, .int .i64 (settleA r s).bad, .bool (settleA r s).ban], .int .i64 (errA (okB r s))]) ∧ Below w.heap.size w w' := by
  rcases Bool.eq_false_or_eq_true (okB r s) with h | h
  · have := rSettle_yes r s w h
    rw [settleA, h, if_pos rfl, errA, if_pos rfl]
    exact this
  · have := rSettle_no r s w h
    rw [settleA, h, if_neg (by simp), errA, if_neg (by simp)]
    exact this
theorem decay_a (r : RuleV) (s : ScoreV) (w : World) : Calls Try.prog 14 #[.agg #[.int .i64 r.pen, .int .i64 r.cre, .int .i64 r.most, .int .i64 r.num, .int .i64 r.den, .int .i64 r.ban, .int .i64 r.back], .agg #[.int .i64 s.pts, .int .i64 s.good, .int .i64 s.bad, .bool s.ban]] w fun e w' =>
    e = .returned (.tuple #[.agg #[.int .i64 (decayA r s).pts, .int .i64 (decayA r s).good, .int .i64 (decayA r s).bad, .bool (decayA r s).ban], .int .i64 (errA (okB r s))]) ∧ Below w.heap.size w w' := by
  rcases Bool.eq_false_or_eq_true (okB r s) with h | h
  · have := Decay_yes r s w h
    rw [decayA, h, if_pos rfl, errA, if_pos rfl]
    exact this
  · have := Decay_no r s w h
    rw [decayA, h, if_neg (by simp), errA, if_neg (by simp)]
    exact this
theorem rdecay_a (r : RuleV) (s : ScoreV) (w : World) : Calls Try.prog 15 #[.agg #[.int .i64 r.pen, .int .i64 r.cre, .int .i64 r.most, .int .i64 r.num, .int .i64 r.den, .int .i64 r.ban, .int .i64 r.back], .agg #[.int .i64 s.pts, .int .i64 s.good, .int .i64 s.bad, .bool s.ban]] w fun e w' =>
    e = .returned (.tuple #[.agg #[.int .i64 (decayA r s).pts, .int .i64 (decayA r s).good, .int .i64 (decayA r s).bad, .bool (decayA r s).ban], .int .i64 (errA (okB r s))]) ∧ Below w.heap.size w w' := by
  rcases Bool.eq_false_or_eq_true (okB r s) with h | h
  · have := rDecay_yes r s w h
    rw [decayA, h, if_pos rfl, errA, if_pos rfl]
    exact this
  · have := rDecay_no r s w h
    rw [decayA, h, if_neg (by simp), errA, if_neg (by simp)]
    exact this
theorem count_a (s : ScoreV) (g : Bool) (w : World) : Calls Try.prog 16 #[.agg #[.int .i64 s.pts, .int .i64 s.good, .int .i64 s.bad, .bool s.ban], .bool g] w fun e w' =>
    e = .returned (.tuple #[.agg #[.int .i64 (countA s g).pts, .int .i64 (countA s g).good, .int .i64 (countA s g).bad, .bool (countA s g).ban], .int .i64 (errA (rightB s))]) ∧ Below w.heap.size w w' := by
  rcases Bool.eq_false_or_eq_true (rightB s) with h | h
  · have := Count_yes s g w h
    rw [countA, h, if_pos rfl, errA, if_pos rfl]
    exact this
  · have := Count_no s g w h
    rw [countA, h, if_neg (by simp), errA, if_neg (by simp)]
    exact this
theorem rcount_a (s : ScoreV) (g : Bool) (w : World) : Calls Try.prog 17 #[.agg #[.int .i64 s.pts, .int .i64 s.good, .int .i64 s.bad, .bool s.ban], .bool g] w fun e w' =>
    e = .returned (.tuple #[.agg #[.int .i64 (countA s g).pts, .int .i64 (countA s g).good, .int .i64 (countA s g).bad, .bool (countA s g).ban], .int .i64 (errA (rightB s))]) ∧ Below w.heap.size w w' := by
  rcases Bool.eq_false_or_eq_true (rightB s) with h | h
  · have := rCount_yes s g w h
    rw [countA, h, if_pos rfl, errA, if_pos rfl]
    exact this
  · have := rCount_no s g w h
    rw [countA, h, if_neg (by simp), errA, if_neg (by simp)]
    exact this

theorem rule_came {W : World} {b : Nat} {v : Value} (hv : Value.okWide Try.prog W .any b 23 v) : ∃ r : RuleV, v = .agg #[.int .i64 r.pen, .int .i64 r.cre, .int .i64 r.most, .int .i64 r.num, .int .i64 r.den, .int .i64 r.ban, .int .i64 r.back] := by
  obtain ⟨cs, rfl, h⟩ := open_agg (ts := [3, 3, 3, 3, 3, 3, 3]) (by rw [Try.underlying23]) (by kernel_rfl) (by kernel_rfl) hv
  obtain ⟨a, _, rfl, ha, h⟩ := agg_cons Try.underlying3 h
  obtain ⟨b, _, rfl, hb, h⟩ := agg_cons Try.underlying3 h
  obtain ⟨c, _, rfl, hc, h⟩ := agg_cons Try.underlying3 h
  obtain ⟨d, _, rfl, hd, h⟩ := agg_cons Try.underlying3 h
  obtain ⟨e, _, rfl, he, h⟩ := agg_cons Try.underlying3 h
  obtain ⟨f, _, rfl, hf, h⟩ := agg_cons Try.underlying3 h
  obtain ⟨g, _, rfl, hg, h⟩ := agg_cons Try.underlying3 h
  obtain rfl := allOk_nil h
  exact ⟨⟨a, b, c, d, e, f, g⟩, rfl⟩
theorem score_came {W : World} {b : Nat} {v : Value} (hv : Value.okWide Try.prog W .any b 25 v) : ∃ r : ScoreV, v = .agg #[.int .i64 r.pts, .int .i64 r.good, .int .i64 r.bad, .bool r.ban] := by
  obtain ⟨cs, rfl, h⟩ := open_agg (ts := [3, 3, 3, 4]) (by rw [Try.underlying25]) (by kernel_rfl) (by kernel_rfl) hv
  obtain ⟨a, _, rfl, ha, h⟩ := agg_cons Try.underlying3 h
  obtain ⟨b, _, rfl, hb, h⟩ := agg_cons Try.underlying3 h
  obtain ⟨c, _, rfl, hc, h⟩ := agg_cons Try.underlying3 h
  obtain ⟨d, _, rfl, h'⟩ := agg_bool Try.underlying4 h
  obtain rfl := allOk_nil h'
  exact ⟨⟨a, b, c, d⟩, rfl⟩

set_option maxHeartbeats 16000000 in
set_option maxRecDepth 100000 in
theorem ScoreTells_calls (r : RuleV) (s : ScoreV) (n : Seven) (k : Three) (ban : Bool) (c x : Int) (hc : i64ok c) (w : World) : Calls Try.prog 3 #[.agg #[.int .i64 r.pen, .int .i64 r.cre, .int .i64 r.most, .int .i64 r.num, .int .i64 r.den, .int .i64 r.ban, .int .i64 r.back], .agg #[.int .i64 s.pts, .int .i64 s.good, .int .i64 s.bad, .bool s.ban], .agg #[.int .i64 n.a, .int .i64 n.b, .int .i64 n.c, .int .i64 n.d, .int .i64 n.e, .int .i64 n.f, .int .i64 n.g], .agg #[.int .i64 k.a, .int .i64 k.b, .int .i64 k.c], .bool ban, .int .i64 c, .int .i64 x] w fun e w' =>
    e = .returned (.bool true) ∧ Below w.heap.size w w' := by
  obtain ⟨hc0, hc1⟩ := hc
  have HB := Aside0.mk (Below.refl w.heap.size w)
  go_enter Try.func3, Try.ntmps3
  go_wp2_with fail
  refine (awake_calls _).mono ?_
  rintro e w1 ⟨rfl, hb_⟩
  have YA : Box w1 (w.heap.size) _ _ := Box.below (by repeat (with_reducible first | exact XA.out | exact Box.new | exact Box.new1 | exact Box.new2 | exact Box.new3 | apply Box.alloc | apply Box.drew | apply Box.drewN | apply Box.set)) hb_
  (try clear XA rA kA fA); have XA := Aside0.mk YA; have rA := YA.cell; have fA := YA.frozen; have kA := YA.lt; clear YA
  have YB : Box w1 (w.heap.size + 1) _ _ := Box.below (by repeat (with_reducible first | exact XB.out | exact Box.new | exact Box.new1 | exact Box.new2 | exact Box.new3 | apply Box.alloc | apply Box.drew | apply Box.drewN | apply Box.set)) hb_
  (try clear XB rB kB fB); have XB := Aside0.mk YB; have rB := YB.cell; have fB := YB.frozen; have kB := YB.lt; clear YB
  have YC : Box w1 (w.heap.size + 1 + 1) _ _ := Box.below (by repeat (with_reducible first | exact XC.out | exact Box.new | exact Box.new1 | exact Box.new2 | exact Box.new3 | apply Box.alloc | apply Box.drew | apply Box.drewN | apply Box.set)) hb_
  (try clear XC rC kC fC); have XC := Aside0.mk YC; have rC := YC.cell; have fC := YC.frozen; have kC := YC.lt; clear YC
  have YD : Box w1 (w.heap.size + 1 + 1 + 1) _ _ := Box.below (by repeat (with_reducible first | exact XD.out | exact Box.new | exact Box.new1 | exact Box.new2 | exact Box.new3 | apply Box.alloc | apply Box.drew | apply Box.drewN | apply Box.set)) hb_
  (try clear XD rD kD fD); have XD := Aside0.mk YD; have rD := YD.cell; have fD := YD.frozen; have kD := YD.lt; clear YD
  have n_ := Aside0.mk (below_step (by repeat (first | exact HB.out | apply below_alloc | apply pw_below_drewN | apply below_drew1 | refine below_set ?_ (by first | omega | (simp; omega)))) hb_); clear HB hb_; have HB := n_; clear n_
  go_wp2_with fail
  refine (Rule_calls n _).mono ?_
  rintro e w2 ⟨rfl, hb_⟩
  have YA : Box w2 (w.heap.size) _ _ := Box.below (by repeat (with_reducible first | exact XA.out | exact Box.new | exact Box.new1 | exact Box.new2 | exact Box.new3 | apply Box.alloc | apply Box.drew | apply Box.drewN | apply Box.set)) hb_
  (try clear XA rA kA fA); have XA := Aside0.mk YA; have rA := YA.cell; have fA := YA.frozen; have kA := YA.lt; clear YA
  have YB : Box w2 (w.heap.size + 1) _ _ := Box.below (by repeat (with_reducible first | exact XB.out | exact Box.new | exact Box.new1 | exact Box.new2 | exact Box.new3 | apply Box.alloc | apply Box.drew | apply Box.drewN | apply Box.set)) hb_
  (try clear XB rB kB fB); have XB := Aside0.mk YB; have rB := YB.cell; have fB := YB.frozen; have kB := YB.lt; clear YB
  have YC : Box w2 (w.heap.size + 1 + 1) _ _ := Box.below (by repeat (with_reducible first | exact XC.out | exact Box.new | exact Box.new1 | exact Box.new2 | exact Box.new3 | apply Box.alloc | apply Box.drew | apply Box.drewN | apply Box.set)) hb_
  (try clear XC rC kC fC); have XC := Aside0.mk YC; have rC := YC.cell; have fC := YC.frozen; have kC := YC.lt; clear YC
  have YD : Box w2 (w.heap.size + 1 + 1 + 1) _ _ := Box.below (by repeat (with_reducible first | exact XD.out | exact Box.new | exact Box.new1 | exact Box.new2 | exact Box.new3 | apply Box.alloc | apply Box.drew | apply Box.drewN | apply Box.set)) hb_
  (try clear XD rD kD fD); have XD := Aside0.mk YD; have rD := YD.cell; have fD := YD.frozen; have kD := YD.lt; clear YD
  have n_ := Aside0.mk (below_step (by repeat (first | exact HB.out | apply below_alloc | apply pw_below_drewN | apply below_drew1 | refine below_set ?_ (by first | omega | (simp; omega)))) hb_); clear HB hb_; have HB := n_; clear n_
  have z2 := HB.out.size
  have dD := kD
  have p8 := pickF_bd c 8 (by omega)
  have p4 := pickF_bd c 4 (by omega)
  generalize hn1 : ruleF n = n1 at *
  have HN1 := Aside0.mk hn1
  clear hn1
  go_upto_block 0 with (go_at_call 10; ((with_reducible refine (pick_calls _ _ _ (by omega) (by omega) (by omega) (by omega)).mono ?_)); rintro e w_ ⟨rfl, rfl⟩)
  generalize pickF c 8 = v at *
  go_cut [16] (fun v16 wc => v16 = .pointer (some ⟨w2.heap.size, 0, none⟩) ∧ ∃ o : RuleV, Box wc w2.heap.size #[.int .i64 o.pen, .int .i64 o.cre, .int .i64 o.most, .int .i64 o.num, .int .i64 o.den, .int .i64 o.ban, .int .i64 o.back] 23 ∧ Box wc w.heap.size #[.int .i64 r.pen, .int .i64 r.cre, .int .i64 r.most, .int .i64 r.num, .int .i64 r.den, .int .i64 r.ban, .int .i64 r.back] 23 ∧ Box wc (w.heap.size + 1) #[.int .i64 s.pts, .int .i64 s.good, .int .i64 s.bad, .bool s.ban] 25 ∧ Box wc (w.heap.size + 1 + 1) #[.int .i64 n.a, .int .i64 n.b, .int .i64 n.c, .int .i64 n.d, .int .i64 n.e, .int .i64 n.f, .int .i64 n.g] 26 ∧ Box wc (w.heap.size + 1 + 1 + 1) #[.int .i64 k.a, .int .i64 k.b, .int .i64 k.c] 27 ∧ Below w.heap.size w wc)
  case first =>
    have hv : v = 0 ∨ v = 1 ∨ v = 2 ∨ v = 3 ∨ v = 4 ∨ v = 5 ∨ v = 6 ∨ v = 7 := by omega
    clear p8
    rcases hv with rfl | rfl | rfl | rfl | rfl | rfl | rfl | rfl
    all_goals
      go_wp2
      go_meet
      case rel =>
        refine ⟨rfl, ?_⟩
        first
          | exact ⟨{ n1 with pen := x }, Box.new, Box.alloc XA.out, Box.alloc XB.out, Box.alloc XC.out, Box.alloc XD.out, below_alloc HB.out _⟩
          | exact ⟨{ n1 with cre := x }, Box.new, Box.alloc XA.out, Box.alloc XB.out, Box.alloc XC.out, Box.alloc XD.out, below_alloc HB.out _⟩
          | exact ⟨{ n1 with most := x }, Box.new, Box.alloc XA.out, Box.alloc XB.out, Box.alloc XC.out, Box.alloc XD.out, below_alloc HB.out _⟩
          | exact ⟨{ n1 with num := x }, Box.new, Box.alloc XA.out, Box.alloc XB.out, Box.alloc XC.out, Box.alloc XD.out, below_alloc HB.out _⟩
          | exact ⟨{ n1 with den := x }, Box.new, Box.alloc XA.out, Box.alloc XB.out, Box.alloc XC.out, Box.alloc XD.out, below_alloc HB.out _⟩
          | exact ⟨{ n1 with ban := x }, Box.new, Box.alloc XA.out, Box.alloc XB.out, Box.alloc XC.out, Box.alloc XD.out, below_alloc HB.out _⟩
          | exact ⟨{ n1 with back := x }, Box.new, Box.alloc XA.out, Box.alloc XB.out, Box.alloc XC.out, Box.alloc XD.out, below_alloc HB.out _⟩
          | exact ⟨n1, Box.new, Box.alloc XA.out, Box.alloc XB.out, Box.alloc XC.out, Box.alloc XD.out, below_alloc HB.out _⟩
  case rest =>
    obtain ⟨rfl, o, bO, bA, bB, bC, bD, hbl⟩ := hcut
    clear HB XA rA fA kA XB rB fB kB XC rC fC kC XD rD fD kD
    have HB := Aside0.mk hbl
    clear hbl
    have XO := Aside0.mk bO; have rO := bO.cell; have fO := bO.frozen; have kO := bO.lt; clear bO
    have XA := Aside0.mk bA; have rA := bA.cell; have fA := bA.frozen; have kA := bA.lt; clear bA
    have XB := Aside0.mk bB; have rB := bB.cell; have fB := bB.frozen; have kB := bB.lt; clear bB
    have XC := Aside0.mk bC; have rC := bC.cell; have fC := bC.frozen; have kC := bC.lt; clear bC
    have XD := Aside0.mk bD; have rD := bD.cell; have fD := bD.frozen; have kD := bD.lt; clear bD
    have dO := kO
    have zc := HB.out.size
    go_wp2_with fail
    refine (Score_calls k ban _).mono ?_
    rintro e w3 ⟨rfl, hb_⟩
    have YO : Box w3 (w2.heap.size) _ _ := Box.below (by repeat (with_reducible first | exact XO.out | exact Box.new | exact Box.new1 | exact Box.new2 | exact Box.new3 | apply Box.alloc | apply Box.drew | apply Box.drewN | apply Box.set)) hb_
    (try clear XO rO kO fO); have XO := Aside0.mk YO; have rO := YO.cell; have fO := YO.frozen; have kO := YO.lt; clear YO
    have YA : Box w3 (w.heap.size) _ _ := Box.below (by repeat (with_reducible first | exact XA.out | exact Box.new | exact Box.new1 | exact Box.new2 | exact Box.new3 | apply Box.alloc | apply Box.drew | apply Box.drewN | apply Box.set)) hb_
    (try clear XA rA kA fA); have XA := Aside0.mk YA; have rA := YA.cell; have fA := YA.frozen; have kA := YA.lt; clear YA
    have YB : Box w3 (w.heap.size + 1) _ _ := Box.below (by repeat (with_reducible first | exact XB.out | exact Box.new | exact Box.new1 | exact Box.new2 | exact Box.new3 | apply Box.alloc | apply Box.drew | apply Box.drewN | apply Box.set)) hb_
    (try clear XB rB kB fB); have XB := Aside0.mk YB; have rB := YB.cell; have fB := YB.frozen; have kB := YB.lt; clear YB
    have YC : Box w3 (w.heap.size + 1 + 1) _ _ := Box.below (by repeat (with_reducible first | exact XC.out | exact Box.new | exact Box.new1 | exact Box.new2 | exact Box.new3 | apply Box.alloc | apply Box.drew | apply Box.drewN | apply Box.set)) hb_
    (try clear XC rC kC fC); have XC := Aside0.mk YC; have rC := YC.cell; have fC := YC.frozen; have kC := YC.lt; clear YC
    have YD : Box w3 (w.heap.size + 1 + 1 + 1) _ _ := Box.below (by repeat (with_reducible first | exact XD.out | exact Box.new | exact Box.new1 | exact Box.new2 | exact Box.new3 | apply Box.alloc | apply Box.drew | apply Box.drewN | apply Box.set)) hb_
    (try clear XD rD kD fD); have XD := Aside0.mk YD; have rD := YD.cell; have fD := YD.frozen; have kD := YD.lt; clear YD
    have n_ := Aside0.mk (below_step (by repeat (first | exact HB.out | apply below_alloc | apply pw_below_drewN | apply below_drew1 | refine below_set ?_ (by first | omega | (simp; omega)))) hb_); clear HB hb_; have HB := n_; clear n_
    have z3 := HB.out.size
    have eO := kO
    have eD := kD
    generalize hs1 : scoreF k ban = s1 at *
    have HS1 := Aside0.mk hs1
    clear hs1
    go_upto_block 1 with (go_at_call 10; ((with_reducible refine (pick_calls _ _ _ (by omega) (by omega) (by omega) (by omega)).mono ?_)); rintro e w_ ⟨rfl, rfl⟩)
    generalize pickF c 4 = u at *
    go_cut [17] (fun v17 wd => v17 = .pointer (some ⟨w3.heap.size, 0, none⟩) ∧ ∃ b : ScoreV, Box wd w3.heap.size #[.int .i64 b.pts, .int .i64 b.good, .int .i64 b.bad, .bool b.ban] 25 ∧ Box wd w2.heap.size #[.int .i64 o.pen, .int .i64 o.cre, .int .i64 o.most, .int .i64 o.num, .int .i64 o.den, .int .i64 o.ban, .int .i64 o.back] 23 ∧ Box wd w.heap.size #[.int .i64 r.pen, .int .i64 r.cre, .int .i64 r.most, .int .i64 r.num, .int .i64 r.den, .int .i64 r.ban, .int .i64 r.back] 23 ∧ Box wd (w.heap.size + 1) #[.int .i64 s.pts, .int .i64 s.good, .int .i64 s.bad, .bool s.ban] 25 ∧ Box wd (w.heap.size + 1 + 1) #[.int .i64 n.a, .int .i64 n.b, .int .i64 n.c, .int .i64 n.d, .int .i64 n.e, .int .i64 n.f, .int .i64 n.g] 26 ∧ Box wd (w.heap.size + 1 + 1 + 1) #[.int .i64 k.a, .int .i64 k.b, .int .i64 k.c] 27 ∧ Below w.heap.size w wd)
    case first =>
      have hv : u = 0 ∨ u = 1 ∨ u = 2 ∨ u = 3 := by omega
      clear p4
      rcases hv with rfl | rfl | rfl | rfl
      all_goals
        go_wp2
        go_meet
        case rel =>
          refine ⟨rfl, ?_⟩
          first
            | exact ⟨{ s1 with pts := x }, Box.new, Box.alloc XO.out, Box.alloc XA.out, Box.alloc XB.out, Box.alloc XC.out, Box.alloc XD.out, below_alloc HB.out _⟩
            | exact ⟨{ s1 with good := x }, Box.new, Box.alloc XO.out, Box.alloc XA.out, Box.alloc XB.out, Box.alloc XC.out, Box.alloc XD.out, below_alloc HB.out _⟩
            | exact ⟨{ s1 with bad := x }, Box.new, Box.alloc XO.out, Box.alloc XA.out, Box.alloc XB.out, Box.alloc XC.out, Box.alloc XD.out, below_alloc HB.out _⟩
            | exact ⟨s1, Box.new, Box.alloc XO.out, Box.alloc XA.out, Box.alloc XB.out, Box.alloc XC.out, Box.alloc XD.out, below_alloc HB.out _⟩
    case rest =>
      obtain ⟨rfl, b, bE, bO, bA, bB, bC, bD, hbl⟩ := hcut
      clear HB XA rA fA kA XB rB fB kB XC rC fC kC XD rD fD kD XO rO fO kO
      have HB := Aside0.mk hbl
      clear hbl
      have XE := Aside0.mk bE; have rE := bE.cell; have fE := bE.frozen; have kE := bE.lt; clear bE
      have XO := Aside0.mk bO; have rO := bO.cell; have fO := bO.frozen; have kO := bO.lt; clear bO
      have XA := Aside0.mk bA; have rA := bA.cell; have fA := bA.frozen; have kA := bA.lt; clear bA
      have XB := Aside0.mk bB; have rB := bB.cell; have fB := bB.frozen; have kB := bB.lt; clear bB
      have XC := Aside0.mk bC; have rC := bC.cell; have fC := bC.frozen; have kC := bC.lt; clear bC
      have XD := Aside0.mk bD; have rD := bD.cell; have fD := bD.frozen; have kD := bD.lt; clear bD
      have dE := kE
      have zd := HB.out.size
      go_upto_region 26 with (fail)
      go_cut [88, 89, 90] (fun v88 v89 v90 wx => ∃ bs : Nat, v88 = .slice (some ⟨bs, 0, none⟩) 3 3 ∧ v89 = .int .i64 3 ∧ v90 = .int .i64 0 ∧ Box wx bs #[.int .i64 r.pen, .int .i64 r.cre, .int .i64 r.most, .int .i64 r.num, .int .i64 r.den, .int .i64 r.ban, .int .i64 r.back, .int .i64 n1.pen, .int .i64 n1.cre, .int .i64 n1.most, .int .i64 n1.num, .int .i64 n1.den, .int .i64 n1.ban, .int .i64 n1.back, .int .i64 o.pen, .int .i64 o.cre, .int .i64 o.most, .int .i64 o.num, .int .i64 o.den, .int .i64 o.ban, .int .i64 o.back] 23 ∧ Box wx w3.heap.size #[.int .i64 b.pts, .int .i64 b.good, .int .i64 b.bad, .bool b.ban] 25 ∧ Box wx (w.heap.size + 1) #[.int .i64 s.pts, .int .i64 s.good, .int .i64 s.bad, .bool s.ban] 25 ∧ Box wx (w.heap.size + 1 + 1 + 1) #[.int .i64 k.a, .int .i64 k.b, .int .i64 k.c] 27 ∧ Below w.heap.size w wx)
      case first =>
        go_region_held3 (fun w' => Below wc.heap.size wc w' ∧ (∀ j, w'.cell? ⟨w.heap.size, j, none⟩ = (#[.int .i64 r.pen, .int .i64 r.cre, .int .i64 r.most, .int .i64 r.num, .int .i64 r.den, .int .i64 r.ban, .int .i64 r.back] : Array Value)[j]?) ∧ (∀ j, w'.cell? ⟨w.heap.size + 1 + 1, j, none⟩ = (#[.int .i64 n.a, .int .i64 n.b, .int .i64 n.c, .int .i64 n.d, .int .i64 n.e, .int .i64 n.f, .int .i64 n.g] : Array Value)[j]?) ∧ (∀ j, w'.cell? ⟨w2.heap.size, j, none⟩ = (#[.int .i64 o.pen, .int .i64 o.cre, .int .i64 o.most, .int .i64 o.num, .int .i64 o.den, .int .i64 o.ban, .int .i64 o.back] : Array Value)[j]?)) (first | exact ⟨below_drew1 (Below.refl _ _), rA, rC, rO⟩ | exact ⟨j0, jA, jC, jO⟩ | exact ⟨below_alloc j0 _, fun j => (cell_alloc_old (Nat.lt_of_lt_of_le kA j0.size)).trans (jA j), fun j => (cell_alloc_old (Nat.lt_of_lt_of_le kC j0.size)).trans (jC j), fun j => (cell_alloc_old (Nat.lt_of_lt_of_le kO j0.size)).trans (jO j)⟩ | exact ⟨below_alloc (below_drew1 (Below.refl _ _)) _, fun j => (cell_alloc_old kA).trans (rA j), fun j => (cell_alloc_old kC).trans (rC j), fun j => (cell_alloc_old kO).trans (rO j)⟩ | assumption) (first | (go_at_call 9; ((with_reducible refine (Rule_calls n _).mono ?_)); obtain ⟨g0, gA, gC, gO⟩ := ‹Below wc.heap.size wc _ ∧ _›; rintro e w4 ⟨rfl, hb_⟩; have j0 := below_step g0 hb_; have jA := fun j => (hb_.cell (p := ⟨w.heap.size, j, none⟩) (Nat.lt_of_lt_of_le kA g0.size)).trans (gA j); have jC := fun j => (hb_.cell (p := ⟨w.heap.size + 1 + 1, j, none⟩) (Nat.lt_of_lt_of_le kC g0.size)).trans (gC j); have jO := fun j => (hb_.cell (p := ⟨w2.heap.size, j, none⟩) (Nat.lt_of_lt_of_le kO g0.size)).trans (gO j)))
        go_wp2
        go_meet
        case rel =>
          rw [HN1.out]
          exact ⟨w4.heap.size, rfl, rfl, rfl, Box.new, Box.alloc (XE.out.below j0), Box.alloc (XB.out.below j0), Box.alloc (XD.out.below j0), below_alloc (below_step HB.out j0) _⟩
      case rest =>
        obtain ⟨bs, rfl, rfl, rfl, bS, bE, bB, bD, hbl⟩ := hcut
        clear HB XA rA fA kA XB rB fB kB XC rC fC kC XD rD fD kD XO rO fO kO XE rE fE kE
        go_wp2
        go_loopw [90] (fun iv wx => ∃ z : Int, 0 ≤ z ∧ z ≤ 3 ∧ iv = .int .i64 z ∧ Box wx bs #[.int .i64 r.pen, .int .i64 r.cre, .int .i64 r.most, .int .i64 r.num, .int .i64 r.den, .int .i64 r.ban, .int .i64 r.back, .int .i64 n1.pen, .int .i64 n1.cre, .int .i64 n1.most, .int .i64 n1.num, .int .i64 n1.den, .int .i64 n1.ban, .int .i64 n1.back, .int .i64 o.pen, .int .i64 o.cre, .int .i64 o.most, .int .i64 o.num, .int .i64 o.den, .int .i64 o.ban, .int .i64 o.back] 23 ∧ Box wx w3.heap.size #[.int .i64 b.pts, .int .i64 b.good, .int .i64 b.bad, .bool b.ban] 25 ∧ Box wx (w.heap.size + 1) #[.int .i64 s.pts, .int .i64 s.good, .int .i64 s.bad, .bool s.ban] 25 ∧ Box wx (w.heap.size + 1 + 1 + 1) #[.int .i64 k.a, .int .i64 k.b, .int .i64 k.c] 27 ∧ Below w.heap.size w wx) (fun i _ => 3 - (intOf i).toNat)
        case atStart => exact ⟨0, by omega, by omega, rfl, bS, bE, bB, bD, hbl⟩
        case round =>
          clear bS bE bB bD hbl
          obtain ⟨z, hz0, hz3, rfl, bS, bE, bB, bD, hbl⟩ := hrel
          have HB := Aside0.mk hbl
          clear hbl
          have XS := Aside0.mk bS; have rS := bS.cell; have fS := bS.frozen; have kS := bS.lt; clear bS
          have XE := Aside0.mk bE; have rE := bE.cell; have fE := bE.frozen; have kE := bE.lt; clear bE
          have XB := Aside0.mk bB; have rB := bB.cell; have fB := bB.frozen; have kB := bB.lt; clear bB
          have XD := Aside0.mk bD; have rD := bD.cell; have fD := bD.frozen; have kD := bD.lt; clear bD
          rcases Int.lt_or_le z 3 with hz | hz
          · go_upto_region 28 with (fail)
            go_cut [19, 90] from 90 to 184 (fun v19 v90 wx => ∃ (bp : Nat) (p : RuleV), v90 = .int .i64 z ∧ v19 = .pointer (some ⟨bp, 0, none⟩) ∧ Box wx bp #[.int .i64 p.pen, .int .i64 p.cre, .int .i64 p.most, .int .i64 p.num, .int .i64 p.den, .int .i64 p.ban, .int .i64 p.back] 23 ∧ Box wx bs #[.int .i64 r.pen, .int .i64 r.cre, .int .i64 r.most, .int .i64 r.num, .int .i64 r.den, .int .i64 r.ban, .int .i64 r.back, .int .i64 n1.pen, .int .i64 n1.cre, .int .i64 n1.most, .int .i64 n1.num, .int .i64 n1.den, .int .i64 n1.ban, .int .i64 n1.back, .int .i64 o.pen, .int .i64 o.cre, .int .i64 o.most, .int .i64 o.num, .int .i64 o.den, .int .i64 o.ban, .int .i64 o.back] 23 ∧ Box wx w3.heap.size #[.int .i64 b.pts, .int .i64 b.good, .int .i64 b.bad, .bool b.ban] 25 ∧ Box wx (w.heap.size + 1) #[.int .i64 s.pts, .int .i64 s.good, .int .i64 s.bad, .bool s.ban] 25 ∧ Box wx (w.heap.size + 1 + 1 + 1) #[.int .i64 k.a, .int .i64 k.b, .int .i64 k.c] 27 ∧ Below w.heap.size w wx)
            case first =>
              have hv : z = 0 ∨ z = 1 ∨ z = 2 := by omega
              rcases hv with rfl | rfl | rfl
              all_goals
                go_wp2
                go_meet
                case rel =>
                  first
                    | exact ⟨_, r, rfl, rfl, Box.new, Box.alloc XS.out, Box.alloc XE.out, Box.alloc XB.out, Box.alloc XD.out, below_alloc HB.out _⟩
                    | exact ⟨_, n1, rfl, rfl, Box.new, Box.alloc XS.out, Box.alloc XE.out, Box.alloc XB.out, Box.alloc XD.out, below_alloc HB.out _⟩
                    | exact ⟨_, o, rfl, rfl, Box.new, Box.alloc XS.out, Box.alloc XE.out, Box.alloc XB.out, Box.alloc XD.out, below_alloc HB.out _⟩
            case rest =>
              obtain ⟨bp, p, rfl, rfl, bP, bS, bE, bB, bD, hbl⟩ := hcut
              clear HB XS rS fS kS XE rE fE kE XB rB fB kB XD rD fD kD
              have HB := Aside0.mk hbl
              clear hbl
              have XP := Aside0.mk bP; have rP := bP.cell; have fP := bP.frozen; have kP := bP.lt; clear bP
              have XS := Aside0.mk bS; have rS := bS.cell; have fS := bS.frozen; have kS := bS.lt; clear bS
              have XE := Aside0.mk bE; have rE := bE.cell; have fE := bE.frozen; have kE := bE.lt; clear bE
              have XB := Aside0.mk bB; have rB := bB.cell; have fB := bB.frozen; have kB := bB.lt; clear bB
              have XD := Aside0.mk bD; have rD := bD.cell; have fD := bD.frozen; have kD := bD.lt; clear bD
              go_upto_region 29 with (fail)
              go_cut [90, 99, 100, 101] from 90 to 184 (fun v90 v99 v100 v101 wx => ∃ bt : Nat, v90 = .int .i64 z ∧ v99 = .slice (some ⟨bt, 0, none⟩) 3 3 ∧ v100 = .int .i64 3 ∧ v101 = .int .i64 0 ∧ Box wx bt #[.int .i64 s.pts, .int .i64 s.good, .int .i64 s.bad, .bool s.ban, .int .i64 s1.pts, .int .i64 s1.good, .int .i64 s1.bad, .bool s1.ban, .int .i64 b.pts, .int .i64 b.good, .int .i64 b.bad, .bool b.ban] 25 ∧ Box wx bp #[.int .i64 p.pen, .int .i64 p.cre, .int .i64 p.most, .int .i64 p.num, .int .i64 p.den, .int .i64 p.ban, .int .i64 p.back] 23 ∧ Box wx bs #[.int .i64 r.pen, .int .i64 r.cre, .int .i64 r.most, .int .i64 r.num, .int .i64 r.den, .int .i64 r.ban, .int .i64 r.back, .int .i64 n1.pen, .int .i64 n1.cre, .int .i64 n1.most, .int .i64 n1.num, .int .i64 n1.den, .int .i64 n1.ban, .int .i64 n1.back, .int .i64 o.pen, .int .i64 o.cre, .int .i64 o.most, .int .i64 o.num, .int .i64 o.den, .int .i64 o.ban, .int .i64 o.back] 23 ∧ Box wx w3.heap.size #[.int .i64 b.pts, .int .i64 b.good, .int .i64 b.bad, .bool b.ban] 25 ∧ Box wx (w.heap.size + 1) #[.int .i64 s.pts, .int .i64 s.good, .int .i64 s.bad, .bool s.ban] 25 ∧ Box wx (w.heap.size + 1 + 1 + 1) #[.int .i64 k.a, .int .i64 k.b, .int .i64 k.c] 27 ∧ Below w.heap.size w wx)
              case first =>
                go_region_held3 (fun w' => Below wc.heap.size wc w' ∧ (∀ j, w'.cell? ⟨w.heap.size + 1, j, none⟩ = (#[.int .i64 s.pts, .int .i64 s.good, .int .i64 s.bad, .bool s.ban] : Array Value)[j]?) ∧ (∀ j, w'.cell? ⟨w.heap.size + 1 + 1 + 1, j, none⟩ = (#[.int .i64 k.a, .int .i64 k.b, .int .i64 k.c] : Array Value)[j]?) ∧ (∀ j, w'.cell? ⟨w3.heap.size, j, none⟩ = (#[.int .i64 b.pts, .int .i64 b.good, .int .i64 b.bad, .bool b.ban] : Array Value)[j]?)) (first | exact ⟨below_drew1 (Below.refl _ _), rB, rD, rE⟩ | exact ⟨j0, jB, jD, jE⟩ | exact ⟨below_alloc j0 _, fun j => (cell_alloc_old (Nat.lt_of_lt_of_le kB j0.size)).trans (jB j), fun j => (cell_alloc_old (Nat.lt_of_lt_of_le kD j0.size)).trans (jD j), fun j => (cell_alloc_old (Nat.lt_of_lt_of_le kE j0.size)).trans (jE j)⟩ | exact ⟨below_alloc (below_drew1 (Below.refl _ _)) _, fun j => (cell_alloc_old kB).trans (rB j), fun j => (cell_alloc_old kD).trans (rD j), fun j => (cell_alloc_old kE).trans (rE j)⟩ | assumption) (first | (go_at_call 11; ((with_reducible refine (Score_calls k ban _).mono ?_)); obtain ⟨g0, gB, gD, gE⟩ := ‹Below wc.heap.size wc _ ∧ _›; rintro e w4 ⟨rfl, hb_⟩; have j0 := below_step g0 hb_; have jB := fun j => (hb_.cell (p := ⟨w.heap.size + 1, j, none⟩) (Nat.lt_of_lt_of_le kB g0.size)).trans (gB j); have jD := fun j => (hb_.cell (p := ⟨w.heap.size + 1 + 1 + 1, j, none⟩) (Nat.lt_of_lt_of_le kD g0.size)).trans (gD j); have jE := fun j => (hb_.cell (p := ⟨w3.heap.size, j, none⟩) (Nat.lt_of_lt_of_le kE g0.size)).trans (gE j)))
                go_wp2
                go_meet
                case rel =>
                  rw [HS1.out]
                  exact ⟨w4.heap.size, rfl, rfl, rfl, rfl, Box.new, Box.alloc (XP.out.below j0), Box.alloc (XS.out.below j0), Box.alloc (XE.out.below j0), Box.alloc (XB.out.below j0), Box.alloc (XD.out.below j0), below_alloc (below_step HB.out j0) _⟩
              case rest =>
                obtain ⟨bt, rfl, rfl, rfl, rfl, bT, bP, bS, bE, bB, bD, hbl⟩ := hcut
                clear HB XP rP fP kP XS rS fS kS XE rE fE kE XB rB fB kB XD rD fD kD
                go_wp2
                go_loopw [101] (fun iv wx => ∃ y : Int, 0 ≤ y ∧ y ≤ 3 ∧ iv = .int .i64 y ∧ Box wx bt #[.int .i64 s.pts, .int .i64 s.good, .int .i64 s.bad, .bool s.ban, .int .i64 s1.pts, .int .i64 s1.good, .int .i64 s1.bad, .bool s1.ban, .int .i64 b.pts, .int .i64 b.good, .int .i64 b.bad, .bool b.ban] 25 ∧ Box wx bp #[.int .i64 p.pen, .int .i64 p.cre, .int .i64 p.most, .int .i64 p.num, .int .i64 p.den, .int .i64 p.ban, .int .i64 p.back] 23 ∧ Box wx bs #[.int .i64 r.pen, .int .i64 r.cre, .int .i64 r.most, .int .i64 r.num, .int .i64 r.den, .int .i64 r.ban, .int .i64 r.back, .int .i64 n1.pen, .int .i64 n1.cre, .int .i64 n1.most, .int .i64 n1.num, .int .i64 n1.den, .int .i64 n1.ban, .int .i64 n1.back, .int .i64 o.pen, .int .i64 o.cre, .int .i64 o.most, .int .i64 o.num, .int .i64 o.den, .int .i64 o.ban, .int .i64 o.back] 23 ∧ Box wx w3.heap.size #[.int .i64 b.pts, .int .i64 b.good, .int .i64 b.bad, .bool b.ban] 25 ∧ Box wx (w.heap.size + 1) #[.int .i64 s.pts, .int .i64 s.good, .int .i64 s.bad, .bool s.ban] 25 ∧ Box wx (w.heap.size + 1 + 1 + 1) #[.int .i64 k.a, .int .i64 k.b, .int .i64 k.c] 27 ∧ Below w.heap.size w wx) (fun i _ => 3 - (intOf i).toNat)
                case atStart => exact ⟨0, by omega, by omega, rfl, bT, bP, bS, bE, bB, bD, hbl⟩
                case round =>
                  clear bT bP bS bE bB bD hbl
                  obtain ⟨y, hy0, hy3, rfl, bT, bP, bS, bE, bB, bD, hbl⟩ := hrel
                  have HB := Aside0.mk hbl
                  clear hbl
                  have XT := Aside0.mk bT; have rT := bT.cell; have fT := bT.frozen; have kT := bT.lt; clear bT
                  have XP := Aside0.mk bP; have rP := bP.cell; have fP := bP.frozen; have kP := bP.lt; clear bP
                  have XS := Aside0.mk bS; have rS := bS.cell; have fS := bS.frozen; have kS := bS.lt; clear bS
                  have XE := Aside0.mk bE; have rE := bE.cell; have fE := bE.frozen; have kE := bE.lt; clear bE
                  have XB := Aside0.mk bB; have rB := bB.cell; have fB := bB.frozen; have kB := bB.lt; clear bB
                  have XD := Aside0.mk bD; have rD := bD.cell; have fD := bD.frozen; have kD := bD.lt; clear bD
                  rcases Int.lt_or_le y 3 with hy | hy
                  · go_upto_region 31 with (fail)
                    go_cut [21, 101] from 101 to 183 (fun v21 v101 wx => ∃ (bq : Nat) (q : ScoreV), v101 = .int .i64 y ∧ v21 = .pointer (some ⟨bq, 0, none⟩) ∧ Box wx bq #[.int .i64 q.pts, .int .i64 q.good, .int .i64 q.bad, .bool q.ban] 25 ∧ Box wx bt #[.int .i64 s.pts, .int .i64 s.good, .int .i64 s.bad, .bool s.ban, .int .i64 s1.pts, .int .i64 s1.good, .int .i64 s1.bad, .bool s1.ban, .int .i64 b.pts, .int .i64 b.good, .int .i64 b.bad, .bool b.ban] 25 ∧ Box wx bp #[.int .i64 p.pen, .int .i64 p.cre, .int .i64 p.most, .int .i64 p.num, .int .i64 p.den, .int .i64 p.ban, .int .i64 p.back] 23 ∧ Box wx bs #[.int .i64 r.pen, .int .i64 r.cre, .int .i64 r.most, .int .i64 r.num, .int .i64 r.den, .int .i64 r.ban, .int .i64 r.back, .int .i64 n1.pen, .int .i64 n1.cre, .int .i64 n1.most, .int .i64 n1.num, .int .i64 n1.den, .int .i64 n1.ban, .int .i64 n1.back, .int .i64 o.pen, .int .i64 o.cre, .int .i64 o.most, .int .i64 o.num, .int .i64 o.den, .int .i64 o.ban, .int .i64 o.back] 23 ∧ Box wx w3.heap.size #[.int .i64 b.pts, .int .i64 b.good, .int .i64 b.bad, .bool b.ban] 25 ∧ Box wx (w.heap.size + 1) #[.int .i64 s.pts, .int .i64 s.good, .int .i64 s.bad, .bool s.ban] 25 ∧ Box wx (w.heap.size + 1 + 1 + 1) #[.int .i64 k.a, .int .i64 k.b, .int .i64 k.c] 27 ∧ Below w.heap.size w wx)
                    case first =>
                      have hv : y = 0 ∨ y = 1 ∨ y = 2 := by omega
                      rcases hv with rfl | rfl | rfl
                      all_goals
                        go_wp2
                        go_meet
                        case rel =>
                          first
                            | exact ⟨_, s, rfl, rfl, Box.new, Box.alloc XT.out, Box.alloc XP.out, Box.alloc XS.out, Box.alloc XE.out, Box.alloc XB.out, Box.alloc XD.out, below_alloc HB.out _⟩
                            | exact ⟨_, s1, rfl, rfl, Box.new, Box.alloc XT.out, Box.alloc XP.out, Box.alloc XS.out, Box.alloc XE.out, Box.alloc XB.out, Box.alloc XD.out, below_alloc HB.out _⟩
                            | exact ⟨_, b, rfl, rfl, Box.new, Box.alloc XT.out, Box.alloc XP.out, Box.alloc XS.out, Box.alloc XE.out, Box.alloc XB.out, Box.alloc XD.out, below_alloc HB.out _⟩
                    case rest =>
                      as_aux_lemma =>
                        obtain ⟨bq, q, rfl, rfl, bQ, bT, bP, bS, bE, bB, bD, hbl⟩ := hcut
                        clear HB XT rT fT kT XP rP fP kP XS rS fS kS XE rE fE kE XB rB fB kB XD rD fD kD
                        have HL := Aside0.mk (And.intro bT (And.intro bS (And.intro bE (And.intro bB (And.intro bD hbl)))))
                        have HL2 := Aside0.mk bP
                        clear bT bS bE bB bD hbl
                        have HB := Aside0.mk (Below.refl wc.heap.size wc)
                        have XP := Aside0.mk bP; have rP := bP.cell; have fP := bP.frozen; have kP := bP.lt; clear bP
                        have XQ := Aside0.mk bQ; have rQ := bQ.cell; have fQ := bQ.frozen; have kQ := bQ.lt; clear bQ
                        go_wp2_with fail
                        refine (settle_a p q _).mono ?_
                        rintro e w5 ⟨rfl, hb_⟩
                        have YP : Box w5 (bp) _ _ := Box.below (by repeat (with_reducible first | exact XP.out | exact Box.new | exact Box.new1 | exact Box.new2 | exact Box.new3 | apply Box.alloc | apply Box.drew | apply Box.drewN | apply Box.set)) hb_
                        (try clear XP rP kP fP); have XP := Aside0.mk YP; have rP := YP.cell; have fP := YP.frozen; have kP := YP.lt; clear YP
                        have YQ : Box w5 (bq) _ _ := Box.below (by repeat (with_reducible first | exact XQ.out | exact Box.new | exact Box.new1 | exact Box.new2 | exact Box.new3 | apply Box.alloc | apply Box.drew | apply Box.drewN | apply Box.set)) hb_
                        (try clear XQ rQ kQ fQ); have XQ := Aside0.mk YQ; have rQ := YQ.cell; have fQ := YQ.frozen; have kQ := YQ.lt; clear YQ
                        have n_ := Aside0.mk (below_step (by repeat (first | exact HB.out | apply below_alloc | apply pw_below_drewN | apply below_drew1 | refine below_set ?_ (by first | omega | (simp; omega)))) hb_); clear HB hb_; have HB := n_; clear n_
                        go_wp2_with fail
                        refine (rsettle_a p q _).mono ?_
                        rintro e w6 ⟨rfl, hb_⟩
                        have YP : Box w6 (bp) _ _ := Box.below (by repeat (with_reducible first | exact XP.out | exact Box.new | exact Box.new1 | exact Box.new2 | exact Box.new3 | apply Box.alloc | apply Box.drew | apply Box.drewN | apply Box.set)) hb_
                        (try clear XP rP kP fP); have XP := Aside0.mk YP; have rP := YP.cell; have fP := YP.frozen; have kP := YP.lt; clear YP
                        have YQ : Box w6 (bq) _ _ := Box.below (by repeat (with_reducible first | exact XQ.out | exact Box.new | exact Box.new1 | exact Box.new2 | exact Box.new3 | apply Box.alloc | apply Box.drew | apply Box.drewN | apply Box.set)) hb_
                        (try clear XQ rQ kQ fQ); have XQ := Aside0.mk YQ; have rQ := YQ.cell; have fQ := YQ.frozen; have kQ := YQ.lt; clear YQ
                        have Y1 : Box w6 (w5.heap.size) _ _ := Box.below (by repeat (with_reducible first | exact X1.out | exact Box.new | exact Box.new1 | exact Box.new2 | exact Box.new3 | apply Box.alloc | apply Box.drew | apply Box.drewN | apply Box.set)) hb_
                        (try clear X1 r1 k1 f1); have X1 := Aside0.mk Y1; have r1 := Y1.cell; have f1 := Y1.frozen; have k1 := Y1.lt; clear Y1
                        have n_ := Aside0.mk (below_step (by repeat (first | exact HB.out | apply below_alloc | apply pw_below_drewN | apply below_drew1 | refine below_set ?_ (by first | omega | (simp; omega)))) hb_); clear HB hb_; have HB := n_; clear n_
                        go_wp2_with fail
                        refine (decay_a p q _).mono ?_
                        rintro e w7 ⟨rfl, hb_⟩
                        have YP : Box w7 (bp) _ _ := Box.below (by repeat (with_reducible first | exact XP.out | exact Box.new | exact Box.new1 | exact Box.new2 | exact Box.new3 | apply Box.alloc | apply Box.drew | apply Box.drewN | apply Box.set)) hb_
                        (try clear XP rP kP fP); have XP := Aside0.mk YP; have rP := YP.cell; have fP := YP.frozen; have kP := YP.lt; clear YP
                        have YQ : Box w7 (bq) _ _ := Box.below (by repeat (with_reducible first | exact XQ.out | exact Box.new | exact Box.new1 | exact Box.new2 | exact Box.new3 | apply Box.alloc | apply Box.drew | apply Box.drewN | apply Box.set)) hb_
                        (try clear XQ rQ kQ fQ); have XQ := Aside0.mk YQ; have rQ := YQ.cell; have fQ := YQ.frozen; have kQ := YQ.lt; clear YQ
                        have Y1 : Box w7 (w5.heap.size) _ _ := Box.below (by repeat (with_reducible first | exact X1.out | exact Box.new | exact Box.new1 | exact Box.new2 | exact Box.new3 | apply Box.alloc | apply Box.drew | apply Box.drewN | apply Box.set)) hb_
                        (try clear X1 r1 k1 f1); have X1 := Aside0.mk Y1; have r1 := Y1.cell; have f1 := Y1.frozen; have k1 := Y1.lt; clear Y1
                        have Y2 : Box w7 (w6.heap.size) _ _ := Box.below (by repeat (with_reducible first | exact X2.out | exact Box.new | exact Box.new1 | exact Box.new2 | exact Box.new3 | apply Box.alloc | apply Box.drew | apply Box.drewN | apply Box.set)) hb_
                        (try clear X2 r2 k2 f2); have X2 := Aside0.mk Y2; have r2 := Y2.cell; have f2 := Y2.frozen; have k2 := Y2.lt; clear Y2
                        have n_ := Aside0.mk (below_step (by repeat (first | exact HB.out | apply below_alloc | apply pw_below_drewN | apply below_drew1 | refine below_set ?_ (by first | omega | (simp; omega)))) hb_); clear HB hb_; have HB := n_; clear n_
                        go_wp2_with fail
                        refine (rdecay_a p q _).mono ?_
                        rintro e w8 ⟨rfl, hb_⟩
                        have YP : Box w8 (bp) _ _ := Box.below (by repeat (with_reducible first | exact XP.out | exact Box.new | exact Box.new1 | exact Box.new2 | exact Box.new3 | apply Box.alloc | apply Box.drew | apply Box.drewN | apply Box.set)) hb_
                        (try clear XP rP kP fP); have XP := Aside0.mk YP; have rP := YP.cell; have fP := YP.frozen; have kP := YP.lt; clear YP
                        have YQ : Box w8 (bq) _ _ := Box.below (by repeat (with_reducible first | exact XQ.out | exact Box.new | exact Box.new1 | exact Box.new2 | exact Box.new3 | apply Box.alloc | apply Box.drew | apply Box.drewN | apply Box.set)) hb_
                        (try clear XQ rQ kQ fQ); have XQ := Aside0.mk YQ; have rQ := YQ.cell; have fQ := YQ.frozen; have kQ := YQ.lt; clear YQ
                        have Y1 : Box w8 (w5.heap.size) _ _ := Box.below (by repeat (with_reducible first | exact X1.out | exact Box.new | exact Box.new1 | exact Box.new2 | exact Box.new3 | apply Box.alloc | apply Box.drew | apply Box.drewN | apply Box.set)) hb_
                        (try clear X1 r1 k1 f1); have X1 := Aside0.mk Y1; have r1 := Y1.cell; have f1 := Y1.frozen; have k1 := Y1.lt; clear Y1
                        have Y2 : Box w8 (w6.heap.size) _ _ := Box.below (by repeat (with_reducible first | exact X2.out | exact Box.new | exact Box.new1 | exact Box.new2 | exact Box.new3 | apply Box.alloc | apply Box.drew | apply Box.drewN | apply Box.set)) hb_
                        (try clear X2 r2 k2 f2); have X2 := Aside0.mk Y2; have r2 := Y2.cell; have f2 := Y2.frozen; have k2 := Y2.lt; clear Y2
                        have Y3 : Box w8 (w7.heap.size) _ _ := Box.below (by repeat (with_reducible first | exact X3.out | exact Box.new | exact Box.new1 | exact Box.new2 | exact Box.new3 | apply Box.alloc | apply Box.drew | apply Box.drewN | apply Box.set)) hb_
                        (try clear X3 r3 k3 f3); have X3 := Aside0.mk Y3; have r3 := Y3.cell; have f3 := Y3.frozen; have k3 := Y3.lt; clear Y3
                        have n_ := Aside0.mk (below_step (by repeat (first | exact HB.out | apply below_alloc | apply pw_below_drewN | apply below_drew1 | refine below_set ?_ (by first | omega | (simp; omega)))) hb_); clear HB hb_; have HB := n_; clear n_
                        go_wp2_with fail
                        refine (count_a q ban _).mono ?_
                        rintro e w9 ⟨rfl, hb_⟩
                        have YP : Box w9 (bp) _ _ := Box.below (by repeat (with_reducible first | exact XP.out | exact Box.new | exact Box.new1 | exact Box.new2 | exact Box.new3 | apply Box.alloc | apply Box.drew | apply Box.drewN | apply Box.set)) hb_
                        (try clear XP rP kP fP); have XP := Aside0.mk YP; have rP := YP.cell; have fP := YP.frozen; have kP := YP.lt; clear YP
                        have YQ : Box w9 (bq) _ _ := Box.below (by repeat (with_reducible first | exact XQ.out | exact Box.new | exact Box.new1 | exact Box.new2 | exact Box.new3 | apply Box.alloc | apply Box.drew | apply Box.drewN | apply Box.set)) hb_
                        (try clear XQ rQ kQ fQ); have XQ := Aside0.mk YQ; have rQ := YQ.cell; have fQ := YQ.frozen; have kQ := YQ.lt; clear YQ
                        have Y1 : Box w9 (w5.heap.size) _ _ := Box.below (by repeat (with_reducible first | exact X1.out | exact Box.new | exact Box.new1 | exact Box.new2 | exact Box.new3 | apply Box.alloc | apply Box.drew | apply Box.drewN | apply Box.set)) hb_
                        (try clear X1 r1 k1 f1); have X1 := Aside0.mk Y1; have r1 := Y1.cell; have f1 := Y1.frozen; have k1 := Y1.lt; clear Y1
                        have Y2 : Box w9 (w6.heap.size) _ _ := Box.below (by repeat (with_reducible first | exact X2.out | exact Box.new | exact Box.new1 | exact Box.new2 | exact Box.new3 | apply Box.alloc | apply Box.drew | apply Box.drewN | apply Box.set)) hb_
                        (try clear X2 r2 k2 f2); have X2 := Aside0.mk Y2; have r2 := Y2.cell; have f2 := Y2.frozen; have k2 := Y2.lt; clear Y2
                        have Y3 : Box w9 (w7.heap.size) _ _ := Box.below (by repeat (with_reducible first | exact X3.out | exact Box.new | exact Box.new1 | exact Box.new2 | exact Box.new3 | apply Box.alloc | apply Box.drew | apply Box.drewN | apply Box.set)) hb_
                        (try clear X3 r3 k3 f3); have X3 := Aside0.mk Y3; have r3 := Y3.cell; have f3 := Y3.frozen; have k3 := Y3.lt; clear Y3
                        have Y4 : Box w9 (w8.heap.size) _ _ := Box.below (by repeat (with_reducible first | exact X4.out | exact Box.new | exact Box.new1 | exact Box.new2 | exact Box.new3 | apply Box.alloc | apply Box.drew | apply Box.drewN | apply Box.set)) hb_
                        (try clear X4 r4 k4 f4); have X4 := Aside0.mk Y4; have r4 := Y4.cell; have f4 := Y4.frozen; have k4 := Y4.lt; clear Y4
                        have n_ := Aside0.mk (below_step (by repeat (first | exact HB.out | apply below_alloc | apply pw_below_drewN | apply below_drew1 | refine below_set ?_ (by first | omega | (simp; omega)))) hb_); clear HB hb_; have HB := n_; clear n_
                        go_wp2_with fail
                        refine (rcount_a q ban _).mono ?_
                        rintro e w10 ⟨rfl, hb_⟩
                        have YP : Box w10 (bp) _ _ := Box.below (by repeat (with_reducible first | exact XP.out | exact Box.new | exact Box.new1 | exact Box.new2 | exact Box.new3 | apply Box.alloc | apply Box.drew | apply Box.drewN | apply Box.set)) hb_
                        (try clear XP rP kP fP); have XP := Aside0.mk YP; have rP := YP.cell; have fP := YP.frozen; have kP := YP.lt; clear YP
                        have YQ : Box w10 (bq) _ _ := Box.below (by repeat (with_reducible first | exact XQ.out | exact Box.new | exact Box.new1 | exact Box.new2 | exact Box.new3 | apply Box.alloc | apply Box.drew | apply Box.drewN | apply Box.set)) hb_
                        (try clear XQ rQ kQ fQ); have XQ := Aside0.mk YQ; have rQ := YQ.cell; have fQ := YQ.frozen; have kQ := YQ.lt; clear YQ
                        have Y1 : Box w10 (w5.heap.size) _ _ := Box.below (by repeat (with_reducible first | exact X1.out | exact Box.new | exact Box.new1 | exact Box.new2 | exact Box.new3 | apply Box.alloc | apply Box.drew | apply Box.drewN | apply Box.set)) hb_
                        (try clear X1 r1 k1 f1); have X1 := Aside0.mk Y1; have r1 := Y1.cell; have f1 := Y1.frozen; have k1 := Y1.lt; clear Y1
                        have Y2 : Box w10 (w6.heap.size) _ _ := Box.below (by repeat (with_reducible first | exact X2.out | exact Box.new | exact Box.new1 | exact Box.new2 | exact Box.new3 | apply Box.alloc | apply Box.drew | apply Box.drewN | apply Box.set)) hb_
                        (try clear X2 r2 k2 f2); have X2 := Aside0.mk Y2; have r2 := Y2.cell; have f2 := Y2.frozen; have k2 := Y2.lt; clear Y2
                        have Y3 : Box w10 (w7.heap.size) _ _ := Box.below (by repeat (with_reducible first | exact X3.out | exact Box.new | exact Box.new1 | exact Box.new2 | exact Box.new3 | apply Box.alloc | apply Box.drew | apply Box.drewN | apply Box.set)) hb_
                        (try clear X3 r3 k3 f3); have X3 := Aside0.mk Y3; have r3 := Y3.cell; have f3 := Y3.frozen; have k3 := Y3.lt; clear Y3
                        have Y4 : Box w10 (w8.heap.size) _ _ := Box.below (by repeat (with_reducible first | exact X4.out | exact Box.new | exact Box.new1 | exact Box.new2 | exact Box.new3 | apply Box.alloc | apply Box.drew | apply Box.drewN | apply Box.set)) hb_
                        (try clear X4 r4 k4 f4); have X4 := Aside0.mk Y4; have r4 := Y4.cell; have f4 := Y4.frozen; have k4 := Y4.lt; clear Y4
                        have Y5 : Box w10 (w9.heap.size) _ _ := Box.below (by repeat (with_reducible first | exact X5.out | exact Box.new | exact Box.new1 | exact Box.new2 | exact Box.new3 | apply Box.alloc | apply Box.drew | apply Box.drewN | apply Box.set)) hb_
                        (try clear X5 r5 k5 f5); have X5 := Aside0.mk Y5; have r5 := Y5.cell; have f5 := Y5.frozen; have k5 := Y5.lt; clear Y5
                        have n_ := Aside0.mk (below_step (by repeat (first | exact HB.out | apply below_alloc | apply pw_below_drewN | apply below_drew1 | refine below_set ?_ (by first | omega | (simp; omega)))) hb_); clear HB hb_; have HB := n_; clear n_
                        go_upto_region 38 with (fail)
                        obtain ⟨W, hW⟩ : ∃ W, w10.alloc (.cells #[.int .i64 (countA q ban).pts, .int .i64 (countA q ban).good, .int .i64 (countA q ban).bad, .bool (countA q ban).ban] 25) = W := ⟨_, rfl⟩
                        have b6 : Box W w10.heap.size #[.int .i64 (countA q ban).pts, .int .i64 (countA q ban).good, .int .i64 (countA q ban).bad, .bool (countA q ban).ban] 25 := hW ▸ Box.new
                        have bP : Box W bp #[.int .i64 p.pen, .int .i64 p.cre, .int .i64 p.most, .int .i64 p.num, .int .i64 p.den, .int .i64 p.ban, .int .i64 p.back] 23 := hW ▸ Box.alloc XP.out
                        have bQ : Box W bq #[.int .i64 q.pts, .int .i64 q.good, .int .i64 q.bad, .bool q.ban] 25 := hW ▸ Box.alloc XQ.out
                        have b1 : Box W w5.heap.size #[.int .i64 (settleA p q).pts, .int .i64 (settleA p q).good, .int .i64 (settleA p q).bad, .bool (settleA p q).ban] 25 := hW ▸ Box.alloc X1.out
                        have b2 : Box W w6.heap.size #[.int .i64 (settleA p q).pts, .int .i64 (settleA p q).good, .int .i64 (settleA p q).bad, .bool (settleA p q).ban] 25 := hW ▸ Box.alloc X2.out
                        have b3 : Box W w7.heap.size #[.int .i64 (decayA p q).pts, .int .i64 (decayA p q).good, .int .i64 (decayA p q).bad, .bool (decayA p q).ban] 25 := hW ▸ Box.alloc X3.out
                        have b4 : Box W w8.heap.size #[.int .i64 (decayA p q).pts, .int .i64 (decayA p q).good, .int .i64 (decayA p q).bad, .bool (decayA p q).ban] 25 := hW ▸ Box.alloc X4.out
                        have b5 : Box W w9.heap.size #[.int .i64 (countA q ban).pts, .int .i64 (countA q ban).good, .int .i64 (countA q ban).bad, .bool (countA q ban).ban] 25 := hW ▸ Box.alloc X5.out
                        have hbl := hW ▸ below_alloc HB.out (.cells #[.int .i64 (countA q ban).pts, .int .i64 (countA q ban).good, .int .i64 (countA q ban).bad, .bool (countA q ban).ban] 25)
                        rw [hW]
                        clear hW
                        clear HB XP rP fP kP XQ rQ fQ kQ X1 r1 f1 k1 X2 r2 f2 k2 X3 r3 f3 k3 X4 r4 f4 k4 X5 r5 f5 k5
                        have HB := Aside0.mk hbl
                        clear hbl
                        have XP := Aside0.mk bP; have rP := bP.cell; have fP := bP.frozen; have kP := bP.lt; clear bP
                        have XQ := Aside0.mk bQ; have rQ := bQ.cell; have fQ := bQ.frozen; have kQ := bQ.lt; clear bQ
                        have X1 := Aside0.mk b1; have r1 := b1.cell; have f1 := b1.frozen; have k1 := b1.lt; clear b1
                        have X2 := Aside0.mk b2; have r2 := b2.cell; have f2 := b2.frozen; have k2 := b2.lt; clear b2
                        have X3 := Aside0.mk b3; have r3 := b3.cell; have f3 := b3.frozen; have k3 := b3.lt; clear b3
                        have X4 := Aside0.mk b4; have r4 := b4.cell; have f4 := b4.frozen; have k4 := b4.lt; clear b4
                        have X5 := Aside0.mk b5; have r5 := b5.cell; have f5 := b5.frozen; have k5 := b5.lt; clear b5
                        have X6 := Aside0.mk b6; have r6 := b6.cell; have f6 := b6.frozen; have k6 := b6.lt; clear b6
                        go_region_held3 (fun w' => Below W.heap.size W w' ∧ (∀ j, w'.cell? ⟨bp, j, none⟩ = (#[.int .i64 p.pen, .int .i64 p.cre, .int .i64 p.most, .int .i64 p.num, .int .i64 p.den, .int .i64 p.ban, .int .i64 p.back] : Array Value)[j]?) ∧ (∀ j, w'.cell? ⟨bq, j, none⟩ = (#[.int .i64 q.pts, .int .i64 q.good, .int .i64 q.bad, .bool q.ban] : Array Value)[j]?) ∧ (∀ j, w'.cell? ⟨w5.heap.size, j, none⟩ = (#[.int .i64 (settleA p q).pts, .int .i64 (settleA p q).good, .int .i64 (settleA p q).bad, .bool (settleA p q).ban] : Array Value)[j]?) ∧ (∀ j, w'.cell? ⟨w6.heap.size, j, none⟩ = (#[.int .i64 (settleA p q).pts, .int .i64 (settleA p q).good, .int .i64 (settleA p q).bad, .bool (settleA p q).ban] : Array Value)[j]?) ∧ (∀ j, w'.cell? ⟨w7.heap.size, j, none⟩ = (#[.int .i64 (decayA p q).pts, .int .i64 (decayA p q).good, .int .i64 (decayA p q).bad, .bool (decayA p q).ban] : Array Value)[j]?) ∧ (∀ j, w'.cell? ⟨w8.heap.size, j, none⟩ = (#[.int .i64 (decayA p q).pts, .int .i64 (decayA p q).good, .int .i64 (decayA p q).bad, .bool (decayA p q).ban] : Array Value)[j]?) ∧ (∀ j, w'.cell? ⟨w9.heap.size, j, none⟩ = (#[.int .i64 (countA q ban).pts, .int .i64 (countA q ban).good, .int .i64 (countA q ban).bad, .bool (countA q ban).ban] : Array Value)[j]?) ∧ (∀ j, w'.cell? ⟨w10.heap.size, j, none⟩ = (#[.int .i64 (countA q ban).pts, .int .i64 (countA q ban).good, .int .i64 (countA q ban).bad, .bool (countA q ban).ban] : Array Value)[j]?)) (first | exact ⟨below_drew1 (Below.refl _ _), rP, rQ, r1, r2, r3, r4, r5, r6⟩ | exact ⟨j0, jP, jQ, j1, j2, j3, j4, j5, j6⟩ | exact ⟨below_alloc j0 _, fun j => (cell_alloc_old (Nat.lt_of_lt_of_le kP j0.size)).trans (jP j), fun j => (cell_alloc_old (Nat.lt_of_lt_of_le kQ j0.size)).trans (jQ j), fun j => (cell_alloc_old (Nat.lt_of_lt_of_le k1 j0.size)).trans (j1 j), fun j => (cell_alloc_old (Nat.lt_of_lt_of_le k2 j0.size)).trans (j2 j), fun j => (cell_alloc_old (Nat.lt_of_lt_of_le k3 j0.size)).trans (j3 j), fun j => (cell_alloc_old (Nat.lt_of_lt_of_le k4 j0.size)).trans (j4 j), fun j => (cell_alloc_old (Nat.lt_of_lt_of_le k5 j0.size)).trans (j5 j), fun j => (cell_alloc_old (Nat.lt_of_lt_of_le k6 j0.size)).trans (j6 j)⟩ | exact ⟨below_alloc (below_drew1 (Below.refl _ _)) _, fun j => (cell_alloc_old kP).trans (rP j), fun j => (cell_alloc_old kQ).trans (rQ j), fun j => (cell_alloc_old k1).trans (r1 j), fun j => (cell_alloc_old k2).trans (r2 j), fun j => (cell_alloc_old k3).trans (r3 j), fun j => (cell_alloc_old k4).trans (r4 j), fun j => (cell_alloc_old k5).trans (r5 j), fun j => (cell_alloc_old k6).trans (r6 j)⟩ | assumption) (first | (go_at_call 18; ((with_reducible refine (Fits_calls p _).mono ?_)); obtain ⟨g0, gP, gQ, g1, g2, g3, g4, g5, g6⟩ := ‹Below W.heap.size W _ ∧ _›; rintro e w11 ⟨rfl, hb_⟩; have j0 := below_step g0 hb_; have jP := fun j => (hb_.cell (p := ⟨bp, j, none⟩) (Nat.lt_of_lt_of_le kP g0.size)).trans (gP j); have jQ := fun j => (hb_.cell (p := ⟨bq, j, none⟩) (Nat.lt_of_lt_of_le kQ g0.size)).trans (gQ j); have j1 := fun j => (hb_.cell (p := ⟨w5.heap.size, j, none⟩) (Nat.lt_of_lt_of_le k1 g0.size)).trans (g1 j); have j2 := fun j => (hb_.cell (p := ⟨w6.heap.size, j, none⟩) (Nat.lt_of_lt_of_le k2 g0.size)).trans (g2 j); have j3 := fun j => (hb_.cell (p := ⟨w7.heap.size, j, none⟩) (Nat.lt_of_lt_of_le k3 g0.size)).trans (g3 j); have j4 := fun j => (hb_.cell (p := ⟨w8.heap.size, j, none⟩) (Nat.lt_of_lt_of_le k4 g0.size)).trans (g4 j); have j5 := fun j => (hb_.cell (p := ⟨w9.heap.size, j, none⟩) (Nat.lt_of_lt_of_le k5 g0.size)).trans (g5 j); have j6 := fun j => (hb_.cell (p := ⟨w10.heap.size, j, none⟩) (Nat.lt_of_lt_of_le k6 g0.size)).trans (g6 j)) | (go_at_call 19; ((with_reducible refine (rFits_calls p _).mono ?_)); obtain ⟨g0, gP, gQ, g1, g2, g3, g4, g5, g6⟩ := ‹Below W.heap.size W _ ∧ _›; rintro e w12 ⟨rfl, hb_⟩; have j0 := below_step g0 hb_; have jP := fun j => (hb_.cell (p := ⟨bp, j, none⟩) (Nat.lt_of_lt_of_le kP g0.size)).trans (gP j); have jQ := fun j => (hb_.cell (p := ⟨bq, j, none⟩) (Nat.lt_of_lt_of_le kQ g0.size)).trans (gQ j); have j1 := fun j => (hb_.cell (p := ⟨w5.heap.size, j, none⟩) (Nat.lt_of_lt_of_le k1 g0.size)).trans (g1 j); have j2 := fun j => (hb_.cell (p := ⟨w6.heap.size, j, none⟩) (Nat.lt_of_lt_of_le k2 g0.size)).trans (g2 j); have j3 := fun j => (hb_.cell (p := ⟨w7.heap.size, j, none⟩) (Nat.lt_of_lt_of_le k3 g0.size)).trans (g3 j); have j4 := fun j => (hb_.cell (p := ⟨w8.heap.size, j, none⟩) (Nat.lt_of_lt_of_le k4 g0.size)).trans (g4 j); have j5 := fun j => (hb_.cell (p := ⟨w9.heap.size, j, none⟩) (Nat.lt_of_lt_of_le k5 g0.size)).trans (g5 j); have j6 := fun j => (hb_.cell (p := ⟨w10.heap.size, j, none⟩) (Nat.lt_of_lt_of_le k6 g0.size)).trans (g6 j)) | (go_at_call 20; ((with_reducible refine (Right_calls q _).mono ?_)); obtain ⟨g0, gP, gQ, g1, g2, g3, g4, g5, g6⟩ := ‹Below W.heap.size W _ ∧ _›; rintro e w13 ⟨rfl, hb_⟩; have j0 := below_step g0 hb_; have jP := fun j => (hb_.cell (p := ⟨bp, j, none⟩) (Nat.lt_of_lt_of_le kP g0.size)).trans (gP j); have jQ := fun j => (hb_.cell (p := ⟨bq, j, none⟩) (Nat.lt_of_lt_of_le kQ g0.size)).trans (gQ j); have j1 := fun j => (hb_.cell (p := ⟨w5.heap.size, j, none⟩) (Nat.lt_of_lt_of_le k1 g0.size)).trans (g1 j); have j2 := fun j => (hb_.cell (p := ⟨w6.heap.size, j, none⟩) (Nat.lt_of_lt_of_le k2 g0.size)).trans (g2 j); have j3 := fun j => (hb_.cell (p := ⟨w7.heap.size, j, none⟩) (Nat.lt_of_lt_of_le k3 g0.size)).trans (g3 j); have j4 := fun j => (hb_.cell (p := ⟨w8.heap.size, j, none⟩) (Nat.lt_of_lt_of_le k4 g0.size)).trans (g4 j); have j5 := fun j => (hb_.cell (p := ⟨w9.heap.size, j, none⟩) (Nat.lt_of_lt_of_le k5 g0.size)).trans (g5 j); have j6 := fun j => (hb_.cell (p := ⟨w10.heap.size, j, none⟩) (Nat.lt_of_lt_of_le k6 g0.size)).trans (g6 j)) | (go_at_call 21; ((with_reducible refine (rRight_calls q _).mono ?_)); obtain ⟨g0, gP, gQ, g1, g2, g3, g4, g5, g6⟩ := ‹Below W.heap.size W _ ∧ _›; rintro e w14 ⟨rfl, hb_⟩; have j0 := below_step g0 hb_; have jP := fun j => (hb_.cell (p := ⟨bp, j, none⟩) (Nat.lt_of_lt_of_le kP g0.size)).trans (gP j); have jQ := fun j => (hb_.cell (p := ⟨bq, j, none⟩) (Nat.lt_of_lt_of_le kQ g0.size)).trans (gQ j); have j1 := fun j => (hb_.cell (p := ⟨w5.heap.size, j, none⟩) (Nat.lt_of_lt_of_le k1 g0.size)).trans (g1 j); have j2 := fun j => (hb_.cell (p := ⟨w6.heap.size, j, none⟩) (Nat.lt_of_lt_of_le k2 g0.size)).trans (g2 j); have j3 := fun j => (hb_.cell (p := ⟨w7.heap.size, j, none⟩) (Nat.lt_of_lt_of_le k3 g0.size)).trans (g3 j); have j4 := fun j => (hb_.cell (p := ⟨w8.heap.size, j, none⟩) (Nat.lt_of_lt_of_le k4 g0.size)).trans (g4 j); have j5 := fun j => (hb_.cell (p := ⟨w9.heap.size, j, none⟩) (Nat.lt_of_lt_of_le k5 g0.size)).trans (g5 j); have j6 := fun j => (hb_.cell (p := ⟨w10.heap.size, j, none⟩) (Nat.lt_of_lt_of_le k6 g0.size)).trans (g6 j)))
                        go_wp2
                        go_roundw
                        case rel =>
                          obtain ⟨bT, bS, bE, bB, bD, hbl⟩ := HL.out
                          have HZ := below_step HB.out j0
                          exact ⟨y + 1, by omega, by omega, by go_num, bT.below HZ, HL2.out.below HZ, bS.below HZ, bE.below HZ, bB.below HZ, bD.below HZ, below_step hbl HZ⟩
                        case measure => simp [intOf]; omega
                  · go_wp2
                    go_roundw
                    case rel => exact ⟨z + 1, by omega, by omega, by go_num, XS.out, XE.out, XB.out, XD.out, HB.out⟩
                    case measure => simp [intOf]; omega
          · go_wp2
            go_ret
            exact ⟨rfl, HB.out⟩
set_option maxRecDepth 100000 in
theorem scoreTells_lifted (os : Os) (started : os.Started) (H : Type) (enc : TypeId × Value → H) :
    ReturnsInHanded {} Try.checked os 3 .any (Rows.scoreTellsSpec.pre6 enc Try.prog Try.f3 Rows.scoreTellsRow.domain false) (Rows.scoreTellsSpec.post enc Try.prog Try.f3 false true false false) := by
  refine returnsInHanded_of_change_sized (C := Try.checked) own started (by kernel_rfl) Try.func3
    (ChangeSpec.witness6 (enc := enc) (C := Try.checked) false ⟨#[], #[.agg #[.int .i64 0, .int .i64 0, .int .i64 0, .int .i64 0, .int .i64 0, .int .i64 0, .int .i64 0], .agg #[.int .i64 0, .int .i64 0, .int .i64 0, .bool false], .agg #[.int .i64 0, .int .i64 0, .int .i64 0, .int .i64 0, .int .i64 0, .int .i64 0, .int .i64 0], .agg #[.int .i64 0, .int .i64 0, .int .i64 0], .bool false, .int .i64 0, .int .i64 0], []⟩ 8 (by kernel_rfl) (by kernel_rfl) (by kernel_rfl) (by kernel_rfl)) ?_
  intro W base args ds gs before hval0 hW hcnd hsz0 _
  have hsz : (DataW.weightsEach Try.prog (Try.f3.params.toList ++ Rows.scoreTellsSpec.plain.varTypes Try.prog) (ds ++ gs)).all (· ≤ reachBytes) = true := hsz0
  have hval : ∀ (j : Nat) t v, Try.f3.params[j]? = some t → args[j]? = some v → Value.okWide Try.prog W .any base t v := hval0
  have hW' := hW
  obtain ⟨p, q, hA0, hV, rfl, hfz, hnd⟩ := hW
  have hA : DataW.TrodAll enc Try.prog W 0 (fun _ => true) true Try.f3.params.toList args.toList ds p := hA0
  have hAll := hA
  rw [Try.params3] at hA hval hsz
  obtain ⟨v0, vs0, d0, ds0, p0, q0, hargs, rfl, rfl, h0, r0⟩ := trodAll_cons hA
  obtain ⟨v1, vs1, d1, ds1, p1, q1, rfl, rfl, rfl, h1, r1⟩ := trodAll_cons r0
  obtain ⟨v2, vs2, d2, ds2, p2, q2, rfl, rfl, rfl, h2, r2⟩ := trodAll_cons r1
  obtain ⟨v3, vs3, d3, ds3, p3, q3, rfl, rfl, rfl, h3, r3⟩ := trodAll_cons r2
  obtain ⟨v4, vs4, d4, ds4, p4, q4, rfl, rfl, rfl, h4, r4⟩ := trodAll_cons r3
  obtain ⟨v5, vs5, d5, ds5, p5, q5, rfl, rfl, rfl, h5, r5⟩ := trodAll_cons r4
  obtain ⟨v6, vs6, d6, ds6, p6, q6, rfl, rfl, rfl, h6, r6⟩ := trodAll_cons r5
  obtain ⟨rfl, rfl, rfl⟩ := trodAll_nil r6
  obtain rfl : args = #[v0, v1, v2, v3, v4, v5, v6] := by cases args; simp_all
  obtain ⟨rfl, rfl⟩ := trodVars_none hV
  have hlt := trodAll_lt hAll
  obtain ⟨r, rfl⟩ := rule_came (hval 0 23 v0 rfl rfl)
  obtain ⟨s, rfl⟩ := score_came (hval 1 25 v1 rfl rfl)
  obtain ⟨n, rfl⟩ := seven_came (hval 2 26 v2 rfl rfl)
  obtain ⟨k, rfl⟩ := three_came (hval 3 27 v3 rfl rfl)
  obtain ⟨b, rfl, rfl, rfl⟩ := open_bool Try.underlying4 (hval 4 4 v4 rfl rfl) h4
  obtain ⟨c, rfl, rfl, rfl, w5⟩ := open_int Try.underlying3 (hval 5 3 v5 rfl rfl) h5
  obtain ⟨x, rfl, rfl, rfl, w6⟩ := open_int Try.underlying3 (hval 6 3 v6 rfl rfl) h6
  clear hA0 hval0 hsz0 hsz
  refine (ScoreTells_calls r s n k b c x (bounds_i64 w5) W).mono fun e W' ⟨he, bel⟩ => ?_
  subst he
  exact ⟨_, rfl, _, _, _, [], _, [], hW', trodAll_mk1 (shut_bool Try.underlying4 _), below_trodAll laidOut bel (by kernel_rfl) hAll hlt, rfl, bel.frame _, fun h => by cases h⟩
theorem scoreTells_over : Rows.scoreTellsRow.holds Try.pinned (OpenSpec.ofChange Rows.scoreTellsSpec) :=
  OpenClaim.holds_of_wide 3 Try.f3 rfl rfl rfl rfl rfl rfl rfl ⟨rfl, rfl, rfl, rfl, rfl⟩ rfl rfl rfl rfl rfl (by kernel_rfl) Try.func3 (by kernel_rfl)
    (of_decide_eq_true (by kernel_rfl)) (by unfold Func.isWrapper; first | (rw [if_pos (by decide +kernel)]; kernel_rfl) | (rw [if_neg (by decide +kernel)]; exact ⟨rfl, rfl⟩))
    (fun os started H enc _ => scoreTells_lifted os started H enc)
theorem scoreTells_holds : Rows.ScoreTellsSaid := scoreTells_over
#print axioms scoreTells_holds
end Go.Proofs.Ytdhgneindanbeaa
