/- The statements' own first calls of chapter 18 answer true. -/
import Derived.Test.YtdhgneindanbeaaScoreGen
set_option linter.unusedVariables false
set_option linter.unusedSimpArgs false
namespace Go.Proofs.Ytdhgneindanbeaa
open Go.RowKit Go.Proofs.YtdhgneindanbeaaW.PrintWords Go.Proofs.YtdhgneindanbeaaW.PrintLast Go.Proofs.YtdhgneindanbeaaW.PrintMore

def r0 : RuleV := ⟨10, 1, 3, 1, 2, -15, -5⟩
theorem aw1 (w : World) : Calls Try.prog 12 #[.agg #[.int .i64 10, .int .i64 1, .int .i64 3, .int .i64 1, .int .i64 2, .int .i64 (-15), .int .i64 (-5)], .agg #[.int .i64 0, .int .i64 5, .int .i64 2, .bool false]] w fun e w' =>
    e = .returned (.tuple #[.agg #[.int .i64 (-17), .int .i64 0, .int .i64 0, .bool true], .int .i64 0]) ∧ Below w.heap.size w w' :=
  Settle_yes r0 ⟨0, 5, 2, false⟩ w (by decide)
theorem aw2 (w : World) : Calls Try.prog 14 #[.agg #[.int .i64 10, .int .i64 1, .int .i64 3, .int .i64 1, .int .i64 2, .int .i64 (-15), .int .i64 (-5)], .agg #[.int .i64 (-17), .int .i64 0, .int .i64 0, .bool true]] w fun e w' =>
    e = .returned (.tuple #[.agg #[.int .i64 (-8), .int .i64 0, .int .i64 0, .bool true], .int .i64 0]) ∧ Below w.heap.size w w' :=
  Decay_yes r0 ⟨-17, 0, 0, true⟩ w (by decide)
theorem aw3 (w : World) : Calls Try.prog 14 #[.agg #[.int .i64 10, .int .i64 1, .int .i64 3, .int .i64 1, .int .i64 2, .int .i64 (-15), .int .i64 (-5)], .agg #[.int .i64 (-8), .int .i64 0, .int .i64 0, .bool true]] w fun e w' =>
    e = .returned (.tuple #[.agg #[.int .i64 (-4), .int .i64 0, .int .i64 0, .bool false], .int .i64 0]) ∧ Below w.heap.size w w' :=
  Decay_yes r0 ⟨-8, 0, 0, true⟩ w (by decide)
theorem aw4 (w : World) : Calls Try.prog 16 #[.agg #[.int .i64 (-4), .int .i64 0, .int .i64 0, .bool false], .bool true] w fun e w' =>
    e = .returned (.tuple #[.agg #[.int .i64 (-4), .int .i64 1, .int .i64 0, .bool false], .int .i64 0]) ∧ Below w.heap.size w w' :=
  Count_yes ⟨-4, 0, 0, false⟩ true w (by decide)
theorem aw5 (w : World) : Calls Try.prog 16 #[.agg #[.int .i64 (-4), .int .i64 1, .int .i64 0, .bool false], .bool false] w fun e w' =>
    e = .returned (.tuple #[.agg #[.int .i64 (-4), .int .i64 1, .int .i64 1, .bool false], .int .i64 0]) ∧ Below w.heap.size w w' :=
  Count_yes ⟨-4, 1, 0, false⟩ false w (by decide)
theorem aw6 (w : World) : Calls Try.prog 12 #[.agg #[.int .i64 0, .int .i64 0, .int .i64 0, .int .i64 0, .int .i64 0, .int .i64 0, .int .i64 0], .agg #[.int .i64 (-17), .int .i64 0, .int .i64 0, .bool true]] w fun e w' =>
    e = .returned (.tuple #[.agg #[.int .i64 0, .int .i64 0, .int .i64 0, .bool false], .int .i64 1]) ∧ Below w.heap.size w w' :=
  Settle_no ⟨0, 0, 0, 0, 0, 0, 0⟩ ⟨-17, 0, 0, true⟩ w (by decide)
theorem aw7 (w : World) : Calls Try.prog 14 #[.agg #[.int .i64 10, .int .i64 1, .int .i64 3, .int .i64 1, .int .i64 2, .int .i64 (-15), .int .i64 (-5)], .agg #[.int .i64 0, .int .i64 (-1), .int .i64 0, .bool false]] w fun e w' =>
    e = .returned (.tuple #[.agg #[.int .i64 0, .int .i64 0, .int .i64 0, .bool false], .int .i64 1]) ∧ Below w.heap.size w w' :=
  Decay_no r0 ⟨0, -1, 0, false⟩ w (by decide)
theorem aw8 (w : World) : Calls Try.prog 18 #[.agg #[.int .i64 10, .int .i64 1, .int .i64 3, .int .i64 1, .int .i64 2, .int .i64 (-15), .int .i64 (-5)]] w fun e w' => e = .returned (.bool true) ∧ Below w.heap.size w w' := Fits_calls r0 w
theorem aw9 (w : World) : Calls Try.prog 18 #[.agg #[.int .i64 0, .int .i64 0, .int .i64 0, .int .i64 0, .int .i64 0, .int .i64 0, .int .i64 0]] w fun e w' => e = .returned (.bool false) ∧ Below w.heap.size w w' := Fits_calls ⟨0, 0, 0, 0, 0, 0, 0⟩ w
theorem aw10 (w : World) : Calls Try.prog 20 #[.agg #[.int .i64 (-17), .int .i64 0, .int .i64 0, .bool true]] w fun e w' => e = .returned (.bool true) ∧ Below w.heap.size w w' := Right_calls ⟨-17, 0, 0, true⟩ w

set_option maxHeartbeats 2000000 in
set_option maxRecDepth 100000 in
theorem awake_calls (w : World) : Calls Try.prog 8 #[] w fun e w' => e = .returned (.bool true) ∧ Below w.heap.size w w' := by
  have HB := Aside0.mk (Below.refl w.heap.size w)
  go_enter Try.func8, Try.ntmps8
  go_wp2_with fail
  refine (aw1 _).mono ?_
  rintro e w1 ⟨rfl, hb_⟩
  have Y1 : Box w1 (w.heap.size) _ _ := Box.below (by repeat (with_reducible first | exact X1.out | exact Box.new | exact Box.new1 | exact Box.new2 | apply Box.alloc | apply Box.drew | apply Box.drewN | apply Box.set)) hb_
  (try clear X1 r1 k1 f1); have X1 := Aside0.mk Y1; have r1 := Y1.cell; have f1 := Y1.frozen; have k1 := Y1.lt; clear Y1
  have n_ := Aside0.mk (below_step (by repeat (first | exact HB.out | apply below_alloc | apply pw_below_drewN | apply below_drew1 | refine below_set ?_ (by first | omega | (simp; omega)))) hb_); clear HB hb_; have HB := n_; clear n_
  go_wp2_with fail
  refine (aw2 _).mono ?_
  rintro e w2 ⟨rfl, hb_⟩
  have Y1 : Box w2 (w.heap.size) _ _ := Box.below (by repeat (with_reducible first | exact X1.out | exact Box.new | exact Box.new1 | exact Box.new2 | apply Box.alloc | apply Box.drew | apply Box.drewN | apply Box.set)) hb_
  (try clear X1 r1 k1 f1); have X1 := Aside0.mk Y1; have r1 := Y1.cell; have f1 := Y1.frozen; have k1 := Y1.lt; clear Y1
  have Y2 : Box w2 (w1.heap.size) _ _ := Box.below (by repeat (with_reducible first | exact X2.out | exact Box.new | exact Box.new1 | exact Box.new2 | apply Box.alloc | apply Box.drew | apply Box.drewN | apply Box.set)) hb_
  (try clear X2 r2 k2 f2); have X2 := Aside0.mk Y2; have r2 := Y2.cell; have f2 := Y2.frozen; have k2 := Y2.lt; clear Y2
  have n_ := Aside0.mk (below_step (by repeat (first | exact HB.out | apply below_alloc | apply pw_below_drewN | apply below_drew1 | refine below_set ?_ (by first | omega | (simp; omega)))) hb_); clear HB hb_; have HB := n_; clear n_
  go_wp2_with fail
  refine (aw3 _).mono ?_
  rintro e w3 ⟨rfl, hb_⟩
  have Y1 : Box w3 (w.heap.size) _ _ := Box.below (by repeat (with_reducible first | exact X1.out | exact Box.new | exact Box.new1 | exact Box.new2 | apply Box.alloc | apply Box.drew | apply Box.drewN | apply Box.set)) hb_
  (try clear X1 r1 k1 f1); have X1 := Aside0.mk Y1; have r1 := Y1.cell; have f1 := Y1.frozen; have k1 := Y1.lt; clear Y1
  have Y2 : Box w3 (w1.heap.size) _ _ := Box.below (by repeat (with_reducible first | exact X2.out | exact Box.new | exact Box.new1 | exact Box.new2 | apply Box.alloc | apply Box.drew | apply Box.drewN | apply Box.set)) hb_
  (try clear X2 r2 k2 f2); have X2 := Aside0.mk Y2; have r2 := Y2.cell; have f2 := Y2.frozen; have k2 := Y2.lt; clear Y2
  have Y3 : Box w3 (w2.heap.size) _ _ := Box.below (by repeat (with_reducible first | exact X3.out | exact Box.new | exact Box.new1 | exact Box.new2 | apply Box.alloc | apply Box.drew | apply Box.drewN | apply Box.set)) hb_
  (try clear X3 r3 k3 f3); have X3 := Aside0.mk Y3; have r3 := Y3.cell; have f3 := Y3.frozen; have k3 := Y3.lt; clear Y3
  have n_ := Aside0.mk (below_step (by repeat (first | exact HB.out | apply below_alloc | apply pw_below_drewN | apply below_drew1 | refine below_set ?_ (by first | omega | (simp; omega)))) hb_); clear HB hb_; have HB := n_; clear n_
  go_wp2_with fail
  refine (aw4 _).mono ?_
  rintro e w4 ⟨rfl, hb_⟩
  have Y1 : Box w4 (w.heap.size) _ _ := Box.below (by repeat (with_reducible first | exact X1.out | exact Box.new | exact Box.new1 | exact Box.new2 | apply Box.alloc | apply Box.drew | apply Box.drewN | apply Box.set)) hb_
  (try clear X1 r1 k1 f1); have X1 := Aside0.mk Y1; have r1 := Y1.cell; have f1 := Y1.frozen; have k1 := Y1.lt; clear Y1
  have Y2 : Box w4 (w1.heap.size) _ _ := Box.below (by repeat (with_reducible first | exact X2.out | exact Box.new | exact Box.new1 | exact Box.new2 | apply Box.alloc | apply Box.drew | apply Box.drewN | apply Box.set)) hb_
  (try clear X2 r2 k2 f2); have X2 := Aside0.mk Y2; have r2 := Y2.cell; have f2 := Y2.frozen; have k2 := Y2.lt; clear Y2
  have Y3 : Box w4 (w2.heap.size) _ _ := Box.below (by repeat (with_reducible first | exact X3.out | exact Box.new | exact Box.new1 | exact Box.new2 | apply Box.alloc | apply Box.drew | apply Box.drewN | apply Box.set)) hb_
  (try clear X3 r3 k3 f3); have X3 := Aside0.mk Y3; have r3 := Y3.cell; have f3 := Y3.frozen; have k3 := Y3.lt; clear Y3
  have Y4 : Box w4 (w3.heap.size) _ _ := Box.below (by repeat (with_reducible first | exact X4.out | exact Box.new | exact Box.new1 | exact Box.new2 | apply Box.alloc | apply Box.drew | apply Box.drewN | apply Box.set)) hb_
  (try clear X4 r4 k4 f4); have X4 := Aside0.mk Y4; have r4 := Y4.cell; have f4 := Y4.frozen; have k4 := Y4.lt; clear Y4
  have n_ := Aside0.mk (below_step (by repeat (first | exact HB.out | apply below_alloc | apply pw_below_drewN | apply below_drew1 | refine below_set ?_ (by first | omega | (simp; omega)))) hb_); clear HB hb_; have HB := n_; clear n_
  go_wp2_with fail
  refine (aw5 _).mono ?_
  rintro e w5 ⟨rfl, hb_⟩
  have Y1 : Box w5 (w.heap.size) _ _ := Box.below (by repeat (with_reducible first | exact X1.out | exact Box.new | exact Box.new1 | exact Box.new2 | apply Box.alloc | apply Box.drew | apply Box.drewN | apply Box.set)) hb_
  (try clear X1 r1 k1 f1); have X1 := Aside0.mk Y1; have r1 := Y1.cell; have f1 := Y1.frozen; have k1 := Y1.lt; clear Y1
  have Y2 : Box w5 (w1.heap.size) _ _ := Box.below (by repeat (with_reducible first | exact X2.out | exact Box.new | exact Box.new1 | exact Box.new2 | apply Box.alloc | apply Box.drew | apply Box.drewN | apply Box.set)) hb_
  (try clear X2 r2 k2 f2); have X2 := Aside0.mk Y2; have r2 := Y2.cell; have f2 := Y2.frozen; have k2 := Y2.lt; clear Y2
  have Y3 : Box w5 (w2.heap.size) _ _ := Box.below (by repeat (with_reducible first | exact X3.out | exact Box.new | exact Box.new1 | exact Box.new2 | apply Box.alloc | apply Box.drew | apply Box.drewN | apply Box.set)) hb_
  (try clear X3 r3 k3 f3); have X3 := Aside0.mk Y3; have r3 := Y3.cell; have f3 := Y3.frozen; have k3 := Y3.lt; clear Y3
  have Y4 : Box w5 (w3.heap.size) _ _ := Box.below (by repeat (with_reducible first | exact X4.out | exact Box.new | exact Box.new1 | exact Box.new2 | apply Box.alloc | apply Box.drew | apply Box.drewN | apply Box.set)) hb_
  (try clear X4 r4 k4 f4); have X4 := Aside0.mk Y4; have r4 := Y4.cell; have f4 := Y4.frozen; have k4 := Y4.lt; clear Y4
  have Y5 : Box w5 (w4.heap.size) _ _ := Box.below (by repeat (with_reducible first | exact X5.out | exact Box.new | exact Box.new1 | exact Box.new2 | apply Box.alloc | apply Box.drew | apply Box.drewN | apply Box.set)) hb_
  (try clear X5 r5 k5 f5); have X5 := Aside0.mk Y5; have r5 := Y5.cell; have f5 := Y5.frozen; have k5 := Y5.lt; clear Y5
  have n_ := Aside0.mk (below_step (by repeat (first | exact HB.out | apply below_alloc | apply pw_below_drewN | apply below_drew1 | refine below_set ?_ (by first | omega | (simp; omega)))) hb_); clear HB hb_; have HB := n_; clear n_
  go_wp2_with fail
  refine (aw6 _).mono ?_
  rintro e w6 ⟨rfl, hb_⟩
  have Y1 : Box w6 (w.heap.size) _ _ := Box.below (by repeat (with_reducible first | exact X1.out | exact Box.new | exact Box.new1 | exact Box.new2 | apply Box.alloc | apply Box.drew | apply Box.drewN | apply Box.set)) hb_
  (try clear X1 r1 k1 f1); have X1 := Aside0.mk Y1; have r1 := Y1.cell; have f1 := Y1.frozen; have k1 := Y1.lt; clear Y1
  have Y2 : Box w6 (w1.heap.size) _ _ := Box.below (by repeat (with_reducible first | exact X2.out | exact Box.new | exact Box.new1 | exact Box.new2 | apply Box.alloc | apply Box.drew | apply Box.drewN | apply Box.set)) hb_
  (try clear X2 r2 k2 f2); have X2 := Aside0.mk Y2; have r2 := Y2.cell; have f2 := Y2.frozen; have k2 := Y2.lt; clear Y2
  have Y3 : Box w6 (w2.heap.size) _ _ := Box.below (by repeat (with_reducible first | exact X3.out | exact Box.new | exact Box.new1 | exact Box.new2 | apply Box.alloc | apply Box.drew | apply Box.drewN | apply Box.set)) hb_
  (try clear X3 r3 k3 f3); have X3 := Aside0.mk Y3; have r3 := Y3.cell; have f3 := Y3.frozen; have k3 := Y3.lt; clear Y3
  have Y4 : Box w6 (w3.heap.size) _ _ := Box.below (by repeat (with_reducible first | exact X4.out | exact Box.new | exact Box.new1 | exact Box.new2 | apply Box.alloc | apply Box.drew | apply Box.drewN | apply Box.set)) hb_
  (try clear X4 r4 k4 f4); have X4 := Aside0.mk Y4; have r4 := Y4.cell; have f4 := Y4.frozen; have k4 := Y4.lt; clear Y4
  have Y6 : Box w6 (w5.heap.size) _ _ := Box.below (by repeat (with_reducible first | exact X6.out | exact Box.new | exact Box.new1 | exact Box.new2 | apply Box.alloc | apply Box.drew | apply Box.drewN | apply Box.set)) hb_
  (try clear X6 r6 k6 f6); have X6 := Aside0.mk Y6; have r6 := Y6.cell; have f6 := Y6.frozen; have k6 := Y6.lt; clear Y6
  have n_ := Aside0.mk (below_step (by repeat (first | exact HB.out | apply below_alloc | apply pw_below_drewN | apply below_drew1 | refine below_set ?_ (by first | omega | (simp; omega)))) hb_); clear HB hb_; have HB := n_; clear n_
  go_wp2_with fail
  refine (aw7 _).mono ?_
  rintro e w7 ⟨rfl, hb_⟩
  have Y1 : Box w7 (w.heap.size) _ _ := Box.below (by repeat (with_reducible first | exact X1.out | exact Box.new | exact Box.new1 | exact Box.new2 | apply Box.alloc | apply Box.drew | apply Box.drewN | apply Box.set)) hb_
  (try clear X1 r1 k1 f1); have X1 := Aside0.mk Y1; have r1 := Y1.cell; have f1 := Y1.frozen; have k1 := Y1.lt; clear Y1
  have Y2 : Box w7 (w1.heap.size) _ _ := Box.below (by repeat (with_reducible first | exact X2.out | exact Box.new | exact Box.new1 | exact Box.new2 | apply Box.alloc | apply Box.drew | apply Box.drewN | apply Box.set)) hb_
  (try clear X2 r2 k2 f2); have X2 := Aside0.mk Y2; have r2 := Y2.cell; have f2 := Y2.frozen; have k2 := Y2.lt; clear Y2
  have Y3 : Box w7 (w2.heap.size) _ _ := Box.below (by repeat (with_reducible first | exact X3.out | exact Box.new | exact Box.new1 | exact Box.new2 | apply Box.alloc | apply Box.drew | apply Box.drewN | apply Box.set)) hb_
  (try clear X3 r3 k3 f3); have X3 := Aside0.mk Y3; have r3 := Y3.cell; have f3 := Y3.frozen; have k3 := Y3.lt; clear Y3
  have Y4 : Box w7 (w3.heap.size) _ _ := Box.below (by repeat (with_reducible first | exact X4.out | exact Box.new | exact Box.new1 | exact Box.new2 | apply Box.alloc | apply Box.drew | apply Box.drewN | apply Box.set)) hb_
  (try clear X4 r4 k4 f4); have X4 := Aside0.mk Y4; have r4 := Y4.cell; have f4 := Y4.frozen; have k4 := Y4.lt; clear Y4
  have Y6 : Box w7 (w5.heap.size) _ _ := Box.below (by repeat (with_reducible first | exact X6.out | exact Box.new | exact Box.new1 | exact Box.new2 | apply Box.alloc | apply Box.drew | apply Box.drewN | apply Box.set)) hb_
  (try clear X6 r6 k6 f6); have X6 := Aside0.mk Y6; have r6 := Y6.cell; have f6 := Y6.frozen; have k6 := Y6.lt; clear Y6
  have n_ := Aside0.mk (below_step (by repeat (first | exact HB.out | apply below_alloc | apply pw_below_drewN | apply below_drew1 | refine below_set ?_ (by first | omega | (simp; omega)))) hb_); clear HB hb_; have HB := n_; clear n_
  go_wp2_with fail
  refine (aw8 _).mono ?_
  rintro e w8 ⟨rfl, hb_⟩
  have Y1 : Box w8 (w.heap.size) _ _ := Box.below (by repeat (with_reducible first | exact X1.out | exact Box.new | exact Box.new1 | exact Box.new2 | apply Box.alloc | apply Box.drew | apply Box.drewN | apply Box.set)) hb_
  (try clear X1 r1 k1 f1); have X1 := Aside0.mk Y1; have r1 := Y1.cell; have f1 := Y1.frozen; have k1 := Y1.lt; clear Y1
  have Y2 : Box w8 (w1.heap.size) _ _ := Box.below (by repeat (with_reducible first | exact X2.out | exact Box.new | exact Box.new1 | exact Box.new2 | apply Box.alloc | apply Box.drew | apply Box.drewN | apply Box.set)) hb_
  (try clear X2 r2 k2 f2); have X2 := Aside0.mk Y2; have r2 := Y2.cell; have f2 := Y2.frozen; have k2 := Y2.lt; clear Y2
  have Y3 : Box w8 (w2.heap.size) _ _ := Box.below (by repeat (with_reducible first | exact X3.out | exact Box.new | exact Box.new1 | exact Box.new2 | apply Box.alloc | apply Box.drew | apply Box.drewN | apply Box.set)) hb_
  (try clear X3 r3 k3 f3); have X3 := Aside0.mk Y3; have r3 := Y3.cell; have f3 := Y3.frozen; have k3 := Y3.lt; clear Y3
  have Y4 : Box w8 (w3.heap.size) _ _ := Box.below (by repeat (with_reducible first | exact X4.out | exact Box.new | exact Box.new1 | exact Box.new2 | apply Box.alloc | apply Box.drew | apply Box.drewN | apply Box.set)) hb_
  (try clear X4 r4 k4 f4); have X4 := Aside0.mk Y4; have r4 := Y4.cell; have f4 := Y4.frozen; have k4 := Y4.lt; clear Y4
  have Y6 : Box w8 (w5.heap.size) _ _ := Box.below (by repeat (with_reducible first | exact X6.out | exact Box.new | exact Box.new1 | exact Box.new2 | apply Box.alloc | apply Box.drew | apply Box.drewN | apply Box.set)) hb_
  (try clear X6 r6 k6 f6); have X6 := Aside0.mk Y6; have r6 := Y6.cell; have f6 := Y6.frozen; have k6 := Y6.lt; clear Y6
  have n_ := Aside0.mk (below_step (by repeat (first | exact HB.out | apply below_alloc | apply pw_below_drewN | apply below_drew1 | refine below_set ?_ (by first | omega | (simp; omega)))) hb_); clear HB hb_; have HB := n_; clear n_
  go_wp2_with fail
  refine (aw9 _).mono ?_
  rintro e w9 ⟨rfl, hb_⟩
  have Y1 : Box w9 (w.heap.size) _ _ := Box.below (by repeat (with_reducible first | exact X1.out | exact Box.new | exact Box.new1 | exact Box.new2 | apply Box.alloc | apply Box.drew | apply Box.drewN | apply Box.set)) hb_
  (try clear X1 r1 k1 f1); have X1 := Aside0.mk Y1; have r1 := Y1.cell; have f1 := Y1.frozen; have k1 := Y1.lt; clear Y1
  have Y2 : Box w9 (w1.heap.size) _ _ := Box.below (by repeat (with_reducible first | exact X2.out | exact Box.new | exact Box.new1 | exact Box.new2 | apply Box.alloc | apply Box.drew | apply Box.drewN | apply Box.set)) hb_
  (try clear X2 r2 k2 f2); have X2 := Aside0.mk Y2; have r2 := Y2.cell; have f2 := Y2.frozen; have k2 := Y2.lt; clear Y2
  have Y3 : Box w9 (w2.heap.size) _ _ := Box.below (by repeat (with_reducible first | exact X3.out | exact Box.new | exact Box.new1 | exact Box.new2 | apply Box.alloc | apply Box.drew | apply Box.drewN | apply Box.set)) hb_
  (try clear X3 r3 k3 f3); have X3 := Aside0.mk Y3; have r3 := Y3.cell; have f3 := Y3.frozen; have k3 := Y3.lt; clear Y3
  have Y4 : Box w9 (w3.heap.size) _ _ := Box.below (by repeat (with_reducible first | exact X4.out | exact Box.new | exact Box.new1 | exact Box.new2 | apply Box.alloc | apply Box.drew | apply Box.drewN | apply Box.set)) hb_
  (try clear X4 r4 k4 f4); have X4 := Aside0.mk Y4; have r4 := Y4.cell; have f4 := Y4.frozen; have k4 := Y4.lt; clear Y4
  have Y6 : Box w9 (w5.heap.size) _ _ := Box.below (by repeat (with_reducible first | exact X6.out | exact Box.new | exact Box.new1 | exact Box.new2 | apply Box.alloc | apply Box.drew | apply Box.drewN | apply Box.set)) hb_
  (try clear X6 r6 k6 f6); have X6 := Aside0.mk Y6; have r6 := Y6.cell; have f6 := Y6.frozen; have k6 := Y6.lt; clear Y6
  have n_ := Aside0.mk (below_step (by repeat (first | exact HB.out | apply below_alloc | apply pw_below_drewN | apply below_drew1 | refine below_set ?_ (by first | omega | (simp; omega)))) hb_); clear HB hb_; have HB := n_; clear n_
  go_wp2_with fail
  refine (aw10 _).mono ?_
  rintro e w10 ⟨rfl, hb_⟩
  have Y1 : Box w10 (w.heap.size) _ _ := Box.below (by repeat (with_reducible first | exact X1.out | exact Box.new | exact Box.new1 | exact Box.new2 | apply Box.alloc | apply Box.drew | apply Box.drewN | apply Box.set)) hb_
  (try clear X1 r1 k1 f1); have X1 := Aside0.mk Y1; have r1 := Y1.cell; have f1 := Y1.frozen; have k1 := Y1.lt; clear Y1
  have Y2 : Box w10 (w1.heap.size) _ _ := Box.below (by repeat (with_reducible first | exact X2.out | exact Box.new | exact Box.new1 | exact Box.new2 | apply Box.alloc | apply Box.drew | apply Box.drewN | apply Box.set)) hb_
  (try clear X2 r2 k2 f2); have X2 := Aside0.mk Y2; have r2 := Y2.cell; have f2 := Y2.frozen; have k2 := Y2.lt; clear Y2
  have Y3 : Box w10 (w2.heap.size) _ _ := Box.below (by repeat (with_reducible first | exact X3.out | exact Box.new | exact Box.new1 | exact Box.new2 | apply Box.alloc | apply Box.drew | apply Box.drewN | apply Box.set)) hb_
  (try clear X3 r3 k3 f3); have X3 := Aside0.mk Y3; have r3 := Y3.cell; have f3 := Y3.frozen; have k3 := Y3.lt; clear Y3
  have Y4 : Box w10 (w3.heap.size) _ _ := Box.below (by repeat (with_reducible first | exact X4.out | exact Box.new | exact Box.new1 | exact Box.new2 | apply Box.alloc | apply Box.drew | apply Box.drewN | apply Box.set)) hb_
  (try clear X4 r4 k4 f4); have X4 := Aside0.mk Y4; have r4 := Y4.cell; have f4 := Y4.frozen; have k4 := Y4.lt; clear Y4
  have Y6 : Box w10 (w5.heap.size) _ _ := Box.below (by repeat (with_reducible first | exact X6.out | exact Box.new | exact Box.new1 | exact Box.new2 | apply Box.alloc | apply Box.drew | apply Box.drewN | apply Box.set)) hb_
  (try clear X6 r6 k6 f6); have X6 := Aside0.mk Y6; have r6 := Y6.cell; have f6 := Y6.frozen; have k6 := Y6.lt; clear Y6
  have n_ := Aside0.mk (below_step (by repeat (first | exact HB.out | apply below_alloc | apply pw_below_drewN | apply below_drew1 | refine below_set ?_ (by first | omega | (simp; omega)))) hb_); clear HB hb_; have HB := n_; clear n_
  go_wp2
  go_ret
  exact ⟨rfl, HB.out⟩
end Go.Proofs.Ytdhgneindanbeaa
