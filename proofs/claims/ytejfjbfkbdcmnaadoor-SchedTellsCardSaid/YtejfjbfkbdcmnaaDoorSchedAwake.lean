
/- The statements' own first calls of chapter 11 answer true. -/
import Derived.Test.YtejfjbfkbdcmnaaDoorSchedWalk3
import Derived.Test.YtejfjbfkbdcmnaaDoorBitsFind
set_option linter.unusedVariables false
set_option linter.unusedSimpArgs false
namespace Go.Proofs.YtejfjbfkbdcmnaaDoor
open Go.RowKit Go.Proofs.YtejfjbfkbdcmnaaDoorW.PrintWords Go.Proofs.YtejfjbfkbdcmnaaDoorW.PrintLast Go.Proofs.YtejfjbfkbdcmnaaDoorW.PrintMore

def sc0 : ChainV := ⟨1, 1, 1, 4, 1, 0, 1, 0, 1, 0⟩
def sp0 : PlanV := ⟨6, 3, 4⟩
theorem first0 : firstP sc0 sp0 0 = 2 := by
  unfold firstP
  rw [show sc0.ro.toNat = 0 from rfl, place_zero]
  rfl
theorem asN (w : World) (hG : DutyLaid w) : Calls Tryd.prog 14 #[.agg #[.int .i64 1, .int .i64 1, .int .i64 1, .int .i64 4, .int .i64 1, .int .i64 0, .int .i64 1, .int .i64 0, .int .i64 1, .int .u64 0], .agg #[.int .u64 6, .int .i64 3, .int .i64 4], .int .i64 0] w fun e w' =>
    ∃ A cap, e = .returned (.tuple #[.agg #[.int .i64 4, .slice A 3 cap], .int .i64 0]) ∧ (Kd.int .i64).C w' A 3 [0, 2, 3] ∧ Below w.heap.size w w' := by
  refine (Nets_yes sc0 sp0 0 w (by decide) (by decide) hG).mono fun e w' hh => ?_
  obtain ⟨v, he, hR, hb⟩ := hh
  rw [show blockP sp0 0 = 0 by decide, first0, show onList (onP sc0.su 2 sp0.ke) 64 = [0, 2, 3] by decide] at hR
  obtain ⟨A, c, rfl, _, hC⟩ := Kd.R_reads hR
  exact ⟨A, c, he, hC, hb⟩
theorem asX (w : World) (hG : DutyLaid w) : Calls Tryd.prog 16 #[.agg #[.int .i64 1, .int .i64 1, .int .i64 1, .int .i64 4, .int .i64 1, .int .i64 0, .int .i64 1, .int .i64 0, .int .i64 1, .int .u64 0], .agg #[.int .u64 6, .int .i64 3, .int .i64 4], .int .i64 0] w fun e w' =>
    e = .returned (.tuple #[.int .i64 2, .int .i64 0]) ∧ Below w.heap.size w w' := by
  have h := Next_yes sc0 sp0 0 w (by decide) (by decide) hG
  rw [show nextP sp0 0 = 2 by decide] at h
  exact h
theorem asR (w : World) (hG : DutyLaid w) : Calls Tryd.prog 18 #[.agg #[.int .i64 1, .int .i64 1, .int .i64 1, .int .i64 4, .int .i64 1, .int .i64 0, .int .i64 1, .int .i64 0, .int .i64 1, .int .u64 0], .agg #[.int .u64 6, .int .i64 3, .int .i64 4], .int .i64 1, .int .u64 9223372036854775808] w fun e w' =>
    e = .returned (.tuple #[.agg #[.int .u64 1, .int .u64 13, .int .u64 0], .int .i64 0]) ∧ Below w.heap.size w w' := by
  have h := Record_yes sc0 sp0 1 9223372036854775808 w (by decide) (by decide) hG
  rw [show blockP sp0 1 = 0 by decide, first0, show onBits (onP sc0.su 2 sp0.ke) 64 = 13 by decide, show plainF 9223372036854775808 = 0 by decide] at h
  exact h
theorem asN0 (w : World) (hG : DutyLaid w) : Calls Tryd.prog 14 #[.agg #[.int .i64 1, .int .i64 1, .int .i64 1, .int .i64 4, .int .i64 1, .int .i64 0, .int .i64 1, .int .i64 0, .int .i64 1, .int .u64 0], .agg #[.int .u64 0, .int .i64 0, .int .i64 0], .int .i64 0] w fun e w' =>
    e = .returned (.tuple #[.agg #[.int .i64 0, .slice none 0 0], .int .i64 1]) ∧ Below w.heap.size w w' := Nets_no sc0 ⟨0, 0, 0⟩ 0 w (by decide) hG
theorem asX0 (w : World) (hG : DutyLaid w) : Calls Tryd.prog 16 #[.agg #[.int .i64 1, .int .i64 1, .int .i64 1, .int .i64 4, .int .i64 1, .int .i64 0, .int .i64 1, .int .i64 0, .int .i64 1, .int .u64 0], .agg #[.int .u64 6, .int .i64 3, .int .i64 4], .int .i64 (-1)] w fun e w' =>
    e = .returned (.tuple #[.int .i64 0, .int .i64 1]) ∧ Below w.heap.size w w' := Next_no sc0 sp0 (-1) w (by decide) hG
theorem asF (w : World) : Calls Tryd.prog 11 #[.agg #[.int .u64 6, .int .i64 3, .int .i64 4]] w fun e w' => e = .returned (.bool true) ∧ Below w.heap.size w w' := SFits_calls sp0 w
theorem asF0 (w : World) : Calls Tryd.prog 11 #[.agg #[.int .u64 0, .int .i64 0, .int .i64 0]] w fun e w' => e = .returned (.bool false) ∧ Below w.heap.size w w' := SFits_calls ⟨0, 0, 0⟩ w
theorem asS (A : Option Addr) (cap : Nat) (b : Nat) (T : TypeId) (w : World) (h : (Kd.int .i64).C w A 3 [0, 2, 3]) (hb : Box w b #[.int .i64 0, .int .i64 2, .int .i64 3] T) : Calls Tryd.prog 20 #[.agg #[.int .i64 4, .slice A 3 cap], .agg #[.int .i64 4, .slice (some ⟨b, 0, none⟩) 3 3]] w fun e w' => e = .returned (.bool true) ∧ Below w.heap.size w w' := by
  have := Same_calls 4 4 A _ 3 3 cap 3 [0, 2, 3] [0, 2, 3] w h (C_box .i64 w b T [0, 2, 3] (by simp) hb)
  rw [decide_eq_true ⟨rfl, rfl⟩] at this
  exact this

set_option maxRecDepth 100000 in
set_option maxHeartbeats 4000000 in
theorem sawake_calls (w : World) (hG : DutyLaid w) : Calls Tryd.prog 8 #[] w fun e w' => e = .returned (.bool true) ∧ Below w.heap.size w w' := by
  have HB := Aside0.mk (Below.refl w.heap.size w)
  have HG := Aside0.mk hG
  clear hG
  go_enter Tryd.func8, Tryd.ntmps8
  go_wp2_with fail
  refine (asN _ ?hG).mono ?_
  case hG => exact HG.out.below (by repeat (first | exact HB.out | apply below_alloc | apply pw_below_drewN | apply below_drew1 | refine below_set ?_ (by first | omega | (simp; omega))))
  rintro e w1 ⟨A1, p1, rfl, hc1, hb_⟩
  have Y1 : Box w1 (w.heap.size) _ _ := Box.below (by repeat (with_reducible first | exact X1.out | exact Box.new | exact Box.new1 | exact Box.new2 | exact Box.new3 | apply Box.alloc | apply Box.drew | apply Box.drewN | apply Box.set)) hb_
  (try clear X1 r1 k1 f1); have X1 := Aside0.mk Y1; have r1 := Y1.cell; have f1 := Y1.frozen; have k1 := Y1.lt; clear Y1
  have Y2 : Box w1 (w.heap.size + 1) _ _ := Box.below (by repeat (with_reducible first | exact X2.out | exact Box.new | exact Box.new1 | exact Box.new2 | exact Box.new3 | apply Box.alloc | apply Box.drew | apply Box.drewN | apply Box.set)) hb_
  (try clear X2 r2 k2 f2); have X2 := Aside0.mk Y2; have r2 := Y2.cell; have f2 := Y2.frozen; have k2 := Y2.lt; clear Y2
  have n_ := Aside0.mk (below_step (by repeat (first | exact HB.out | apply below_alloc | apply pw_below_drewN | apply below_drew1 | refine below_set ?_ (by first | omega | (simp; omega)))) hb_); clear HB hb_; have HB := n_; clear n_
  have C1 := Aside0.mk hc1
  clear hc1
  go_wp2_with fail
  refine (asX _ ?hG).mono ?_
  case hG => exact HG.out.below (by repeat (first | exact HB.out | apply below_alloc | apply pw_below_drewN | apply below_drew1 | refine below_set ?_ (by first | omega | (simp; omega))))
  rintro e w2 ⟨rfl, hb_⟩
  have Y1 : Box w2 (w.heap.size) _ _ := Box.below (by repeat (with_reducible first | exact X1.out | exact Box.new | exact Box.new1 | exact Box.new2 | exact Box.new3 | apply Box.alloc | apply Box.drew | apply Box.drewN | apply Box.set)) hb_
  (try clear X1 r1 k1 f1); have X1 := Aside0.mk Y1; have r1 := Y1.cell; have f1 := Y1.frozen; have k1 := Y1.lt; clear Y1
  have Y2 : Box w2 (w.heap.size + 1) _ _ := Box.below (by repeat (with_reducible first | exact X2.out | exact Box.new | exact Box.new1 | exact Box.new2 | exact Box.new3 | apply Box.alloc | apply Box.drew | apply Box.drewN | apply Box.set)) hb_
  (try clear X2 r2 k2 f2); have X2 := Aside0.mk Y2; have r2 := Y2.cell; have f2 := Y2.frozen; have k2 := Y2.lt; clear Y2
  have Y3 : Box w2 (w1.heap.size) _ _ := Box.below (by repeat (with_reducible first | exact X3.out | exact Box.new | exact Box.new1 | exact Box.new2 | exact Box.new3 | apply Box.alloc | apply Box.drew | apply Box.drewN | apply Box.set)) hb_
  (try clear X3 r3 k3 f3); have X3 := Aside0.mk Y3; have r3 := Y3.cell; have f3 := Y3.frozen; have k3 := Y3.lt; clear Y3
  have ZC1 := Aside0.mk (Kd.C_below (by repeat (with_reducible first | exact C1.out | apply C_alloc)) hb_); clear C1; have C1 := ZC1; clear ZC1
  have n_ := Aside0.mk (below_step (by repeat (first | exact HB.out | apply below_alloc | apply pw_below_drewN | apply below_drew1 | refine below_set ?_ (by first | omega | (simp; omega)))) hb_); clear HB hb_; have HB := n_; clear n_
  go_wp2_with fail
  refine (asR _ ?hG).mono ?_
  case hG => exact HG.out.below (by repeat (first | exact HB.out | apply below_alloc | apply pw_below_drewN | apply below_drew1 | refine below_set ?_ (by first | omega | (simp; omega))))
  rintro e w3 ⟨rfl, hb_⟩
  have Y1 : Box w3 (w.heap.size) _ _ := Box.below (by repeat (with_reducible first | exact X1.out | exact Box.new | exact Box.new1 | exact Box.new2 | exact Box.new3 | apply Box.alloc | apply Box.drew | apply Box.drewN | apply Box.set)) hb_
  (try clear X1 r1 k1 f1); have X1 := Aside0.mk Y1; have r1 := Y1.cell; have f1 := Y1.frozen; have k1 := Y1.lt; clear Y1
  have Y2 : Box w3 (w.heap.size + 1) _ _ := Box.below (by repeat (with_reducible first | exact X2.out | exact Box.new | exact Box.new1 | exact Box.new2 | exact Box.new3 | apply Box.alloc | apply Box.drew | apply Box.drewN | apply Box.set)) hb_
  (try clear X2 r2 k2 f2); have X2 := Aside0.mk Y2; have r2 := Y2.cell; have f2 := Y2.frozen; have k2 := Y2.lt; clear Y2
  have Y3 : Box w3 (w1.heap.size) _ _ := Box.below (by repeat (with_reducible first | exact X3.out | exact Box.new | exact Box.new1 | exact Box.new2 | exact Box.new3 | apply Box.alloc | apply Box.drew | apply Box.drewN | apply Box.set)) hb_
  (try clear X3 r3 k3 f3); have X3 := Aside0.mk Y3; have r3 := Y3.cell; have f3 := Y3.frozen; have k3 := Y3.lt; clear Y3
  have ZC1 := Aside0.mk (Kd.C_below (by repeat (with_reducible first | exact C1.out | apply C_alloc)) hb_); clear C1; have C1 := ZC1; clear ZC1
  have n_ := Aside0.mk (below_step (by repeat (first | exact HB.out | apply below_alloc | apply pw_below_drewN | apply below_drew1 | refine below_set ?_ (by first | omega | (simp; omega)))) hb_); clear HB hb_; have HB := n_; clear n_
  go_wp2_with fail
  refine (asN0 _ ?hG).mono ?_
  case hG => exact HG.out.below (by repeat (first | exact HB.out | apply below_alloc | apply pw_below_drewN | apply below_drew1 | refine below_set ?_ (by first | omega | (simp; omega))))
  rintro e w4 ⟨rfl, hb_⟩
  have Y1 : Box w4 (w.heap.size) _ _ := Box.below (by repeat (with_reducible first | exact X1.out | exact Box.new | exact Box.new1 | exact Box.new2 | exact Box.new3 | apply Box.alloc | apply Box.drew | apply Box.drewN | apply Box.set)) hb_
  (try clear X1 r1 k1 f1); have X1 := Aside0.mk Y1; have r1 := Y1.cell; have f1 := Y1.frozen; have k1 := Y1.lt; clear Y1
  have Y2 : Box w4 (w.heap.size + 1) _ _ := Box.below (by repeat (with_reducible first | exact X2.out | exact Box.new | exact Box.new1 | exact Box.new2 | exact Box.new3 | apply Box.alloc | apply Box.drew | apply Box.drewN | apply Box.set)) hb_
  (try clear X2 r2 k2 f2); have X2 := Aside0.mk Y2; have r2 := Y2.cell; have f2 := Y2.frozen; have k2 := Y2.lt; clear Y2
  have Y3 : Box w4 (w1.heap.size) _ _ := Box.below (by repeat (with_reducible first | exact X3.out | exact Box.new | exact Box.new1 | exact Box.new2 | exact Box.new3 | apply Box.alloc | apply Box.drew | apply Box.drewN | apply Box.set)) hb_
  (try clear X3 r3 k3 f3); have X3 := Aside0.mk Y3; have r3 := Y3.cell; have f3 := Y3.frozen; have k3 := Y3.lt; clear Y3
  have Y7 : Box w4 (w3.heap.size) _ _ := Box.below (by repeat (with_reducible first | exact X7.out | exact Box.new | exact Box.new1 | exact Box.new2 | exact Box.new3 | apply Box.alloc | apply Box.drew | apply Box.drewN | apply Box.set)) hb_
  (try clear X7 r7 k7 f7); have X7 := Aside0.mk Y7; have r7 := Y7.cell; have f7 := Y7.frozen; have k7 := Y7.lt; clear Y7
  have ZC1 := Aside0.mk (Kd.C_below (by repeat (with_reducible first | exact C1.out | apply C_alloc)) hb_); clear C1; have C1 := ZC1; clear ZC1
  have n_ := Aside0.mk (below_step (by repeat (first | exact HB.out | apply below_alloc | apply pw_below_drewN | apply below_drew1 | refine below_set ?_ (by first | omega | (simp; omega)))) hb_); clear HB hb_; have HB := n_; clear n_
  go_wp2_with fail
  refine (asX0 _ ?hG).mono ?_
  case hG => exact HG.out.below (by repeat (first | exact HB.out | apply below_alloc | apply pw_below_drewN | apply below_drew1 | refine below_set ?_ (by first | omega | (simp; omega))))
  rintro e w5 ⟨rfl, hb_⟩
  have Y2 : Box w5 (w.heap.size + 1) _ _ := Box.below (by repeat (with_reducible first | exact X2.out | exact Box.new | exact Box.new1 | exact Box.new2 | exact Box.new3 | apply Box.alloc | apply Box.drew | apply Box.drewN | apply Box.set)) hb_
  (try clear X2 r2 k2 f2); have X2 := Aside0.mk Y2; have r2 := Y2.cell; have f2 := Y2.frozen; have k2 := Y2.lt; clear Y2
  have Y3 : Box w5 (w1.heap.size) _ _ := Box.below (by repeat (with_reducible first | exact X3.out | exact Box.new | exact Box.new1 | exact Box.new2 | exact Box.new3 | apply Box.alloc | apply Box.drew | apply Box.drewN | apply Box.set)) hb_
  (try clear X3 r3 k3 f3); have X3 := Aside0.mk Y3; have r3 := Y3.cell; have f3 := Y3.frozen; have k3 := Y3.lt; clear Y3
  have Y7 : Box w5 (w3.heap.size) _ _ := Box.below (by repeat (with_reducible first | exact X7.out | exact Box.new | exact Box.new1 | exact Box.new2 | exact Box.new3 | apply Box.alloc | apply Box.drew | apply Box.drewN | apply Box.set)) hb_
  (try clear X7 r7 k7 f7); have X7 := Aside0.mk Y7; have r7 := Y7.cell; have f7 := Y7.frozen; have k7 := Y7.lt; clear Y7
  have ZC1 := Aside0.mk (Kd.C_below (by repeat (with_reducible first | exact C1.out | apply C_alloc)) hb_); clear C1; have C1 := ZC1; clear ZC1
  have n_ := Aside0.mk (below_step (by repeat (first | exact HB.out | apply below_alloc | apply pw_below_drewN | apply below_drew1 | refine below_set ?_ (by first | omega | (simp; omega)))) hb_); clear HB hb_; have HB := n_; clear n_
  go_wp2_with fail
  refine (asF _).mono ?_
  rintro e w6 ⟨rfl, hb_⟩
  have Y3 : Box w6 (w1.heap.size) _ _ := Box.below (by repeat (with_reducible first | exact X3.out | exact Box.new | exact Box.new1 | exact Box.new2 | exact Box.new3 | apply Box.alloc | apply Box.drew | apply Box.drewN | apply Box.set)) hb_
  (try clear X3 r3 k3 f3); have X3 := Aside0.mk Y3; have r3 := Y3.cell; have f3 := Y3.frozen; have k3 := Y3.lt; clear Y3
  have Y7 : Box w6 (w3.heap.size) _ _ := Box.below (by repeat (with_reducible first | exact X7.out | exact Box.new | exact Box.new1 | exact Box.new2 | exact Box.new3 | apply Box.alloc | apply Box.drew | apply Box.drewN | apply Box.set)) hb_
  (try clear X7 r7 k7 f7); have X7 := Aside0.mk Y7; have r7 := Y7.cell; have f7 := Y7.frozen; have k7 := Y7.lt; clear Y7
  have ZC1 := Aside0.mk (Kd.C_below (by repeat (with_reducible first | exact C1.out | apply C_alloc)) hb_); clear C1; have C1 := ZC1; clear ZC1
  have n_ := Aside0.mk (below_step (by repeat (first | exact HB.out | apply below_alloc | apply pw_below_drewN | apply below_drew1 | refine below_set ?_ (by first | omega | (simp; omega)))) hb_); clear HB hb_; have HB := n_; clear n_
  go_wp2_with fail
  refine (asF0 _).mono ?_
  rintro e w7 ⟨rfl, hb_⟩
  have Y3 : Box w7 (w1.heap.size) _ _ := Box.below (by repeat (with_reducible first | exact X3.out | exact Box.new | exact Box.new1 | exact Box.new2 | exact Box.new3 | apply Box.alloc | apply Box.drew | apply Box.drewN | apply Box.set)) hb_
  (try clear X3 r3 k3 f3); have X3 := Aside0.mk Y3; have r3 := Y3.cell; have f3 := Y3.frozen; have k3 := Y3.lt; clear Y3
  have Y7 : Box w7 (w3.heap.size) _ _ := Box.below (by repeat (with_reducible first | exact X7.out | exact Box.new | exact Box.new1 | exact Box.new2 | exact Box.new3 | apply Box.alloc | apply Box.drew | apply Box.drewN | apply Box.set)) hb_
  (try clear X7 r7 k7 f7); have X7 := Aside0.mk Y7; have r7 := Y7.cell; have f7 := Y7.frozen; have k7 := Y7.lt; clear Y7
  have ZC1 := Aside0.mk (Kd.C_below (by repeat (with_reducible first | exact C1.out | apply C_alloc)) hb_); clear C1; have C1 := ZC1; clear ZC1
  have n_ := Aside0.mk (below_step (by repeat (first | exact HB.out | apply below_alloc | apply pw_below_drewN | apply below_drew1 | refine below_set ?_ (by first | omega | (simp; omega)))) hb_); clear HB hb_; have HB := n_; clear n_
  go_wp2_with fail
  refine (asS A1 p1 _ 3 _ ?hc ?hb).mono ?_
  (case hc => exact C_alloc C1.out); (case hb => exact Box.new)
  rintro e w8 ⟨rfl, hb_⟩
  have Y7 : Box w8 (w3.heap.size) _ _ := Box.below (by repeat (with_reducible first | exact X7.out | exact Box.new | exact Box.new1 | exact Box.new2 | exact Box.new3 | apply Box.alloc | apply Box.drew | apply Box.drewN | apply Box.set)) hb_
  (try clear X7 r7 k7 f7); have X7 := Aside0.mk Y7; have r7 := Y7.cell; have f7 := Y7.frozen; have k7 := Y7.lt; clear Y7
  have n_ := Aside0.mk (below_step (by repeat (first | exact HB.out | apply below_alloc | apply pw_below_drewN | apply below_drew1 | refine below_set ?_ (by first | omega | (simp; omega)))) hb_); clear HB hb_; have HB := n_; clear n_
  go_wp2
  go_ret
  exact ⟨rfl, HB.out⟩
set_option maxHeartbeats 400000 in
theorem pick11_calls (c n : Int) (w : World) (hc0 : -9223372036854775808 ≤ c) (hc1 : c ≤ 9223372036854775807) (hn : 1 ≤ n) (hn1 : n ≤ 9223372036854775807) :
    Calls Tryd.prog 13 #[.int .i64 c, .int .i64 n] w fun e w' => e = .returned (.int .i64 (pickF c n)) ∧ w = w' := by
  unfold pickF
  have hb : -9223372036854775808 ≤ (if c < 0 then -(c + 1) else c) % n ∧ (if c < 0 then -(c + 1) else c) % n ≤ 9223372036854775807 := by
    have := pickF_bd c n hn
    unfold pickF at this
    omega
  by_cases h : c < 0
  · rw [if_pos h] at hb ⊢
    go_enter Tryd.func13, Tryd.ntmps13
    go_wp2
    go_ret
    exact ⟨by first | rfl | exact ret_int (by rw [← Int.neg_tmod, Int.tmod_eq_emod_of_nonneg (by omega)]), rfl⟩
  · rw [if_neg h] at hb ⊢
    go_enter Tryd.func13, Tryd.ntmps13
    go_wp2
    go_ret
    exact ⟨by first | rfl | exact ret_int (by rw [Int.tmod_eq_emod_of_nonneg (by omega)]), rfl⟩
end Go.Proofs.YtejfjbfkbdcmnaaDoor
