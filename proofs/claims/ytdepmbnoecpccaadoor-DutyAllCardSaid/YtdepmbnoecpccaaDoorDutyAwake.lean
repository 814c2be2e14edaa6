
/- The statements' own first calls of chapter 10 answer true. -/
import Derived.Test.YtdepmbnoecpccaaDoorDutyNo
set_option linter.unusedVariables false
set_option linter.unusedSimpArgs false
namespace Go.Proofs.YtdepmbnoecpccaaDoor
open Go.RowKit Go.Proofs.YtdepmbnoecpccaaDoorW.PrintWords Go.Proofs.YtdepmbnoecpccaaDoorW.PrintLast Go.Proofs.YtdepmbnoecpccaaDoorW.PrintMore

def c0 : ChainV := ⟨3, 2, 2, 3, 1, 0, 1, 0, 2, 0⟩
theorem C_alloc {k : IntKind} {w : World} {A : Option Addr} {n : Nat} {xs : List Int} {o : Obj} (h : (Kd.int k).C w A n xs) : (Kd.int k).C (w.alloc o) A n xs := Kd.C_below h (below_alloc (Below.refl _ _) _)
theorem mem_one (e k p : Int) (h1 : cntF c0 k = 1) (h2 : fromK c0 k = p) : memF c0 e k = [p] := by
  unfold memF memPart
  rw [h1, h2]
  simp [show c0.ro.toNat = 0 from rfl, place_zero]
theorem am1 (w : World) (hG : DutyLaid w) : Calls Tryd.prog 12 #[.agg #[.int .i64 3, .int .i64 2, .int .i64 2, .int .i64 3, .int .i64 1, .int .i64 0, .int .i64 1, .int .i64 0, .int .i64 2, .int .u64 0], .int .i64 0, .int .i64 0] w fun e w' =>
    ∃ A cap, e = .returned (.tuple #[.slice A 0 cap, .int .i64 0]) ∧ Below w.heap.size w w' := by
  refine (Members_yes c0 0 0 w (by decide) (by decide) hG).mono fun e w' hh => ?_
  obtain ⟨v, he, hR, hb⟩ := hh
  obtain ⟨A, c, rfl⟩ := Kd.R_slice hR
  have hl : (memF c0 (0 / c0.sl) (commF c0 0 0)).length = 0 := by
    unfold memF
    rw [memPart_len]
    decide
  rw [hl] at he
  exact ⟨A, c, he, hb⟩
theorem am2 (w : World) (hG : DutyLaid w) : Calls Tryd.prog 12 #[.agg #[.int .i64 3, .int .i64 2, .int .i64 2, .int .i64 3, .int .i64 1, .int .i64 0, .int .i64 1, .int .i64 0, .int .i64 2, .int .u64 0], .int .i64 0, .int .i64 1] w fun e w' =>
    ∃ A cap, e = .returned (.tuple #[.slice A 1 cap, .int .i64 0]) ∧ (Kd.int .i64).C w' A 1 [0] ∧ Below w.heap.size w w' := by
  refine (Members_yes c0 0 1 w (by decide) (by decide) hG).mono fun e w' hh => ?_
  obtain ⟨v, he, hR, hb⟩ := hh
  rw [mem_one (0 / c0.sl) (commF c0 0 1) 0 (by decide) (by decide)] at hR
  obtain ⟨A, c, rfl, _, hC⟩ := Kd.R_reads hR
  exact ⟨A, c, he, hC, hb⟩
theorem am3 (w : World) (hG : DutyLaid w) : Calls Tryd.prog 12 #[.agg #[.int .i64 3, .int .i64 2, .int .i64 2, .int .i64 3, .int .i64 1, .int .i64 0, .int .i64 1, .int .i64 0, .int .i64 2, .int .u64 0], .int .i64 5, .int .i64 1] w fun e w' =>
    ∃ A cap, e = .returned (.tuple #[.slice A 1 cap, .int .i64 0]) ∧ (Kd.int .i64).C w' A 1 [2] ∧ Below w.heap.size w w' := by
  refine (Members_yes c0 5 1 w (by decide) (by decide) hG).mono fun e w' hh => ?_
  obtain ⟨v, he, hR, hb⟩ := hh
  rw [mem_one (5 / c0.sl) (commF c0 5 1) 2 (by decide) (by decide)] at hR
  obtain ⟨A, c, rfl, _, hC⟩ := Kd.R_reads hR
  exact ⟨A, c, he, hC, hb⟩
theorem am4 (w : World) (hG : DutyLaid w) : Calls Tryd.prog 16 #[.agg #[.int .i64 3, .int .i64 2, .int .i64 2, .int .i64 3, .int .i64 1, .int .i64 0, .int .i64 1, .int .i64 0, .int .i64 2, .int .u64 0], .int .i64 2, .int .i64 2] w fun e w' =>
    e = .returned (.tuple #[.int .i64 5, .int .i64 1, .int .i64 0, .int .i64 0]) ∧ Below w.heap.size w w' := by
  have h := Where_yes c0 2 2 w (by decide) (by decide) hG
  have e1 : placeOf c0 2 2 = 2 := by
    unfold placeOf
    rw [show c0.ro.toNat = 0 from rfl, back_zero]
  have e2 : whichOf c0 2 2 = 3 := by
    unfold whichOf
    rw [e1]
    decide
  rw [e1, e2] at h
  exact h
theorem am5 (w : World) (hG : DutyLaid w) : Calls Tryd.prog 12 #[.agg #[.int .i64 3, .int .i64 2, .int .i64 2, .int .i64 3, .int .i64 1, .int .i64 0, .int .i64 1, .int .i64 0, .int .i64 2, .int .u64 0], .int .i64 0, .int .i64 2] w fun e w' =>
    e = .returned (.tuple #[.slice none 0 0, .int .i64 1]) ∧ Below w.heap.size w w' := Members_no c0 0 2 w (by decide) hG
theorem am6 (w : World) (hG : DutyLaid w) : Calls Tryd.prog 16 #[.agg #[.int .i64 3, .int .i64 2, .int .i64 2, .int .i64 3, .int .i64 1, .int .i64 0, .int .i64 1, .int .i64 0, .int .i64 2, .int .u64 0], .int .i64 0, .int .i64 3] w fun e w' =>
    e = .returned (.tuple #[.int .i64 0, .int .i64 0, .int .i64 0, .int .i64 1]) ∧ Below w.heap.size w w' := Where_no c0 0 3 w (by decide) hG
theorem am7 (w : World) (hG : DutyLaid w) : Calls Tryd.prog 14 #[.agg #[.int .i64 3, .int .i64 2, .int .i64 2, .int .i64 3, .int .i64 1, .int .i64 0, .int .i64 1, .int .i64 0, .int .i64 2, .int .u64 0], .int .i64 5, .int .i64 1] w fun e w' =>
    e = .returned (.tuple #[.int .i64 0, .int .i64 0]) ∧ Below w.heap.size w w' := by
  have h := Subnet_yes c0 5 1 w (by decide) hG
  have e : commF c0 5 1 % c0.su = 0 := by decide
  rw [e] at h
  exact h
theorem am8 (w : World) (hG : DutyLaid w) : Calls Tryd.prog 22 #[.agg #[.int .i64 3, .int .i64 2, .int .i64 2, .int .i64 3, .int .i64 1, .int .i64 0, .int .i64 1, .int .i64 0, .int .i64 2, .int .u64 0], .int .i64 1, .agg #[.bool false, .slice none 0 0]] w fun e w' =>
    e = .returned (.bool true) ∧ Below w.heap.size w w' := Selected_one c0 w (by decide) (by decide) hG
theorem am9 (w : World) (hG : DutyLaid w) : Calls Tryd.prog 22 #[.agg #[.int .i64 3, .int .i64 2, .int .i64 2, .int .i64 3, .int .i64 1, .int .i64 0, .int .i64 1, .int .i64 0, .int .i64 2, .int .u64 0], .int .i64 0, .agg #[.bool false, .slice none 0 0]] w fun e w' =>
    e = .returned (.bool false) ∧ Below w.heap.size w w' := Selected_zero c0 w (by decide) hG
theorem am10 (w : World) (hG : DutyLaid w) : Calls Tryd.prog 19 #[.int .i64 0] w fun e w' => e = .returned (.int .u64 (foldF [0])) ∧ Below w.heap.size w w' := SlotRoot_calls 0 w (by decide) hG
theorem am11 (w : World) : Calls Tryd.prog 20 #[.int .i64 0] w fun e w' => e = .returned (.int .u64 (foldF [0])) ∧ Below w.heap.size w w' := rSlotRoot_calls 0 w (by decide)
theorem am12 (A : Option Addr) (cap : Nat) (p : Int) (b : Nat) (T : TypeId) (w : World) (h : (Kd.int .i64).C w A 1 [p]) (hb : Box w b #[.int .i64 p] T) : Calls Tryd.prog 18 #[.slice A 1 cap, .slice (some ⟨b, 0, none⟩) 1 1] w fun e w' => e = .returned (.bool true) ∧ Below w.heap.size w w' := by
  have := Ints_calls A _ 1 1 cap 1 [p] [p] w h (C_box .i64 w b T [p] (by simp) hb)
  rw [decide_eq_true rfl] at this
  exact this

set_option maxRecDepth 100000 in
set_option maxHeartbeats 4000000 in
theorem dawake_calls (w : World) (hG : DutyLaid w) : Calls Tryd.prog 9 #[] w fun e w' => e = .returned (.bool true) ∧ Below w.heap.size w w' := by
  have HB := Aside0.mk (Below.refl w.heap.size w)
  have HG := Aside0.mk hG
  clear hG
  go_enter Tryd.func9, Tryd.ntmps9
  go_wp2_with fail
  refine (am1 _ ?hG).mono ?_
  case hG => exact HG.out.below (by repeat (first | exact HB.out | apply below_alloc | apply pw_below_drewN | apply below_drew1 | refine below_set ?_ (by first | omega | (simp; omega))))
  rintro e w1 ⟨A1, p1, rfl, hb_⟩
  have Y1 : Box w1 (w.heap.size) _ _ := Box.below (by repeat (with_reducible first | exact X1.out | exact Box.new | exact Box.new1 | exact Box.new2 | exact Box.new3 | apply Box.alloc | apply Box.drew | apply Box.drewN | apply Box.set)) hb_
  (try clear X1 r1 k1 f1); have X1 := Aside0.mk Y1; have r1 := Y1.cell; have f1 := Y1.frozen; have k1 := Y1.lt; clear Y1
  have n_ := Aside0.mk (below_step (by repeat (first | exact HB.out | apply below_alloc | apply pw_below_drewN | apply below_drew1 | refine below_set ?_ (by first | omega | (simp; omega)))) hb_); clear HB hb_; have HB := n_; clear n_
  go_wp2_with fail
  refine (am2 _ ?hG).mono ?_
  case hG => exact HG.out.below (by repeat (first | exact HB.out | apply below_alloc | apply pw_below_drewN | apply below_drew1 | refine below_set ?_ (by first | omega | (simp; omega))))
  rintro e w2 ⟨A2, p2, rfl, hc2, hb_⟩
  have Y1 : Box w2 (w.heap.size) _ _ := Box.below (by repeat (with_reducible first | exact X1.out | exact Box.new | exact Box.new1 | exact Box.new2 | exact Box.new3 | apply Box.alloc | apply Box.drew | apply Box.drewN | apply Box.set)) hb_
  (try clear X1 r1 k1 f1); have X1 := Aside0.mk Y1; have r1 := Y1.cell; have f1 := Y1.frozen; have k1 := Y1.lt; clear Y1
  have n_ := Aside0.mk (below_step (by repeat (first | exact HB.out | apply below_alloc | apply pw_below_drewN | apply below_drew1 | refine below_set ?_ (by first | omega | (simp; omega)))) hb_); clear HB hb_; have HB := n_; clear n_
  have C2 := Aside0.mk hc2
  clear hc2
  go_wp2_with fail
  refine (am3 _ ?hG).mono ?_
  case hG => exact HG.out.below (by repeat (first | exact HB.out | apply below_alloc | apply pw_below_drewN | apply below_drew1 | refine below_set ?_ (by first | omega | (simp; omega))))
  rintro e w3 ⟨A3, p3, rfl, hc3, hb_⟩
  have Y1 : Box w3 (w.heap.size) _ _ := Box.below (by repeat (with_reducible first | exact X1.out | exact Box.new | exact Box.new1 | exact Box.new2 | exact Box.new3 | apply Box.alloc | apply Box.drew | apply Box.drewN | apply Box.set)) hb_
  (try clear X1 r1 k1 f1); have X1 := Aside0.mk Y1; have r1 := Y1.cell; have f1 := Y1.frozen; have k1 := Y1.lt; clear Y1
  have ZC2 := Aside0.mk (Kd.C_below (by repeat (with_reducible first | exact C2.out | apply C_alloc)) hb_); clear C2; have C2 := ZC2; clear ZC2
  have n_ := Aside0.mk (below_step (by repeat (first | exact HB.out | apply below_alloc | apply pw_below_drewN | apply below_drew1 | refine below_set ?_ (by first | omega | (simp; omega)))) hb_); clear HB hb_; have HB := n_; clear n_
  have C3 := Aside0.mk hc3
  clear hc3
  go_wp2_with fail
  refine (am4 _ ?hG).mono ?_
  case hG => exact HG.out.below (by repeat (first | exact HB.out | apply below_alloc | apply pw_below_drewN | apply below_drew1 | refine below_set ?_ (by first | omega | (simp; omega))))
  rintro e w4 ⟨rfl, hb_⟩
  have Y1 : Box w4 (w.heap.size) _ _ := Box.below (by repeat (with_reducible first | exact X1.out | exact Box.new | exact Box.new1 | exact Box.new2 | exact Box.new3 | apply Box.alloc | apply Box.drew | apply Box.drewN | apply Box.set)) hb_
  (try clear X1 r1 k1 f1); have X1 := Aside0.mk Y1; have r1 := Y1.cell; have f1 := Y1.frozen; have k1 := Y1.lt; clear Y1
  have ZC2 := Aside0.mk (Kd.C_below (by repeat (with_reducible first | exact C2.out | apply C_alloc)) hb_); clear C2; have C2 := ZC2; clear ZC2
  have ZC3 := Aside0.mk (Kd.C_below (by repeat (with_reducible first | exact C3.out | apply C_alloc)) hb_); clear C3; have C3 := ZC3; clear ZC3
  have n_ := Aside0.mk (below_step (by repeat (first | exact HB.out | apply below_alloc | apply pw_below_drewN | apply below_drew1 | refine below_set ?_ (by first | omega | (simp; omega)))) hb_); clear HB hb_; have HB := n_; clear n_
  go_wp2_with fail
  refine (am5 _ ?hG).mono ?_
  case hG => exact HG.out.below (by repeat (first | exact HB.out | apply below_alloc | apply pw_below_drewN | apply below_drew1 | refine below_set ?_ (by first | omega | (simp; omega))))
  rintro e w5 ⟨rfl, hb_⟩
  have Y1 : Box w5 (w.heap.size) _ _ := Box.below (by repeat (with_reducible first | exact X1.out | exact Box.new | exact Box.new1 | exact Box.new2 | exact Box.new3 | apply Box.alloc | apply Box.drew | apply Box.drewN | apply Box.set)) hb_
  (try clear X1 r1 k1 f1); have X1 := Aside0.mk Y1; have r1 := Y1.cell; have f1 := Y1.frozen; have k1 := Y1.lt; clear Y1
  have ZC2 := Aside0.mk (Kd.C_below (by repeat (with_reducible first | exact C2.out | apply C_alloc)) hb_); clear C2; have C2 := ZC2; clear ZC2
  have ZC3 := Aside0.mk (Kd.C_below (by repeat (with_reducible first | exact C3.out | apply C_alloc)) hb_); clear C3; have C3 := ZC3; clear ZC3
  have n_ := Aside0.mk (below_step (by repeat (first | exact HB.out | apply below_alloc | apply pw_below_drewN | apply below_drew1 | refine below_set ?_ (by first | omega | (simp; omega)))) hb_); clear HB hb_; have HB := n_; clear n_
  go_wp2_with fail
  refine (am6 _ ?hG).mono ?_
  case hG => exact HG.out.below (by repeat (first | exact HB.out | apply below_alloc | apply pw_below_drewN | apply below_drew1 | refine below_set ?_ (by first | omega | (simp; omega))))
  rintro e w6 ⟨rfl, hb_⟩
  have Y1 : Box w6 (w.heap.size) _ _ := Box.below (by repeat (with_reducible first | exact X1.out | exact Box.new | exact Box.new1 | exact Box.new2 | exact Box.new3 | apply Box.alloc | apply Box.drew | apply Box.drewN | apply Box.set)) hb_
  (try clear X1 r1 k1 f1); have X1 := Aside0.mk Y1; have r1 := Y1.cell; have f1 := Y1.frozen; have k1 := Y1.lt; clear Y1
  have ZC2 := Aside0.mk (Kd.C_below (by repeat (with_reducible first | exact C2.out | apply C_alloc)) hb_); clear C2; have C2 := ZC2; clear ZC2
  have ZC3 := Aside0.mk (Kd.C_below (by repeat (with_reducible first | exact C3.out | apply C_alloc)) hb_); clear C3; have C3 := ZC3; clear ZC3
  have n_ := Aside0.mk (below_step (by repeat (first | exact HB.out | apply below_alloc | apply pw_below_drewN | apply below_drew1 | refine below_set ?_ (by first | omega | (simp; omega)))) hb_); clear HB hb_; have HB := n_; clear n_
  go_wp2_with fail
  refine (am7 _ ?hG).mono ?_
  case hG => exact HG.out.below (by repeat (first | exact HB.out | apply below_alloc | apply pw_below_drewN | apply below_drew1 | refine below_set ?_ (by first | omega | (simp; omega))))
  rintro e w7 ⟨rfl, hb_⟩
  have Y1 : Box w7 (w.heap.size) _ _ := Box.below (by repeat (with_reducible first | exact X1.out | exact Box.new | exact Box.new1 | exact Box.new2 | exact Box.new3 | apply Box.alloc | apply Box.drew | apply Box.drewN | apply Box.set)) hb_
  (try clear X1 r1 k1 f1); have X1 := Aside0.mk Y1; have r1 := Y1.cell; have f1 := Y1.frozen; have k1 := Y1.lt; clear Y1
  have ZC2 := Aside0.mk (Kd.C_below (by repeat (with_reducible first | exact C2.out | apply C_alloc)) hb_); clear C2; have C2 := ZC2; clear ZC2
  have ZC3 := Aside0.mk (Kd.C_below (by repeat (with_reducible first | exact C3.out | apply C_alloc)) hb_); clear C3; have C3 := ZC3; clear ZC3
  have n_ := Aside0.mk (below_step (by repeat (first | exact HB.out | apply below_alloc | apply pw_below_drewN | apply below_drew1 | refine below_set ?_ (by first | omega | (simp; omega)))) hb_); clear HB hb_; have HB := n_; clear n_
  go_wp2_with fail
  refine (am12 A2 p2 0 _ 3 _ ?hc ?hb).mono ?_
  (case hc => exact C_alloc C2.out); (case hb => exact Box.new)
  rintro e w8 ⟨rfl, hb_⟩
  have Y1 : Box w8 (w.heap.size) _ _ := Box.below (by repeat (with_reducible first | exact X1.out | exact Box.new | exact Box.new1 | exact Box.new2 | exact Box.new3 | apply Box.alloc | apply Box.drew | apply Box.drewN | apply Box.set)) hb_
  (try clear X1 r1 k1 f1); have X1 := Aside0.mk Y1; have r1 := Y1.cell; have f1 := Y1.frozen; have k1 := Y1.lt; clear Y1
  have ZC3 := Aside0.mk (Kd.C_below (by repeat (with_reducible first | exact C3.out | apply C_alloc)) hb_); clear C3; have C3 := ZC3; clear ZC3
  have n_ := Aside0.mk (below_step (by repeat (first | exact HB.out | apply below_alloc | apply pw_below_drewN | apply below_drew1 | refine below_set ?_ (by first | omega | (simp; omega)))) hb_); clear HB hb_; have HB := n_; clear n_
  go_wp2_with fail
  refine (am12 A3 p3 2 _ 3 _ ?hc ?hb).mono ?_
  (case hc => exact C_alloc C3.out); (case hb => exact Box.new)
  rintro e w9 ⟨rfl, hb_⟩
  have Y1 : Box w9 (w.heap.size) _ _ := Box.below (by repeat (with_reducible first | exact X1.out | exact Box.new | exact Box.new1 | exact Box.new2 | exact Box.new3 | apply Box.alloc | apply Box.drew | apply Box.drewN | apply Box.set)) hb_
  (try clear X1 r1 k1 f1); have X1 := Aside0.mk Y1; have r1 := Y1.cell; have f1 := Y1.frozen; have k1 := Y1.lt; clear Y1
  have n_ := Aside0.mk (below_step (by repeat (first | exact HB.out | apply below_alloc | apply pw_below_drewN | apply below_drew1 | refine below_set ?_ (by first | omega | (simp; omega)))) hb_); clear HB hb_; have HB := n_; clear n_
  go_wp2_with fail
  refine (am8 _ ?hG).mono ?_
  case hG => exact HG.out.below (by repeat (first | exact HB.out | apply below_alloc | apply pw_below_drewN | apply below_drew1 | refine below_set ?_ (by first | omega | (simp; omega))))
  rintro e w10 ⟨rfl, hb_⟩
  have Y1 : Box w10 (w.heap.size) _ _ := Box.below (by repeat (with_reducible first | exact X1.out | exact Box.new | exact Box.new1 | exact Box.new2 | exact Box.new3 | apply Box.alloc | apply Box.drew | apply Box.drewN | apply Box.set)) hb_
  (try clear X1 r1 k1 f1); have X1 := Aside0.mk Y1; have r1 := Y1.cell; have f1 := Y1.frozen; have k1 := Y1.lt; clear Y1
  have n_ := Aside0.mk (below_step (by repeat (first | exact HB.out | apply below_alloc | apply pw_below_drewN | apply below_drew1 | refine below_set ?_ (by first | omega | (simp; omega)))) hb_); clear HB hb_; have HB := n_; clear n_
  go_wp2_with fail
  refine (am9 _ ?hG).mono ?_
  case hG => exact HG.out.below (by repeat (first | exact HB.out | apply below_alloc | apply pw_below_drewN | apply below_drew1 | refine below_set ?_ (by first | omega | (simp; omega))))
  rintro e w11 ⟨rfl, hb_⟩
  have Y1 : Box w11 (w.heap.size) _ _ := Box.below (by repeat (with_reducible first | exact X1.out | exact Box.new | exact Box.new1 | exact Box.new2 | exact Box.new3 | apply Box.alloc | apply Box.drew | apply Box.drewN | apply Box.set)) hb_
  (try clear X1 r1 k1 f1); have X1 := Aside0.mk Y1; have r1 := Y1.cell; have f1 := Y1.frozen; have k1 := Y1.lt; clear Y1
  have n_ := Aside0.mk (below_step (by repeat (first | exact HB.out | apply below_alloc | apply pw_below_drewN | apply below_drew1 | refine below_set ?_ (by first | omega | (simp; omega)))) hb_); clear HB hb_; have HB := n_; clear n_
  go_wp2_with fail
  refine (am10 _ ?hG).mono ?_
  case hG => exact HG.out.below (by repeat (first | exact HB.out | apply below_alloc | apply pw_below_drewN | apply below_drew1 | refine below_set ?_ (by first | omega | (simp; omega))))
  rintro e w12 ⟨rfl, hb_⟩
  have n_ := Aside0.mk (below_step (by repeat (first | exact HB.out | apply below_alloc | apply pw_below_drewN | apply below_drew1 | refine below_set ?_ (by first | omega | (simp; omega)))) hb_); clear HB hb_; have HB := n_; clear n_
  go_wp2_with fail
  refine (am11 _).mono ?_
  rintro e w13 ⟨rfl, hb_⟩
  have n_ := Aside0.mk (below_step (by repeat (first | exact HB.out | apply below_alloc | apply pw_below_drewN | apply below_drew1 | refine below_set ?_ (by first | omega | (simp; omega)))) hb_); clear HB hb_; have HB := n_; clear n_
  go_wp2
  go_ret
  exact ⟨rfl, HB.out⟩
set_option maxHeartbeats 400000 in
theorem pick10_calls (c n : Int) (w : World) (hc0 : -9223372036854775808 ≤ c) (hc1 : c ≤ 9223372036854775807) (hn : 1 ≤ n) (hn1 : n ≤ 9223372036854775807) :
    Calls Tryd.prog 11 #[.int .i64 c, .int .i64 n] w fun e w' => e = .returned (.int .i64 (pickF c n)) ∧ w = w' := by
  unfold pickF
  have hb : -9223372036854775808 ≤ (if c < 0 then -(c + 1) else c) % n ∧ (if c < 0 then -(c + 1) else c) % n ≤ 9223372036854775807 := by
    have := pickF_bd c n hn
    unfold pickF at this
    omega
  by_cases h : c < 0
  · rw [if_pos h] at hb ⊢
    go_enter Tryd.func11, Tryd.ntmps11
    go_wp2
    go_ret
    exact ⟨by first | rfl | exact ret_int (by rw [← Int.neg_tmod, Int.tmod_eq_emod_of_nonneg (by omega)]), rfl⟩
  · rw [if_neg h] at hb ⊢
    go_enter Tryd.func11, Tryd.ntmps11
    go_wp2
    go_ret
    exact ⟨by first | rfl | exact ret_int (by rw [Int.tmod_eq_emod_of_nonneg (by omega)]), rfl⟩
end Go.Proofs.YtdepmbnoecpccaaDoor
