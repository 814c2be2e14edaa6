
/- SchedStays: for every input the call of the statement returns true and leaves its arguments as they were, over the program whose tables lie as its own text lays them (the tied card). Conditions: none beyond the card's own. -/
import Derived.Test.YtejfjbfkbdcmnaaDoorCards
import Derived.Test.YtejfjbfkbdcmnaaDoorTie
import Derived.Test.YtejfjbfkbdcmnaaDoorShellD
import Derived.Test.YtejfjbfkbdcmnaaDoorSchedLawBase
set_option linter.unusedVariables false
set_option linter.unusedSimpArgs false
namespace Go.Proofs.YtejfjbfkbdcmnaaDoor
open Go.RowKit Go.Proofs.YtejfjbfkbdcmnaaDoorW.PrintWords Go.Proofs.YtejfjbfkbdcmnaaDoorW.PrintLast Go.Proofs.YtejfjbfkbdcmnaaDoorW.PrintMore
open Go.ChangeShapes Go.WideShapes Go.ChangeAt
open Go.ChangeMaps (open_string shut_string)

set_option maxRecDepth 100000 in
set_option maxHeartbeats 8000000 in
theorem SchedStays_calls (n : Six) (node k q x0 l0 : Int) (hno : 0 ≤ node) (hk : i64ok k) (hq : i64ok q) (hx : i64ok x0) (hl : i64ok l0) (w : World) (hG : DutyLaid w) : Calls Tryd.prog 4 #[.agg #[.int .i64 n.a, .int .i64 n.b, .int .i64 n.c, .int .i64 n.d, .int .i64 n.e, .int .i64 n.f], .int .u64 node, .int .i64 k, .int .i64 q, .int .i64 x0, .int .i64 l0] w fun e w' =>
    e = .returned (.bool true) ∧ Below w.heap.size w w' := by
  obtain ⟨hx0, hx1⟩ := hx
  obtain ⟨hl0, hl1⟩ := hl
  have HB := Aside0.mk (Below.refl w.heap.size w)
  have HG := Aside0.mk hG
  clear hG
  have HN := Aside0.mk (chainF_fits n 3)
  have HP := Aside0.mk (planF_fits node k q)
  have hpn : 0 ≤ (planF node k q).no := hno
  have px := pickF_bd x0 1073741824 (by omega)
  go_enter Tryd.func4, Tryd.ntmps4
  go_wp2_with fail
  refine (sawake_calls _ ?hG).mono ?_
  case hG => exact HG.out.below (by repeat (first | exact HB.out | apply below_alloc | apply pw_below_drewN | apply below_drew1 | refine below_set ?_ (by first | omega | (simp; omega))))
  rintro e w1 ⟨rfl, hb_⟩
  have YN : Box w1 (w.heap.size) _ _ := Box.below (by repeat (with_reducible first | exact XN.out | exact Box.new | exact Box.new1 | exact Box.new2 | exact Box.new3 | apply Box.alloc | apply Box.drew | apply Box.drewN | apply Box.set)) hb_
  (try clear XN rN kN fN); have XN := Aside0.mk YN; have rN := YN.cell; have fN := YN.frozen; have kN := YN.lt; clear YN
  have n_ := Aside0.mk (below_step (by repeat (first | exact HB.out | apply below_alloc | apply pw_below_drewN | apply below_drew1 | refine below_set ?_ (by first | omega | (simp; omega)))) hb_); clear HB hb_; have HB := n_; clear n_
  go_wp2_with fail
  refine (Chain_calls n 3 _).mono ?_
  rintro e w2 ⟨rfl, hb_⟩
  have n_ := Aside0.mk (below_step (by repeat (first | exact HB.out | apply below_alloc | apply pw_below_drewN | apply below_drew1 | refine below_set ?_ (by first | omega | (simp; omega)))) hb_); clear HB hb_; have HB := n_; clear n_
  generalize chainF n 3 = c at *
  go_wp2_with fail
  refine (Plan_calls node k q hk hq _).mono ?_
  rintro e w3 ⟨rfl, hb_⟩
  have YC : Box w3 (w2.heap.size) _ _ := Box.below (by repeat (with_reducible first | exact XC.out | exact Box.new | exact Box.new1 | exact Box.new2 | exact Box.new3 | apply Box.alloc | apply Box.drew | apply Box.drewN | apply Box.set)) hb_
  (try clear XC rC kC fC); have XC := Aside0.mk YC; have rC := YC.cell; have fC := YC.frozen; have kC := YC.lt; clear YC
  have n_ := Aside0.mk (below_step (by repeat (first | exact HB.out | apply below_alloc | apply pw_below_drewN | apply below_drew1 | refine below_set ?_ (by first | omega | (simp; omega)))) hb_); clear HB hb_; have HB := n_; clear n_
  have hpp : fitsP (planF node k q) = true := HP.out
  generalize planF node k q = p at *
  obtain ⟨p1, p2⟩ := (fitsP_iff p).1 hpp
  go_upto_region 5 with (go_at_call 13; ((with_reducible refine (pick11_calls _ _ _ (by omega) (by omega) (by omega) (by omega)).mono ?_)); rintro e w_ ⟨rfl, rfl⟩)
  generalize pickF x0 1073741824 = x at *
  clear hx0 hx1
  obtain ⟨nb1, nb2⟩ := next_bd p x hpp (by omega)
  have HMX := Aside0.mk ((mayP_iff c p x).2 ⟨HN.out, hpp, by omega⟩)
  go_wp2_with fail
  refine (Next_yes c p x _ HMX.out hpn ?hG).mono ?_
  case hG => exact HG.out.below (by repeat (first | exact HB.out | apply below_alloc | apply pw_below_drewN | apply below_drew1 | refine below_set ?_ (by first | omega | (simp; omega))))
  rintro e w4 ⟨rfl, hb_⟩
  have YC : Box w4 (w2.heap.size) _ _ := Box.below (by repeat (with_reducible first | exact XC.out | exact Box.new | exact Box.new1 | exact Box.new2 | exact Box.new3 | apply Box.alloc | apply Box.drew | apply Box.drewN | apply Box.set)) hb_
  (try clear XC rC kC fC); have XC := Aside0.mk YC; have rC := YC.cell; have fC := YC.frozen; have kC := YC.lt; clear YC
  have YP : Box w4 (w3.heap.size) _ _ := Box.below (by repeat (with_reducible first | exact XP.out | exact Box.new | exact Box.new1 | exact Box.new2 | exact Box.new3 | apply Box.alloc | apply Box.drew | apply Box.drewN | apply Box.set)) hb_
  (try clear XP rP kP fP); have XP := Aside0.mk YP; have rP := YP.cell; have fP := YP.frozen; have kP := YP.lt; clear YP
  have n_ := Aside0.mk (below_step (by repeat (first | exact HB.out | apply below_alloc | apply pw_below_drewN | apply below_drew1 | refine below_set ?_ (by first | omega | (simp; omega)))) hb_); clear HB hb_; have HB := n_; clear n_
  have py := pickF_bd l0 (nextP p x - x) (by omega)
  have HE := Aside0.mk (And.intro (block_same p x (x + pickF l0 (nextP p x - x)) hpp (by omega) (by omega) (by omega)) (And.intro (next_same p x _ (block_same p x (x + pickF l0 (nextP p x - x)) hpp (by omega) (by omega) (by omega))) (And.intro (block_next p x hpp) (next_next p x hpp))))
  have HMY := Aside0.mk ((mayP_iff c p (x + pickF l0 (nextP p x - x))).2 ⟨HN.out, hpp, by omega⟩)
  have HMZ := Aside0.mk ((mayP_iff c p (nextP p x)).2 ⟨HN.out, hpp, by omega⟩)
  have bb := block_bd p x hpp (by omega)
  go_upto_region 9 with (go_at_call 13; ((with_reducible refine (pick11_calls _ _ _ (by omega) (by omega) (by omega) (by omega)).mono ?_)); rintro e w_ ⟨rfl, rfl⟩)
  generalize nextP p x = z at *
  generalize x + pickF l0 (z - x) = y at *
  go_wp2_with fail
  refine (Nets_C c p x _ HMX.out hpn ?hG).mono ?_
  case hG => exact HG.out.below (by repeat (first | exact HB.out | apply below_alloc | apply pw_below_drewN | apply below_drew1 | refine below_set ?_ (by first | omega | (simp; omega))))
  rintro e w5 ⟨A1, m1, rfl, hc, hb_⟩
  have YC : Box w5 (w2.heap.size) _ _ := Box.below (by repeat (with_reducible first | exact XC.out | exact Box.new | exact Box.new1 | exact Box.new2 | exact Box.new3 | apply Box.alloc | apply Box.drew | apply Box.drewN | apply Box.set)) hb_
  (try clear XC rC kC fC); have XC := Aside0.mk YC; have rC := YC.cell; have fC := YC.frozen; have kC := YC.lt; clear YC
  have YP : Box w5 (w3.heap.size) _ _ := Box.below (by repeat (with_reducible first | exact XP.out | exact Box.new | exact Box.new1 | exact Box.new2 | exact Box.new3 | apply Box.alloc | apply Box.drew | apply Box.drewN | apply Box.set)) hb_
  (try clear XP rP kP fP); have XP := Aside0.mk YP; have rP := YP.cell; have fP := YP.frozen; have kP := YP.lt; clear YP
  have n_ := Aside0.mk (below_step (by repeat (first | exact HB.out | apply below_alloc | apply pw_below_drewN | apply below_drew1 | refine below_set ?_ (by first | omega | (simp; omega)))) hb_); clear HB hb_; have HB := n_; clear n_
  have C1 := Aside0.mk hc
  clear hc
  go_wp2_with fail
  refine (Nets_C c p y _ HMY.out hpn ?hG).mono ?_
  case hG => exact HG.out.below (by repeat (first | exact HB.out | apply below_alloc | apply pw_below_drewN | apply below_drew1 | refine below_set ?_ (by first | omega | (simp; omega))))
  rintro e w6 ⟨A2, m2, rfl, hc, hb_⟩
  have YC : Box w6 (w2.heap.size) _ _ := Box.below (by repeat (with_reducible first | exact XC.out | exact Box.new | exact Box.new1 | exact Box.new2 | exact Box.new3 | apply Box.alloc | apply Box.drew | apply Box.drewN | apply Box.set)) hb_
  (try clear XC rC kC fC); have XC := Aside0.mk YC; have rC := YC.cell; have fC := YC.frozen; have kC := YC.lt; clear YC
  have YP : Box w6 (w3.heap.size) _ _ := Box.below (by repeat (with_reducible first | exact XP.out | exact Box.new | exact Box.new1 | exact Box.new2 | exact Box.new3 | apply Box.alloc | apply Box.drew | apply Box.drewN | apply Box.set)) hb_
  (try clear XP rP kP fP); have XP := Aside0.mk YP; have rP := YP.cell; have fP := YP.frozen; have kP := YP.lt; clear YP
  have YA : Box w6 (w5.heap.size) _ _ := Box.below (by repeat (with_reducible first | exact XA.out | exact Box.new | exact Box.new1 | exact Box.new2 | exact Box.new3 | apply Box.alloc | apply Box.drew | apply Box.drewN | apply Box.set)) hb_
  (try clear XA rA kA fA); have XA := Aside0.mk YA; have rA := YA.cell; have fA := YA.frozen; have kA := YA.lt; clear YA
  have ZC1 := Aside0.mk (Kd.C_below (by repeat (with_reducible first | exact C1.out | apply C_alloc)) hb_); clear C1; have C1 := ZC1; clear ZC1
  have n_ := Aside0.mk (below_step (by repeat (first | exact HB.out | apply below_alloc | apply pw_below_drewN | apply below_drew1 | refine below_set ?_ (by first | omega | (simp; omega)))) hb_); clear HB hb_; have HB := n_; clear n_
  have C2 := Aside0.mk hc
  clear hc
  rw [HE.out.1] at C2 ⊢
  go_wp2_with fail
  refine (Record_z c p x _ HMX.out hpn ?hG).mono ?_
  case hG => exact HG.out.below (by repeat (first | exact HB.out | apply below_alloc | apply pw_below_drewN | apply below_drew1 | refine below_set ?_ (by first | omega | (simp; omega))))
  rintro e w7 ⟨rfl, hb_⟩
  have YC : Box w7 (w2.heap.size) _ _ := Box.below (by repeat (with_reducible first | exact XC.out | exact Box.new | exact Box.new1 | exact Box.new2 | exact Box.new3 | apply Box.alloc | apply Box.drew | apply Box.drewN | apply Box.set)) hb_
  (try clear XC rC kC fC); have XC := Aside0.mk YC; have rC := YC.cell; have fC := YC.frozen; have kC := YC.lt; clear YC
  have YP : Box w7 (w3.heap.size) _ _ := Box.below (by repeat (with_reducible first | exact XP.out | exact Box.new | exact Box.new1 | exact Box.new2 | exact Box.new3 | apply Box.alloc | apply Box.drew | apply Box.drewN | apply Box.set)) hb_
  (try clear XP rP kP fP); have XP := Aside0.mk YP; have rP := YP.cell; have fP := YP.frozen; have kP := YP.lt; clear YP
  have YA : Box w7 (w5.heap.size) _ _ := Box.below (by repeat (with_reducible first | exact XA.out | exact Box.new | exact Box.new1 | exact Box.new2 | exact Box.new3 | apply Box.alloc | apply Box.drew | apply Box.drewN | apply Box.set)) hb_
  (try clear XA rA kA fA); have XA := Aside0.mk YA; have rA := YA.cell; have fA := YA.frozen; have kA := YA.lt; clear YA
  have YB : Box w7 (w6.heap.size) _ _ := Box.below (by repeat (with_reducible first | exact XB.out | exact Box.new | exact Box.new1 | exact Box.new2 | exact Box.new3 | apply Box.alloc | apply Box.drew | apply Box.drewN | apply Box.set)) hb_
  (try clear XB rB kB fB); have XB := Aside0.mk YB; have rB := YB.cell; have fB := YB.frozen; have kB := YB.lt; clear YB
  have ZC1 := Aside0.mk (Kd.C_below (by repeat (with_reducible first | exact C1.out | apply C_alloc)) hb_); clear C1; have C1 := ZC1; clear ZC1
  have ZC2 := Aside0.mk (Kd.C_below (by repeat (with_reducible first | exact C2.out | apply C_alloc)) hb_); clear C2; have C2 := ZC2; clear ZC2
  have n_ := Aside0.mk (below_step (by repeat (first | exact HB.out | apply below_alloc | apply pw_below_drewN | apply below_drew1 | refine below_set ?_ (by first | omega | (simp; omega)))) hb_); clear HB hb_; have HB := n_; clear n_
  go_wp2_with fail
  refine (Record_z c p y _ HMY.out hpn ?hG).mono ?_
  case hG => exact HG.out.below (by repeat (first | exact HB.out | apply below_alloc | apply pw_below_drewN | apply below_drew1 | refine below_set ?_ (by first | omega | (simp; omega))))
  rintro e w8 ⟨rfl, hb_⟩
  have YC : Box w8 (w2.heap.size) _ _ := Box.below (by repeat (with_reducible first | exact XC.out | exact Box.new | exact Box.new1 | exact Box.new2 | exact Box.new3 | apply Box.alloc | apply Box.drew | apply Box.drewN | apply Box.set)) hb_
  (try clear XC rC kC fC); have XC := Aside0.mk YC; have rC := YC.cell; have fC := YC.frozen; have kC := YC.lt; clear YC
  have YP : Box w8 (w3.heap.size) _ _ := Box.below (by repeat (with_reducible first | exact XP.out | exact Box.new | exact Box.new1 | exact Box.new2 | exact Box.new3 | apply Box.alloc | apply Box.drew | apply Box.drewN | apply Box.set)) hb_
  (try clear XP rP kP fP); have XP := Aside0.mk YP; have rP := YP.cell; have fP := YP.frozen; have kP := YP.lt; clear YP
  have YA : Box w8 (w5.heap.size) _ _ := Box.below (by repeat (with_reducible first | exact XA.out | exact Box.new | exact Box.new1 | exact Box.new2 | exact Box.new3 | apply Box.alloc | apply Box.drew | apply Box.drewN | apply Box.set)) hb_
  (try clear XA rA kA fA); have XA := Aside0.mk YA; have rA := YA.cell; have fA := YA.frozen; have kA := YA.lt; clear YA
  have YB : Box w8 (w6.heap.size) _ _ := Box.below (by repeat (with_reducible first | exact XB.out | exact Box.new | exact Box.new1 | exact Box.new2 | exact Box.new3 | apply Box.alloc | apply Box.drew | apply Box.drewN | apply Box.set)) hb_
  (try clear XB rB kB fB); have XB := Aside0.mk YB; have rB := YB.cell; have fB := YB.frozen; have kB := YB.lt; clear YB
  have YR : Box w8 (w7.heap.size) _ _ := Box.below (by repeat (with_reducible first | exact XR.out | exact Box.new | exact Box.new1 | exact Box.new2 | exact Box.new3 | apply Box.alloc | apply Box.drew | apply Box.drewN | apply Box.set)) hb_
  (try clear XR rR kR fR); have XR := Aside0.mk YR; have rR := YR.cell; have fR := YR.frozen; have kR := YR.lt; clear YR
  have ZC1 := Aside0.mk (Kd.C_below (by repeat (with_reducible first | exact C1.out | apply C_alloc)) hb_); clear C1; have C1 := ZC1; clear ZC1
  have ZC2 := Aside0.mk (Kd.C_below (by repeat (with_reducible first | exact C2.out | apply C_alloc)) hb_); clear C2; have C2 := ZC2; clear ZC2
  have n_ := Aside0.mk (below_step (by repeat (first | exact HB.out | apply below_alloc | apply pw_below_drewN | apply below_drew1 | refine below_set ?_ (by first | omega | (simp; omega)))) hb_); clear HB hb_; have HB := n_; clear n_
  rw [HE.out.1]
  go_wp2_with fail
  refine (Record_z c p z _ HMZ.out hpn ?hG).mono ?_
  case hG => exact HG.out.below (by repeat (first | exact HB.out | apply below_alloc | apply pw_below_drewN | apply below_drew1 | refine below_set ?_ (by first | omega | (simp; omega))))
  rintro e w9 ⟨rfl, hb_⟩
  have YC : Box w9 (w2.heap.size) _ _ := Box.below (by repeat (with_reducible first | exact XC.out | exact Box.new | exact Box.new1 | exact Box.new2 | exact Box.new3 | apply Box.alloc | apply Box.drew | apply Box.drewN | apply Box.set)) hb_
  (try clear XC rC kC fC); have XC := Aside0.mk YC; have rC := YC.cell; have fC := YC.frozen; have kC := YC.lt; clear YC
  have YP : Box w9 (w3.heap.size) _ _ := Box.below (by repeat (with_reducible first | exact XP.out | exact Box.new | exact Box.new1 | exact Box.new2 | exact Box.new3 | apply Box.alloc | apply Box.drew | apply Box.drewN | apply Box.set)) hb_
  (try clear XP rP kP fP); have XP := Aside0.mk YP; have rP := YP.cell; have fP := YP.frozen; have kP := YP.lt; clear YP
  have YA : Box w9 (w5.heap.size) _ _ := Box.below (by repeat (with_reducible first | exact XA.out | exact Box.new | exact Box.new1 | exact Box.new2 | exact Box.new3 | apply Box.alloc | apply Box.drew | apply Box.drewN | apply Box.set)) hb_
  (try clear XA rA kA fA); have XA := Aside0.mk YA; have rA := YA.cell; have fA := YA.frozen; have kA := YA.lt; clear YA
  have YB : Box w9 (w6.heap.size) _ _ := Box.below (by repeat (with_reducible first | exact XB.out | exact Box.new | exact Box.new1 | exact Box.new2 | exact Box.new3 | apply Box.alloc | apply Box.drew | apply Box.drewN | apply Box.set)) hb_
  (try clear XB rB kB fB); have XB := Aside0.mk YB; have rB := YB.cell; have fB := YB.frozen; have kB := YB.lt; clear YB
  have YR : Box w9 (w7.heap.size) _ _ := Box.below (by repeat (with_reducible first | exact XR.out | exact Box.new | exact Box.new1 | exact Box.new2 | exact Box.new3 | apply Box.alloc | apply Box.drew | apply Box.drewN | apply Box.set)) hb_
  (try clear XR rR kR fR); have XR := Aside0.mk YR; have rR := YR.cell; have fR := YR.frozen; have kR := YR.lt; clear YR
  have YS : Box w9 (w8.heap.size) _ _ := Box.below (by repeat (with_reducible first | exact XS.out | exact Box.new | exact Box.new1 | exact Box.new2 | exact Box.new3 | apply Box.alloc | apply Box.drew | apply Box.drewN | apply Box.set)) hb_
  (try clear XS rS kS fS); have XS := Aside0.mk YS; have rS := YS.cell; have fS := YS.frozen; have kS := YS.lt; clear YS
  have ZC1 := Aside0.mk (Kd.C_below (by repeat (with_reducible first | exact C1.out | apply C_alloc)) hb_); clear C1; have C1 := ZC1; clear ZC1
  have ZC2 := Aside0.mk (Kd.C_below (by repeat (with_reducible first | exact C2.out | apply C_alloc)) hb_); clear C2; have C2 := ZC2; clear ZC2
  have n_ := Aside0.mk (below_step (by repeat (first | exact HB.out | apply below_alloc | apply pw_below_drewN | apply below_drew1 | refine below_set ?_ (by first | omega | (simp; omega)))) hb_); clear HB hb_; have HB := n_; clear n_
  rw [HE.out.2.2.1]
  have hwz : IntKind.u64.wrap (blockP p x + 1 + 1) = blockP p x + 1 + 1 := by rw [IntKind.wrap_u64]; omega
  generalize onBits (onP c.su (firstP c p (blockP p x + 1)) p.ke) 64 = zb at *
  generalize onBits (onP c.su (firstP c p (blockP p x)) p.ke) 64 = xb at *
  generalize onList (onP c.su (firstP c p (blockP p x)) p.ke) 64 = xl at *
  go_wp2_with fail
  refine (Next_yes c p y _ HMY.out hpn ?hG).mono ?_
  case hG => exact HG.out.below (by repeat (first | exact HB.out | apply below_alloc | apply pw_below_drewN | apply below_drew1 | refine below_set ?_ (by first | omega | (simp; omega))))
  rintro e w10 ⟨rfl, hb_⟩
  have YC : Box w10 (w2.heap.size) _ _ := Box.below (by repeat (with_reducible first | exact XC.out | exact Box.new | exact Box.new1 | exact Box.new2 | exact Box.new3 | apply Box.alloc | apply Box.drew | apply Box.drewN | apply Box.set)) hb_
  (try clear XC rC kC fC); have XC := Aside0.mk YC; have rC := YC.cell; have fC := YC.frozen; have kC := YC.lt; clear YC
  have YP : Box w10 (w3.heap.size) _ _ := Box.below (by repeat (with_reducible first | exact XP.out | exact Box.new | exact Box.new1 | exact Box.new2 | exact Box.new3 | apply Box.alloc | apply Box.drew | apply Box.drewN | apply Box.set)) hb_
  (try clear XP rP kP fP); have XP := Aside0.mk YP; have rP := YP.cell; have fP := YP.frozen; have kP := YP.lt; clear YP
  have YA : Box w10 (w5.heap.size) _ _ := Box.below (by repeat (with_reducible first | exact XA.out | exact Box.new | exact Box.new1 | exact Box.new2 | exact Box.new3 | apply Box.alloc | apply Box.drew | apply Box.drewN | apply Box.set)) hb_
  (try clear XA rA kA fA); have XA := Aside0.mk YA; have rA := YA.cell; have fA := YA.frozen; have kA := YA.lt; clear YA
  have YB : Box w10 (w6.heap.size) _ _ := Box.below (by repeat (with_reducible first | exact XB.out | exact Box.new | exact Box.new1 | exact Box.new2 | exact Box.new3 | apply Box.alloc | apply Box.drew | apply Box.drewN | apply Box.set)) hb_
  (try clear XB rB kB fB); have XB := Aside0.mk YB; have rB := YB.cell; have fB := YB.frozen; have kB := YB.lt; clear YB
  have YR : Box w10 (w7.heap.size) _ _ := Box.below (by repeat (with_reducible first | exact XR.out | exact Box.new | exact Box.new1 | exact Box.new2 | exact Box.new3 | apply Box.alloc | apply Box.drew | apply Box.drewN | apply Box.set)) hb_
  (try clear XR rR kR fR); have XR := Aside0.mk YR; have rR := YR.cell; have fR := YR.frozen; have kR := YR.lt; clear YR
  have YS : Box w10 (w8.heap.size) _ _ := Box.below (by repeat (with_reducible first | exact XS.out | exact Box.new | exact Box.new1 | exact Box.new2 | exact Box.new3 | apply Box.alloc | apply Box.drew | apply Box.drewN | apply Box.set)) hb_
  (try clear XS rS kS fS); have XS := Aside0.mk YS; have rS := YS.cell; have fS := YS.frozen; have kS := YS.lt; clear YS
  have YT : Box w10 (w9.heap.size) _ _ := Box.below (by repeat (with_reducible first | exact XT.out | exact Box.new | exact Box.new1 | exact Box.new2 | exact Box.new3 | apply Box.alloc | apply Box.drew | apply Box.drewN | apply Box.set)) hb_
  (try clear XT rT kT fT); have XT := Aside0.mk YT; have rT := YT.cell; have fT := YT.frozen; have kT := YT.lt; clear YT
  have ZC1 := Aside0.mk (Kd.C_below (by repeat (with_reducible first | exact C1.out | apply C_alloc)) hb_); clear C1; have C1 := ZC1; clear ZC1
  have ZC2 := Aside0.mk (Kd.C_below (by repeat (with_reducible first | exact C2.out | apply C_alloc)) hb_); clear C2; have C2 := ZC2; clear ZC2
  have n_ := Aside0.mk (below_step (by repeat (first | exact HB.out | apply below_alloc | apply pw_below_drewN | apply below_drew1 | refine below_set ?_ (by first | omega | (simp; omega)))) hb_); clear HB hb_; have HB := n_; clear n_
  go_wp2_with fail
  refine (Next_yes c p z _ HMZ.out hpn ?hG).mono ?_
  case hG => exact HG.out.below (by repeat (first | exact HB.out | apply below_alloc | apply pw_below_drewN | apply below_drew1 | refine below_set ?_ (by first | omega | (simp; omega))))
  rintro e w11 ⟨rfl, hb_⟩
  have YP : Box w11 (w3.heap.size) _ _ := Box.below (by repeat (with_reducible first | exact XP.out | exact Box.new | exact Box.new1 | exact Box.new2 | exact Box.new3 | apply Box.alloc | apply Box.drew | apply Box.drewN | apply Box.set)) hb_
  (try clear XP rP kP fP); have XP := Aside0.mk YP; have rP := YP.cell; have fP := YP.frozen; have kP := YP.lt; clear YP
  have YA : Box w11 (w5.heap.size) _ _ := Box.below (by repeat (with_reducible first | exact XA.out | exact Box.new | exact Box.new1 | exact Box.new2 | exact Box.new3 | apply Box.alloc | apply Box.drew | apply Box.drewN | apply Box.set)) hb_
  (try clear XA rA kA fA); have XA := Aside0.mk YA; have rA := YA.cell; have fA := YA.frozen; have kA := YA.lt; clear YA
  have YB : Box w11 (w6.heap.size) _ _ := Box.below (by repeat (with_reducible first | exact XB.out | exact Box.new | exact Box.new1 | exact Box.new2 | exact Box.new3 | apply Box.alloc | apply Box.drew | apply Box.drewN | apply Box.set)) hb_
  (try clear XB rB kB fB); have XB := Aside0.mk YB; have rB := YB.cell; have fB := YB.frozen; have kB := YB.lt; clear YB
  have YR : Box w11 (w7.heap.size) _ _ := Box.below (by repeat (with_reducible first | exact XR.out | exact Box.new | exact Box.new1 | exact Box.new2 | exact Box.new3 | apply Box.alloc | apply Box.drew | apply Box.drewN | apply Box.set)) hb_
  (try clear XR rR kR fR); have XR := Aside0.mk YR; have rR := YR.cell; have fR := YR.frozen; have kR := YR.lt; clear YR
  have YS : Box w11 (w8.heap.size) _ _ := Box.below (by repeat (with_reducible first | exact XS.out | exact Box.new | exact Box.new1 | exact Box.new2 | exact Box.new3 | apply Box.alloc | apply Box.drew | apply Box.drewN | apply Box.set)) hb_
  (try clear XS rS kS fS); have XS := Aside0.mk YS; have rS := YS.cell; have fS := YS.frozen; have kS := YS.lt; clear YS
  have YT : Box w11 (w9.heap.size) _ _ := Box.below (by repeat (with_reducible first | exact XT.out | exact Box.new | exact Box.new1 | exact Box.new2 | exact Box.new3 | apply Box.alloc | apply Box.drew | apply Box.drewN | apply Box.set)) hb_
  (try clear XT rT kT fT); have XT := Aside0.mk YT; have rT := YT.cell; have fT := YT.frozen; have kT := YT.lt; clear YT
  have ZC1 := Aside0.mk (Kd.C_below (by repeat (with_reducible first | exact C1.out | apply C_alloc)) hb_); clear C1; have C1 := ZC1; clear ZC1
  have ZC2 := Aside0.mk (Kd.C_below (by repeat (with_reducible first | exact C2.out | apply C_alloc)) hb_); clear C2; have C2 := ZC2; clear ZC2
  have n_ := Aside0.mk (below_step (by repeat (first | exact HB.out | apply below_alloc | apply pw_below_drewN | apply below_drew1 | refine below_set ?_ (by first | omega | (simp; omega)))) hb_); clear HB hb_; have HB := n_; clear n_
  rw [HE.out.2.1, HE.out.2.2.2]
  generalize blockP p x = b at *
  have hS := Same_calls c.su c.su A1 A2 xl.length xl.length m1 m2 xl xl w11 C1.out C2.out
  rw [decide_eq_true ⟨rfl, rfl⟩] at hS
  have HS := Aside0.mk hS
  clear hS
  go_wp2_with fail
  refine (HS.out).mono ?_
  rintro e w12 ⟨rfl, hb_⟩
  have YP : Box w12 (w3.heap.size) _ _ := Box.below (by repeat (with_reducible first | exact XP.out | exact Box.new | exact Box.new1 | exact Box.new2 | exact Box.new3 | apply Box.alloc | apply Box.drew | apply Box.drewN | apply Box.set)) hb_
  (try clear XP rP kP fP); have XP := Aside0.mk YP; have rP := YP.cell; have fP := YP.frozen; have kP := YP.lt; clear YP
  have YR : Box w12 (w7.heap.size) _ _ := Box.below (by repeat (with_reducible first | exact XR.out | exact Box.new | exact Box.new1 | exact Box.new2 | exact Box.new3 | apply Box.alloc | apply Box.drew | apply Box.drewN | apply Box.set)) hb_
  (try clear XR rR kR fR); have XR := Aside0.mk YR; have rR := YR.cell; have fR := YR.frozen; have kR := YR.lt; clear YR
  have YS : Box w12 (w8.heap.size) _ _ := Box.below (by repeat (with_reducible first | exact XS.out | exact Box.new | exact Box.new1 | exact Box.new2 | exact Box.new3 | apply Box.alloc | apply Box.drew | apply Box.drewN | apply Box.set)) hb_
  (try clear XS rS kS fS); have XS := Aside0.mk YS; have rS := YS.cell; have fS := YS.frozen; have kS := YS.lt; clear YS
  have YT : Box w12 (w9.heap.size) _ _ := Box.below (by repeat (with_reducible first | exact XT.out | exact Box.new | exact Box.new1 | exact Box.new2 | exact Box.new3 | apply Box.alloc | apply Box.drew | apply Box.drewN | apply Box.set)) hb_
  (try clear XT rT kT fT); have XT := Aside0.mk YT; have rT := YT.cell; have fT := YT.frozen; have kT := YT.lt; clear YT
  have n_ := Aside0.mk (below_step (by repeat (first | exact HB.out | apply below_alloc | apply pw_below_drewN | apply below_drew1 | refine below_set ?_ (by first | omega | (simp; omega)))) hb_); clear HB hb_; have HB := n_; clear n_
  go_wp2
  go_ret
  exact ⟨rfl, HB.out⟩

set_option maxRecDepth 100000 in
theorem schedStays_lifted (os : Os) (started : os.Started) (H : Type) (enc : TypeId × Value → H) :
    ReturnsInHanded {} Tryd.checked os 4 .any (fun w args => (Rows.schedStaysSpec.pre enc Tryd.prog Tryd.f4 [] false w args ∧ laidMetH Tryd.prog [("mootbell/clock.bounds", Rows.laid_mootbell_clock_bounds), ("mootbell/churn.sum", Rows.laid_mootbell_churn_sum)] w) ∧ sizedMet enc Tryd.prog Tryd.f4 (OpenSpec.ofChange Rows.schedStaysSpec) false w args)
      (Rows.schedStaysSpec.post enc Tryd.prog Tryd.f4 false true false false) := by
  refine returnsInHanded_of_change_and (C := Tryd.checked) (X := fun w _ => laidMetH Tryd.prog [("mootbell/clock.bounds", Rows.laid_mootbell_clock_bounds), ("mootbell/churn.sum", Rows.laid_mootbell_churn_sum)] w) (fun _ _ _ hh h => h.of_heap hh) own started (by kernel_rfl) Tryd.func4
    (ChangeSpec.witness_shaped (enc := enc) (C := Tryd.checked) (os := os) (X := fun w _ => laidMetH Tryd.prog [("mootbell/clock.bounds", Rows.laid_mootbell_clock_bounds), ("mootbell/churn.sum", Rows.laid_mootbell_churn_sum)] w) false (World.doorLaid Tryd.prog 400 os) #[.agg #[.int .i64 0, .int .i64 0, .int .i64 0, .int .i64 0, .int .i64 0, .int .i64 0], .int .u64 0, .int .i64 0, .int .i64 0, .int .i64 0, .int .i64 0] 8 rfl (World.shaped_of_RefB (by kernel_rfl) (by kernel_rfl)) (by kernel_rfl) (by kernel_rfl) (by kernel_rfl) (door_met os _)) ?_
  intro W base args ds gs before hval0 hW hcnd hsz0 hL _
  have hsz : (DataW.weightsEach Tryd.prog (Tryd.f4.params.toList ++ Rows.schedStaysSpec.plain.varTypes Tryd.prog) (ds ++ gs)).all (· ≤ reachBytes) = true := hsz0
  have hval : ∀ (j : Nat) t v, Tryd.f4.params[j]? = some t → args[j]? = some v → Value.okWide Tryd.prog W .any base t v := hval0
  have hW' := hW
  obtain ⟨p, q, hA0, hV, rfl, hfz, hnd⟩ := hW
  have hA : DataW.TrodAll enc Tryd.prog W 0 (fun _ => true) true Tryd.f4.params.toList args.toList ds p := hA0
  have hAll := hA
  rw [Tryd.params4] at hA hval hsz
  obtain ⟨v0, vs0, d0, ds0, p0, q0, hargs, rfl, rfl, h0, r0⟩ := trodAll_cons hA
  obtain ⟨v1, vs1, d1, ds1, p1, q1, rfl, rfl, rfl, h1, r1⟩ := trodAll_cons r0
  obtain ⟨v2, vs2, d2, ds2, p2, q2, rfl, rfl, rfl, h2, r2⟩ := trodAll_cons r1
  obtain ⟨v3, vs3, d3, ds3, p3, q3, rfl, rfl, rfl, h3, r3⟩ := trodAll_cons r2
  obtain ⟨v4, vs4, d4, ds4, p4, q4, rfl, rfl, rfl, h4, r4⟩ := trodAll_cons r3
  obtain ⟨v5, vs5, d5, ds5, p5, q5, rfl, rfl, rfl, h5, r5⟩ := trodAll_cons r4
  obtain ⟨rfl, rfl, rfl⟩ := trodAll_nil r5
  obtain rfl : args = #[v0, v1, v2, v3, v4, v5] := by cases args; simp_all
  obtain ⟨rfl, rfl⟩ := trodVars_none hV
  have hlt := trodAll_lt hAll
  obtain ⟨n, rfl⟩ := six_came (hval 0 27 v0 rfl rfl)
  obtain ⟨s, rfl, rfl, rfl, w1⟩ := open_int Tryd.underlying22 (hval 1 22 v1 rfl rfl) h1
  obtain ⟨k, rfl, rfl, rfl, w2⟩ := open_int Tryd.underlying3 (hval 2 3 v2 rfl rfl) h2
  obtain ⟨q, rfl, rfl, rfl, w3⟩ := open_int Tryd.underlying3 (hval 3 3 v3 rfl rfl) h3
  obtain ⟨x, rfl, rfl, rfl, w4⟩ := open_int Tryd.underlying3 (hval 4 3 v4 rfl rfl) h4
  obtain ⟨l, rfl, rfl, rfl, w5⟩ := open_int Tryd.underlying3 (hval 5 3 v5 rfl rfl) h5
  clear hA0 hval0 hsz0 hsz
  refine (SchedStays_calls n s k q x l (bounds_u64 w1).1 (bounds_i64 w2) (bounds_i64 w3) (bounds_i64 w4) (bounds_i64 w5) W (laid_two hL)).mono fun e W' ⟨he, bel⟩ => ?_
  subst he
  exact ⟨_, rfl, _, _, _, [], _, [], hW', trodAll_mk1 (shut_bool Tryd.underlying4 _), below_trodAll laidOut bel (by kernel_rfl) hAll hlt, rfl, bel.frame _, fun h => by cases h⟩
theorem schedStays_over : Rows.schedStaysRow.holds Tryd.pinned (OpenSpec.ofChange Rows.schedStaysSpec) :=
  OpenClaim.holds_of_wide 4 Tryd.f4 rfl rfl rfl rfl rfl rfl rfl ⟨rfl, rfl, rfl, rfl, rfl⟩ rfl rfl rfl rfl rfl (by kernel_rfl) Tryd.func4 (by kernel_rfl)
    (of_decide_eq_true (by kernel_rfl)) (by unfold Func.isWrapper; first | (rw [if_pos (by decide +kernel)]; kernel_rfl) | (rw [if_neg (by decide +kernel)]; exact ⟨rfl, rfl⟩))
    (fun os started H enc _ => schedStays_lifted os started H enc)
theorem schedStays_holds : Rows.SchedStaysCardSaid :=
  Claim7.holds_tied_plain_at .later [] [.data, .data] true (true, "0ddeac45a7b70d49f8df9f462b7721ed8eafdaa6662d0bdb8e444e0da0cb2087") false
    schedStays_over (fun _ h => by cases h) (by kernel_rfl) (fun _ h => by cases h) schedStays_row_tie rfl ⟨rfl, rfl⟩ (by kernel_rfl) rfl
    (fun f fn hf hfn => by
      obtain rfl : f = 4 := Option.some.inj ((show Tryd.prog.funcNamed "mootbell/mootbelllaw11.SchedStays" = some 4 by kernel_rfl).symm.trans hf) |>.symm
      obtain rfl : fn = Tryd.f4 := (Option.some.inj (Tryd.func4.symm.trans hfn)).symm
      exact ⟨by kernel_rfl, fun j t ht => by
        have hm : t ∈ Tryd.f4.params.toList := by simpa using Array.mem_of_getElem? ht
        have hall : (Tryd.f4.params.toList.all fun u => !Tryd.prog.wantsStandIn u) = true := by kernel_rfl
        exact (show Tryd.prog.wantsStandIn t = false by simpa using List.all_eq_true.1 hall t hm)⟩)
    (by kernel_rfl)
#print axioms schedStays_holds
end Go.Proofs.YtejfjbfkbdcmnaaDoor
