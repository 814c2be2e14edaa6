
/- SchedRecord: for every input the call of the statement returns true and leaves its arguments as they were, over the program whose tables lie as its own text lays them (the tied card). Conditions: none beyond the card's own. -/
import Derived.Deep.RegionHeld3
import Derived.Test.YtejfjbfkbdcmnaaDoorCards
import Derived.Test.YtejfjbfkbdcmnaaDoorTie
import Derived.Test.YtejfjbfkbdcmnaaDoorShellD
import Derived.Test.YtejfjbfkbdcmnaaDoorSchedLawBase
import Derived.Test.YtejfjbfkbdcmnaaDoorSchedPure2
import Derived.Test.YtejfjbfkbdcmnaaDoorBitsSub
set_option linter.unusedVariables false
set_option linter.unusedSimpArgs false
namespace Go.Proofs.YtejfjbfkbdcmnaaDoor
open Go.RowKit Go.Proofs.YtejfjbfkbdcmnaaDoorW.PrintWords Go.Proofs.YtejfjbfkbdcmnaaDoorW.PrintLast Go.Proofs.YtejfjbfkbdcmnaaDoorW.PrintMore
open Go.ChangeShapes Go.WideShapes Go.ChangeAt
open Go.ChangeMaps (open_string shut_string)

theorem and_bit (F : Nat → Bool) (k : Nat) (h : k < 64) : (bits BinOp.and IntKind.u64 ((onBits F 64 : Int) / 2 ^ k) 1 == 1) = F k := by
  have hb := onBits_bit F 64 k h
  rw [Nat.testBit_eq_decide_div_mod_eq] at hb
  have hl := onBits_lt F 64
  have e : ((onBits F 64 : Int) / 2 ^ k) = ((onBits F 64 / 2 ^ k : Nat) : Int) := by
    rw [Int.natCast_ediv]
    simp
  have hq := Nat.div_le_self (onBits F 64) (2 ^ k)
  have hlt := Nat.lt_of_le_of_lt hq hl
  rw [e]
  generalize onBits F 64 / 2 ^ k = y at *
  rw [and_one _ (by omega) (by omega), ← hb]
  rw [Bool.eq_iff_iff]
  simp only [beq_iff_eq, decide_eq_true_eq]
  omega
set_option maxRecDepth 100000 in
set_option maxHeartbeats 8000000 in
theorem SchedRecord_calls (n : Six) (node k q x0 : Int) (u : Nat) (hno : 0 ≤ node) (hk : i64ok k) (hq : i64ok q) (hx : i64ok x0) (w : World) (hG : DutyLaid w) : Calls Tryd.prog 6 #[.agg #[.int .i64 n.a, .int .i64 n.b, .int .i64 n.c, .int .i64 n.d, .int .i64 n.e, .int .i64 n.f], .int .u64 node, .int .i64 k, .int .i64 q, .int .i64 x0, .int .u64 u] w fun e w' =>
    e = .returned (.bool true) ∧ Below w.heap.size w w' := by
  obtain ⟨hx0, hx1⟩ := hx
  have HB := Aside0.mk (Below.refl w.heap.size w)
  have HG := Aside0.mk hG
  clear hG
  have HN := Aside0.mk (chainF_fits n 3)
  have HP := Aside0.mk (planF_fits node k q)
  have hpn : 0 ≤ (planF node k q).no := hno
  have px := pickF_bd x0 1073741824 (by omega)
  go_enter Tryd.func6, Tryd.ntmps6
  go_wp2_with fail
  refine (sawake_calls _ ?hG).mono ?_
  case hG => exact HG.out.below (by repeat (first | exact HB.out | apply below_alloc | apply pw_below_drewN | apply below_drew1 | refine below_set ?_ (by first | omega | (simp; omega))))
  rintro e w1 ⟨rfl, hb_⟩
  have YN : Box w1 (w.heap.size) _ _ := Box.below (by repeat (with_reducible first | exact XN.out | exact Box.new | exact Box.new1 | exact Box.new2 | exact Box.new3 | apply Box.alloc | apply Box.drew | apply Box.drewN | apply Box.set)) hb_
  (try clear XN rN kN fN); have XN := Aside0.mk YN; have rN := YN.cell; have fN := YN.frozen; have kN := YN.lt; clear YN
  have n_ := Aside0.mk (below_step (by repeat (first | exact HB.out | apply below_alloc | apply pw_below_drewN | apply below_drew1 | refine below_set ?_ (by first | omega | (simp; omega)))) hb_); clear HB hb_; have HB := n_; clear n_
  go_wp2_with fail
  refine (Chain_calls n 3 _).mono ?_
  rintro e w2 ⟨rfl, hb_⟩
  have n_ := Aside0.mk (below_step (by repeat (first | exact HB.out | apply below_alloc | apply pw_below_drewN | apply below_drew1 | refine below_set ?_ (by first | omega | (simp; omega)))) hb_); clear HB hb_; have HB := n_; clear n_
  generalize chainF n 3 = c at *
  go_wp2_with fail
  refine (Plan_calls node k q hk hq _).mono ?_
  rintro e w3 ⟨rfl, hb_⟩
  have YC : Box w3 (w2.heap.size) _ _ := Box.below (by repeat (with_reducible first | exact XC.out | exact Box.new | exact Box.new1 | exact Box.new2 | exact Box.new3 | apply Box.alloc | apply Box.drew | apply Box.drewN | apply Box.set)) hb_
  (try clear XC rC kC fC); have XC := Aside0.mk YC; have rC := YC.cell; have fC := YC.frozen; have kC := YC.lt; clear YC
  have n_ := Aside0.mk (below_step (by repeat (first | exact HB.out | apply below_alloc | apply pw_below_drewN | apply below_drew1 | refine below_set ?_ (by first | omega | (simp; omega)))) hb_); clear HB hb_; have HB := n_; clear n_
  have hpp : fitsP (planF node k q) = true := HP.out
  generalize planF node k q = p at *
  obtain ⟨p1, p2⟩ := (fitsP_iff p).1 hpp
  obtain ⟨g1, g2, g3, g4, g5, g6, g7, g8, g9⟩ := (fitsC_iff c).1 HN.out
  go_upto_region 5 with (go_at_call 13; ((with_reducible refine (pick11_calls _ _ _ (by omega) (by omega) (by omega) (by omega)).mono ?_)); rintro e w_ ⟨rfl, rfl⟩)
  generalize pickF x0 1073741824 = x at *
  have HMX := Aside0.mk ((mayP_iff c p x).2 ⟨HN.out, hpp, by omega⟩)
  go_wp2_with fail
  refine (Nets_C c p x _ HMX.out hpn ?hG).mono ?_
  case hG => exact HG.out.below (by repeat (first | exact HB.out | apply below_alloc | apply pw_below_drewN | apply below_drew1 | refine below_set ?_ (by first | omega | (simp; omega))))
  rintro e w4 ⟨A1, m1, rfl, hc, hb_⟩
  have YC : Box w4 (w2.heap.size) _ _ := Box.below (by repeat (with_reducible first | exact XC.out | exact Box.new | exact Box.new1 | exact Box.new2 | exact Box.new3 | apply Box.alloc | apply Box.drew | apply Box.drewN | apply Box.set)) hb_
  (try clear XC rC kC fC); have XC := Aside0.mk YC; have rC := YC.cell; have fC := YC.frozen; have kC := YC.lt; clear YC
  have YP : Box w4 (w3.heap.size) _ _ := Box.below (by repeat (with_reducible first | exact XP.out | exact Box.new | exact Box.new1 | exact Box.new2 | exact Box.new3 | apply Box.alloc | apply Box.drew | apply Box.drewN | apply Box.set)) hb_
  (try clear XP rP kP fP); have XP := Aside0.mk YP; have rP := YP.cell; have fP := YP.frozen; have kP := YP.lt; clear YP
  have n_ := Aside0.mk (below_step (by repeat (first | exact HB.out | apply below_alloc | apply pw_below_drewN | apply below_drew1 | refine below_set ?_ (by first | omega | (simp; omega)))) hb_); clear HB hb_; have HB := n_; clear n_
  have C1 := Aside0.mk hc
  clear hc
  go_wp2_with fail
  refine (Record_yes c p x u _ HMX.out hpn ?hG).mono ?_
  case hG => exact HG.out.below (by repeat (first | exact HB.out | apply below_alloc | apply pw_below_drewN | apply below_drew1 | refine below_set ?_ (by first | omega | (simp; omega))))
  rintro e w5 ⟨rfl, hb_⟩
  have YB : Box w5 (w4.heap.size) _ _ := Box.below (by repeat (with_reducible first | exact XB.out | exact Box.new | exact Box.new1 | exact Box.new2 | exact Box.new3 | apply Box.alloc | apply Box.drew | apply Box.drewN | apply Box.set)) hb_
  (try clear XB rB kB fB); have XB := Aside0.mk YB; have rB := YB.cell; have fB := YB.frozen; have kB := YB.lt; clear YB
  have ZC1 := Aside0.mk (Kd.C_below (by repeat (with_reducible first | exact C1.out | apply C_alloc)) hb_); clear C1; have C1 := ZC1; clear ZC1
  have n_ := Aside0.mk (below_step (by repeat (first | exact HB.out | apply below_alloc | apply pw_below_drewN | apply below_drew1 | refine below_set ?_ (by first | omega | (simp; omega)))) hb_); clear HB hb_; have HB := n_; clear n_
  have bb := block_bd p x hpp (by omega)
  have hhs := fun (i : Nat) (hi : i < 64) => has_onList (onP c.su (firstP c p (blockP p x)) p.ke) c.su 64 i (by omega) (by omega) (fun j hj => onP_lt _ _ _ _ hj) hi
  generalize onP c.su (firstP c p (blockP p x)) p.ke = F at *
  have HHS := Aside0.mk hhs
  clear hhs
  have hbb : ¬ blockP p x + 1 = 0 := by omega
  generalize blockP p x = b at *
  generalize hL : onList F 64 = l at *
  generalize l.length = ln at *
  go_upto_region 7 with (fail)
  obtain ⟨W, hW⟩ : ∃ W, w5.alloc (.cells #[.int .u64 (b + 1), .int .u64 (onBits F 64), .int .u64 (plainF u)] 44) = W := ⟨_, rfl⟩
  have bR : Box W w5.heap.size #[.int .u64 (b + 1), .int .u64 (onBits F 64), .int .u64 (plainF u)] 44 := hW ▸ Box.new
  have bB : Box W w4.heap.size _ _ := hW ▸ XB.out.alloc
  have CW := Aside0.mk (show (Kd.int .i64).C W A1 ln l from hW ▸ C_alloc C1.out)
  have hbl : Below w.heap.size w W := hW ▸ below_alloc HB.out _
  rw [hW]
  clear hW HB XB rB kB fB
  have HB := Aside0.mk hbl
  clear hbl
  have XB := Aside0.mk bB; have rB := bB.cell; have fB := bB.frozen; have kB := bB.lt; clear bB
  have XR := Aside0.mk bR; have rR := bR.cell; have fR := bR.frozen; have kR := bR.lt; clear bR
  go_region_held3 (fun w' => Below W.heap.size W w' ∧ (∀ j, w'.cell? ⟨w5.heap.size, j, none⟩ = (#[.int .u64 (b + 1), .int .u64 (onBits F 64), .int .u64 (plainF u)] : Array Value)[j]?)) (first | exact ⟨below_drew1 (Below.refl _ _), rR⟩ | exact ⟨j0, jR⟩ | exact ⟨below_alloc j0 _, fun j => (cell_alloc_old (Nat.lt_of_lt_of_le kR j0.size)).trans (jR j)⟩ | exact ⟨below_alloc (below_drew1 (Below.refl _ _)) _, fun j => (cell_alloc_old kR).trans (rR j)⟩ | assumption) (first | (go_at_call 23; obtain ⟨g0, gR⟩ := ‹Below W.heap.size W _ ∧ _›; ((with_reducible refine (PlainB u _).mono ?_)); rintro e w6 ⟨rfl, hb_⟩; have j0 := below_step g0 hb_; have jR := fun j => (hb_.cell (p := ⟨w5.heap.size, j, none⟩) (Nat.lt_of_lt_of_le kR g0.size)).trans (gR j)))
  rw [show ((b + 1 : Int) == 0) = false from beq_eq_false_iff_ne.2 hbb]
  clear hbb
  have bB := XB.out.below j0
  have bR := XR.out.below j0
  have CW2 := Aside0.mk (Kd.C_below CW.out j0)
  have HB2 := Aside0.mk (below_step HB.out j0)
  clear HB XB rB fB kB XR rR fR kR CW
  have HB := HB2
  clear HB2 j0 jR
  have XB := Aside0.mk bB; have rB := bB.cell; have fB := bB.frozen; have kB := bB.lt; clear bB
  have XR := Aside0.mk bR; have rR := bR.cell; have fR := bR.frozen; have kR := bR.lt; clear bR
  have HW6 := Aside0.mk (Below.refl w6.heap.size w6)
  have HAB := Aside0.mk (and_bit F)
  go_wp2
  go_loopw [21] (fun iv wx => ∃ k : Nat, k ≤ 64 ∧ iv = .int .i64 k ∧ Below w6.heap.size w6 wx) (fun iv _ => 64 - (intOf iv).toNat)
  case atStart => exact ⟨0, by omega, rfl, HW6.out⟩
  case round =>
    obtain ⟨k, hk, rfl, hb6⟩ := hrel
    have bB := XB.out.below hb6
    have bR := XR.out.below hb6
    have HCW := Aside0.mk (Kd.C_below CW2.out hb6)
    have HWB := Aside0.mk (below_step HB.out hb6)
    have HB6 := Aside0.mk hb6
    clear HB XB rB fB kB XR rR fR kR hb6
    have HB := HWB
    clear HWB
    have XB := Aside0.mk bB; have rB := bB.cell; have fB := bB.frozen; have kB := bB.lt; clear bB
    have XR := Aside0.mk bR; have rR := bR.cell; have fR := bR.frozen; have kR := bR.lt; clear bR
    rcases Nat.lt_or_ge k 64 with hlt | hge
    · have HK := Aside0.mk (HHS.out k hlt)
      have hab := HAB.out k hlt
      have hbn : (F k != F k) = false := by simp
      go_upto_region 12 with (fail)
      go_region_held3 (fun w' => Below wr.heap.size wr w' ∧ (∀ j, w'.cell? ⟨w5.heap.size, j, none⟩ = (#[.int .u64 (b + 1), .int .u64 (onBits F 64), .int .u64 (plainF u)] : Array Value)[j]?) ∧ (∀ j, w'.cell? ⟨w4.heap.size, j, none⟩ = (#[.int .i64 c.su, .slice A1 ln m1] : Array Value)[j]?)) (first | exact ⟨below_drew1 (Below.refl _ _), rR, rB⟩ | exact ⟨j0, jR, jB⟩ | exact ⟨below_alloc j0 _, fun j => (cell_alloc_old (Nat.lt_of_lt_of_le kR j0.size)).trans (jR j), fun j => (cell_alloc_old (Nat.lt_of_lt_of_le kB j0.size)).trans (jB j)⟩ | exact ⟨below_alloc (below_drew1 (Below.refl _ _)) _, fun j => (cell_alloc_old kR).trans (rR j), fun j => (cell_alloc_old kB).trans (rB j)⟩ | assumption) (first | (go_at_call 22; obtain ⟨g0, gR, gB⟩ := ‹Below wr.heap.size wr _ ∧ _›; ((with_reducible refine (Has_v c.su A1 ln m1 l k (F k) _ (Kd.C_below HCW.out g0) HK.out).mono ?_)); rintro e w7 ⟨rfl, hb_⟩; have j0 := below_step g0 hb_; have jR := fun j => (hb_.cell (p := ⟨w5.heap.size, j, none⟩) (Nat.lt_of_lt_of_le kR g0.size)).trans (gR j); have jB := fun j => (hb_.cell (p := ⟨w4.heap.size, j, none⟩) (Nat.lt_of_lt_of_le kB g0.size)).trans (gB j)))
      have hb7 := below_step HB6.out j0
      go_wp2
      go_roundw
      case rel => exact ⟨k + 1, by omega, by go_num, hb7⟩
      case measure => simp [intOf]; omega
    · obtain rfl : k = 64 := by omega
      go_wp2
      go_ret
      exact ⟨rfl, HB.out⟩

set_option maxRecDepth 100000 in
theorem schedRecord_lifted (os : Os) (started : os.Started) (H : Type) (enc : TypeId × Value → H) :
    ReturnsInHanded {} Tryd.checked os 6 .any (fun w args => (Rows.schedRecordSpec.pre enc Tryd.prog Tryd.f6 [] false w args ∧ laidMetH Tryd.prog [("mootbell/clock.bounds", Rows.laid_mootbell_clock_bounds), ("mootbell/churn.sum", Rows.laid_mootbell_churn_sum)] w) ∧ sizedMet enc Tryd.prog Tryd.f6 (OpenSpec.ofChange Rows.schedRecordSpec) false w args)
      (Rows.schedRecordSpec.post enc Tryd.prog Tryd.f6 false true false false) := by
  refine returnsInHanded_of_change_and (C := Tryd.checked) (X := fun w _ => laidMetH Tryd.prog [("mootbell/clock.bounds", Rows.laid_mootbell_clock_bounds), ("mootbell/churn.sum", Rows.laid_mootbell_churn_sum)] w) (fun _ _ _ hh h => h.of_heap hh) own started (by kernel_rfl) Tryd.func6
    (ChangeSpec.witness_shaped (enc := enc) (C := Tryd.checked) (os := os) (X := fun w _ => laidMetH Tryd.prog [("mootbell/clock.bounds", Rows.laid_mootbell_clock_bounds), ("mootbell/churn.sum", Rows.laid_mootbell_churn_sum)] w) false (World.doorLaid Tryd.prog 400 os) #[.agg #[.int .i64 0, .int .i64 0, .int .i64 0, .int .i64 0, .int .i64 0, .int .i64 0], .int .u64 0, .int .i64 0, .int .i64 0, .int .i64 0, .int .u64 0] 8 rfl (World.shaped_of_RefB (by kernel_rfl) (by kernel_rfl)) (by kernel_rfl) (by kernel_rfl) (by kernel_rfl) (door_met os _)) ?_
  intro W base args ds gs before hval0 hW hcnd hsz0 hL _
  have hsz : (DataW.weightsEach Tryd.prog (Tryd.f6.params.toList ++ Rows.schedRecordSpec.plain.varTypes Tryd.prog) (ds ++ gs)).all (· ≤ reachBytes) = true := hsz0
  have hval : ∀ (j : Nat) t v, Tryd.f6.params[j]? = some t → args[j]? = some v → Value.okWide Tryd.prog W .any base t v := hval0
  have hW' := hW
  obtain ⟨p, q, hA0, hV, rfl, hfz, hnd⟩ := hW
  have hA : DataW.TrodAll enc Tryd.prog W 0 (fun _ => true) true Tryd.f6.params.toList args.toList ds p := hA0
  have hAll := hA
  rw [Tryd.params6] at hA hval hsz
  obtain ⟨v0, vs0, d0, ds0, p0, q0, hargs, rfl, rfl, h0, r0⟩ := trodAll_cons hA
  obtain ⟨v1, vs1, d1, ds1, p1, q1, rfl, rfl, rfl, h1, r1⟩ := trodAll_cons r0
  obtain ⟨v2, vs2, d2, ds2, p2, q2, rfl, rfl, rfl, h2, r2⟩ := trodAll_cons r1
  obtain ⟨v3, vs3, d3, ds3, p3, q3, rfl, rfl, rfl, h3, r3⟩ := trodAll_cons r2
  obtain ⟨v4, vs4, d4, ds4, p4, q4, rfl, rfl, rfl, h4, r4⟩ := trodAll_cons r3
  obtain ⟨v5, vs5, d5, ds5, p5, q5, rfl, rfl, rfl, h5, r5⟩ := trodAll_cons r4
  obtain ⟨rfl, rfl, rfl⟩ := trodAll_nil r5
  obtain rfl : args = #[v0, v1, v2, v3, v4, v5] := by cases args; simp_all
  obtain ⟨rfl, rfl⟩ := trodVars_none hV
  have hlt := trodAll_lt hAll
  obtain ⟨n, rfl⟩ := six_came (hval 0 27 v0 rfl rfl)
  obtain ⟨s, rfl, rfl, rfl, w1⟩ := open_int Tryd.underlying22 (hval 1 22 v1 rfl rfl) h1
  obtain ⟨k, rfl, rfl, rfl, w2⟩ := open_int Tryd.underlying3 (hval 2 3 v2 rfl rfl) h2
  obtain ⟨q, rfl, rfl, rfl, w3⟩ := open_int Tryd.underlying3 (hval 3 3 v3 rfl rfl) h3
  obtain ⟨x, rfl, rfl, rfl, w4⟩ := open_int Tryd.underlying3 (hval 4 3 v4 rfl rfl) h4
  obtain ⟨l, rfl, rfl, rfl, w5⟩ := open_int Tryd.underlying22 (hval 5 22 v5 rfl rfl) h5
  obtain ⟨l, rfl⟩ := Int.eq_ofNat_of_zero_le (bounds_u64 w5).1
  clear hA0 hval0 hsz0 hsz
  refine (SchedRecord_calls n s k q x l (bounds_u64 w1).1 (bounds_i64 w2) (bounds_i64 w3) (bounds_i64 w4) W (laid_two hL)).mono fun e W' ⟨he, bel⟩ => ?_
  subst he
  exact ⟨_, rfl, _, _, _, [], _, [], hW', trodAll_mk1 (shut_bool Tryd.underlying4 _), below_trodAll laidOut bel (by kernel_rfl) hAll hlt, rfl, bel.frame _, fun h => by cases h⟩
theorem schedRecord_over : Rows.schedRecordRow.holds Tryd.pinned (OpenSpec.ofChange Rows.schedRecordSpec) :=
  OpenClaim.holds_of_wide 6 Tryd.f6 rfl rfl rfl rfl rfl rfl rfl ⟨rfl, rfl, rfl, rfl, rfl⟩ rfl rfl rfl rfl rfl (by kernel_rfl) Tryd.func6 (by kernel_rfl)
    (of_decide_eq_true (by kernel_rfl)) (by unfold Func.isWrapper; first | (rw [if_pos (by decide +kernel)]; kernel_rfl) | (rw [if_neg (by decide +kernel)]; exact ⟨rfl, rfl⟩))
    (fun os started H enc _ => schedRecord_lifted os started H enc)
theorem schedRecord_holds : Rows.SchedRecordCardSaid :=
  Claim7.holds_tied_plain_at .later [] [.data, .data] true (true, "0ddeac45a7b70d49f8df9f462b7721ed8eafdaa6662d0bdb8e444e0da0cb2087") false
    schedRecord_over (fun _ h => by cases h) (by kernel_rfl) (fun _ h => by cases h) schedRecord_row_tie rfl ⟨rfl, rfl⟩ (by kernel_rfl) rfl
    (fun f fn hf hfn => by
      obtain rfl : f = 6 := Option.some.inj ((show Tryd.prog.funcNamed "mootbell/mootbelllaw11.SchedRecord" = some 6 by kernel_rfl).symm.trans hf) |>.symm
      obtain rfl : fn = Tryd.f6 := (Option.some.inj (Tryd.func6.symm.trans hfn)).symm
      exact ⟨by kernel_rfl, fun j t ht => by
        have hm : t ∈ Tryd.f6.params.toList := by simpa using Array.mem_of_getElem? ht
        have hall : (Tryd.f6.params.toList.all fun u => !Tryd.prog.wantsStandIn u) = true := by kernel_rfl
        exact (show Tryd.prog.wantsStandIn t = false by simpa using List.all_eq_true.1 hall t hm)⟩)
    (by kernel_rfl)
#print axioms schedRecord_holds
end Go.Proofs.YtejfjbfkbdcmnaaDoor
