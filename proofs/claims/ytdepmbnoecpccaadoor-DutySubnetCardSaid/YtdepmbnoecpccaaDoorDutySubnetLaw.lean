
/- DutySubnet: for every input the call of the statement returns true and leaves its arguments as they were, over the program whose tables lie as its own text lays them (the tied card). Conditions: none beyond the card's own. -/
import Derived.Test.YtdepmbnoecpccaaDoorCards
import Derived.Test.YtdepmbnoecpccaaDoorTie
import Derived.Test.YtdepmbnoecpccaaDoorShellD
import Derived.Test.YtdepmbnoecpccaaDoorDutyAwake
set_option linter.unusedVariables false
set_option linter.unusedSimpArgs false
namespace Go.Proofs.YtdepmbnoecpccaaDoor
open Go.RowKit Go.Proofs.YtdepmbnoecpccaaDoorW.PrintWords Go.Proofs.YtdepmbnoecpccaaDoorW.PrintLast Go.Proofs.YtdepmbnoecpccaaDoorW.PrintMore
open Go.ChangeShapes Go.WideShapes Go.ChangeAt
open Go.ChangeMaps (open_string shut_string)

theorem comm_at (c : ChainV) (e s i : Int) (hs : 0 ≤ s ∧ s < c.sl) : commF c (e * c.sl + s) i = s * c.co + i := by
  unfold commF
  rw [Int.add_comm (e * c.sl) s, Int.add_mul_emod_self_right, Int.emod_eq_of_lt hs.1 hs.2]
set_option maxRecDepth 100000 in
set_option maxHeartbeats 8000000 in
theorem DutySubnet_calls (n : Six) (seed p : Int) (hp : i64ok p) (w : World) (hG : DutyLaid w) : Calls Tryd.prog 6 #[.agg #[.int .i64 n.a, .int .i64 n.b, .int .i64 n.c, .int .i64 n.d, .int .i64 n.e, .int .i64 n.f], .int .u64 seed, .int .i64 p] w fun e w' =>
    e = .returned (.bool true) ∧ Below w.heap.size w w' := by
  obtain ⟨hp0, hp1⟩ := hp
  have HB := Aside0.mk (Below.refl w.heap.size w)
  have HG := Aside0.mk hG
  clear hG
  have HN := Aside0.mk (chainF_fits n seed)
  go_enter Tryd.func6, Tryd.ntmps6
  go_wp2_with fail
  refine (dawake_calls _ ?hG).mono ?_
  case hG => exact HG.out.below (by repeat (first | exact HB.out | apply below_alloc | apply pw_below_drewN | apply below_drew1 | refine below_set ?_ (by first | omega | (simp; omega))))
  rintro e w1 ⟨rfl, hb_⟩
  have YN : Box w1 (w.heap.size) _ _ := Box.below (by repeat (with_reducible first | exact XN.out | exact Box.new | exact Box.new1 | exact Box.new2 | exact Box.new3 | apply Box.alloc | apply Box.drew | apply Box.drewN | apply Box.set)) hb_
  (try clear XN rN kN fN); have XN := Aside0.mk YN; have rN := YN.cell; have fN := YN.frozen; have kN := YN.lt; clear YN
  have n_ := Aside0.mk (below_step (by repeat (first | exact HB.out | apply below_alloc | apply pw_below_drewN | apply below_drew1 | refine below_set ?_ (by first | omega | (simp; omega)))) hb_); clear HB hb_; have HB := n_; clear n_
  go_wp2_with fail
  refine (Chain_calls n seed _).mono ?_
  rintro e w2 ⟨rfl, hb_⟩
  have n_ := Aside0.mk (below_step (by repeat (first | exact HB.out | apply below_alloc | apply pw_below_drewN | apply below_drew1 | refine below_set ?_ (by first | omega | (simp; omega)))) hb_); clear HB hb_; have HB := n_; clear n_
  generalize chainF n seed = c at *
  have pe := pickF_bd p 1073741824 (by omega)
  obtain ⟨h1, h2, h3, h4, h5, h6, h7, h8, h9⟩ := (fitsC_iff c).1 HN.out
  go_upto_region 4 with (go_at_call 11; ((with_reducible refine (pick10_calls _ _ _ (by omega) (by omega) (by omega) (by omega)).mono ?_)); rintro e w_ ⟨rfl, rfl⟩)
  generalize pickF p 1073741824 = e at *
  clear hp0 hp1
  have gm := mul_bd pe.1 (show e ≤ 1073741823 by omega) (show 0 ≤ c.sl by omega) h2.2
  have z2 := HB.out.size
  have hsu0 : ¬ c.su = 0 := by omega
  go_wp2
  go_loopw [10, 11] (fun nv sv wx => ∃ s : Int, 0 ≤ s ∧ s ≤ c.sl ∧ sv = .int .i64 s ∧ nv = .int .i64 (s * c.co % c.su) ∧ Box wx w2.heap.size #[.int .i64 c.va, .int .i64 c.sl, .int .i64 c.co, .int .i64 c.su, .int .i64 c.ti, .int .i64 c.di, .int .i64 c.ra, .int .i64 c.ro, .int .i64 c.ag, .int .u64 c.se] 24 ∧ Below w.heap.size w wx) (fun _ sv _ => (c.sl - intOf sv).toNat)
  case atStart => exact ⟨0, by omega, by omega, rfl, by simp, Box.new, (by repeat (first | exact HB.out | apply below_alloc | apply pw_below_drewN | apply below_drew1 | refine below_set ?_ (by first | omega | (simp; omega))))⟩
  case round =>
    clear HB
    obtain ⟨s, hs0, hs1, rfl, rfl, bC, hbl⟩ := hrel
    have HB := Aside0.mk hbl
    clear hbl
    have XC := Aside0.mk bC; have rC := bC.cell; have fC := bC.frozen; have kC := bC.lt; clear bC
    rcases Int.lt_or_le s c.sl with hs | hs
    · have gs := mul_bd hs0 (show s ≤ 31 by omega) (show 0 ≤ c.co by omega) h3.2
      have HS := Aside0.mk (show (s + 1) * c.co = s * c.co + c.co by rw [Int.add_mul, Int.one_mul])
      generalize hX : s * c.co = X at *
      have HX := Aside0.mk hX
      clear hX
      go_wp2
      go_loopw [10, 12] (fun nv iv wx => ∃ i : Int, 0 ≤ i ∧ i ≤ c.co ∧ iv = .int .i64 i ∧ nv = .int .i64 ((X + i) % c.su) ∧ Box wx w2.heap.size #[.int .i64 c.va, .int .i64 c.sl, .int .i64 c.co, .int .i64 c.su, .int .i64 c.ti, .int .i64 c.di, .int .i64 c.ra, .int .i64 c.ro, .int .i64 c.ag, .int .u64 c.se] 24 ∧ Below w.heap.size w wx) (fun _ iv _ => (c.co - intOf iv).toNat)
      case atStart => exact ⟨0, by omega, by omega, rfl, by simp, XC.out, HB.out⟩
      case round =>
        clear HB XC rC fC kC
        obtain ⟨i, hi0, hi1, rfl, rfl, bC, hbl⟩ := hrel
        have HB := Aside0.mk hbl
        clear hbl
        have XC := Aside0.mk bC; have rC := bC.cell; have fC := bC.frozen; have kC := bC.lt; clear bC
        have m0 := Int.emod_nonneg (X + i) (show c.su ≠ 0 by omega)
        have m1 := Int.emod_lt_of_pos (X + i) (show 0 < c.su by omega)
        rcases Int.lt_or_le i c.co with hi | hi
        · have HM := Aside0.mk ((maySlot_iff c (e * c.sl + s) i).2 ⟨HN.out, by omega, by omega⟩)
          have HC := Aside0.mk (show commF c (e * c.sl + s) i % c.su = (X + i) % c.su by rw [comm_at c e s i ⟨hs0, hs⟩, HX.out])
          have hnx : ((X + i) % c.su + 1).tmod c.su = (X + (i + 1)) % c.su := by
            rw [Int.tmod_eq_emod_of_nonneg (by omega), Int.emod_add_emod, Int.add_assoc]
          have n0 := Int.emod_nonneg (X + (i + 1)) (show c.su ≠ 0 by omega)
          have n1 := Int.emod_lt_of_pos (X + (i + 1)) (show 0 < c.su by omega)
          generalize hnxe : (X + (i + 1)) % c.su = nx at *
          have HNX := Aside0.mk hnxe
          clear hnxe
          generalize (X + i) % c.su = cu at *
          go_wp2_with fail
          refine (Subnet_yes c (e * c.sl + s) i _ HM.out ?hG).mono ?_
          case hG => exact HG.out.below (by repeat (first | exact HB.out | apply below_alloc | apply pw_below_drewN | apply below_drew1 | refine below_set ?_ (by first | omega | (simp; omega))))
          rintro e w4 ⟨rfl, hb_⟩
          have YC : Box w4 (w2.heap.size) _ _ := Box.below (by repeat (with_reducible first | exact XC.out | exact Box.new | exact Box.new1 | exact Box.new2 | exact Box.new3 | apply Box.alloc | apply Box.drew | apply Box.drewN | apply Box.set)) hb_
          (try clear XC rC kC fC); have XC := Aside0.mk YC; have rC := YC.cell; have fC := YC.frozen; have kC := YC.lt; clear YC
          have n_ := Aside0.mk (below_step (by repeat (first | exact HB.out | apply below_alloc | apply pw_below_drewN | apply below_drew1 | refine below_set ?_ (by first | omega | (simp; omega)))) hb_); clear HB hb_; have HB := n_; clear n_
          rw [HC.out]
          go_wp2
          go_roundw
          case rel => exact ⟨i + 1, by omega, by omega, by go_num, by rw [HNX.out], XC.out, HB.out⟩
          case measure => simp [intOf]; omega
        · obtain rfl : i = c.co := by omega
          go_wp2
          go_roundw
          case rel => exact ⟨s + 1, by omega, by omega, by go_num, by rw [HS.out], XC.out, HB.out⟩
          case measure => simp [intOf]; omega
    · have hn1 : maySlot c (e * c.sl) c.co = false := by
        rw [← Bool.not_eq_true, maySlot_iff]
        omega
      have hn2 : maySlot c (-1 - e) 0 = false := by
        rw [← Bool.not_eq_true, maySlot_iff]
        omega
      go_wp2_with fail
      refine (Subnet_no c (e * c.sl) c.co _ hn1 ?hG).mono ?_
      case hG => exact HG.out.below (by repeat (first | exact HB.out | apply below_alloc | apply pw_below_drewN | apply below_drew1 | refine below_set ?_ (by first | omega | (simp; omega))))
      rintro e w5 ⟨rfl, hb_⟩
      have YC : Box w5 (w2.heap.size) _ _ := Box.below (by repeat (with_reducible first | exact XC.out | exact Box.new | exact Box.new1 | exact Box.new2 | exact Box.new3 | apply Box.alloc | apply Box.drew | apply Box.drewN | apply Box.set)) hb_
      (try clear XC rC kC fC); have XC := Aside0.mk YC; have rC := YC.cell; have fC := YC.frozen; have kC := YC.lt; clear YC
      have n_ := Aside0.mk (below_step (by repeat (first | exact HB.out | apply below_alloc | apply pw_below_drewN | apply below_drew1 | refine below_set ?_ (by first | omega | (simp; omega)))) hb_); clear HB hb_; have HB := n_; clear n_
      go_wp2_with fail
      refine (Subnet_no c (-1 - e) 0 _ hn2 ?hG).mono ?_
      case hG => exact HG.out.below (by repeat (first | exact HB.out | apply below_alloc | apply pw_below_drewN | apply below_drew1 | refine below_set ?_ (by first | omega | (simp; omega))))
      rintro e w6 ⟨rfl, hb_⟩
      have YC : Box w6 (w2.heap.size) _ _ := Box.below (by repeat (with_reducible first | exact XC.out | exact Box.new | exact Box.new1 | exact Box.new2 | exact Box.new3 | apply Box.alloc | apply Box.drew | apply Box.drewN | apply Box.set)) hb_
      (try clear XC rC kC fC); have XC := Aside0.mk YC; have rC := YC.cell; have fC := YC.frozen; have kC := YC.lt; clear YC
      have n_ := Aside0.mk (below_step (by repeat (first | exact HB.out | apply below_alloc | apply pw_below_drewN | apply below_drew1 | refine below_set ?_ (by first | omega | (simp; omega)))) hb_); clear HB hb_; have HB := n_; clear n_
      go_wp2
      go_ret
      exact ⟨rfl, HB.out⟩

set_option maxRecDepth 100000 in
theorem dutySubnet_lifted (os : Os) (started : os.Started) (H : Type) (enc : TypeId × Value → H) :
    ReturnsInHanded {} Tryd.checked os 6 .any (fun w args => (Rows.dutySubnetSpec.pre enc Tryd.prog Tryd.f6 [] false w args ∧ laidMetH Tryd.prog [("mootbell/clock.bounds", Rows.laid_mootbell_clock_bounds), ("mootbell/churn.sum", Rows.laid_mootbell_churn_sum)] w) ∧ sizedMet enc Tryd.prog Tryd.f6 (OpenSpec.ofChange Rows.dutySubnetSpec) false w args)
      (Rows.dutySubnetSpec.post enc Tryd.prog Tryd.f6 false true false false) := by
  refine returnsInHanded_of_change_and (C := Tryd.checked) (X := fun w _ => laidMetH Tryd.prog [("mootbell/clock.bounds", Rows.laid_mootbell_clock_bounds), ("mootbell/churn.sum", Rows.laid_mootbell_churn_sum)] w) (fun _ _ _ hh h => h.of_heap hh) own started (by kernel_rfl) Tryd.func6
    (ChangeSpec.witness_shaped (enc := enc) (C := Tryd.checked) (os := os) (X := fun w _ => laidMetH Tryd.prog [("mootbell/clock.bounds", Rows.laid_mootbell_clock_bounds), ("mootbell/churn.sum", Rows.laid_mootbell_churn_sum)] w) false (World.doorLaid Tryd.prog 400 os) #[.agg #[.int .i64 0, .int .i64 0, .int .i64 0, .int .i64 0, .int .i64 0, .int .i64 0], .int .u64 0, .int .i64 0] 8 rfl (World.shaped_of_RefB (by kernel_rfl) (by kernel_rfl)) (by kernel_rfl) (by kernel_rfl) (by kernel_rfl) (door_met os _)) ?_
  intro W base args ds gs before hval0 hW hcnd hsz0 hL _
  have hsz : (DataW.weightsEach Tryd.prog (Tryd.f6.params.toList ++ Rows.dutySubnetSpec.plain.varTypes Tryd.prog) (ds ++ gs)).all (· ≤ reachBytes) = true := hsz0
  have hval : ∀ (j : Nat) t v, Tryd.f6.params[j]? = some t → args[j]? = some v → Value.okWide Tryd.prog W .any base t v := hval0
  have hW' := hW
  obtain ⟨p, q, hA0, hV, rfl, hfz, hnd⟩ := hW
  have hA : DataW.TrodAll enc Tryd.prog W 0 (fun _ => true) true Tryd.f6.params.toList args.toList ds p := hA0
  have hAll := hA
  rw [Tryd.params6] at hA hval hsz
  obtain ⟨v0, vs0, d0, ds0, p0, q0, hargs, rfl, rfl, h0, r0⟩ := trodAll_cons hA
  obtain ⟨v1, vs1, d1, ds1, p1, q1, rfl, rfl, rfl, h1, r1⟩ := trodAll_cons r0
  obtain ⟨v2, vs2, d2, ds2, p2, q2, rfl, rfl, rfl, h2, r2⟩ := trodAll_cons r1
  obtain ⟨rfl, rfl, rfl⟩ := trodAll_nil r2
  obtain rfl : args = #[v0, v1, v2] := by cases args; simp_all
  obtain ⟨rfl, rfl⟩ := trodVars_none hV
  have hlt := trodAll_lt hAll
  obtain ⟨n, rfl⟩ := six_came (hval 0 25 v0 rfl rfl)
  obtain ⟨s, rfl, rfl, rfl, w1⟩ := open_int Tryd.underlying22 (hval 1 22 v1 rfl rfl) h1
  obtain ⟨p, rfl, rfl, rfl, w2⟩ := open_int Tryd.underlying3 (hval 2 3 v2 rfl rfl) h2
  clear hA0 hval0 hsz0 hsz
  refine (DutySubnet_calls n s p (bounds_i64 w2) W (laid_two hL)).mono fun e W' ⟨he, bel⟩ => ?_
  subst he
  exact ⟨_, rfl, _, _, _, [], _, [], hW', trodAll_mk1 (shut_bool Tryd.underlying4 _), below_trodAll laidOut bel (by kernel_rfl) hAll hlt, rfl, bel.frame _, fun h => by cases h⟩
theorem dutySubnet_over : Rows.dutySubnetRow.holds Tryd.pinned (OpenSpec.ofChange Rows.dutySubnetSpec) :=
  OpenClaim.holds_of_wide 6 Tryd.f6 rfl rfl rfl rfl rfl rfl rfl ⟨rfl, rfl, rfl, rfl, rfl⟩ rfl rfl rfl rfl rfl (by kernel_rfl) Tryd.func6 (by kernel_rfl)
    (of_decide_eq_true (by kernel_rfl)) (by unfold Func.isWrapper; first | (rw [if_pos (by decide +kernel)]; kernel_rfl) | (rw [if_neg (by decide +kernel)]; exact ⟨rfl, rfl⟩))
    (fun os started H enc _ => dutySubnet_lifted os started H enc)
theorem dutySubnet_holds : Rows.DutySubnetCardSaid :=
  Claim7.holds_tied_plain_at .later [] [.data, .data] true (true, "2c5e98a607cbcae62023d210d94be34bd3150b76f193fa61f209550e3e68dd04") false
    dutySubnet_over (fun _ h => by cases h) (by kernel_rfl) (fun _ h => by cases h) dutySubnet_row_tie rfl ⟨rfl, rfl⟩ (by kernel_rfl) rfl
    (fun f fn hf hfn => by
      obtain rfl : f = 6 := Option.some.inj ((show Tryd.prog.funcNamed "mootbell/mootbelllaw10.DutySubnet" = some 6 by kernel_rfl).symm.trans hf) |>.symm
      obtain rfl : fn = Tryd.f6 := (Option.some.inj (Tryd.func6.symm.trans hfn)).symm
      exact ⟨by kernel_rfl, fun j t ht => by
        have hm : t ∈ Tryd.f6.params.toList := by simpa using Array.mem_of_getElem? ht
        have hall : (Tryd.f6.params.toList.all fun u => !Tryd.prog.wantsStandIn u) = true := by kernel_rfl
        exact (show Tryd.prog.wantsStandIn t = false by simpa using List.all_eq_true.1 hall t hm)⟩)
    (by kernel_rfl)
#print axioms dutySubnet_holds
end Go.Proofs.YtdepmbnoecpccaaDoor
