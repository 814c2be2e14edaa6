
/- DutyWhere: for every input the call of the statement returns true and leaves its arguments as they were, over the program whose tables lie as its own text lays them (the tied card). Conditions: none beyond the card's own. -/
import Derived.Deep.RegionHeld3
import Derived.Test.YtdepmbnoecpccaaDoorCards
import Derived.Test.YtdepmbnoecpccaaDoorTie
import Derived.Test.YtdepmbnoecpccaaDoorShellD
import Derived.Test.YtdepmbnoecpccaaDoorDutyMem
set_option linter.unusedVariables false
set_option linter.unusedSimpArgs false
namespace Go.Proofs.YtdepmbnoecpccaaDoor
open Go.RowKit Go.Proofs.YtdepmbnoecpccaaDoorW.PrintWords Go.Proofs.YtdepmbnoecpccaaDoorW.PrintLast Go.Proofs.YtdepmbnoecpccaaDoorW.PrintMore
open Go.ChangeShapes Go.WideShapes Go.ChangeAt
open Go.ChangeMaps (open_string shut_string)

set_option maxRecDepth 100000 in
set_option maxHeartbeats 8000000 in
theorem DutyWhere_calls (n : Six) (seed p v0 t0 i0 : Int) (hp : i64ok p) (hv : i64ok v0) (ht : i64ok t0) (hi : i64ok i0) (hse : 0 ≤ seed) (w : World) (hG : DutyLaid w) : Calls Tryd.prog 4 #[.agg #[.int .i64 n.a, .int .i64 n.b, .int .i64 n.c, .int .i64 n.d, .int .i64 n.e, .int .i64 n.f], .int .u64 seed, .int .i64 p, .int .i64 v0, .int .i64 t0, .int .i64 i0] w fun e w' =>
    e = .returned (.bool true) ∧ Below w.heap.size w w' := by
  obtain ⟨hp0, hp1⟩ := hp
  obtain ⟨hv0, hv1⟩ := hv
  obtain ⟨ht0, ht1⟩ := ht
  obtain ⟨hi0, hi1⟩ := hi
  have HB := Aside0.mk (Below.refl w.heap.size w)
  have HG := Aside0.mk hG
  clear hG
  have HN := Aside0.mk (chainF_fits n seed)
  have hcse : 0 ≤ (chainF n seed).se := hse
  go_enter Tryd.func4, Tryd.ntmps4
  go_wp2_with fail
  refine (dawake_calls _ ?hG).mono ?_
  case hG => exact HG.out.below (by repeat (first | exact HB.out | apply below_alloc | apply pw_below_drewN | apply below_drew1 | refine below_set ?_ (by first | omega | (simp; omega))))
  rintro e w1 ⟨rfl, hb_⟩
  have YN : Box w1 (w.heap.size) _ _ := Box.below (by repeat (with_reducible first | exact XN.out | exact Box.new | exact Box.new1 | exact Box.new2 | exact Box.new3 | apply Box.alloc | apply Box.drew | apply Box.drewN | apply Box.set)) hb_
  (try clear XN rN kN fN); have XN := Aside0.mk YN; have rN := YN.cell; have fN := YN.frozen; have kN := YN.lt; clear YN
  have n_ := Aside0.mk (below_step (by repeat (first | exact HB.out | apply below_alloc | apply pw_below_drewN | apply below_drew1 | refine below_set ?_ (by first | omega | (simp; omega)))) hb_); clear HB hb_; have HB := n_; clear n_
  go_wp2_with fail
  refine (Chain_calls n seed _).mono ?_
  rintro e w2 ⟨rfl, hb_⟩
  have n_ := Aside0.mk (below_step (by repeat (first | exact HB.out | apply below_alloc | apply pw_below_drewN | apply below_drew1 | refine below_set ?_ (by first | omega | (simp; omega)))) hb_); clear HB hb_; have HB := n_; clear n_
  generalize chainF n seed = c at *
  have pe := pickF_bd p 1073741824 (by omega)
  obtain ⟨h1, h2, h3, h4, h5, h6, h7, h8, h9⟩ := (fitsC_iff c).1 HN.out
  obtain ⟨a1, a2, a3, a4⟩ := chain_A c HN.out
  have pv := pickF_bd v0 c.va (by omega)
  have ps := pickF_bd t0 c.sl (by omega)
  have pi := pickF_bd i0 c.co (by omega)
  go_upto_region 5 with (go_at_call 11; ((with_reducible refine (pick10_calls _ _ _ (by omega) (by omega) (by omega) (by omega)).mono ?_)); rintro e w_ ⟨rfl, rfl⟩)
  generalize pickF p 1073741824 = e at *
  generalize pickF v0 c.va = v at *
  clear hp0 hp1 hv0 hv1
  have gm := mul_bd pe.1 (show e ≤ 1073741823 by omega) (show 0 ≤ c.sl by omega) h2.2
  have HV := Aside0.mk ((mayVal_iff c e v).2 ⟨HN.out, by omega, by omega⟩)
  obtain ⟨b1, b2, b3, b4, b5⟩ := where_bd c e v HV.out
  obtain ⟨d1, d2, d3, d4, d5, d6⟩ := slot_parts c e (whichOf c e v) HN.out ⟨b2, b3⟩ (by omega)
  have HPB := Aside0.mk (show placeF c.va (seedF c e) c.ro.toNat (placeOf c e v) = v from place_back _ _ _ _ ⟨by omega, by omega⟩)
  go_wp2_with fail
  refine (Where_yes c e v _ HV.out hcse ?hG).mono ?_
  case hG => exact HG.out.below (by repeat (first | exact HB.out | apply below_alloc | apply pw_below_drewN | apply below_drew1 | refine below_set ?_ (by first | omega | (simp; omega))))
  rintro e w3 ⟨rfl, hb_⟩
  have YC : Box w3 (w2.heap.size) _ _ := Box.below (by repeat (with_reducible first | exact XC.out | exact Box.new | exact Box.new1 | exact Box.new2 | exact Box.new3 | apply Box.alloc | apply Box.drew | apply Box.drewN | apply Box.set)) hb_
  (try clear XC rC kC fC); have XC := Aside0.mk YC; have rC := YC.cell; have fC := YC.frozen; have kC := YC.lt; clear YC
  have n_ := Aside0.mk (below_step (by repeat (first | exact HB.out | apply below_alloc | apply pw_below_drewN | apply below_drew1 | refine below_set ?_ (by first | omega | (simp; omega)))) hb_); clear HB hb_; have HB := n_; clear n_
  obtain ⟨t1, t2, t3, t4⟩ := fromK_facts c HN.out (whichOf c e v) ⟨b2, b3⟩
  change fromK c (whichOf c e v) ≤ _ at b4
  change _ < fromK c (whichOf c e v + 1) at b5
  rw [show fromF c.va (c.sl * c.co) (whichOf c e v) = fromK c (whichOf c e v) from rfl]
  have HS6 := Aside0.mk d6
  have HS5 := Aside0.mk d5
  have dq : (e * c.sl + whichOf c e v / c.co).tdiv c.sl = e := by rw [Int.tdiv_eq_ediv_of_nonneg (by omega)]; exact d5
  clear d5 d6
  generalize whichOf c e v = K at *
  generalize placeOf c e v = P at *
  have HM := Aside0.mk ((maySlot_iff c (e * c.sl + K / c.co) (K % c.co)).2 ⟨HN.out, by omega, by omega⟩)
  have hS0 : 0 ≤ e * c.sl + K / c.co := by omega
  generalize e * c.sl + K / c.co = S at *
  generalize K / c.co = D at *
  generalize K % c.co = I at *
  go_wp2_with fail
  refine (Members_c c S I _ HM.out hcse ?hG).mono ?_
  case hG => exact HG.out.below (by repeat (first | exact HB.out | apply below_alloc | apply pw_below_drewN | apply below_drew1 | refine below_set ?_ (by first | omega | (simp; omega))))
  rintro e w4 ⟨A, mc, rfl, hbox, hRm, hb_⟩
  have YC : Box w4 (w2.heap.size) _ _ := Box.below (by repeat (with_reducible first | exact XC.out | exact Box.new | exact Box.new1 | exact Box.new2 | exact Box.new3 | apply Box.alloc | apply Box.drew | apply Box.drewN | apply Box.set)) hb_
  (try clear XC rC kC fC); have XC := Aside0.mk YC; have rC := YC.cell; have fC := YC.frozen; have kC := YC.lt; clear YC
  have n_ := Aside0.mk (below_step (by repeat (first | exact HB.out | apply below_alloc | apply pw_below_drewN | apply below_drew1 | refine below_set ?_ (by first | omega | (simp; omega)))) hb_); clear HB hb_; have HB := n_; clear n_
  rw [HS6.out, HS5.out] at hbox
  rw [HS6.out]
  clear hRm
  obtain ⟨pn, hpn⟩ : ∃ pn : Nat, P - fromK c K = (pn : Int) := ⟨(P - fromK c K).toNat, by omega⟩
  rw [hpn]
  obtain ⟨g, cs, rfl, hgb, hbx, hcs⟩ := hbox pn (by omega)
  have hlk := hbx.cell pn
  rw [hcs pn (by omega), show fromK c K + (pn : Int) = P by omega, HPB.out] at hlk
  clear hbox hcs
  have hlen : pn < cntF c K := by omega
  generalize cntF c K = nn at *
  have hc1 : ¬ c.co ≤ I := by omega
  have hc2 : ¬ I < 0 := by omega
  have hc3 : ¬ S < 0 := by omega
  have hsl0 : ¬ c.sl = 0 := by omega
  have hc4 : ¬ (nn : Int) ≤ (pn : Int) := by omega
  have hc5 : ¬ (pn : Int) < 0 := by omega
  go_upto_region 9 with (fail)
  have XC2 := XC
  clear hlk hgb hbx hc1 hc2 hc3 hc4 hc5 dq hpn hS0
  have hsp : 0 ≤ e * c.sl + pickF t0 c.sl ∧ e * c.sl + pickF t0 c.sl < 9223372036854775807 := by omega
  have HE1 := Aside0.mk (epoch_at c e (pickF t0 c.sl) ps)
  have HE2 := Aside0.mk (comm_at c e (pickF t0 c.sl) (pickF i0 c.co) ps)
  have gs := mul_bd ps.1 (show pickF t0 c.sl ≤ c.sl - 1 by omega) (show 0 ≤ c.co by omega) (Int.le_refl c.co)
  rw [Int.sub_mul, Int.one_mul] at gs
  obtain ⟨f1, f2, f3, f4⟩ := fromK_facts c HN.out (pickF t0 c.sl * c.co + pickF i0 c.co) (by omega)
  have HX := Aside0.mk (And.intro (show (pickF t0 c.sl * c.co + pickF i0 c.co) / c.co = pickF t0 c.sl by rw [Int.add_comm, Int.add_mul_ediv_right _ _ (by omega), Int.ediv_eq_zero_of_lt pi.1 pi.2]; omega) (show (pickF t0 c.sl * c.co + pickF i0 c.co) % c.co = pickF i0 c.co by rw [Int.add_comm, Int.add_mul_emod_self_right, Int.emod_eq_of_lt pi.1 pi.2]))
  have e1 : IntKind.i64.wrap (e * c.sl) = e * c.sl := IntWalk.i64_in _ (by omega)
  have e2 : IntKind.i64.wrap (e * c.sl + pickF t0 c.sl) = e * c.sl + pickF t0 c.sl := IntWalk.i64_in _ (by omega)
  go_region_held3 (fun w' => Below w4.heap.size w4 w' ∧ (∀ j, w'.cell? ⟨w2.heap.size, j, none⟩ = (#[.int .i64 c.va, .int .i64 c.sl, .int .i64 c.co, .int .i64 c.su, .int .i64 c.ti, .int .i64 c.di, .int .i64 c.ra, .int .i64 c.ro, .int .i64 c.ag, .int .u64 c.se] : Array Value)[j]?)) (first | exact ⟨below_drew1 (Below.refl _ _), rC⟩ | exact ⟨j0, jC⟩ | exact ⟨below_alloc j0 _, fun j => (cell_alloc_old (Nat.lt_of_lt_of_le kC j0.size)).trans (jC j)⟩ | exact ⟨below_alloc (below_drew1 (Below.refl _ _)) _, fun j => (cell_alloc_old kC).trans (rC j)⟩ | assumption) (first | (go_at_call 11; obtain ⟨g0, gC⟩ := ‹Below w4.heap.size w4 _ ∧ _›; ((with_reducible refine (pickB_calls t0 c.sl _ (by omega) (by omega) (by omega) (by omega)).mono ?_)); rintro e w5 ⟨rfl, hb_⟩; have j0 := below_step g0 hb_; have jC := fun j => (hb_.cell (p := ⟨w2.heap.size, j, none⟩) (Nat.lt_of_lt_of_le kC g0.size)).trans (gC j)))
  have bC := XC2.out.below j0
  have HB2 := Aside0.mk (below_step HB.out j0)
  clear HB XC XC2 rC fC kC e1 e2
  have HB := HB2
  clear HB2 j0 jC
  have XC := Aside0.mk bC; have rC := bC.cell; have fC := bC.frozen; have kC := bC.lt; clear bC
  go_upto_region 11 with (go_at_call 11; ((with_reducible refine (pick10_calls _ _ _ (by omega) (by omega) (by omega) (by omega)).mono ?_)); rintro e w_ ⟨rfl, rfl⟩)
  have HM2 := Aside0.mk ((maySlot_iff c (e * c.sl + pickF t0 c.sl) (pickF i0 c.co)).2 ⟨HN.out, by omega, by omega⟩)
  go_wp2_with fail
  refine (Members_c c (e * c.sl + pickF t0 c.sl) (pickF i0 c.co) _ HM2.out hcse ?hG).mono ?_
  case hG => exact HG.out.below (by repeat (first | exact HB.out | apply below_alloc | apply pw_below_drewN | apply below_drew1 | refine below_set ?_ (by first | omega | (simp; omega))))
  rintro e w6 ⟨A2, mc2, rfl, hbox, hRm, hb_⟩
  have YC : Box w6 (w2.heap.size) _ _ := Box.below (by repeat (with_reducible first | exact XC.out | exact Box.new | exact Box.new1 | exact Box.new2 | exact Box.new3 | apply Box.alloc | apply Box.drew | apply Box.drewN | apply Box.set)) hb_
  (try clear XC rC kC fC); have XC := Aside0.mk YC; have rC := YC.cell; have fC := YC.frozen; have kC := YC.lt; clear YC
  have n_ := Aside0.mk (below_step (by repeat (first | exact HB.out | apply below_alloc | apply pw_below_drewN | apply below_drew1 | refine below_set ?_ (by first | omega | (simp; omega)))) hb_); clear HB hb_; have HB := n_; clear n_
  rw [HE2.out, HE1.out] at hbox
  rw [HE2.out]
  clear hRm
  have HX2 := Aside0.mk hbox
  clear hbox
  generalize hT : pickF t0 c.sl = T at *
  generalize hI : pickF i0 c.co = J at *
  generalize hKK : T * c.co + J = KK at *
  have hcn : cntF c KK ≤ 1024 := by omega
  have hnn : ∃ n2, cntF c KK = n2 := ⟨_, rfl⟩
  obtain ⟨n2, hn2⟩ := hnn
  have f5 : fromK c KK + n2 = fromK c (KK + 1) := by omega
  rw [hn2] at hcn
  have HN2 := Aside0.mk hn2
  rw [hn2]
  clear hn2 f4
  have HW6 := Aside0.mk (Below.refl w6.heap.size w6)
  go_wp2
  go_loopw [27] (fun kv wx => ∃ k : Nat, k ≤ n2 ∧ kv = .int .i64 k ∧ Below w6.heap.size w6 wx) (fun kv _ => n2 - (intOf kv).toNat)
  case atStart => exact ⟨0, by omega, rfl, HW6.out⟩
  case round =>
    obtain ⟨k, hk, rfl, hb6⟩ := hrel
    have bC := XC.out.below hb6
    have HB2 := Aside0.mk (below_step HB.out hb6)
    have HB6 := Aside0.mk hb6
    clear HB XC rC fC kC hb6
    have HB := HB2
    clear HB2
    have XC := Aside0.mk bC; have rC := bC.cell; have fC := bC.frozen; have kC := bC.lt; clear bC
    rcases Nat.lt_or_ge k n2 with hlt | hge
    · obtain ⟨g2, cs2, rfl, hgb2, hbx2, hcs2⟩ := HX2.out k (by rw [HN2.out]; exact hlt)
      have bM := hbx2.below HB6.out
      have hck := hcs2 k (by rw [HN2.out]; exact hlt)
      clear hcs2 hbx2
      have XM := Aside0.mk bM; have rM := bM.cell; have fM := bM.frozen; have kM := bM.lt; clear bM
      obtain ⟨mm, hmm⟩ : ∃ mm, placeF c.va (seedF c e) c.ro.toNat (fromK c KK + k) = mm := ⟨_, rfl⟩
      have HMW := Aside0.mk (member_where c e KK (fromK c KK + k) HN.out (by omega) (by omega) (by omega))
      rw [hmm] at HMW hck
      have hmb := place_bd c.va (seedF c e) c.ro.toNat (fromK c KK + k) ⟨by omega, by omega⟩
      rw [hmm] at hmb
      have HV2 := Aside0.mk ((mayVal_iff c e mm).2 ⟨HN.out, by omega, hmb⟩)
      have hck2 := rM k
      rw [hck] at hck2
      go_upto_region 17 with (fail)
      go_region_held3 (fun w' => Below wr.heap.size wr w' ∧ (∀ j, w'.cell? ⟨w2.heap.size, j, none⟩ = (#[.int .i64 c.va, .int .i64 c.sl, .int .i64 c.co, .int .i64 c.su, .int .i64 c.ti, .int .i64 c.di, .int .i64 c.ra, .int .i64 c.ro, .int .i64 c.ag, .int .u64 c.se] : Array Value)[j]?) ∧ (∀ j, w'.cell? ⟨g2, j, none⟩ = (cs2 : Array Value)[j]?)) (first | exact ⟨below_drew1 (Below.refl _ _), rC, rM⟩ | exact ⟨j0, jC, jM⟩ | exact ⟨below_alloc j0 _, fun j => (cell_alloc_old (Nat.lt_of_lt_of_le kC j0.size)).trans (jC j), fun j => (cell_alloc_old (Nat.lt_of_lt_of_le kM j0.size)).trans (jM j)⟩ | exact ⟨below_alloc (below_drew1 (Below.refl _ _)) _, fun j => (cell_alloc_old kC).trans (rC j), fun j => (cell_alloc_old kM).trans (rM j)⟩ | assumption) (first | (go_at_call 16; obtain ⟨g0, gC, gM⟩ := ‹Below wr.heap.size wr _ ∧ _›; ((with_reducible refine (Where_yes c e mm _ HV2.out hcse (HG.out.below (below_step HB.out g0))).mono ?_)); rintro e w7 ⟨rfl, hb_⟩; have j0 := below_step g0 hb_; have jC := fun j => (hb_.cell (p := ⟨w2.heap.size, j, none⟩) (Nat.lt_of_lt_of_le kC g0.size)).trans (gC j); have jM := fun j => (hb_.cell (p := ⟨g2, j, none⟩) (Nat.lt_of_lt_of_le kM g0.size)).trans (gM j)))
      have hbn := below_step HB6.out j0
      have hbw := Aside0.mk (below_step HB.out j0)
      rw [HMW.out.1, HMW.out.2, HX.out.1, HX.out.2, show fromK c KK + (k : Int) - fromF c.va (c.sl * c.co) KK = (k : Int) from by show fromK c KK + (k : Int) - fromK c KK = k; omega]
      go_wp2
      go_roundw
      case rel => exact ⟨k + 1, by omega, by go_num, hbn⟩
      case measure => simp [intOf]; omega
    · obtain rfl : k = n2 := by omega
      go_wp2
      go_ret
      exact ⟨rfl, HB.out⟩

set_option maxRecDepth 100000 in
theorem dutyWhere_lifted (os : Os) (started : os.Started) (H : Type) (enc : TypeId × Value → H) :
    ReturnsInHanded {} Tryd.checked os 4 .any (fun w args => (Rows.dutyWhereSpec.pre enc Tryd.prog Tryd.f4 [] false w args ∧ laidMetH Tryd.prog [("mootbell/clock.bounds", Rows.laid_mootbell_clock_bounds), ("mootbell/churn.sum", Rows.laid_mootbell_churn_sum)] w) ∧ sizedMet enc Tryd.prog Tryd.f4 (OpenSpec.ofChange Rows.dutyWhereSpec) false w args)
      (Rows.dutyWhereSpec.post enc Tryd.prog Tryd.f4 false true false false) := by
  refine returnsInHanded_of_change_and (C := Tryd.checked) (X := fun w _ => laidMetH Tryd.prog [("mootbell/clock.bounds", Rows.laid_mootbell_clock_bounds), ("mootbell/churn.sum", Rows.laid_mootbell_churn_sum)] w) (fun _ _ _ hh h => h.of_heap hh) own started (by kernel_rfl) Tryd.func4
    (ChangeSpec.witness_shaped (enc := enc) (C := Tryd.checked) (os := os) (X := fun w _ => laidMetH Tryd.prog [("mootbell/clock.bounds", Rows.laid_mootbell_clock_bounds), ("mootbell/churn.sum", Rows.laid_mootbell_churn_sum)] w) false (World.doorLaid Tryd.prog 400 os) #[.agg #[.int .i64 0, .int .i64 0, .int .i64 0, .int .i64 0, .int .i64 0, .int .i64 0], .int .u64 0, .int .i64 0, .int .i64 0, .int .i64 0, .int .i64 0] 8 rfl (World.shaped_of_RefB (by kernel_rfl) (by kernel_rfl)) (by kernel_rfl) (by kernel_rfl) (by kernel_rfl) (door_met os _)) ?_
  intro W base args ds gs before hval0 hW hcnd hsz0 hL _
  have hsz : (DataW.weightsEach Tryd.prog (Tryd.f4.params.toList ++ Rows.dutyWhereSpec.plain.varTypes Tryd.prog) (ds ++ gs)).all (· ≤ reachBytes) = true := hsz0
  have hval : ∀ (j : Nat) t v, Tryd.f4.params[j]? = some t → args[j]? = some v → Value.okWide Tryd.prog W .any base t v := hval0
  have hW' := hW
  obtain ⟨p, q, hA0, hV, rfl, hfz, hnd⟩ := hW
  have hA : DataW.TrodAll enc Tryd.prog W 0 (fun _ => true) true Tryd.f4.params.toList args.toList ds p := hA0
  have hAll := hA
  rw [Tryd.params4] at hA hval hsz
  obtain ⟨v0, vs0, d0, ds0, p0, q0, hargs, rfl, rfl, h0, r0⟩ := trodAll_cons hA
  obtain ⟨v1, vs1, d1, ds1, p1, q1, rfl, rfl, rfl, h1, r1⟩ := trodAll_cons r0
  obtain ⟨v2, vs2, d2, ds2, p2, q2, rfl, rfl, rfl, h2, r2⟩ := trodAll_cons r1
  obtain ⟨v3, vs3, d3, ds3, p3, q3, rfl, rfl, rfl, h3, r3⟩ := trodAll_cons r2
  obtain ⟨v4, vs4, d4, ds4, p4, q4, rfl, rfl, rfl, h4, r4⟩ := trodAll_cons r3
  obtain ⟨v5, vs5, d5, ds5, p5, q5, rfl, rfl, rfl, h5, r5⟩ := trodAll_cons r4
  obtain ⟨rfl, rfl, rfl⟩ := trodAll_nil r5
  obtain rfl : args = #[v0, v1, v2, v3, v4, v5] := by cases args; simp_all
  obtain ⟨rfl, rfl⟩ := trodVars_none hV
  have hlt := trodAll_lt hAll
  obtain ⟨n, rfl⟩ := six_came (hval 0 25 v0 rfl rfl)
  obtain ⟨s, rfl, rfl, rfl, w1⟩ := open_int Tryd.underlying22 (hval 1 22 v1 rfl rfl) h1
  obtain ⟨p, rfl, rfl, rfl, w2⟩ := open_int Tryd.underlying3 (hval 2 3 v2 rfl rfl) h2
  obtain ⟨v, rfl, rfl, rfl, w3⟩ := open_int Tryd.underlying3 (hval 3 3 v3 rfl rfl) h3
  obtain ⟨t, rfl, rfl, rfl, w4⟩ := open_int Tryd.underlying3 (hval 4 3 v4 rfl rfl) h4
  obtain ⟨i, rfl, rfl, rfl, w5⟩ := open_int Tryd.underlying3 (hval 5 3 v5 rfl rfl) h5
  clear hA0 hval0 hsz0 hsz
  refine (DutyWhere_calls n s p v t i (bounds_i64 w2) (bounds_i64 w3) (bounds_i64 w4) (bounds_i64 w5) (bounds_u64 w1).1 W (laid_two hL)).mono fun e W' ⟨he, bel⟩ => ?_
  subst he
  exact ⟨_, rfl, _, _, _, [], _, [], hW', trodAll_mk1 (shut_bool Tryd.underlying4 _), below_trodAll laidOut bel (by kernel_rfl) hAll hlt, rfl, bel.frame _, fun h => by cases h⟩
theorem dutyWhere_over : Rows.dutyWhereRow.holds Tryd.pinned (OpenSpec.ofChange Rows.dutyWhereSpec) :=
  OpenClaim.holds_of_wide 4 Tryd.f4 rfl rfl rfl rfl rfl rfl rfl ⟨rfl, rfl, rfl, rfl, rfl⟩ rfl rfl rfl rfl rfl (by kernel_rfl) Tryd.func4 (by kernel_rfl)
    (of_decide_eq_true (by kernel_rfl)) (by unfold Func.isWrapper; first | (rw [if_pos (by decide +kernel)]; kernel_rfl) | (rw [if_neg (by decide +kernel)]; exact ⟨rfl, rfl⟩))
    (fun os started H enc _ => dutyWhere_lifted os started H enc)
theorem dutyWhere_holds : Rows.DutyWhereCardSaid :=
  Claim7.holds_tied_plain_at .later [] [.data, .data] true (true, "2c5e98a607cbcae62023d210d94be34bd3150b76f193fa61f209550e3e68dd04") false
    dutyWhere_over (fun _ h => by cases h) (by kernel_rfl) (fun _ h => by cases h) dutyWhere_row_tie rfl ⟨rfl, rfl⟩ (by kernel_rfl) rfl
    (fun f fn hf hfn => by
      obtain rfl : f = 4 := Option.some.inj ((show Tryd.prog.funcNamed "mootbell/mootbelllaw10.DutyWhere" = some 4 by kernel_rfl).symm.trans hf) |>.symm
      obtain rfl : fn = Tryd.f4 := (Option.some.inj (Tryd.func4.symm.trans hfn)).symm
      exact ⟨by kernel_rfl, fun j t ht => by
        have hm : t ∈ Tryd.f4.params.toList := by simpa using Array.mem_of_getElem? ht
        have hall : (Tryd.f4.params.toList.all fun u => !Tryd.prog.wantsStandIn u) = true := by kernel_rfl
        exact (show Tryd.prog.wantsStandIn t = false by simpa using List.all_eq_true.1 hall t hm)⟩)
    (by kernel_rfl)
#print axioms dutyWhere_holds
end Go.Proofs.YtdepmbnoecpccaaDoor
