
/- ShuffleBack: for every input the call of the statement returns true and leaves its arguments as they were, over the program whose table churn.sum lies as its own text lays it (the tied card). Conditions: none beyond the card's own. -/
import Derived.Test.YtkpbcmlbdggoaaaDoorCards
import Derived.Test.YtkpbcmlbdggoaaaDoorTie
import Derived.Test.YtkpbcmlbdggoaaaDoorShell
import Derived.Test.YtkpbcmlbdggoaaaDoorShufLawBase
set_option linter.unusedVariables false
set_option linter.unusedSimpArgs false
namespace Go.Proofs.YtkpbcmlbdggoaaaDoor
open Go.RowKit Go.Proofs.YtkpbcmlbdggoaaaDoorW.PrintWords Go.Proofs.YtkpbcmlbdggoaaaDoorW.PrintLast Go.Proofs.YtkpbcmlbdggoaaaDoorW.PrintMore
open Go.ChangeShapes Go.WideShapes Go.ChangeAt
open Go.ChangeMaps (open_string shut_string)

set_option maxHeartbeats 2000000 in
set_option maxRecDepth 100000 in
theorem ShuffleBack_calls (n m seed i j : Int) (hn : i64ok n) (hm : i64ok m) (hs : 0 ≤ seed) (hi : i64ok i) (hj : i64ok j) (w : World) (hG : ChurnLaid w) :
    Calls Tryd.prog 5 #[.int .i64 n, .int .i64 m, .int .u64 seed, .int .i64 i, .int .i64 j] w fun e w' => e = .returned (.bool true) ∧ Below w.heap.size w w' := by
  obtain ⟨hn0, hn1⟩ := hn
  obtain ⟨hm0, hm1⟩ := hm
  obtain ⟨hi0, hi1⟩ := hi
  obtain ⟨hj0, hj1⟩ := hj
  have HB := Aside0.mk (Below.refl w.heap.size w)
  have HG := Aside0.mk hG
  clear hG
  go_enter Tryd.func5, Tryd.ntmps5
  go_wp2_with fail
  refine (awake_calls _ ?hG).mono ?_
  case hG => exact HG.out.below (by repeat (first | exact HB.out | apply below_alloc | apply pw_below_drewN | apply below_drew1 | refine below_set ?_ (by first | omega | (simp; omega))))
  rintro e w1 ⟨rfl, hb_⟩
  have n_ := Aside0.mk (below_step (by repeat (first | exact HB.out | apply below_alloc | apply pw_below_drewN | apply below_drew1 | refine below_set ?_ (by first | omega | (simp; omega)))) hb_); clear HB hb_; have HB := n_; clear n_
  have p1 := pickF_bd n 65536 (by omega)
  have p2 := pickF_bd m 91 (by omega)
  have p3 := pickF_bd i (1 + pickF n 65536) (by omega)
  have p4 := pickF_bd j (1 + pickF n 65536) (by omega)
  go_upto_region 6 with (go_at_call 9; ((with_reducible refine (pick_calls _ _ _ (by omega) (by omega) (by omega) (by omega)).mono ?_)); rintro e w_ ⟨rfl, rfl⟩)
  generalize pickF j (1 + pickF n 65536) = y at *
  generalize pickF i (1 + pickF n 65536) = x at *
  generalize hk : 1 + pickF n 65536 = k at *
  generalize pickF m 91 = r at *
  have hk1 : 1 ≤ k ∧ k ≤ 65536 := by omega
  clear p1 hk hn0 hn1 hi0 hi1 hj0 hj1 hm0 hm1
  have hmx : mayB k r x = true := (may_iff _ _ _).2 (by omega)
  have hmy : mayB k r y = true := (may_iff _ _ _).2 (by omega)
  have H1 := Aside0.mk (back_place k seed r.toNat x p3)
  have H2 := Aside0.mk (place_back k seed r.toNat x p3)
  have H3 := Aside0.mk (place_inj k seed r.toNat x y p3 p4)
  have pa := place_bd k seed r.toNat x p3
  have pc := back_bd9 k seed r.toNat x p3
  go_wp2_with fail
  refine (Place_y k r seed x _ hmx hs ?hG).mono ?_
  case hG => exact HG.out.below (by repeat (first | exact HB.out | apply below_alloc | apply pw_below_drewN | apply below_drew1 | refine below_set ?_ (by first | omega | (simp; omega))))
  rintro e w2 ⟨rfl, hb_⟩
  have n_ := Aside0.mk (below_step (by repeat (first | exact HB.out | apply below_alloc | apply pw_below_drewN | apply below_drew1 | refine below_set ?_ (by first | omega | (simp; omega)))) hb_); clear HB hb_; have HB := n_; clear n_
  generalize placeF k seed r.toNat x = a at *
  have hma : mayB k r a = true := (may_iff _ _ _).2 (by omega)
  go_wp2_with fail
  refine (Back_y k r seed a _ hma hs ?hG).mono ?_
  case hG => exact HG.out.below (by repeat (first | exact HB.out | apply below_alloc | apply pw_below_drewN | apply below_drew1 | refine below_set ?_ (by first | omega | (simp; omega))))
  rintro e w3 ⟨rfl, hb_⟩
  have n_ := Aside0.mk (below_step (by repeat (first | exact HB.out | apply below_alloc | apply pw_below_drewN | apply below_drew1 | refine below_set ?_ (by first | omega | (simp; omega)))) hb_); clear HB hb_; have HB := n_; clear n_
  rw [H1.out]
  go_wp2_with fail
  refine (Back_y k r seed x _ hmx hs ?hG).mono ?_
  case hG => exact HG.out.below (by repeat (first | exact HB.out | apply below_alloc | apply pw_below_drewN | apply below_drew1 | refine below_set ?_ (by first | omega | (simp; omega))))
  rintro e w4 ⟨rfl, hb_⟩
  have n_ := Aside0.mk (below_step (by repeat (first | exact HB.out | apply below_alloc | apply pw_below_drewN | apply below_drew1 | refine below_set ?_ (by first | omega | (simp; omega)))) hb_); clear HB hb_; have HB := n_; clear n_
  generalize backF9 k seed r.toNat x = c at *
  have hmc : mayB k r c = true := (may_iff _ _ _).2 (by omega)
  go_wp2_with fail
  refine (Place_y k r seed c _ hmc hs ?hG).mono ?_
  case hG => exact HG.out.below (by repeat (first | exact HB.out | apply below_alloc | apply pw_below_drewN | apply below_drew1 | refine below_set ?_ (by first | omega | (simp; omega))))
  rintro e w5 ⟨rfl, hb_⟩
  have n_ := Aside0.mk (below_step (by repeat (first | exact HB.out | apply below_alloc | apply pw_below_drewN | apply below_drew1 | refine below_set ?_ (by first | omega | (simp; omega)))) hb_); clear HB hb_; have HB := n_; clear n_
  rw [H2.out]
  go_wp2_with fail
  refine (Place_y k r seed y _ hmy hs ?hG).mono ?_
  case hG => exact HG.out.below (by repeat (first | exact HB.out | apply below_alloc | apply pw_below_drewN | apply below_drew1 | refine below_set ?_ (by first | omega | (simp; omega))))
  rintro e w6 ⟨rfl, hb_⟩
  have n_ := Aside0.mk (below_step (by repeat (first | exact HB.out | apply below_alloc | apply pw_below_drewN | apply below_drew1 | refine below_set ?_ (by first | omega | (simp; omega)))) hb_); clear HB hb_; have HB := n_; clear n_
  generalize placeF k seed r.toNat y = z at *
  clear hmx hmy hma hmc
  by_cases hxy : x = y
  · have haz := H3.out.2 hxy
    subst hxy haz
    go_wp2
    go_ret
    exact ⟨rfl, HB.out⟩
  · have haz : ¬ a = z := fun h => hxy (H3.out.1 h)
    go_wp2
    go_ret
    exact ⟨by first | rfl | exact ret_bool (by simp [beq_eq_false_iff_ne.2 haz, beq_eq_false_iff_ne.2 hxy]), HB.out⟩

set_option maxRecDepth 100000 in
theorem shuffleBack_lifted (os : Os) (started : os.Started) (H : Type) (enc : TypeId × Value → H) :
    ReturnsInHanded {} Tryd.checked os 5 .any (fun w args => (Rows.shuffleBackSpec.pre enc Tryd.prog Tryd.f5 [] false w args ∧ laidMetH Tryd.prog [("mootbell/churn.sum", Rows.laid_mootbell_churn_sum)] w) ∧ sizedMet enc Tryd.prog Tryd.f5 (OpenSpec.ofChange Rows.shuffleBackSpec) false w args)
      (Rows.shuffleBackSpec.post enc Tryd.prog Tryd.f5 false true false false) := by
  refine returnsInHanded_of_change_and (C := Tryd.checked) (X := fun w _ => laidMetH Tryd.prog [("mootbell/churn.sum", Rows.laid_mootbell_churn_sum)] w) (fun _ _ _ hh h => h.of_heap hh) own started (by kernel_rfl) Tryd.func5
    (ChangeSpec.witness_shaped (enc := enc) (C := Tryd.checked) (os := os) (X := fun w _ => laidMetH Tryd.prog [("mootbell/churn.sum", Rows.laid_mootbell_churn_sum)] w) false (World.doorLaid Tryd.prog 400 os) #[.int .i64 0, .int .i64 0, .int .u64 0, .int .i64 0, .int .i64 0] 8 rfl (World.shaped_of_RefB (by kernel_rfl) (by kernel_rfl)) (by kernel_rfl) (by kernel_rfl) (by kernel_rfl) (door_met os _)) ?_
  intro W base args ds gs before hval0 hW hcnd hsz0 hL _
  have hsz : (DataW.weightsEach Tryd.prog (Tryd.f5.params.toList ++ Rows.shuffleBackSpec.plain.varTypes Tryd.prog) (ds ++ gs)).all (· ≤ reachBytes) = true := hsz0
  have hval : ∀ (j : Nat) t v, Tryd.f5.params[j]? = some t → args[j]? = some v → Value.okWide Tryd.prog W .any base t v := hval0
  have hW' := hW
  obtain ⟨p, q, hA0, hV, rfl, hfz, hnd⟩ := hW
  have hA : DataW.TrodAll enc Tryd.prog W 0 (fun _ => true) true Tryd.f5.params.toList args.toList ds p := hA0
  have hAll := hA
  rw [Tryd.params5] at hA hval hsz
  obtain ⟨v0, vs0, d0, ds0, p0, q0, hargs, rfl, rfl, h0, r0⟩ := trodAll_cons hA
  obtain ⟨v1, vs1, d1, ds1, p1, q1, rfl, rfl, rfl, h1, r1⟩ := trodAll_cons r0
  obtain ⟨v2, vs2, d2, ds2, p2, q2, rfl, rfl, rfl, h2, r2⟩ := trodAll_cons r1
  obtain ⟨v3, vs3, d3, ds3, p3, q3, rfl, rfl, rfl, h3, r3⟩ := trodAll_cons r2
  obtain ⟨v4, vs4, d4, ds4, p4, q4, rfl, rfl, rfl, h4, r4⟩ := trodAll_cons r3
  obtain ⟨rfl, rfl, rfl⟩ := trodAll_nil r4
  obtain rfl : args = #[v0, v1, v2, v3, v4] := by cases args; simp_all
  obtain ⟨rfl, rfl⟩ := trodVars_none hV
  have hlt := trodAll_lt hAll
  obtain ⟨n, rfl, rfl, rfl, w0⟩ := open_int Tryd.underlying3 (hval 0 3 v0 rfl rfl) h0
  obtain ⟨m, rfl, rfl, rfl, w1⟩ := open_int Tryd.underlying3 (hval 1 3 v1 rfl rfl) h1
  obtain ⟨s, rfl, rfl, rfl, w2⟩ := open_int Tryd.underlying22 (hval 2 22 v2 rfl rfl) h2
  obtain ⟨i, rfl, rfl, rfl, w3⟩ := open_int Tryd.underlying3 (hval 3 3 v3 rfl rfl) h3
  obtain ⟨j, rfl, rfl, rfl, w4⟩ := open_int Tryd.underlying3 (hval 4 3 v4 rfl rfl) h4
  clear hA0 hval0 hsz0 hsz
  refine (ShuffleBack_calls n m s i j (bounds_i64 w0) (bounds_i64 w1) (bounds_u64 w2).1 (bounds_i64 w3) (bounds_i64 w4) W (laid_churn hL)).mono fun e W' ⟨he, bel⟩ => ?_
  subst he
  exact ⟨_, rfl, _, _, _, [], _, [], hW', trodAll_mk1 (shut_bool Tryd.underlying4 _), below_trodAll laidOut bel (by kernel_rfl) hAll hlt, rfl, bel.frame _, fun h => by cases h⟩
theorem shuffleBack_over : Rows.shuffleBackRow.holds Tryd.pinned (OpenSpec.ofChange Rows.shuffleBackSpec) :=
  OpenClaim.holds_of_wide 5 Tryd.f5 rfl rfl rfl rfl rfl rfl rfl ⟨rfl, rfl, rfl, rfl, rfl⟩ rfl rfl rfl rfl rfl (by kernel_rfl) Tryd.func5 (by kernel_rfl)
    (of_decide_eq_true (by kernel_rfl)) (by unfold Func.isWrapper; first | (rw [if_pos (by decide +kernel)]; kernel_rfl) | (rw [if_neg (by decide +kernel)]; exact ⟨rfl, rfl⟩))
    (fun os started H enc _ => shuffleBack_lifted os started H enc)
theorem shuffleBack_holds : Rows.ShuffleBackCardSaid :=
  Claim7.holds_tied_plain_at .later [] [.data] true (true, "ad9f1004cedb4bc7c2371e68acc3085cc2cad7a500822f0522e11316d8754be0") false
    shuffleBack_over (fun _ h => by cases h) (by kernel_rfl) (fun _ h => by cases h) shuffleBack_row_tie rfl ⟨rfl, rfl⟩ (by kernel_rfl) rfl
    (fun f fn hf hfn => by
      obtain rfl : f = 5 := Option.some.inj ((show Tryd.prog.funcNamed "mootbell/mootbelllaw09.ShuffleBack" = some 5 by kernel_rfl).symm.trans hf) |>.symm
      obtain rfl : fn = Tryd.f5 := (Option.some.inj (Tryd.func5.symm.trans hfn)).symm
      exact ⟨by kernel_rfl, fun j t ht => by
        have hm : t ∈ Tryd.f5.params.toList := by simpa using Array.mem_of_getElem? ht
        have hall : (Tryd.f5.params.toList.all fun u => !Tryd.prog.wantsStandIn u) = true := by kernel_rfl
        exact (show Tryd.prog.wantsStandIn t = false by simpa using List.all_eq_true.1 hall t hm)⟩)
    (by kernel_rfl)
#print axioms shuffleBack_holds
end Go.Proofs.YtkpbcmlbdggoaaaDoor
