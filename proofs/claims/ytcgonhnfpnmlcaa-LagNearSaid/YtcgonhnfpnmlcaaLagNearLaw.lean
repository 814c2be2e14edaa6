
/- LagNear: for every input the call of the statement returns true and leaves its arguments as they were. Conditions: none beyond the row's own. -/
import Derived.Test.YtcgonhnfpnmlcaaShellG
import Derived.Test.YtcgonhnfpnmlcaaLagRef4
set_option linter.unusedVariables false
set_option linter.unusedSimpArgs false
namespace Go.Proofs.Ytcgonhnfpnmlcaa
open Go.RowKit Go.Proofs.YtcgonhnfpnmlcaaW.PrintWords Go.Proofs.YtcgonhnfpnmlcaaW.PrintLast Go.Proofs.YtcgonhnfpnmlcaaW.PrintMore
open Go.ChangeShapes Go.WideShapes Go.ChangeAt
open Go.ChangeMaps (open_string shut_string)

theorem plain_ofW (n : Int) : plainF (ofW n) = ofW n := by
  by_cases h : n = 0
  · subst h
    rw [ofW_zero]
    decide
  · rw [ofW_word n h]
    exact wordF_pos _ _ (by unfold sgI; split <;> omega) (nearR_pos _ (by omega))
theorem PlainI (x y : Nat) (w : World) (h : plainF x = y) : Calls Try.prog 13 #[.int .u64 x] w fun e w' => e = .returned (.int .u64 y) ∧ w = w' := h ▸ Plain_calls x w
theorem pick_q (c n p : Int) (h : ∀ w, Calls Try.prog 17 #[.int .i64 c, .int .i64 n] w fun e w' => e = .returned (.int .i64 p) ∧ w = w') (w : World) : Calls Try.prog 17 #[.int .i64 c, .int .i64 n] w fun e w' => e = .returned (.int .i64 p) ∧ w' = w := (h w).mono fun e w' hh => ⟨hh.1, hh.2.symm⟩
set_option maxRecDepth 100000 in
set_option maxHeartbeats 2000000 in
theorem LagNear_calls (k d : Int) (sign : Bool) (hk : i64ok k) (hd : i64ok d) (w : World) : Calls Try.prog 4 #[.int .i64 k, .int .i64 d, .bool sign] w fun e w' => e = .returned (.bool true) ∧ Below w.heap.size w w' := by
  have hp := pickF_bd k 62 (by omega)
  have hq := pickF_bd d 4097 (by omega)
  have HK := Aside0.mk (fun w => pick3_calls k 62 w hk.1 hk.2 (by omega) (by omega))
  have HQ := Aside0.mk (fun w => pick3_calls d 4097 w hd.1 hd.2 (by omega) (by omega))
  generalize pickF k 62 = p at *
  generalize pickF d 4097 = q at *
  obtain ⟨p, rfl⟩ := Int.eq_ofNat_of_zero_le hp.1
  obtain ⟨t, ht⟩ : ∃ t : Nat, 2 ^ p = t := ⟨_, rfl⟩
  have htl : t ≤ 2305843009213693952 := by
    rw [← ht]
    have := Nat.pow_le_pow_right (show 0 < 2 by omega) (show p ≤ 61 by omega)
    omega
  have hq0 := hq.1
  have hq1 := hq.2
  have hp0 := hp.1
  have hp1 := hp.2
  clear hp hq
  have hsh : IntKind.i64.wrap (2 ^ p) = (t : Int) := by
    rw [show (2 : Int) ^ p = (t : Int) by rw [← ht]; simp]
    exact IntWalk.i64_in _ (by omega)
  clear ht hk hd
  have HB := Aside0.mk (Below.refl w.heap.size w)
  have Hx := Aside0.mk (fun w => Of_calls ((t : Int) + q - 2048) w)
  have Hy := Aside0.mk (fun w => Of_calls (-((t : Int) + q - 2048)) w)
  have Rx := Aside0.mk (fun w => ROf_calls ((t : Int) + q - 2048) (by omega) (by omega) w)
  have Ry := Aside0.mk (fun w => ROf_calls (-((t : Int) + q - 2048)) (by omega) (by omega) w)
  have Px := Aside0.mk (plain_ofW ((t : Int) + q - 2048))
  have Py := Aside0.mk (plain_ofW (-((t : Int) + q - 2048)))
  generalize ofW ((t : Int) + q - 2048) = x at *
  generalize ofW (-((t : Int) + q - 2048)) = y at *
  cases sign
  all_goals
    go_enter Try.func4, Try.ntmps4
    go_wp2_with fail
    refine (lawake_calls _).mono ?_
    rintro e w1 ⟨rfl, hb_⟩
    have n_ := Aside0.mk (below_step (by repeat (first | exact HB.out | apply below_alloc | apply pw_below_drewN | apply below_drew1 | refine below_set ?_ (by first | omega | (simp; omega)))) hb_); clear HB hb_; have HB := n_; clear n_
    go_wp2_with (fail)
    go_quiet ((go_at_call 17; first | with_reducible exact Calls.quiet_of_same (pick_q k 62 _ HK.out _) | with_reducible exact Calls.quiet_of_same (pick_q d 4097 _ HQ.out _)))
    go_wp2_with (first
      | (go_at_call 22; first | ((with_reducible refine (Hx.out _).mono ?_); rintro e w_ ⟨rfl, rfl⟩) | ((with_reducible refine (Hy.out _).mono ?_); rintro e w_ ⟨rfl, rfl⟩))
      | (go_at_call 23; first | ((with_reducible refine (Rx.out _).mono ?_); rintro e w_ ⟨rfl, rfl⟩) | ((with_reducible refine (Ry.out _).mono ?_); rintro e w_ ⟨rfl, rfl⟩))
      | (go_at_call 13; first | ((with_reducible refine (PlainI x x _ Px.out).mono ?_); rintro e w_ ⟨rfl, rfl⟩) | ((with_reducible refine (PlainI y y _ Py.out).mono ?_); rintro e w_ ⟨rfl, rfl⟩)))
    go_ret
    exact ⟨rfl, pw_below_drewN HB.out _⟩

set_option maxRecDepth 100000 in
theorem lagNear_lifted (os : Os) (started : os.Started) (H : Type) (enc : TypeId × Value → H) :
    ReturnsInHanded {} Try.checked os 4 .any (Rows.lagNearSpec.pre6 enc Try.prog Try.f4 Rows.lagNearRow.domain false) (Rows.lagNearSpec.post enc Try.prog Try.f4 false true false false) := by
  refine returnsInHanded_of_change_sized (C := Try.checked) own started (by kernel_rfl) Try.func4
    (ChangeSpec.witness6 (enc := enc) (C := Try.checked) false ⟨#[], #[.int .i64 0, .int .i64 0, .bool false], []⟩ 8 (by kernel_rfl) (by kernel_rfl) (by kernel_rfl) (by kernel_rfl)) ?_
  intro W base args ds gs before hval0 hW hcnd hsz0 _
  have hsz : (DataW.weightsEach Try.prog (Try.f4.params.toList ++ Rows.lagNearSpec.plain.varTypes Try.prog) (ds ++ gs)).all (· ≤ reachBytes) = true := hsz0
  have hval : ∀ (j : Nat) t v, Try.f4.params[j]? = some t → args[j]? = some v → Value.okWide Try.prog W .any base t v := hval0
  have hW' := hW
  obtain ⟨p, q, hA0, hV, rfl, hfz, hnd⟩ := hW
  have hA : DataW.TrodAll enc Try.prog W 0 (fun _ => true) true Try.f4.params.toList args.toList ds p := hA0
  have hAll := hA
  rw [Try.params4] at hA hval hsz
  obtain ⟨v0, vs0, d0, ds0, p0, q0, hargs, rfl, rfl, h0, r0⟩ := trodAll_cons hA
  obtain ⟨v1, vs1, d1, ds1, p1, q1, rfl, rfl, rfl, h1, r1⟩ := trodAll_cons r0
  obtain ⟨v2, vs2, d2, ds2, p2, q2, rfl, rfl, rfl, h2, r2⟩ := trodAll_cons r1
  obtain ⟨rfl, rfl, rfl⟩ := trodAll_nil r2
  obtain rfl : args = #[v0, v1, v2] := by cases args; simp_all
  obtain ⟨rfl, rfl⟩ := trodVars_none hV
  have hlt := trodAll_lt hAll
  obtain ⟨k, rfl, rfl, rfl, w0⟩ := open_int Try.underlying3 (hval 0 3 v0 rfl rfl) h0
  obtain ⟨d, rfl, rfl, rfl, w1⟩ := open_int Try.underlying3 (hval 1 3 v1 rfl rfl) h1
  obtain ⟨sg, rfl, rfl, rfl⟩ := open_bool Try.underlying4 (hval 2 4 v2 rfl rfl) h2
  clear hA0 hval0 hsz0 hsz
  refine (LagNear_calls k d sg (bounds_i64 w0) (bounds_i64 w1) W).mono fun e W' ⟨he, bel⟩ => ?_
  subst he
  exact ⟨_, rfl, _, _, _, [], _, [], hW', trodAll_mk1 (shut_bool Try.underlying4 _), below_trodAll laidOut bel (by kernel_rfl) hAll hlt, rfl, bel.frame _, fun h => by cases h⟩
theorem lagNear_over : Rows.lagNearRow.holds Try.pinned (OpenSpec.ofChange Rows.lagNearSpec) :=
  OpenClaim.holds_of_wide 4 Try.f4 rfl rfl rfl rfl rfl rfl rfl ⟨rfl, rfl, rfl, rfl, rfl⟩ rfl rfl rfl rfl rfl (by kernel_rfl) Try.func4 (by kernel_rfl)
    (of_decide_eq_true (by kernel_rfl)) (by unfold Func.isWrapper; first | (rw [if_pos (by decide +kernel)]; kernel_rfl) | (rw [if_neg (by decide +kernel)]; exact ⟨rfl, rfl⟩))
    (fun os started H enc _ => lagNear_lifted os started H enc)
theorem lagNear_holds : Rows.LagNearSaid := lagNear_over
#print axioms lagNear_holds
end Go.Proofs.Ytcgonhnfpnmlcaa
