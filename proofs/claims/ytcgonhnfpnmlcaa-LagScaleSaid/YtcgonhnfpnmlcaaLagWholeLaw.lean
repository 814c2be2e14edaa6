
/- LagWhole: for every input the call of the statement returns true and leaves its arguments as they were. Conditions: none beyond the row's own. -/
import Derived.Test.YtcgonhnfpnmlcaaShellG
import Derived.Test.YtcgonhnfpnmlcaaLagTicks2
set_option linter.unusedVariables false
set_option linter.unusedSimpArgs false
namespace Go.Proofs.Ytcgonhnfpnmlcaa
open Go.RowKit Go.Proofs.YtcgonhnfpnmlcaaW.PrintWords Go.Proofs.YtcgonhnfpnmlcaaW.PrintLast Go.Proofs.YtcgonhnfpnmlcaaW.PrintMore
open Go.ChangeShapes Go.WideShapes Go.ChangeAt
open Go.ChangeMaps (open_string shut_string)

theorem val_nat (x : Nat) (h : x < 9223372036854775808) : val x = (mag x : Int) := by
  unfold val
  rw [show x / 9223372036854775808 % 2 = 0 by omega, show x % 9223372036854775808 = x by omega]
  simp
theorem ofW_sign (n : Int) (h : -9007199254740992 ≤ n ∧ n ≤ 9007199254740992) (h0 : n ≠ 0) : (n < 0 → 9223372036854775808 < ofW n) ∧ (0 < n → 0 < ofW n ∧ ofW n < 9218868437227405312) := by
  obtain ⟨e, b1, b2⟩ := nearR_whole n.natAbs (by omega) (by omega)
  rw [ofW_word n h0]
  unfold wordF sgI
  rw [Nat.min_eq_left (by omega)]
  constructor
  · intro h1
    rw [if_pos h1]
    omega
  · intro h1
    rw [if_neg (by omega)]
    omega
theorem U1_int : (0 : Int) < (U1 : Int) := by
  have := U1_pos
  omega
/-- Ticks undoes Of. -/
theorem tick_of (a : Nat) (h : a ≤ 1099511627776) : tickV (ofW a) = a ∧ tickE (ofW a) = 0 := by
  obtain ⟨e, b1, b2⟩ := ofW_val a (by omega)
  unfold tickV tickE
  rw [if_neg (by omega), if_neg (by omega)]
  refine ⟨?_, rfl⟩
  unfold tickN
  by_cases h0 : a = 0
  · subst h0
    rw [show ofW ((0 : Nat) : Int) = 0 from ofW_zero, if_pos (Or.inr rfl)]
  · obtain ⟨c1, c2⟩ := (ofW_sign a (by omega) (by omega)).2 (by omega)
    have hm := val_nat (ofW a) (by omega)
    rw [e] at hm
    have hm2 : mag (ofW a) = a * U1 := by
      have : ((a * U1 : Nat) : Int) = (a : Int) * U1 := Int.natCast_mul _ _
      omega
    have hle : ofW a ≤ 4787326403894837248 := by
      have e40 : mag 4787326403894837248 = 1099511627776 * U1 := by decide +kernel
      rcases Nat.lt_or_ge 4787326403894837248 (ofW a) with g | g
      · have := mag_mono g
        rw [e40, hm2] at this
        have := Nat.lt_of_mul_lt_mul_right this
        omega
      · exact g
    rw [if_neg (by omega), if_neg (by omega)]
    obtain ⟨t1, t2, t3⟩ := tick_mid (ofW a) c1 hle
    rw [hm2] at t1 t2
    generalize ceilF (sigM (ofW a)) (1075 - sigE (ofW a)) = c at *
    have k1 := Nat.le_of_mul_le_mul_right t1 U1_pos
    have k2 := Nat.lt_of_mul_lt_mul_right t2
    omega
theorem tick_neg (a : Nat) (h : a ≤ 1099511627776) : tickV (ofW (-(a : Int))) = 0 ∧ tickE (ofW (-(a : Int))) = 0 := by
  obtain ⟨e, b1, b2⟩ := ofW_val (-(a : Int)) (by omega)
  unfold tickV tickE
  rw [if_neg (by omega), if_neg (by omega)]
  refine ⟨?_, rfl⟩
  unfold tickN
  by_cases h0 : a = 0
  · subst h0
    rw [show ofW (-((0 : Nat) : Int)) = 0 from ofW_zero, if_pos (Or.inr rfl)]
    rfl
  · have c := (ofW_sign (-(a : Int)) (by omega) (by omega)).1 (by omega)
    rw [if_pos (Or.inl (by omega))]
    rfl
theorem of_less (x y : Int) (hx : -9007199254740992 ≤ x ∧ x ≤ 9007199254740992) (hy : -9007199254740992 ≤ y ∧ y ≤ 9007199254740992) : lessF (ofW x) (ofW y) = decide (x < y) := by
  obtain ⟨e1, a1, a2⟩ := ofW_val x hx
  obtain ⟨e2, b1, b2⟩ := ofW_val y hy
  unfold lessF
  congr 1
  rw [eq_iff_iff, ← val_rank _ _ a2 b2 (by omega) (by omega), e1, e2]
  constructor
  · intro h
    exact Int.lt_of_mul_lt_mul_right h (Int.le_of_lt U1_int)
  · intro h
    exact Int.mul_lt_mul_of_pos_right h U1_int
theorem of_inj (x y : Int) (hx : -9007199254740992 ≤ x ∧ x ≤ 9007199254740992) (hy : -9007199254740992 ≤ y ∧ y ≤ 9007199254740992) : (((ofW x : Nat) : Int) == ((ofW y : Nat) : Int)) = (x == y) := by
  rw [Bool.eq_iff_iff, beq_iff_eq, beq_iff_eq]
  constructor
  · intro h
    have h1 : ofW x = ofW y := by omega
    have e1 := (ofW_val x hx).1
    have e2 := (ofW_val y hy).1
    rw [h1, e2] at e1
    have := Int.eq_of_mul_eq_mul_right (Int.ne_of_gt U1_int) e1
    exact this.symm
  · rintro rfl
    rfl
theorem TicksV (x : Nat) (v e : Int) (hx : x < 18446744073709551616) (w : World) (h : tickV x = v ∧ tickE x = e) : Calls Try.prog 11 #[.int .u64 x] w fun r w' => r = .returned (.tuple #[.int .i64 v, .int .i64 e]) ∧ w = w' := by
  obtain ⟨rfl, rfl⟩ := h
  exact Ticks_calls x hx w
set_option maxRecDepth 100000 in
set_option maxHeartbeats 4000000 in
theorem LagWhole_calls (n m : Int) (hn : i64ok n) (hm : i64ok m) (w : World) : Calls Try.prog 7 #[.int .i64 n, .int .i64 m] w fun e w' => e = .returned (.bool true) ∧ Below w.heap.size w w' := by
  have h1 := pickF_bd n 1099511627777 (by omega)
  have h2 := pickF_bd n 18014398509481984 (by omega)
  have h3 := pickF_bd m 18014398509481984 (by omega)
  have H1 := Aside0.mk (fun w => pick3_calls n 1099511627777 w hn.1 hn.2 (by omega) (by omega))
  have H2 := Aside0.mk (fun w => pick3_calls n 18014398509481984 w hn.1 hn.2 (by omega) (by omega))
  have H3 := Aside0.mk (fun w => pick3_calls m 18014398509481984 w hm.1 hm.2 (by omega) (by omega))
  generalize pickF n 1099511627777 = a at *
  generalize pickF n 18014398509481984 = p at *
  generalize pickF m 18014398509481984 = q at *
  obtain ⟨a, rfl⟩ := Int.eq_ofNat_of_zero_le h1.1
  have T1 := tick_of a (by omega)
  have T2 := tick_neg a (by omega)
  have hL := of_less (p - 9007199254740992) (q - 9007199254740992) (by omega) (by omega)
  have hI := of_inj (p - 9007199254740992) (q - 9007199254740992) (by omega) (by omega)
  have a1 := (ofW_val a (by omega)).2.2
  have a2 := (ofW_val (-(a : Int)) (by omega)).2.2
  have a3 := (ofW_val (p - 9007199254740992) (by omega)).2.2
  have a4 := (ofW_val (q - 9007199254740992) (by omega)).2.2
  have O1 := Aside0.mk (fun w => Of_calls (a : Int) w)
  have O2 := Aside0.mk (fun w => Of_calls (-(a : Int)) w)
  have O3 := Aside0.mk (fun w => Of_calls (p - 9007199254740992) w)
  have O4 := Aside0.mk (fun w => Of_calls (q - 9007199254740992) w)
  generalize ofW (a : Int) = r1 at *
  generalize ofW (-(a : Int)) = r2 at *
  generalize ofW (p - 9007199254740992) = r3 at *
  generalize ofW (q - 9007199254740992) = r4 at *
  have K1 := Aside0.mk (fun w => TicksV r1 a 0 a1 w T1)
  have K2 := Aside0.mk (fun w => TicksV r2 0 0 a2 w T2)
  have b1 := h1.2
  have b2 := h2.1
  have b3 := h2.2
  have b4 := h3.1
  have b5 := h3.2
  have HL := Aside0.mk (fun w => Less_v r3 r4 _ a3 a4 w hL)
  clear T1 T2 h1 h2 h3 hn hm hL
  have HB := Aside0.mk (Below.refl w.heap.size w)
  rcases Int.lt_trichotomy (p - 9007199254740992) (q - 9007199254740992) with c | c | c
  · rw [decide_eq_true c] at HL
    have d1 : decide (p - 9007199254740992 < q - 9007199254740992) = true := decide_eq_true c
    have d2 : (p - 9007199254740992 == q - 9007199254740992) = false := by rw [beq_eq_false_iff_ne]; omega
    rw [d2] at hI
    clear c
    go_enter Try.func7, Try.ntmps7
    go_wp2_with fail
    refine (lawake_calls _).mono ?_
    rintro e w1 ⟨rfl, hb_⟩
    have n_ := Aside0.mk (below_step (by repeat (first | exact HB.out | apply below_alloc | apply pw_below_drewN | apply below_drew1 | refine below_set ?_ (by first | omega | (simp; omega)))) hb_); clear HB hb_; have HB := n_; clear n_
    go_upto_region 7 with (first
      | (go_at_call 17; first | ((with_reducible refine (H1.out _).mono ?_); rintro e w_ ⟨rfl, rfl⟩) | ((with_reducible refine (H2.out _).mono ?_); rintro e w_ ⟨rfl, rfl⟩) | ((with_reducible refine (H3.out _).mono ?_); rintro e w_ ⟨rfl, rfl⟩))
      | (go_at_call 22; first | ((with_reducible refine (O1.out _).mono ?_); rintro e w_ ⟨rfl, rfl⟩) | ((with_reducible refine (O2.out _).mono ?_); rintro e w_ ⟨rfl, rfl⟩) | ((with_reducible refine (O3.out _).mono ?_); rintro e w_ ⟨rfl, rfl⟩) | ((with_reducible refine (O4.out _).mono ?_); rintro e w_ ⟨rfl, rfl⟩))
      | (go_at_call 11; first | ((with_reducible refine (K1.out _).mono ?_); rintro e w_ ⟨rfl, rfl⟩) | ((with_reducible refine (K2.out _).mono ?_); rintro e w_ ⟨rfl, rfl⟩))
      | (go_at_call 15; ((with_reducible refine (HL.out _).mono ?_); rintro e w_ ⟨rfl, rfl⟩)))
    generalize p - 9007199254740992 = P at *
    generalize q - 9007199254740992 = Q at *
    go_wp2_with (first
      | (go_at_call 17; first | ((with_reducible refine (H1.out _).mono ?_); rintro e w_ ⟨rfl, rfl⟩) | ((with_reducible refine (H2.out _).mono ?_); rintro e w_ ⟨rfl, rfl⟩) | ((with_reducible refine (H3.out _).mono ?_); rintro e w_ ⟨rfl, rfl⟩))
      | (go_at_call 22; first | ((with_reducible refine (O1.out _).mono ?_); rintro e w_ ⟨rfl, rfl⟩) | ((with_reducible refine (O2.out _).mono ?_); rintro e w_ ⟨rfl, rfl⟩) | ((with_reducible refine (O3.out _).mono ?_); rintro e w_ ⟨rfl, rfl⟩) | ((with_reducible refine (O4.out _).mono ?_); rintro e w_ ⟨rfl, rfl⟩))
      | (go_at_call 11; first | ((with_reducible refine (K1.out _).mono ?_); rintro e w_ ⟨rfl, rfl⟩) | ((with_reducible refine (K2.out _).mono ?_); rintro e w_ ⟨rfl, rfl⟩))
      | (go_at_call 15; ((with_reducible refine (HL.out _).mono ?_); rintro e w_ ⟨rfl, rfl⟩)))
    go_ret
    exact ⟨rfl, HB.out⟩
  · obtain rfl : p = q := by omega
    rw [decide_eq_false (by omega)] at HL
    rw [beq_self_eq_true, beq_iff_eq] at hI
    obtain rfl : r3 = r4 := by omega
    have d1 : decide (p - 9007199254740992 < p - 9007199254740992) = false := decide_eq_false (by omega)
    have d2 : (p - 9007199254740992 == p - 9007199254740992) = true := by rw [beq_iff_eq]
    clear c hI O4 a4
    go_enter Try.func7, Try.ntmps7
    go_wp2_with fail
    refine (lawake_calls _).mono ?_
    rintro e w1 ⟨rfl, hb_⟩
    have n_ := Aside0.mk (below_step (by repeat (first | exact HB.out | apply below_alloc | apply pw_below_drewN | apply below_drew1 | refine below_set ?_ (by first | omega | (simp; omega)))) hb_); clear HB hb_; have HB := n_; clear n_
    go_upto_region 7 with (first
      | (go_at_call 17; first | ((with_reducible refine (H1.out _).mono ?_); rintro e w_ ⟨rfl, rfl⟩) | ((with_reducible refine (H2.out _).mono ?_); rintro e w_ ⟨rfl, rfl⟩) | ((with_reducible refine (H3.out _).mono ?_); rintro e w_ ⟨rfl, rfl⟩))
      | (go_at_call 22; first | ((with_reducible refine (O1.out _).mono ?_); rintro e w_ ⟨rfl, rfl⟩) | ((with_reducible refine (O2.out _).mono ?_); rintro e w_ ⟨rfl, rfl⟩) | ((with_reducible refine (O3.out _).mono ?_); rintro e w_ ⟨rfl, rfl⟩))
      | (go_at_call 11; first | ((with_reducible refine (K1.out _).mono ?_); rintro e w_ ⟨rfl, rfl⟩) | ((with_reducible refine (K2.out _).mono ?_); rintro e w_ ⟨rfl, rfl⟩))
      | (go_at_call 15; ((with_reducible refine (HL.out _).mono ?_); rintro e w_ ⟨rfl, rfl⟩)))
    generalize p - 9007199254740992 = P at *
    go_wp2_with (first
      | (go_at_call 17; first | ((with_reducible refine (H1.out _).mono ?_); rintro e w_ ⟨rfl, rfl⟩) | ((with_reducible refine (H2.out _).mono ?_); rintro e w_ ⟨rfl, rfl⟩) | ((with_reducible refine (H3.out _).mono ?_); rintro e w_ ⟨rfl, rfl⟩))
      | (go_at_call 22; first | ((with_reducible refine (O1.out _).mono ?_); rintro e w_ ⟨rfl, rfl⟩) | ((with_reducible refine (O2.out _).mono ?_); rintro e w_ ⟨rfl, rfl⟩) | ((with_reducible refine (O3.out _).mono ?_); rintro e w_ ⟨rfl, rfl⟩))
      | (go_at_call 11; first | ((with_reducible refine (K1.out _).mono ?_); rintro e w_ ⟨rfl, rfl⟩) | ((with_reducible refine (K2.out _).mono ?_); rintro e w_ ⟨rfl, rfl⟩))
      | (go_at_call 15; ((with_reducible refine (HL.out _).mono ?_); rintro e w_ ⟨rfl, rfl⟩)))
    go_ret
    exact ⟨rfl, HB.out⟩
  · rw [decide_eq_false (by omega)] at HL
    have d1 : decide (p - 9007199254740992 < q - 9007199254740992) = false := decide_eq_false (by omega)
    have d2 : (p - 9007199254740992 == q - 9007199254740992) = false := by rw [beq_eq_false_iff_ne]; omega
    rw [d2] at hI
    clear c
    go_enter Try.func7, Try.ntmps7
    go_wp2_with fail
    refine (lawake_calls _).mono ?_
    rintro e w1 ⟨rfl, hb_⟩
    have n_ := Aside0.mk (below_step (by repeat (first | exact HB.out | apply below_alloc | apply pw_below_drewN | apply below_drew1 | refine below_set ?_ (by first | omega | (simp; omega)))) hb_); clear HB hb_; have HB := n_; clear n_
    go_upto_region 7 with (first
      | (go_at_call 17; first | ((with_reducible refine (H1.out _).mono ?_); rintro e w_ ⟨rfl, rfl⟩) | ((with_reducible refine (H2.out _).mono ?_); rintro e w_ ⟨rfl, rfl⟩) | ((with_reducible refine (H3.out _).mono ?_); rintro e w_ ⟨rfl, rfl⟩))
      | (go_at_call 22; first | ((with_reducible refine (O1.out _).mono ?_); rintro e w_ ⟨rfl, rfl⟩) | ((with_reducible refine (O2.out _).mono ?_); rintro e w_ ⟨rfl, rfl⟩) | ((with_reducible refine (O3.out _).mono ?_); rintro e w_ ⟨rfl, rfl⟩) | ((with_reducible refine (O4.out _).mono ?_); rintro e w_ ⟨rfl, rfl⟩))
      | (go_at_call 11; first | ((with_reducible refine (K1.out _).mono ?_); rintro e w_ ⟨rfl, rfl⟩) | ((with_reducible refine (K2.out _).mono ?_); rintro e w_ ⟨rfl, rfl⟩))
      | (go_at_call 15; ((with_reducible refine (HL.out _).mono ?_); rintro e w_ ⟨rfl, rfl⟩)))
    generalize p - 9007199254740992 = P at *
    generalize q - 9007199254740992 = Q at *
    go_wp2_with (first
      | (go_at_call 17; first | ((with_reducible refine (H1.out _).mono ?_); rintro e w_ ⟨rfl, rfl⟩) | ((with_reducible refine (H2.out _).mono ?_); rintro e w_ ⟨rfl, rfl⟩) | ((with_reducible refine (H3.out _).mono ?_); rintro e w_ ⟨rfl, rfl⟩))
      | (go_at_call 22; first | ((with_reducible refine (O1.out _).mono ?_); rintro e w_ ⟨rfl, rfl⟩) | ((with_reducible refine (O2.out _).mono ?_); rintro e w_ ⟨rfl, rfl⟩) | ((with_reducible refine (O3.out _).mono ?_); rintro e w_ ⟨rfl, rfl⟩) | ((with_reducible refine (O4.out _).mono ?_); rintro e w_ ⟨rfl, rfl⟩))
      | (go_at_call 11; first | ((with_reducible refine (K1.out _).mono ?_); rintro e w_ ⟨rfl, rfl⟩) | ((with_reducible refine (K2.out _).mono ?_); rintro e w_ ⟨rfl, rfl⟩))
      | (go_at_call 15; ((with_reducible refine (HL.out _).mono ?_); rintro e w_ ⟨rfl, rfl⟩)))
    go_ret
    exact ⟨rfl, HB.out⟩

set_option maxRecDepth 100000 in
theorem lagWhole_lifted (os : Os) (started : os.Started) (H : Type) (enc : TypeId × Value → H) :
    ReturnsInHanded {} Try.checked os 7 .any (Rows.lagWholeSpec.pre6 enc Try.prog Try.f7 Rows.lagWholeRow.domain false) (Rows.lagWholeSpec.post enc Try.prog Try.f7 false true false false) := by
  refine returnsInHanded_of_change_sized (C := Try.checked) own started (by kernel_rfl) Try.func7
    (ChangeSpec.witness6 (enc := enc) (C := Try.checked) false ⟨#[], #[.int .i64 0, .int .i64 0], []⟩ 8 (by kernel_rfl) (by kernel_rfl) (by kernel_rfl) (by kernel_rfl)) ?_
  intro W base args ds gs before hval0 hW hcnd hsz0 _
  have hsz : (DataW.weightsEach Try.prog (Try.f7.params.toList ++ Rows.lagWholeSpec.plain.varTypes Try.prog) (ds ++ gs)).all (· ≤ reachBytes) = true := hsz0
  have hval : ∀ (j : Nat) t v, Try.f7.params[j]? = some t → args[j]? = some v → Value.okWide Try.prog W .any base t v := hval0
  have hW' := hW
  obtain ⟨p, q, hA0, hV, rfl, hfz, hnd⟩ := hW
  have hA : DataW.TrodAll enc Try.prog W 0 (fun _ => true) true Try.f7.params.toList args.toList ds p := hA0
  have hAll := hA
  rw [Try.params7] at hA hval hsz
  obtain ⟨v0, vs0, d0, ds0, p0, q0, hargs, rfl, rfl, h0, r0⟩ := trodAll_cons hA
  obtain ⟨v1, vs1, d1, ds1, p1, q1, rfl, rfl, rfl, h1, r1⟩ := trodAll_cons r0
  obtain ⟨rfl, rfl, rfl⟩ := trodAll_nil r1
  obtain rfl : args = #[v0, v1] := by cases args; simp_all
  obtain ⟨rfl, rfl⟩ := trodVars_none hV
  have hlt := trodAll_lt hAll
  obtain ⟨n, rfl, rfl, rfl, w0⟩ := open_int Try.underlying3 (hval 0 3 v0 rfl rfl) h0
  obtain ⟨m, rfl, rfl, rfl, w1⟩ := open_int Try.underlying3 (hval 1 3 v1 rfl rfl) h1
  clear hA0 hval0 hsz0 hsz
  refine (LagWhole_calls n m (bounds_i64 w0) (bounds_i64 w1) W).mono fun e W' ⟨he, bel⟩ => ?_
  subst he
  exact ⟨_, rfl, _, _, _, [], _, [], hW', trodAll_mk1 (shut_bool Try.underlying4 _), below_trodAll laidOut bel (by kernel_rfl) hAll hlt, rfl, bel.frame _, fun h => by cases h⟩
theorem lagWhole_over : Rows.lagWholeRow.holds Try.pinned (OpenSpec.ofChange Rows.lagWholeSpec) :=
  OpenClaim.holds_of_wide 7 Try.f7 rfl rfl rfl rfl rfl rfl rfl ⟨rfl, rfl, rfl, rfl, rfl⟩ rfl rfl rfl rfl rfl (by kernel_rfl) Try.func7 (by kernel_rfl)
    (of_decide_eq_true (by kernel_rfl)) (by unfold Func.isWrapper; first | (rw [if_pos (by decide +kernel)]; kernel_rfl) | (rw [if_neg (by decide +kernel)]; exact ⟨rfl, rfl⟩))
    (fun os started H enc _ => lagWhole_lifted os started H enc)
theorem lagWhole_holds : Rows.LagWholeSaid := lagWhole_over
#print axioms lagWhole_holds
end Go.Proofs.Ytcgonhnfpnmlcaa
