
/- LagTicks: for every input the call of the statement returns true and leaves its arguments as they were. Conditions: none beyond the row's own. -/
import Derived.Test.YtcgonhnfpnmlcaaShellG
import Derived.Test.YtcgonhnfpnmlcaaLagWholeLaw
set_option linter.unusedVariables false
set_option linter.unusedSimpArgs false
namespace Go.Proofs.Ytcgonhnfpnmlcaa
open Go.RowKit Go.Proofs.YtcgonhnfpnmlcaaW.PrintWords Go.Proofs.YtcgonhnfpnmlcaaW.PrintLast Go.Proofs.YtcgonhnfpnmlcaaW.PrintMore
open Go.ChangeShapes Go.WideShapes Go.ChangeAt
open Go.ChangeMaps (open_string shut_string)

theorem PlainVal (x y : Nat) (w : World) (h : plainF x = y) : Calls Try.prog 13 #[.int .u64 x] w fun e w' => e = .returned (.int .u64 y) ∧ w = w' := h ▸ Plain_calls x w
theorem e40 : mag 4787326403894837248 = 1099511627776 * U1 := by decide +kernel
/-- How many ticks a float has. -/
theorem tick_spec (x : Nat) (hx : x < 18446744073709551616) (h : x % 9223372036854775808 ≤ 9218868437227405312) : (tickN x = 0 ∧ val x ≤ 0) ∨ (tickN x = 1099511627776 ∧ ((1099511627776 * U1 : Nat) : Int) < val x) ∨
    (1 ≤ tickN x ∧ tickN x ≤ 1099511627776 ∧ (((tickN x - 1) * U1 : Nat) : Int) < val x ∧ val x ≤ ((tickN x * U1 : Nat) : Int)) := by
  unfold tickN
  by_cases h2 : 9223372036854775808 ≤ x ∨ x = 0
  · rw [if_pos h2]
    refine Or.inl ⟨rfl, ?_⟩
    rcases h2 with h2 | rfl
    · unfold val
      rw [show x / 9223372036854775808 % 2 = 1 by omega, if_pos (by decide)]
      omega
    · decide
  · rw [if_neg h2]
    have hv := val_nat x (by omega)
    by_cases h3 : 4787326403894837248 < x
    · rw [if_pos h3]
      refine Or.inr (Or.inl ⟨rfl, ?_⟩)
      have := mag_mono h3
      rw [e40] at this
      omega
    · rw [if_neg h3]
      obtain ⟨t1, t2, t3⟩ := tick_mid x (by omega) (by omega)
      obtain ⟨c1, c2⟩ := ceil_bd x (by omega) (by omega)
      exact Or.inr (Or.inr ⟨c1, c2, by omega, by omega⟩)
theorem less_val (x y : Nat) (hx : x < 18446744073709551616) (hy : y < 18446744073709551616) (h1 : x % 9223372036854775808 ≤ 9218868437227405312) (h2 : y % 9223372036854775808 ≤ 9218868437227405312) : lessF x y = decide (val x < val y) := by
  unfold lessF
  congr 1
  rw [eq_iff_iff]
  exact (val_rank x y hx hy h1 h2).symm
theorem less_of (n x : Nat) (hn : n ≤ 1099511627776) (hx : x < 18446744073709551616) (h : x % 9223372036854775808 ≤ 9218868437227405312) : lessF (ofW (n : Int)) x = decide (((n * U1 : Nat) : Int) < val x) := by
  obtain ⟨e1, a1, a2⟩ := ofW_val (n : Int) (by omega)
  rw [less_val _ _ a2 hx (by omega) h, e1, Int.natCast_mul]
theorem mul_mono (a b : Nat) (h : a ≤ b) : a * U1 ≤ b * U1 := Nat.mul_le_mul_right _ h
theorem tick_zero (x : Nat) (hx : x < 18446744073709551616) (h : x % 9223372036854775808 ≤ 9218868437227405312) (h0 : tickN x = 0) : lessF 0 x = false := by
  have e := less_of 0 x (by omega) hx h
  rw [show ofW ((0 : Nat) : Int) = 0 from ofW_zero] at e
  rw [e, Nat.zero_mul]
  rcases tick_spec x hx h with ⟨_, s⟩ | ⟨s, _⟩ | ⟨s, _⟩
  · exact decide_eq_false (by omega)
  · omega
  · omega
theorem tick_some (x : Nat) (hx : x < 18446744073709551616) (h : x % 9223372036854775808 ≤ 9218868437227405312) (h0 : 0 < tickN x) : lessF 0 x = true ∧ lessF (ofW ((tickN x - 1 : Nat) : Int)) x = true ∧ tickN x ≤ 1099511627776 := by
  have e := less_of 0 x (by omega) hx h
  rw [show ofW ((0 : Nat) : Int) = 0 from ofW_zero, Nat.zero_mul] at e
  have hp := U1_pos
  rcases tick_spec x hx h with ⟨s, _⟩ | ⟨s, s2⟩ | ⟨s1, s2, s3, s4⟩
  · omega
  · have e2 := less_of (tickN x - 1) x (by omega) hx h
    have m1 := mul_mono (tickN x - 1) 1099511627776 (by omega)
    rw [e, e2]
    exact ⟨decide_eq_true (by omega), decide_eq_true (by omega), by omega⟩
  · have e2 := less_of (tickN x - 1) x (by omega) hx h
    rw [e, e2]
    exact ⟨decide_eq_true (by omega), decide_eq_true (by omega), by omega⟩
theorem tick_not (x : Nat) (hx : x < 18446744073709551616) (h : x % 9223372036854775808 ≤ 9218868437227405312) (h0 : tickN x < 1099511627776) : lessF (ofW (tickN x : Int)) x = false := by
  rw [less_of _ x (by omega) hx h]
  rcases tick_spec x hx h with ⟨s, s2⟩ | ⟨s, s2⟩ | ⟨s1, s2, s3, s4⟩
  · rw [s]
    exact decide_eq_false (by omega)
  · omega
  · exact decide_eq_false (by omega)
theorem tick_mono (x y : Nat) (hx : x < 18446744073709551616) (h : x % 9223372036854775808 ≤ 9218868437227405312) (hy : y < 18446744073709551616) (h2 : y % 9223372036854775808 ≤ 9218868437227405312) (hl : lessF x y = true) : tickN x ≤ tickN y := by
  rw [less_val x y hx hy h h2, decide_eq_true_eq] at hl
  rcases Nat.lt_or_ge (tickN y) (tickN x) with g | g
  · exfalso
    have m1 := mul_mono (tickN y) (tickN x - 1) (by omega)
    have hp := U1_pos
    rcases tick_spec x hx h with ⟨s, s2⟩ | ⟨s, s2⟩ | ⟨s1, s2, s3, s4⟩
    · omega
    · have m2 := mul_mono (tickN y) 1099511627776 (by omega)
      rcases tick_spec y hy h2 with ⟨q, q2⟩ | ⟨q, q2⟩ | ⟨q1, q2, q3, q4⟩ <;> omega
    · rcases tick_spec y hy h2 with ⟨q, q2⟩ | ⟨q, q2⟩ | ⟨q1, q2, q3, q4⟩ <;> omega
  · exact g
set_option maxRecDepth 100000 in
set_option maxHeartbeats 4000000 in
theorem LagTicks_nan (a b : Nat) (ha : a < 18446744073709551616) (hb : b < 18446744073709551616) (hn : 9218868437227405312 < a % 9223372036854775808) (w : World) : Calls Try.prog 8 #[.int .u64 a, .int .u64 b] w fun e w' => e = .returned (.bool true) ∧ Below w.heap.size w w' := by
  have K1 := Aside0.mk (fun w => TicksV a 0 1 ha w (by unfold tickV tickE; rw [if_pos hn, if_pos hn]; exact ⟨rfl, rfl⟩))
  have K2 := Aside0.mk (fun w => Ticks_calls b hb w)
  have P1 := Aside0.mk (fun w => PlainVal a 9221120237041090561 w (by unfold plainF; rw [if_pos hn]))
  generalize tickV b = u at *
  generalize tickE b = f at *
  clear ha hb hn
  have HB := Aside0.mk (Below.refl w.heap.size w)
  go_enter Try.func8, Try.ntmps8
  go_wp2_with fail
  refine (lawake_calls _).mono ?_
  rintro e w1 ⟨rfl, hb_⟩
  have n_ := Aside0.mk (below_step (by repeat (first | exact HB.out | apply below_alloc | apply pw_below_drewN | apply below_drew1 | refine below_set ?_ (by first | omega | (simp; omega)))) hb_); clear HB hb_; have HB := n_; clear n_
  go_wp2_with (first
    | (go_at_call 11; first | ((with_reducible refine (K1.out _).mono ?_); rintro e w_ ⟨rfl, rfl⟩) | ((with_reducible refine (K2.out _).mono ?_); rintro e w_ ⟨rfl, rfl⟩))
    | (go_at_call 13; ((with_reducible refine (P1.out _).mono ?_); rintro e w_ ⟨rfl, rfl⟩)))
  go_ret
  exact ⟨rfl, HB.out⟩
/-- What the walk is told of b. -/
def TellB (lab : Bool) (f t u : Int) : Prop := f = 1 ∨ (f = 0 ∧ lab = false) ∨ (f = 0 ∧ lab = true ∧ t ≤ u)
set_option maxRecDepth 100000 in
set_option maxHeartbeats 8000000 in
theorem LagTicks_walk (a b : Nat) (t u f : Int) (l0 lab : Bool) (hz : (t = 0 ∧ l0 = false) ∨ (0 < t ∧ t < 1099511627776 ∧ l0 = true) ∨ (t = 1099511627776 ∧ l0 = true)) (hB : TellB lab f t u)
    (K1 : Aside0 (∀ w, Calls Try.prog 11 #[.int .u64 a] w fun r w' => r = .returned (.tuple #[.int .i64 t, .int .i64 0]) ∧ w = w')) (K2 : Aside0 (∀ w, Calls Try.prog 11 #[.int .u64 b] w fun r w' => r = .returned (.tuple #[.int .i64 u, .int .i64 f]) ∧ w = w'))
    (L0 : Aside0 (∀ w, Calls Try.prog 15 #[.int .u64 0, .int .u64 a] w fun e w' => e = .returned (.bool l0) ∧ w = w')) (L1 : Aside0 (∀ w, Calls Try.prog 15 #[.int .u64 a, .int .u64 b] w fun e w' => e = .returned (.bool lab) ∧ w = w'))
    (L2 : 0 < t → ∃ r : Nat, Aside0 (∀ w, Calls Try.prog 22 #[.int .i64 (t - 1)] w fun e w' => e = .returned (.int .u64 r) ∧ w = w') ∧ Aside0 (∀ w, Calls Try.prog 15 #[.int .u64 r, .int .u64 a] w fun e w' => e = .returned (.bool true) ∧ w = w'))
    (L3 : t < 1099511627776 → ∃ r : Nat, Aside0 (∀ w, Calls Try.prog 22 #[.int .i64 t] w fun e w' => e = .returned (.int .u64 r) ∧ w = w') ∧ Aside0 (∀ w, Calls Try.prog 15 #[.int .u64 r, .int .u64 a] w fun e w' => e = .returned (.bool false) ∧ w = w'))
    (w : World) : Calls Try.prog 8 #[.int .u64 a, .int .u64 b] w fun e w' => e = .returned (.bool true) ∧ Below w.heap.size w w' := by
  have HB := Aside0.mk (Below.refl w.heap.size w)
  have HT := Aside0.mk hB
  clear hB
  rcases hz with ⟨rfl, rfl⟩ | ⟨c1, c2, rfl⟩ | ⟨rfl, rfl⟩
  · obtain ⟨r, R1, R2⟩ := L3 (by omega)
    clear L2 L3
    rcases HT.out with rfl | ⟨rfl, rfl⟩ | ⟨rfl, rfl, hu⟩
    all_goals
      clear HT
      go_enter Try.func8, Try.ntmps8
      go_wp2_with fail
      refine (lawake_calls _).mono ?_
      rintro e w1 ⟨rfl, hb_⟩
      have n_ := Aside0.mk (below_step (by repeat (first | exact HB.out | apply below_alloc | apply pw_below_drewN | apply below_drew1 | refine below_set ?_ (by first | omega | (simp; omega)))) hb_); clear HB hb_; have HB := n_; clear n_
      go_wp2_with (first
        | (go_at_call 11; first | ((with_reducible refine (K1.out _).mono ?_); rintro e w_ ⟨rfl, rfl⟩) | ((with_reducible refine (K2.out _).mono ?_); rintro e w_ ⟨rfl, rfl⟩))
        | (go_at_call 22; ((with_reducible refine (R1.out _).mono ?_); rintro e w_ ⟨rfl, rfl⟩))
        | (go_at_call 15; first | ((with_reducible refine (L0.out _).mono ?_); rintro e w_ ⟨rfl, rfl⟩) | ((with_reducible refine (L1.out _).mono ?_); rintro e w_ ⟨rfl, rfl⟩) | ((with_reducible refine (R2.out _).mono ?_); rintro e w_ ⟨rfl, rfl⟩)))
      go_ret
      exact ⟨rfl, HB.out⟩
  · obtain ⟨r, R1, R2⟩ := L3 (by omega)
    obtain ⟨s, S1, S2⟩ := L2 (by omega)
    clear L2 L3
    have d1 : decide (t < 0) = false := decide_eq_false (by omega)
    have d2 : decide (1099511627776 < t) = false := decide_eq_false (by omega)
    have d3 : (t == 0) = false := by rw [beq_eq_false_iff_ne]; omega
    have d4 : decide (0 < t) = true := decide_eq_true (by omega)
    have d5 : decide (t < 1099511627776) = true := decide_eq_true (by omega)
    rcases HT.out with rfl | ⟨rfl, rfl⟩ | ⟨rfl, rfl, hu⟩
    all_goals
      clear HT
      go_enter Try.func8, Try.ntmps8
      go_wp2_with fail
      refine (lawake_calls _).mono ?_
      rintro e w1 ⟨rfl, hb_⟩
      have n_ := Aside0.mk (below_step (by repeat (first | exact HB.out | apply below_alloc | apply pw_below_drewN | apply below_drew1 | refine below_set ?_ (by first | omega | (simp; omega)))) hb_); clear HB hb_; have HB := n_; clear n_
      go_wp2_with (first
        | (go_at_call 11; first | ((with_reducible refine (K1.out _).mono ?_); rintro e w_ ⟨rfl, rfl⟩) | ((with_reducible refine (K2.out _).mono ?_); rintro e w_ ⟨rfl, rfl⟩))
        | (go_at_call 22; first | ((with_reducible refine (R1.out _).mono ?_); rintro e w_ ⟨rfl, rfl⟩) | ((with_reducible refine (S1.out _).mono ?_); rintro e w_ ⟨rfl, rfl⟩))
        | (go_at_call 15; first | ((with_reducible refine (L0.out _).mono ?_); rintro e w_ ⟨rfl, rfl⟩) | ((with_reducible refine (L1.out _).mono ?_); rintro e w_ ⟨rfl, rfl⟩) | ((with_reducible refine (R2.out _).mono ?_); rintro e w_ ⟨rfl, rfl⟩) | ((with_reducible refine (S2.out _).mono ?_); rintro e w_ ⟨rfl, rfl⟩)))
      go_ret
      exact ⟨rfl, HB.out⟩
  · obtain ⟨s, S1', S2⟩ := L2 (by omega)
    have S1 : Aside0 (∀ w, Calls Try.prog 22 #[.int .i64 1099511627775] w fun e w' => e = .returned (.int .u64 s) ∧ w = w') := S1'
    clear L2 L3 S1'
    rcases HT.out with rfl | ⟨rfl, rfl⟩ | ⟨rfl, rfl, hu⟩
    all_goals
      clear HT
      go_enter Try.func8, Try.ntmps8
      go_wp2_with fail
      refine (lawake_calls _).mono ?_
      rintro e w1 ⟨rfl, hb_⟩
      have n_ := Aside0.mk (below_step (by repeat (first | exact HB.out | apply below_alloc | apply pw_below_drewN | apply below_drew1 | refine below_set ?_ (by first | omega | (simp; omega)))) hb_); clear HB hb_; have HB := n_; clear n_
      go_wp2_with (first
        | (go_at_call 11; first | ((with_reducible refine (K1.out _).mono ?_); rintro e w_ ⟨rfl, rfl⟩) | ((with_reducible refine (K2.out _).mono ?_); rintro e w_ ⟨rfl, rfl⟩))
        | (go_at_call 22; ((with_reducible refine (S1.out _).mono ?_); rintro e w_ ⟨rfl, rfl⟩))
        | (go_at_call 15; first | ((with_reducible refine (L0.out _).mono ?_); rintro e w_ ⟨rfl, rfl⟩) | ((with_reducible refine (L1.out _).mono ?_); rintro e w_ ⟨rfl, rfl⟩) | ((with_reducible refine (S2.out _).mono ?_); rintro e w_ ⟨rfl, rfl⟩)))
      go_ret
      exact ⟨rfl, HB.out⟩
theorem OfI (n : Int) (m : Int) (h : n = m) (w : World) : Calls Try.prog 22 #[.int .i64 n] w fun e w' => e = .returned (.int .u64 (ofW m)) ∧ w = w' := h ▸ Of_calls n w
theorem LagTicks_calls (a b : Nat) (ha : a < 18446744073709551616) (hb : b < 18446744073709551616) (w : World) : Calls Try.prog 8 #[.int .u64 a, .int .u64 b] w fun e w' => e = .returned (.bool true) ∧ Below w.heap.size w w' := by
  by_cases hn : 9218868437227405312 < a % 9223372036854775808
  · exact LagTicks_nan a b ha hb hn w
  · have hn' : a % 9223372036854775808 ≤ 9218868437227405312 := by omega
    refine LagTicks_walk a b (tickN a : Int) (tickV b) (tickE b) (lessF 0 a) (lessF a b) ?_ ?_ (Aside0.mk (fun w => TicksV a _ _ ha w (by unfold tickV tickE; rw [if_neg hn, if_neg hn]; exact ⟨rfl, rfl⟩))) (Aside0.mk (fun w => Ticks_calls b hb w)) (Aside0.mk (fun w => Less_calls 0 a (by omega) ha w)) (Aside0.mk (fun w => Less_calls a b ha hb w)) ?_ ?_ w
    · rcases Nat.eq_zero_or_pos (tickN a) with h0 | h0
      · exact Or.inl ⟨by omega, tick_zero a ha hn' h0⟩
      · obtain ⟨s1, s2, s3⟩ := tick_some a ha hn' h0
        rcases Nat.lt_or_ge (tickN a) 1099511627776 with h1 | h1
        · exact Or.inr (Or.inl ⟨by omega, by omega, s1⟩)
        · exact Or.inr (Or.inr ⟨by omega, s1⟩)
    · unfold TellB tickE tickV
      by_cases hb2 : 9218868437227405312 < b % 9223372036854775808
      · rw [if_pos hb2]
        exact Or.inl rfl
      · rw [if_neg hb2, if_neg hb2]
        rcases Bool.eq_false_or_eq_true (lessF a b) with g | g
        · exact Or.inr (Or.inr ⟨rfl, g, by have := tick_mono a b ha hn' hb (by omega) g; omega⟩)
        · exact Or.inr (Or.inl ⟨rfl, g⟩)
    · intro h0
      obtain ⟨s1, s2, s3⟩ := tick_some a ha hn' (by omega)
      have hw := (ofW_val ((tickN a - 1 : Nat) : Int) (by omega)).2.2
      exact ⟨_, Aside0.mk (fun w => OfI _ _ (by omega) w), Aside0.mk (fun w => Less_v _ a true hw ha w s2)⟩
    · intro h0
      have s2 := tick_not a ha hn' (by omega)
      have hw := (ofW_val (tickN a : Int) (by omega)).2.2
      exact ⟨_, Aside0.mk (fun w => Of_calls _ w), Aside0.mk (fun w => Less_v _ a false hw ha w s2)⟩

set_option maxRecDepth 100000 in
theorem lagTicks_lifted (os : Os) (started : os.Started) (H : Type) (enc : TypeId × Value → H) :
    ReturnsInHanded {} Try.checked os 8 .any (Rows.lagTicksSpec.pre6 enc Try.prog Try.f8 Rows.lagTicksRow.domain false) (Rows.lagTicksSpec.post enc Try.prog Try.f8 false true false false) := by
  refine returnsInHanded_of_change_sized (C := Try.checked) own started (by kernel_rfl) Try.func8
    (ChangeSpec.witness6 (enc := enc) (C := Try.checked) false ⟨#[], #[.int .u64 0, .int .u64 0], []⟩ 8 (by kernel_rfl) (by kernel_rfl) (by kernel_rfl) (by kernel_rfl)) ?_
  intro W base args ds gs before hval0 hW hcnd hsz0 _
  have hsz : (DataW.weightsEach Try.prog (Try.f8.params.toList ++ Rows.lagTicksSpec.plain.varTypes Try.prog) (ds ++ gs)).all (· ≤ reachBytes) = true := hsz0
  have hval : ∀ (j : Nat) t v, Try.f8.params[j]? = some t → args[j]? = some v → Value.okWide Try.prog W .any base t v := hval0
  have hW' := hW
  obtain ⟨p, q, hA0, hV, rfl, hfz, hnd⟩ := hW
  have hA : DataW.TrodAll enc Try.prog W 0 (fun _ => true) true Try.f8.params.toList args.toList ds p := hA0
  have hAll := hA
  rw [Try.params8] at hA hval hsz
  obtain ⟨v0, vs0, d0, ds0, p0, q0, hargs, rfl, rfl, h0, r0⟩ := trodAll_cons hA
  obtain ⟨v1, vs1, d1, ds1, p1, q1, rfl, rfl, rfl, h1, r1⟩ := trodAll_cons r0
  obtain ⟨rfl, rfl, rfl⟩ := trodAll_nil r1
  obtain rfl : args = #[v0, v1] := by cases args; simp_all
  obtain ⟨rfl, rfl⟩ := trodVars_none hV
  have hlt := trodAll_lt hAll
  obtain ⟨a, rfl, rfl, rfl, w0⟩ := open_int Try.underlying22 (hval 0 22 v0 rfl rfl) h0
  obtain ⟨b, rfl, rfl, rfl, w1⟩ := open_int Try.underlying22 (hval 1 22 v1 rfl rfl) h1
  obtain ⟨a, rfl⟩ := Int.eq_ofNat_of_zero_le (bounds_u64 w0).1
  obtain ⟨b, rfl⟩ := Int.eq_ofNat_of_zero_le (bounds_u64 w1).1
  clear hA0 hval0 hsz0 hsz
  refine (LagTicks_calls a b (by have := (bounds_u64 w0).2; omega) (by have := (bounds_u64 w1).2; omega) W).mono fun e W' ⟨he, bel⟩ => ?_
  subst he
  exact ⟨_, rfl, _, _, _, [], _, [], hW', trodAll_mk1 (shut_bool Try.underlying4 _), below_trodAll laidOut bel (by kernel_rfl) hAll hlt, rfl, bel.frame _, fun h => by cases h⟩
theorem lagTicks_over : Rows.lagTicksRow.holds Try.pinned (OpenSpec.ofChange Rows.lagTicksSpec) :=
  OpenClaim.holds_of_wide 8 Try.f8 rfl rfl rfl rfl rfl rfl rfl ⟨rfl, rfl, rfl, rfl, rfl⟩ rfl rfl rfl rfl rfl (by kernel_rfl) Try.func8 (by kernel_rfl)
    (of_decide_eq_true (by kernel_rfl)) (by unfold Func.isWrapper; first | (rw [if_pos (by decide +kernel)]; kernel_rfl) | (rw [if_neg (by decide +kernel)]; exact ⟨rfl, rfl⟩))
    (fun os started H enc _ => lagTicks_lifted os started H enc)
theorem lagTicks_holds : Rows.LagTicksSaid := lagTicks_over
#print axioms lagTicks_holds
end Go.Proofs.Ytcgonhnfpnmlcaa
