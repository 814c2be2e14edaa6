
/- What lag.Scale tells of a normal float's word. -/
import Derived.Test.YtcgonhnfpnmlcaaLagLdexp
set_option linter.unusedVariables false
set_option linter.unusedSimpArgs false
namespace Go.Proofs.Ytcgonhnfpnmlcaa
open Go.RowKit Go.Proofs.YtcgonhnfpnmlcaaW.PrintWords Go.Proofs.YtcgonhnfpnmlcaaW.PrintLast Go.Proofs.YtcgonhnfpnmlcaaW.PrintMore
attribute [local go_sem] max2_int min2_int max_two min_two

theorem frombits_inf (w : World) : (callFunc 24 #[.int .u64 9218868437227405312]).run Try.prog w = .ok (.value (.float .f64 9218868437227405312)) w := frombits_run _ _
theorem frombits_low (w : World) : (callFunc 24 #[.int .u64 18442240474082181120]).run Try.prog w = .ok (.value (.float .f64 18442240474082181120)) w := frombits_run _ _
theorem f64bits_zero (w : World) : (callFunc 29 #[.float .f64 0]).run Try.prog w = .ok (.value (.int .u64 0)) w := f64bits_run _ _
theorem InfP_calls (w : World) : Calls Try.prog 41 #[.int .i64 1] w fun e w' => e = .returned (.float .f64 9218868437227405312) ∧ w = w' := by
  have h := frombits_inf
  go_enter Try.func41, Try.ntmps41
  go_wp2
  go_ret
  exact ⟨rfl, rfl⟩
theorem InfN_calls (w : World) : Calls Try.prog 41 #[.int .i64 (-1)] w fun e w' => e = .returned (.float .f64 18442240474082181120) ∧ w = w' := by
  have h := frombits_low
  go_enter Try.func41, Try.ntmps41
  go_wp2
  go_ret
  exact ⟨rfl, rfl⟩
theorem Copy_calls (x : Nat) (hx : x < 18446744073709551616) (w : World) : Calls Try.prog 40 #[.float .f64 0, .float .f64 x] w fun e w' => e = .returned (.float .f64 (x / 9223372036854775808 * 9223372036854775808 : Nat)) ∧ w = w' := by
  have h0 := f64bits_zero
  have h1 := f64bits_run x
  have h2 := and_top x hx
  have h3 : bits BinOp.andNot IntKind.u64 0 9223372036854775808 = 0 := by decide
  have hz : x / 9223372036854775808 * 9223372036854775808 < 18446744073709551616 := by omega
  generalize x / 9223372036854775808 * 9223372036854775808 = z at *
  have h4 : bits BinOp.or IntKind.u64 0 (z : Int) = (z : Int) := by
    have := u64_or_nat 0 z (by omega) hz
    rw [Nat.zero_or] at this
    exact this
  have h5 := frombits_run z
  go_enter Try.func40, Try.ntmps40
  go_wp2
  go_ret
  exact ⟨rfl, rfl⟩
theorem lt_zero (x : Nat) (hx : x < 18446744073709551616) (h : x % 9223372036854775808 < 9218868437227405312) (h0 : 0 < x % 9223372036854775808) : (Ieee.double.order x 0 == some .lt) = decide (9223372036854775808 ≤ x) := by
  rw [order_val x 0 (by omega) (by decide), Bool.eq_iff_iff]
  simp only [beq_iff_eq, Option.some.injEq, Int.compare_eq_lt, decide_eq_true_eq]
  have e2 : val 0 = 0 := by decide
  have h3 : mag 0 < mag (x % 9223372036854775808) := mag_mono h0
  rw [mag_zero] at h3
  rw [e2]
  unfold val
  rcases Nat.lt_or_ge x 9223372036854775808 with h4 | h4
  · rw [show x / 9223372036854775808 = 0 by omega]
    simp only [show ((0 % 2 : Nat) == 1) = false from rfl, Bool.false_eq_true, if_false]
    omega
  · rw [show x / 9223372036854775808 = 1 by omega]
    simp only [show ((1 % 2 : Nat) == 1) = true from rfl, if_true]
    omega
set_option maxRecDepth 100000 in
set_option maxHeartbeats 2000000 in
theorem ldexp_zero (x s E fr sg : Nat) (h : NormW x s E fr sg) (k : Int) (hk : -5000 ≤ k ∧ k ≤ 5000) (hd : k + ((E : Int) - 1023) < -1075) (w : World) :
    Calls Try.prog 36 #[.float .f64 x, .int .i64 k] w fun e w' => e = .returned (.float .f64 (sg * 9223372036854775808)) ∧ w = w' := by
  obtain ⟨hx, hs, sg1, E1, E2, fr1⟩ := h
  have hxl : x < 18446744073709551616 := by omega
  have hsx : x % 9223372036854775808 = s := by omega
  have hz : (FloatKind.f64.format.order x 0 == some Ordering.eq) = false := (zero_iff x).trans (decide_eq_false (by omega))
  have HI := Aside0.mk (fun w => IsInf_calls x hxl w)
  rw [decide_eq_false (show ¬ x % 9223372036854775808 = 9218868437227405312 by omega)] at HI
  have HN := Aside0.mk (fun w => isNaN_v x false w (decide_eq_false (by omega)))
  have HM := Aside0.mk (fun w => normal_calls x hxl (by omega) (by omega) w)
  have hb := f64bits_run x
  have hand := (NormW.mk hx hs sg1 E1 E2 fr1).and
  have HC := Aside0.mk (fun w => Copy_calls x hxl w)
  rw [show x / 9223372036854775808 = sg by omega] at HC
  have HX := Aside0.mk (And.intro hx hs)
  clear hx hs hsx
  go_enter Try.func36, Try.ntmps36
  go_wp2_with (first
    | (go_at_call 38; ((with_reducible refine (HI.out _).mono ?_)); rintro e w_ ⟨rfl, rfl⟩)
    | (go_at_call 25; ((with_reducible refine (HN.out _).mono ?_)); rintro e w_ ⟨rfl, rfl⟩)
    | (go_at_call 39; ((with_reducible refine (HM.out _).mono ?_)); rintro e w_ ⟨rfl, rfl⟩)
    | (go_at_call 40; ((with_reducible refine (HC.out _).mono ?_)); rintro e w_ ⟨rfl, rfl⟩))
  go_ret
  exact ⟨rfl, rfl⟩
set_option maxRecDepth 100000 in
set_option maxHeartbeats 2000000 in
theorem ldexp_pos (x s E fr sg : Nat) (h : NormW x s E fr sg) (h0 : sg = 0) (k : Int) (hk : -5000 ≤ k ∧ k ≤ 5000) (hd : 1023 < k + ((E : Int) - 1023)) (w : World) :
    Calls Try.prog 36 #[.float .f64 x, .int .i64 k] w fun e w' => e = .returned (.float .f64 (9218868437227405312)) ∧ w = w' := by
  obtain ⟨hx, hs, sg1, E1, E2, fr1⟩ := h
  have hxl : x < 18446744073709551616 := by omega
  have hsx : x % 9223372036854775808 = s := by omega
  have hz : (FloatKind.f64.format.order x 0 == some Ordering.eq) = false := (zero_iff x).trans (decide_eq_false (by omega))
  have HI := Aside0.mk (fun w => IsInf_calls x hxl w)
  rw [decide_eq_false (show ¬ x % 9223372036854775808 = 9218868437227405312 by omega)] at HI
  have HN := Aside0.mk (fun w => isNaN_v x false w (decide_eq_false (by omega)))
  have HM := Aside0.mk (fun w => normal_calls x hxl (by omega) (by omega) w)
  have hb := f64bits_run x
  have hand := (NormW.mk hx hs sg1 E1 E2 fr1).and
  have hlt : (FloatKind.f64.format.order x 0 == some Ordering.lt) = false := (lt_zero x hxl (by omega) (by omega)).trans (decide_eq_false (by omega))
  have HX := Aside0.mk (And.intro hx hs)
  clear hx hs hsx
  go_enter Try.func36, Try.ntmps36
  go_wp2_with (first
    | (go_at_call 38; ((with_reducible refine (HI.out _).mono ?_)); rintro e w_ ⟨rfl, rfl⟩)
    | (go_at_call 25; ((with_reducible refine (HN.out _).mono ?_)); rintro e w_ ⟨rfl, rfl⟩)
    | (go_at_call 39; ((with_reducible refine (HM.out _).mono ?_)); rintro e w_ ⟨rfl, rfl⟩)
    | (go_at_call 41; ((with_reducible refine (InfP_calls _).mono ?_)); rintro e w_ ⟨rfl, rfl⟩))
  go_ret
  exact ⟨rfl, rfl⟩
set_option maxRecDepth 100000 in
set_option maxHeartbeats 2000000 in
theorem ldexp_neg (x s E fr sg : Nat) (h : NormW x s E fr sg) (h0 : sg = 1) (k : Int) (hk : -5000 ≤ k ∧ k ≤ 5000) (hd : 1023 < k + ((E : Int) - 1023)) (w : World) :
    Calls Try.prog 36 #[.float .f64 x, .int .i64 k] w fun e w' => e = .returned (.float .f64 (18442240474082181120)) ∧ w = w' := by
  obtain ⟨hx, hs, sg1, E1, E2, fr1⟩ := h
  have hxl : x < 18446744073709551616 := by omega
  have hsx : x % 9223372036854775808 = s := by omega
  have hz : (FloatKind.f64.format.order x 0 == some Ordering.eq) = false := (zero_iff x).trans (decide_eq_false (by omega))
  have HI := Aside0.mk (fun w => IsInf_calls x hxl w)
  rw [decide_eq_false (show ¬ x % 9223372036854775808 = 9218868437227405312 by omega)] at HI
  have HN := Aside0.mk (fun w => isNaN_v x false w (decide_eq_false (by omega)))
  have HM := Aside0.mk (fun w => normal_calls x hxl (by omega) (by omega) w)
  have hb := f64bits_run x
  have hand := (NormW.mk hx hs sg1 E1 E2 fr1).and
  have hlt : (FloatKind.f64.format.order x 0 == some Ordering.lt) = true := (lt_zero x hxl (by omega) (by omega)).trans (decide_eq_true (by omega))
  have HX := Aside0.mk (And.intro hx hs)
  clear hx hs hsx
  go_enter Try.func36, Try.ntmps36
  go_wp2_with (first
    | (go_at_call 38; ((with_reducible refine (HI.out _).mono ?_)); rintro e w_ ⟨rfl, rfl⟩)
    | (go_at_call 25; ((with_reducible refine (HN.out _).mono ?_)); rintro e w_ ⟨rfl, rfl⟩)
    | (go_at_call 39; ((with_reducible refine (HM.out _).mono ?_)); rintro e w_ ⟨rfl, rfl⟩)
    | (go_at_call 41; ((with_reducible refine (InfN_calls _).mono ?_)); rintro e w_ ⟨rfl, rfl⟩))
  go_ret
  exact ⟨rfl, rfl⟩
theorem Ldexp_of (x : Nat) (k : Int) (R : Nat) (h : ∀ w, Calls Try.prog 36 #[.float .f64 x, .int .i64 k] w fun e w' => e = .returned (.float .f64 R) ∧ w = w') (w : World) : Calls Try.prog 30 #[.float .f64 x, .int .i64 k] w fun e w' => e = .returned (.float .f64 R) ∧ w = w' := by
  have H := Aside0.mk h
  clear h
  go_enter Try.func30, Try.ntmps30
  go_wp2_with (go_at_call 36; ((with_reducible refine (H.out _).mono ?_)); rintro e w_ ⟨rfl, rfl⟩)
  go_ret
  exact ⟨rfl, rfl⟩
/-- The power that is taken. -/
def clampF (k : Int) : Int := if 5000 < (if k < -5000 then -5000 else k) then 5000 else (if k < -5000 then -5000 else k)
theorem clamp_bd (k : Int) : -5000 ≤ clampF k ∧ clampF k ≤ 5000 := by
  unfold clampF
  (repeat' split) <;> omega
theorem clamp_in (k : Int) (h : -5000 ≤ k ∧ k ≤ 5000) : clampF k = k := by
  unfold clampF
  rw [if_neg (show ¬ k < -5000 by omega), if_neg (by omega)]
theorem Scale_of (x : Nat) (k : Int) (R : Nat) (h : ∀ w, Calls Try.prog 36 #[.float .f64 x, .int .i64 (clampF k)] w fun e w' => e = .returned (.float .f64 R) ∧ w = w') (w : World) : Calls Try.prog 18 #[.int .u64 x, .int .i64 k] w fun e w' => e = .returned (.int .u64 (plainF R)) ∧ w = w' := by
  have hfx := frombits_run x
  have hfr := f64bits_run R
  have H := Aside0.mk (Ldexp_of x (clampF k) R h)
  clear h
  obtain ⟨m, hm⟩ : ∃ m, (if k < -5000 then -5000 else k) = m := ⟨_, rfl⟩
  have hc : (if 5000 < m then 5000 else m) = clampF k := by rw [← hm]; rfl
  go_enter Try.func18, Try.ntmps18
  go_wp2_with (first
    | (go_at_call 30; ((with_reducible refine (H.out _).mono ?_)); rintro e w_ ⟨rfl, rfl⟩)
    | (go_at_call 13; ((with_reducible refine (Plain_calls R _).mono ?_)); rintro e w_ ⟨rfl, rfl⟩))
  go_ret
  exact ⟨rfl, rfl⟩
end Go.Proofs.Ytcgonhnfpnmlcaa
