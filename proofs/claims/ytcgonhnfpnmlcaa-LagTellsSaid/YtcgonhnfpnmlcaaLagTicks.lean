
/- What lag.Ticks and lag.Of tell (chapter 3). -/
import Derived.Test.YtcgonhnfpnmlcaaLagScale
import Derived.Test.YtcgonhnfpnmlcaaLagMed2
set_option linter.unusedVariables false
set_option linter.unusedSimpArgs false
namespace Go.Proofs.Ytcgonhnfpnmlcaa
open Go.RowKit Go.Proofs.YtcgonhnfpnmlcaaW.PrintWords Go.Proofs.YtcgonhnfpnmlcaaW.PrintLast Go.Proofs.YtcgonhnfpnmlcaaW.PrintMore

theorem Ticks_nan (x : Nat) (h : 9218868437227405312 < x % 9223372036854775808) (w : World) : Calls Try.prog 11 #[.int .u64 x] w fun e w' => e = .returned (.tuple #[.int .i64 0, .int .i64 1]) ∧ w = w' := by
  have hfx := frombits_run x
  have HN := Aside0.mk (fun w => isNaN_v x true w (decide_eq_true h))
  go_enter Try.func11, Try.ntmps11
  go_wp2_with (go_at_call 25; ((with_reducible refine (HN.out _).mono ?_)); rintro e w_ ⟨rfl, rfl⟩)
  go_ret2
  exact ⟨rfl, rfl⟩
theorem gt_far (s : Nat) (hs : s ≤ 9218868437227405312) : (Ieee.double.order s 4787326403894837248 == some .gt) = decide (4787326403894837248 < s) := by
  rw [order_val s _ (by omega) (by decide), Bool.eq_iff_iff]
  simp only [beq_iff_eq, Option.some.injEq, Int.compare_eq_gt, decide_eq_true_eq]
  have e1 : val s = (mag s : Int) := by unfold val; rw [show s / 9223372036854775808 = 0 by omega, show s % 9223372036854775808 = s by omega]; simp
  have e2 : val 4787326403894837248 = (mag 4787326403894837248 : Int) := by unfold val; rw [show (4787326403894837248 : Nat) / 9223372036854775808 = 0 by omega, show (4787326403894837248 : Nat) % 9223372036854775808 = 4787326403894837248 by omega]; simp
  rw [e1, e2]
  have h3 : mag 4787326403894837248 < mag s ↔ 4787326403894837248 < s := mag_lt
  constructor
  · intro h4; exact h3.1 (by omega)
  · intro h4; have := h3.2 h4; omega
theorem lt_zero2 (x : Nat) (hx : x < 18446744073709551616) (h : x % 9223372036854775808 ≤ 9218868437227405312) (h0 : 0 < x % 9223372036854775808) : (Ieee.double.order x 0 == some .lt) = decide (9223372036854775808 ≤ x) := by
  rw [order_val x 0 h (by decide), Bool.eq_iff_iff]
  simp only [beq_iff_eq, Option.some.injEq, Int.compare_eq_lt, decide_eq_true_eq]
  have e2 : val 0 = 0 := by decide
  have h3 : mag 0 < mag (x % 9223372036854775808) := mag_mono h0
  rw [mag_zero] at h3
  rw [e2]
  unfold val
  rcases Nat.lt_or_ge x 9223372036854775808 with h4 | h4
  · rw [show x / 9223372036854775808 = 0 by omega]
    simp only [show ((0 % 2 : Nat) == 1) = false from rfl, Bool.false_eq_true, if_false]
    omega
  · rw [show x / 9223372036854775808 = 1 by omega]
    simp only [show ((1 % 2 : Nat) == 1) = true from rfl, if_true]
    omega
theorem Ticks_low (x : Nat) (hx : x < 18446744073709551616) (h : x % 9223372036854775808 ≤ 9218868437227405312) (h0 : x % 9223372036854775808 = 0 ∨ 9223372036854775808 ≤ x) (w : World) : Calls Try.prog 11 #[.int .u64 x] w fun e w' => e = .returned (.tuple #[.int .i64 0, .int .i64 0]) ∧ w = w' := by
  have hfx := frombits_run x
  have HN := Aside0.mk (fun w => isNaN_v x false w (decide_eq_false (by omega)))
  have hz : (FloatKind.f64.format.order x 0 == some Ordering.eq) = decide (x % 9223372036854775808 = 0) := zero_iff x
  by_cases h1 : x % 9223372036854775808 = 0
  · rw [decide_eq_true h1] at hz
    clear h h0 h1
    go_enter Try.func11, Try.ntmps11
    go_wp2_with (go_at_call 25; ((with_reducible refine (HN.out _).mono ?_)); rintro e w_ ⟨rfl, rfl⟩)
    all_goals (go_ret2; exact ⟨rfl, rfl⟩)
  · have hl : (FloatKind.f64.format.order x 0 == some Ordering.lt) = true := (lt_zero2 x hx h (by omega)).trans (decide_eq_true (by omega))
    clear h h0 h1 hz
    go_enter Try.func11, Try.ntmps11
    go_wp2_with (go_at_call 25; ((with_reducible refine (HN.out _).mono ?_)); rintro e w_ ⟨rfl, rfl⟩)
    all_goals (go_ret2; exact ⟨rfl, rfl⟩)
theorem Ticks_high (x : Nat) (h : x ≤ 9218868437227405312) (h1 : 4787326403894837248 < x) (w : World) : Calls Try.prog 11 #[.int .u64 x] w fun e w' => e = .returned (.tuple #[.int .i64 1099511627776, .int .i64 0]) ∧ w = w' := by
  have hfx := frombits_run x
  have HN := Aside0.mk (fun w => isNaN_v x false w (decide_eq_false (by omega)))
  have hz : (FloatKind.f64.format.order x 0 == some Ordering.eq) = false := (zero_iff x).trans (decide_eq_false (by omega))
  have hl : (FloatKind.f64.format.order x 0 == some Ordering.lt) = false := (lt_zero2 x (by omega) (by omega) (by omega)).trans (decide_eq_false (by omega))
  have hf : (FloatKind.f64.format.order x 4787326403894837248 == some Ordering.gt) = true := (gt_far x h).trans (decide_eq_true h1)
  clear h h1
  go_enter Try.func11, Try.ntmps11
  go_wp2_with (go_at_call 25; ((with_reducible refine (HN.out _).mono ?_)); rintro e w_ ⟨rfl, rfl⟩)
  all_goals (go_ret2; exact ⟨rfl, rfl⟩)
theorem Ceil_of (x y : Nat) (h : ∀ w, (callFunc 33 #[.float .f64 x]).run Try.prog w = .ok (.value (.float .f64 y)) w) (w : World) : Calls Try.prog 26 #[.float .f64 x] w fun e w' => e = .returned (.float .f64 y) ∧ w = w' := by
  go_enter Try.func26, Try.ntmps26
  go_wp2
  go_ret
  exact ⟨rfl, rfl⟩
theorem Ticks_mid (x y : Nat) (n : Int) (h0 : 0 < x) (h : x ≤ 4787326403894837248) (hc : ∀ w, (callFunc 33 #[.float .f64 x]).run Try.prog w = .ok (.value (.float .f64 y)) w)
    (hi : ∀ w, (convert 41 3 (.float .f64 y)).run Try.prog w = .ok (.int .i64 n) w) (w : World) : Calls Try.prog 11 #[.int .u64 x] w fun e w' => e = .returned (.tuple #[.int .i64 n, .int .i64 0]) ∧ w = w' := by
  have hfx := frombits_run x
  have HN := Aside0.mk (fun w => isNaN_v x false w (decide_eq_false (by omega)))
  have HC := Aside0.mk (Ceil_of x y hc)
  have hz : (FloatKind.f64.format.order x 0 == some Ordering.eq) = false := (zero_iff x).trans (decide_eq_false (by omega))
  have hl : (FloatKind.f64.format.order x 0 == some Ordering.lt) = false := (lt_zero2 x (by omega) (by omega) (by omega)).trans (decide_eq_false (by omega))
  have hf : (FloatKind.f64.format.order x 4787326403894837248 == some Ordering.gt) = false := (gt_far x (by omega)).trans (decide_eq_false (by omega))
  clear h h0 hc
  go_enter Try.func11, Try.ntmps11
  go_wp2_with (first
    | (go_at_call 25; ((with_reducible refine (HN.out _).mono ?_)); rintro e w_ ⟨rfl, rfl⟩)
    | (go_at_call 26; ((with_reducible refine (HC.out _).mono ?_)); rintro e w_ ⟨rfl, rfl⟩))
  go_ret2
  exact ⟨rfl, rfl⟩
/-- A whole number's word. -/
def ofW (n : Int) : Nat := FloatKind.f64.nearest n
theorem Of_calls (n : Int) (w : World) : Calls Try.prog 22 #[.int .i64 n] w fun e w' => e = .returned (.int .u64 (ofW n)) ∧ w = w' := by
  have hc : ∀ w, (convert 3 41 (.int .i64 n)).run Try.prog w = .ok (.float .f64 (ofW n)) w := fun w => by
    simp [convert, Conv.intToFloat, run_underlying Try.underlying3, run_underlying Try.underlying41, Sem.run_bind, ofW]
  have hb := f64bits_run (ofW n)
  generalize ofW n = y at *
  go_enter Try.func22, Try.ntmps22
  go_wp2
  go_ret
  exact ⟨rfl, rfl⟩
end Go.Proofs.Ytcgonhnfpnmlcaa
