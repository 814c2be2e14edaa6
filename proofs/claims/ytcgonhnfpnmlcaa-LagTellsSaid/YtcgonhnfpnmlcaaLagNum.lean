
/- What math's small functions (Abs, IsInf, Inf, Copysign, normalize) tell of a float's word. -/
import Derived.Laws.BitsAllLaws
import Derived.Test.YtcgonhnfpnmlcaaLagLess
set_option linter.unusedVariables false
set_option linter.unusedSimpArgs false
namespace Go.Proofs.Ytcgonhnfpnmlcaa
open Go.RowKit Go.Proofs.YtcgonhnfpnmlcaaW.PrintWords Go.Proofs.YtcgonhnfpnmlcaaW.PrintLast Go.Proofs.YtcgonhnfpnmlcaaW.PrintMore

theorem f64bits_run (x : Nat) (w : World) : (callFunc 29 #[.float .f64 x]).run Try.prog w = .ok (.value (.int .u64 x)) w := by kernel_rfl
theorem andNot_top (x : Nat) (hx : x < 18446744073709551616) : bits BinOp.andNot IntKind.u64 (x : Int) 9223372036854775808 = ((x % 9223372036854775808 : Nat) : Int) := by
  have h := u64_andNot_nat x 9223372036854775808 hx (by omega)
  rw [show ((9223372036854775808 : Nat) : Int) = 9223372036854775808 from rfl] at h
  rw [h, show 18446744073709551615 - 9223372036854775808 = 2 ^ 63 - 1 by decide, Nat.and_two_pow_sub_one_eq_mod]
theorem and_topN (x : Nat) (hx : x < 18446744073709551616) : x &&& 9223372036854775808 = x / 9223372036854775808 * 9223372036854775808 := by
  rw [show (9223372036854775808 : Nat) = 2 ^ 63 by decide]
  rcases Nat.lt_or_ge x (2 ^ 63) with h1 | h1
  · rw [Nat.div_eq_of_lt h1, Nat.zero_mul]
    apply Nat.eq_of_testBit_eq
    intro i
    rw [Nat.testBit_and, Nat.testBit_two_pow, Nat.zero_testBit]
    by_cases e : 63 = i
    · subst e; rw [Nat.testBit_lt_two_pow h1]; simp
    · rw [decide_eq_false e, Bool.and_false]
  · rw [show x / 2 ^ 63 = 1 by omega, Nat.one_mul]
    apply Nat.eq_of_testBit_eq
    intro i
    rw [Nat.testBit_and, Nat.testBit_two_pow]
    by_cases e : 63 = i
    · subst e
      have : x.testBit 63 = true := by
        rw [Nat.testBit_eq_decide_div_mod_eq, decide_eq_true_eq]
        omega
      rw [this]
      simp
    · rw [decide_eq_false e, Bool.and_false]
theorem and_top (x : Nat) (hx : x < 18446744073709551616) : bits BinOp.and IntKind.u64 (x : Int) 9223372036854775808 = ((x / 9223372036854775808 * 9223372036854775808 : Nat) : Int) := by
  have h := u64_and_nat x 9223372036854775808 hx (by omega)
  rw [show ((9223372036854775808 : Nat) : Int) = 9223372036854775808 from rfl] at h
  rw [h, and_topN x hx]
theorem Abs_calls (x : Nat) (hx : x < 18446744073709551616) (w : World) : Calls Try.prog 44 #[.float .f64 x] w fun e w' => e = .returned (.float .f64 (x % 9223372036854775808 : Nat)) ∧ w = w' := by
  have h1 := f64bits_run x
  have h2 := andNot_top x hx
  generalize x % 9223372036854775808 = s at *
  have h3 := frombits_run s
  go_enter Try.func44, Try.ntmps44
  go_wp2
  go_ret
  exact ⟨rfl, rfl⟩
theorem gt_max (s : Nat) (hs : s < 9223372036854775808) : (Ieee.double.order s 9218868437227405311 == some .gt) = decide (s = 9218868437227405312) := by
  rcases Nat.lt_or_ge 9218868437227405312 s with h | h
  · rw [order_nan_l s _ (by omega), decide_eq_false (by omega)]
    rfl
  · rw [order_val s _ (by omega) (by decide), Bool.eq_iff_iff]
    simp only [beq_iff_eq, Option.some.injEq, Int.compare_eq_gt, decide_eq_true_eq]
    have e1 : val s = (mag s : Int) := by unfold val; rw [show s / 9223372036854775808 = 0 by omega, show s % 9223372036854775808 = s by omega]; simp
    have e2 : val 9218868437227405311 = (mag 9218868437227405311 : Int) := by unfold val; rw [show (9218868437227405311 : Nat) / 9223372036854775808 = 0 by omega, show (9218868437227405311 : Nat) % 9223372036854775808 = 9218868437227405311 by omega]; simp
    rw [e1, e2]
    have h3 : mag 9218868437227405311 < mag s ↔ 9218868437227405311 < s := mag_lt
    constructor
    · intro h4
      have := h3.1 (by omega)
      omega
    · intro h4
      have := h3.2 (by omega)
      omega
theorem lt_small (s : Nat) (hs : s ≤ 9218868437227405312) : (Ieee.double.order s 4503599627370496 == some .lt) = decide (s < 4503599627370496) := by
  rw [order_val s _ (by omega) (by decide), Bool.eq_iff_iff]
  simp only [beq_iff_eq, Option.some.injEq, Int.compare_eq_lt, decide_eq_true_eq]
  have e1 : val s = (mag s : Int) := by unfold val; rw [show s / 9223372036854775808 = 0 by omega, show s % 9223372036854775808 = s by omega]; simp
  have e2 : val 4503599627370496 = (mag 4503599627370496 : Int) := by unfold val; rw [show (4503599627370496 : Nat) / 9223372036854775808 = 0 by omega, show (4503599627370496 : Nat) % 9223372036854775808 = 4503599627370496 by omega]; simp
  rw [e1, e2]
  have h3 : mag s < mag 4503599627370496 ↔ s < 4503599627370496 := mag_lt
  constructor
  · intro h4; exact h3.1 (by omega)
  · intro h4; have := h3.2 h4; omega
theorem IsInf_calls (x : Nat) (hx : x < 18446744073709551616) (w : World) : Calls Try.prog 38 #[.float .f64 x, .int .i64 0] w fun e w' => e = .returned (.bool (decide (x % 9223372036854775808 = 9218868437227405312))) ∧ w = w' := by
  have hs := Nat.mod_lt x (show 0 < 9223372036854775808 by omega)
  have ho : (FloatKind.f64.format.order (x % 9223372036854775808) 9218868437227405311 == some Ordering.gt) = decide (x % 9223372036854775808 = 9218868437227405312) := gt_max _ hs
  have HA := Aside0.mk (fun w => Abs_calls x hx w)
  generalize x % 9223372036854775808 = s at *
  generalize decide (s = 9218868437227405312) = b at *
  go_enter Try.func38, Try.ntmps38
  go_wp2_with (go_at_call 44; ((with_reducible refine (HA.out _).mono ?_)); rintro e w_ ⟨rfl, rfl⟩)
  go_ret
  exact ⟨rfl, rfl⟩
theorem normal_calls (x : Nat) (hx : x < 18446744073709551616) (h1 : 4503599627370496 ≤ x % 9223372036854775808) (h2 : x % 9223372036854775808 ≤ 9218868437227405312) (w : World) : Calls Try.prog 39 #[.float .f64 x] w fun e w' => e = .returned (.tuple #[.float .f64 x, .int .i64 0]) ∧ w = w' := by
  have ho : (FloatKind.f64.format.order (x % 9223372036854775808) 4503599627370496 == some Ordering.lt) = false := (lt_small _ h2).trans (decide_eq_false (by omega))
  have HA := Aside0.mk (fun w => Abs_calls x hx w)
  generalize x % 9223372036854775808 = s at *
  go_enter Try.func39, Try.ntmps39
  go_wp2_with (go_at_call 44; ((with_reducible refine (HA.out _).mono ?_)); rintro e w_ ⟨rfl, rfl⟩)
  go_ret2
  exact ⟨rfl, rfl⟩
end Go.Proofs.Ytcgonhnfpnmlcaa
