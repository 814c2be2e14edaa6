
/- Floats' words (chapter 3), as far as other chapters use them. -/
import Derived.Test.YtcgonhnfpnmlcaaFloatPure
set_option linter.unusedVariables false
set_option linter.unusedSimpArgs false
namespace Go.Proofs.Ytcgonhnfpnmlcaa
open Go.RowKit Go.Proofs.YtcgonhnfpnmlcaaW.PrintWords Go.Proofs.YtcgonhnfpnmlcaaW.PrintLast Go.Proofs.YtcgonhnfpnmlcaaW.PrintMore

theorem isNaN_calls (x : Nat) (w : World) : Calls Try.prog 25 #[.float .f64 x] w fun e w' => e = .returned (.bool (decide (9218868437227405312 < x % 9223372036854775808))) ∧ w = w' := by
  rw [← nan_iff]
  go_enter Try.func25, Try.ntmps25
  go_wp2
  go_ret
  exact ⟨rfl, rfl⟩
theorem frombits_run (x : Nat) (w : World) : (callFunc 24 #[.int .u64 x]).run Try.prog w = .ok (.value (.float .f64 x)) w := by kernel_rfl
def plainF (x : Nat) : Nat := if 9218868437227405312 < x % 9223372036854775808 then 9221120237041090561 else if x % 9223372036854775808 = 0 then 0 else x
theorem Plain_calls (x : Nat) (w : World) : Calls Try.prog 13 #[.int .u64 x] w fun e w' => e = .returned (.int .u64 (plainF x)) ∧ w = w' := by
  have hfb := frombits_run x
  have hz : (FloatKind.f64.format.order x 0 == some Ordering.eq) = decide (x % 9223372036854775808 = 0) := zero_iff x
  unfold plainF
  by_cases h1 : 9218868437227405312 < x % 9223372036854775808
  · rw [if_pos h1]
    go_enter Try.func13, Try.ntmps13
    go_wp2_with (go_at_call 25; ((with_reducible refine (isNaN_calls x _).mono ?_)); rw [decide_eq_true h1]; rintro e w_ ⟨rfl, rfl⟩)
    go_ret
    exact ⟨rfl, rfl⟩
  · rw [if_neg h1]
    by_cases h2 : x % 9223372036854775808 = 0
    · rw [if_pos h2]
      rw [decide_eq_true h2] at hz
      go_enter Try.func13, Try.ntmps13
      go_wp2_with (go_at_call 25; ((with_reducible refine (isNaN_calls x _).mono ?_)); rw [decide_eq_false h1]; rintro e w_ ⟨rfl, rfl⟩)
      go_ret
      exact ⟨rfl, rfl⟩
    · rw [if_neg h2]
      rw [decide_eq_false h2] at hz
      go_enter Try.func13, Try.ntmps13
      go_wp2_with (go_at_call 25; ((with_reducible refine (isNaN_calls x _).mono ?_)); rw [decide_eq_false h1]; rintro e w_ ⟨rfl, rfl⟩)
      go_ret
      exact ⟨rfl, rfl⟩
theorem rsize_calls (x : Nat) (hx : x < 18446744073709551616) (w : World) : Calls Try.prog 27 #[.int .u64 x] w fun e w' => e = .returned (.int .u64 (x % 9223372036854775808 : Nat)) ∧ w = w' := by
  have e1 : ((x : Int)).tmod 9223372036854775808 = ((x % 9223372036854775808 : Nat) : Int) := by
    rw [Int.tmod_eq_emod_of_nonneg (by omega)]
    omega
  go_enter Try.func27, Try.ntmps27
  go_wp2
  go_ret
  exact ⟨by first | rfl | exact ret_int (by omega), rfl⟩
theorem RPlain_calls (x : Nat) (hx : x < 18446744073709551616) (w : World) : Calls Try.prog 14 #[.int .u64 x] w fun e w' => e = .returned (.int .u64 (plainF x)) ∧ w = w' := by
  unfold plainF
  have hs := Nat.mod_lt x (show 0 < 9223372036854775808 by omega)
  by_cases h1 : 9218868437227405312 < x % 9223372036854775808
  · rw [if_pos h1]
    generalize hss : x % 9223372036854775808 = s at *
    have HS := Aside0.mk hss
    clear hss
    go_enter Try.func14, Try.ntmps14
    go_wp2_with (go_at_call 27; ((with_reducible refine (rsize_calls x hx _).mono ?_)); rw [HS.out]; rintro e w_ ⟨rfl, rfl⟩)
    go_ret
    exact ⟨rfl, rfl⟩
  · rw [if_neg h1]
    by_cases h2 : x % 9223372036854775808 = 0
    · rw [if_pos h2]
      have HS := Aside0.mk h2
      clear h1 h2 hs
      go_enter Try.func14, Try.ntmps14
      go_wp2_with (go_at_call 27; ((with_reducible refine (rsize_calls x hx _).mono ?_)); rw [HS.out]; rintro e w_ ⟨rfl, rfl⟩)
      go_ret
      exact ⟨rfl, rfl⟩
    · rw [if_neg h2]
      generalize hss : x % 9223372036854775808 = s at *
      have HS := Aside0.mk hss
      clear hss
      go_enter Try.func14, Try.ntmps14
      go_wp2_with (go_at_call 27; ((with_reducible refine (rsize_calls x hx _).mono ?_)); rw [HS.out]; rintro e w_ ⟨rfl, rfl⟩)
      go_ret
      exact ⟨rfl, rfl⟩
end Go.Proofs.Ytcgonhnfpnmlcaa
