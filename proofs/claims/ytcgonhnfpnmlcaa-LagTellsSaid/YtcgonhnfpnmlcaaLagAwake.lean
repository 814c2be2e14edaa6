
/- The statements' own first calls of chapter 3 answer true. -/
import Derived.Test.YtcgonhnfpnmlcaaLagTicks
set_option linter.unusedVariables false
set_option linter.unusedSimpArgs false
namespace Go.Proofs.Ytcgonhnfpnmlcaa
open Go.RowKit Go.Proofs.YtcgonhnfpnmlcaaW.PrintWords Go.Proofs.YtcgonhnfpnmlcaaW.PrintLast Go.Proofs.YtcgonhnfpnmlcaaW.PrintMore

theorem la1 (w : World) : Calls Try.prog 11 #[.int .u64 4609434218613702656] w fun e w' => e = .returned (.tuple #[.int .i64 2, .int .i64 0]) ∧ w = w' :=
  Ticks_mid 4609434218613702656 4611686018427387904 2 (by decide) (by decide) (fun w => by kernel_rfl) (fun w => by kernel_rfl) w
theorem la2 (w : World) : Calls Try.prog 11 #[.int .u64 9218868437227405312] w fun e w' => e = .returned (.tuple #[.int .i64 1099511627776, .int .i64 0]) ∧ w = w' := Ticks_high 9218868437227405312 (by decide) (by decide) w
theorem la3 (w : World) : Calls Try.prog 11 #[.int .u64 9221120237041090565] w fun e w' => e = .returned (.tuple #[.int .i64 0, .int .i64 1]) ∧ w = w' := Ticks_nan 9221120237041090565 (by decide) w
theorem la4 (w : World) : Calls Try.prog 11 #[.int .u64 9223372036854775808] w fun e w' => e = .returned (.tuple #[.int .i64 0, .int .i64 0]) ∧ w = w' := Ticks_low 9223372036854775808 (by decide) (by decide) (by decide) w
theorem la5 (w : World) : Calls Try.prog 20 #[.int .u64 9221120237041090561, .int .u64 4607182418800017408, .int .u64 9218868437227405312] w fun e w' => e = .returned (.int .u64 9218868437227405312) ∧ Below w.heap.size w w' := by
  have h := Median_calls 9221120237041090561 4607182418800017408 9218868437227405312 (by decide) (by decide) (by decide) w
  rw [show medF 9221120237041090561 4607182418800017408 9218868437227405312 = 9218868437227405312 by decide] at h
  exact h
theorem one_norm : NormW 4607182418800017408 4607182418800017408 1023 0 0 := ⟨by decide, by decide, by decide, by decide, by decide, by decide⟩
theorem la6 (w : World) : Calls Try.prog 18 #[.int .u64 4607182418800017408, .int .i64 (-1075)] w fun e w' => e = .returned (.int .u64 0) ∧ w = w' := by
  have h := Scale_of 4607182418800017408 (-1075) 0 (fun w => by
    have h := ldexp_low 4607182418800017408 4607182418800017408 1023 0 0 one_norm (clampF (-1075)) (by decide) (by decide) w
    rw [show mulW 4368491638549381120 (0 * 9223372036854775808 + (clampF (-1075) + (((1023 : Nat) : Int) - 1023) + 53 + 1023).toNat * 4503599627370496 + 0) = 0 by decide +kernel] at h
    exact h) w
  exact h
theorem la7 (w : World) : Calls Try.prog 18 #[.int .u64 4607182418800017408, .int .i64 (-1074)] w fun e w' => e = .returned (.int .u64 1) ∧ w = w' := by
  have h := Scale_of 4607182418800017408 (-1074) 1 (fun w => by
    have h := ldexp_low 4607182418800017408 4607182418800017408 1023 0 0 one_norm (clampF (-1074)) (by decide) (by decide) w
    rw [show mulW 4368491638549381120 (0 * 9223372036854775808 + (clampF (-1074) + (((1023 : Nat) : Int) - 1023) + 53 + 1023).toNat * 4503599627370496 + 0) = 1 by decide +kernel] at h
    exact h) w
  exact h
theorem la8 (w : World) : Calls Try.prog 18 #[.int .u64 4607182418800017408, .int .i64 1024] w fun e w' => e = .returned (.int .u64 9218868437227405312) ∧ w = w' := by
  have h := Scale_of 4607182418800017408 1024 9218868437227405312 (fun w => ldexp_pos 4607182418800017408 4607182418800017408 1023 0 0 one_norm rfl (clampF 1024) (by decide) (by decide) w) w
  exact h
theorem la9 (w : World) : Calls Try.prog 22 #[.int .i64 1] w fun e w' => e = .returned (.int .u64 4607182418800017408) ∧ w = w' := by
  have h := Of_calls 1 w
  rw [show ofW 1 = 4607182418800017408 by decide +kernel] at h
  exact h
theorem la10 (w : World) : Calls Try.prog 13 #[.int .u64 9223372036854775808] w fun e w' => e = .returned (.int .u64 0) ∧ w = w' := Plain_calls 9223372036854775808 w
theorem la11 (w : World) : Calls Try.prog 13 #[.int .u64 9221120237041090570] w fun e w' => e = .returned (.int .u64 9221120237041090561) ∧ w = w' := Plain_calls 9221120237041090570 w
theorem la12 (w : World) : Calls Try.prog 15 #[.int .u64 18442240474082181120, .int .u64 0] w fun e w' => e = .returned (.bool true) ∧ w = w' := Less_v 18442240474082181120 0 true (by decide) (by decide) w (by decide)
theorem la13 (w : World) : Calls Try.prog 15 #[.int .u64 9218868437227405312, .int .u64 9221120237041090561] w fun e w' => e = .returned (.bool true) ∧ w = w' := Less_v 9218868437227405312 9221120237041090561 true (by decide) (by decide) w (by decide)
theorem la14 (w : World) : Calls Try.prog 15 #[.int .u64 9223372036854775808, .int .u64 0] w fun e w' => e = .returned (.bool false) ∧ w = w' := Less_v 9223372036854775808 0 false (by decide) (by decide) w (by decide)
set_option maxRecDepth 100000 in
set_option maxHeartbeats 4000000 in
theorem lawake_calls (w : World) : Calls Try.prog 10 #[] w fun e w' => e = .returned (.bool true) ∧ Below w.heap.size w w' := by
  go_enter Try.func10, Try.ntmps10
  go_wp2_with (first
    | (go_at_call 11; first | ((with_reducible refine (la1 _).mono ?_); rintro e w_ ⟨rfl, rfl⟩) | ((with_reducible refine (la2 _).mono ?_); rintro e w_ ⟨rfl, rfl⟩) | ((with_reducible refine (la3 _).mono ?_); rintro e w_ ⟨rfl, rfl⟩) | ((with_reducible refine (la4 _).mono ?_); rintro e w_ ⟨rfl, rfl⟩))
    | (go_at_call 20; ((with_reducible refine (la5 _).mono ?_); rintro e w5 ⟨rfl, hb5⟩))
    | (go_at_call 18; first | ((with_reducible refine (la6 _).mono ?_); rintro e w_ ⟨rfl, rfl⟩) | ((with_reducible refine (la7 _).mono ?_); rintro e w_ ⟨rfl, rfl⟩) | ((with_reducible refine (la8 _).mono ?_); rintro e w_ ⟨rfl, rfl⟩))
    | (go_at_call 22; ((with_reducible refine (la9 _).mono ?_); rintro e w_ ⟨rfl, rfl⟩))
    | (go_at_call 13; first | ((with_reducible refine (la10 _).mono ?_); rintro e w_ ⟨rfl, rfl⟩) | ((with_reducible refine (la11 _).mono ?_); rintro e w_ ⟨rfl, rfl⟩))
    | (go_at_call 15; first | ((with_reducible refine (la12 _).mono ?_); rintro e w_ ⟨rfl, rfl⟩) | ((with_reducible refine (la13 _).mono ?_); rintro e w_ ⟨rfl, rfl⟩) | ((with_reducible refine (la14 _).mono ?_); rintro e w_ ⟨rfl, rfl⟩)))
  go_ret
  exact ⟨rfl, hb5⟩
def pickF (c n : Int) : Int := (if c < 0 then -(c + 1) else c) % n
def i64ok (c : Int) : Prop := -9223372036854775808 ≤ c ∧ c ≤ 9223372036854775807
theorem pickF_bd (c n : Int) (h : 1 ≤ n) : 0 ≤ pickF c n ∧ pickF c n < n :=
  ⟨Int.emod_nonneg _ (by omega), Int.emod_lt_of_pos _ (by omega)⟩
set_option maxHeartbeats 400000 in
theorem pick3_calls (c n : Int) (w : World) (hc0 : -9223372036854775808 ≤ c) (hc1 : c ≤ 9223372036854775807) (hn : 1 ≤ n) (hn1 : n ≤ 9223372036854775807) :
    Calls Try.prog 17 #[.int .i64 c, .int .i64 n] w fun e w' => e = .returned (.int .i64 (pickF c n)) ∧ w = w' := by
  unfold pickF
  have hb : -9223372036854775808 ≤ (if c < 0 then -(c + 1) else c) % n ∧ (if c < 0 then -(c + 1) else c) % n ≤ 9223372036854775807 := by
    have := pickF_bd c n hn
    unfold pickF at this
    omega
  by_cases h : c < 0
  · rw [if_pos h] at hb ⊢
    go_enter Try.func17, Try.ntmps17
    go_wp2
    go_ret
    exact ⟨by first | rfl | exact ret_int (by rw [← Int.neg_tmod, Int.tmod_eq_emod_of_nonneg (by omega)]), rfl⟩
  · rw [if_neg h] at hb ⊢
    go_enter Try.func17, Try.ntmps17
    go_wp2
    go_ret
    exact ⟨by first | rfl | exact ret_int (by rw [Int.tmod_eq_emod_of_nonneg (by omega)]), rfl⟩
end Go.Proofs.Ytcgonhnfpnmlcaa
