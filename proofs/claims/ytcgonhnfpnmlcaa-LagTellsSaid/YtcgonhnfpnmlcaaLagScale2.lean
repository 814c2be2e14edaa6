
/- What lag.Scale tells of any float's word. -/
import Derived.Test.YtcgonhnfpnmlcaaLagLdexp2
set_option linter.unusedVariables false
set_option linter.unusedSimpArgs false
namespace Go.Proofs.Ytcgonhnfpnmlcaa
open Go.RowKit Go.Proofs.YtcgonhnfpnmlcaaW.PrintWords Go.Proofs.YtcgonhnfpnmlcaaW.PrintLast Go.Proofs.YtcgonhnfpnmlcaaW.PrintMore

theorem sub_nearR (s : Nat) (h0 : 0 < s) (h1 : s < 4503599627370496) : nearR (s * 2 ^ 52) (-1074) = s.log2 * 4503599627370496 + s * 2 ^ (52 - s.log2) := by
  have hl : s.log2 < 52 := (Nat.log2_lt (by omega)).2 (by omega)
  unfold nearR
  rw [log2_mul_pow s 52 (by omega), show max (-1074 + ((s.log2 + 52 : Nat) : Int) - 52) (-1074) = -1074 + (s.log2 : Int) by omega]
  rw [show ((-1074 : Int) - (-1074 + (s.log2 : Int))).toNat = 0 by omega, show (-1074 + (s.log2 : Int) + 1074).toNat = s.log2 by omega, show (-1074 + (s.log2 : Int) - -1074).toNat = s.log2 by omega, Nat.pow_zero, Nat.mul_one]
  have e := shiftF_mul (s * 2 ^ (52 - s.log2)) 0 0 s.log2
  rw [Nat.pow_zero, Nat.mul_one, shiftF_zero, Nat.add_zero, Nat.mul_assoc, ← Nat.pow_add, show 52 - s.log2 + s.log2 = 52 by omega] at e
  rw [e]
theorem sub_bd (s : Nat) (h0 : 0 < s) (h1 : s < 4503599627370496) : 4503599627370496 ≤ s * 2 ^ (52 - s.log2) ∧ s * 2 ^ (52 - s.log2) < 9007199254740992 := by
  have hl : s.log2 < 52 := (Nat.log2_lt (by omega)).2 (by omega)
  have a := Nat.mul_le_mul_right (2 ^ (52 - s.log2)) (Nat.log2_self_le (n := s) (by omega))
  have b := Nat.mul_lt_mul_of_pos_right (Nat.lt_log2_self (n := s)) (Nat.two_pow_pos (52 - s.log2))
  rw [← Nat.pow_add, show s.log2 + (52 - s.log2) = 52 by omega] at a
  rw [← Nat.pow_add, show s.log2 + 1 + (52 - s.log2) = 53 by omega] at b
  exact ⟨a, b⟩
theorem sub_run (x s sg : Nat) (hx : x = sg * 9223372036854775808 + s) (hsg : sg ≤ 1) (h0 : 0 < s) (h1 : s < 4503599627370496) : Ieee.double.mul x 4841369599423283200 = some (sg * 9223372036854775808 + (s.log2 * 4503599627370496 + s * 2 ^ (52 - s.log2))) := by
  have hl : s.log2 < 52 := (Nat.log2_lt (by omega)).2 (by omega)
  have hb := sub_bd s h0 h1
  unfold Ieee.Format.mul
  have e1 : Ieee.double.read x = .number (sg == 1) s (-1074) := by
    unfold Ieee.Format.read
    rw [sw, bw, iw, lp_double]
    simp only
    rw [show x % 9223372036854775808 = s by omega, show x / 9223372036854775808 % 2 = sg by omega, if_pos h1]
  rw [e1, show Ieee.double.read 4841369599423283200 = .number false (2 ^ 52) 0 by decide +kernel]
  show some (Ieee.double.nearest ((sg == 1) ^^ false) (s * 2 ^ 52) (-1074 + 0)) = _
  rw [nearest_nearR _ _ _ (by omega), show (-1074 : Int) + 0 = -1074 by omega, sub_nearR s h0 h1]
  rcases (show sg = 0 ∨ sg = 1 by omega) with rfl | rfl
  · simp
    omega
  · simp
    omega
theorem mul_runR (a b r : Nat) (h : Ieee.double.mul a b = some r) (w : World) : (binOp BinOp.mul 41 (.float .f64 a) (.float .f64 b)).run Try.prog w = .ok (.float .f64 r) w := mul_run a b r h w
theorem subnormal_calls (x : Nat) (hx : x < 18446744073709551616) (h0 : 0 < x % 9223372036854775808) (h1 : x % 9223372036854775808 < 4503599627370496) (r : Nat) (hr : Ieee.double.mul x 4841369599423283200 = some r) (w : World) : Calls Try.prog 39 #[.float .f64 x] w fun e w' => e = .returned (.tuple #[.float .f64 r, .int .i64 (-52)]) ∧ w = w' := by
  have ho : (FloatKind.f64.format.order (x % 9223372036854775808) 4503599627370496 == some Ordering.lt) = true := (lt_small _ (by omega)).trans (decide_eq_true (by omega))
  have HA := Aside0.mk (fun w => Abs_calls x hx w)
  have hm := mul_runR x 4841369599423283200 r hr
  clear hr
  generalize x % 9223372036854775808 = s at *
  go_enter Try.func39, Try.ntmps39
  go_wp2_with (go_at_call 44; ((with_reducible refine (HA.out _).mono ?_)); rintro e w_ ⟨rfl, rfl⟩)
  go_ret2
  exact ⟨rfl, rfl⟩
/-- A finite word's significand and exponent. -/
def sigM (s : Nat) : Nat := if s < 4503599627370496 then s else 4503599627370496 + s % 4503599627370496
def sigE (s : Nat) : Nat := if s < 4503599627370496 then 1 else s / 4503599627370496
/-- What is scaled (the document's 'Scale'), by a number that is within its bounds. -/
def scaleF (x : Nat) (k : Int) : Nat := if x % 9223372036854775808 = 0 ∨ 9218868437227405312 ≤ x % 9223372036854775808 then plainF x else plainF (wordF (x / 9223372036854775808) (nearR (sigM (x % 9223372036854775808)) (k + (sigE (x % 9223372036854775808) : Int) - 1075)))
set_option maxRecDepth 100000 in
set_option maxHeartbeats 1000000 in
theorem ldexp_same (x : Nat) (k : Int) (hx : x < 18446744073709551616) (h : x % 9223372036854775808 = 0 ∨ 9218868437227405312 ≤ x % 9223372036854775808) (w : World) : Calls Try.prog 36 #[.float .f64 x, .int .i64 k] w fun e w' => e = .returned (.float .f64 x) ∧ w = w' := by
  have hz : (FloatKind.f64.format.order x 0 == some Ordering.eq) = decide (x % 9223372036854775808 = 0) := zero_iff x
  have HI := Aside0.mk (fun w => IsInf_calls x hx w)
  by_cases h0 : x % 9223372036854775808 = 0
  · rw [decide_eq_true h0] at hz
    clear h h0 HI
    go_enter Try.func36, Try.ntmps36
    go_wp2
    go_ret
    exact ⟨rfl, rfl⟩
  · rw [decide_eq_false h0] at hz
    by_cases h1 : x % 9223372036854775808 = 9218868437227405312
    · rw [decide_eq_true h1] at HI
      clear h h0 h1
      go_enter Try.func36, Try.ntmps36
      go_wp2_with (go_at_call 38; ((with_reducible refine (HI.out _).mono ?_)); rintro e w_ ⟨rfl, rfl⟩)
      go_ret
      exact ⟨rfl, rfl⟩
    · rw [decide_eq_false h1] at HI
      have HN := Aside0.mk (fun w => isNaN_v x true w (decide_eq_true (by omega)))
      clear h h0 h1
      go_enter Try.func36, Try.ntmps36
      go_wp2_with (first
        | (go_at_call 38; ((with_reducible refine (HI.out _).mono ?_)); rintro e w_ ⟨rfl, rfl⟩)
        | (go_at_call 25; ((with_reducible refine (HN.out _).mono ?_)); rintro e w_ ⟨rfl, rfl⟩))
      go_ret
      exact ⟨rfl, rfl⟩
theorem sub_norm (x : Nat) (hx : x < 18446744073709551616) (h0 : 0 < x % 9223372036854775808) (h1 : x % 9223372036854775808 < 4503599627370496) (k : Int) (hk : -5000 ≤ k ∧ k ≤ 5000) (w : World) :
    Calls Try.prog 36 #[.float .f64 x, .int .i64 k] w fun e w' => e = .returned (.float .f64 (wordF (x / 9223372036854775808) (nearR (x % 9223372036854775808) (k + 1 - 1075)))) ∧ w = w' := by
  have hr := sub_run x (x % 9223372036854775808) (x / 9223372036854775808) (by omega) (by omega) h0 h1
  have hc : NormC x _ (-52) := ⟨hx, h0, by omega, by omega, by omega, subnormal_calls x hx h0 h1 _ hr⟩
  have hb := sub_bd _ h0 h1
  have hl : (x % 9223372036854775808).log2 < 52 := (Nat.log2_lt (by omega)).2 (by omega)
  have e := ldexpG x _ ((x % 9223372036854775808).log2 * 4503599627370496 + x % 9223372036854775808 * 2 ^ (52 - (x % 9223372036854775808).log2)) ((x % 9223372036854775808).log2 + 1) (x % 9223372036854775808 * 2 ^ (52 - (x % 9223372036854775808).log2) - 4503599627370496) (x / 9223372036854775808) (-52) hc ⟨by omega, by omega, by omega, by omega, by omega, by omega⟩ k hk w
  rw [show 4503599627370496 + (x % 9223372036854775808 * 2 ^ (52 - (x % 9223372036854775808).log2) - 4503599627370496) = x % 9223372036854775808 * 2 ^ (52 - (x % 9223372036854775808).log2) by omega] at e
  have e2 := nearR_shift (x % 9223372036854775808) (52 - (x % 9223372036854775808).log2) (k + 1 - 1075) (by omega)
  rw [show k + 1 - 1075 - ((52 - (x % 9223372036854775808).log2 : Nat) : Int) = k + -52 + (((x % 9223372036854775808).log2 + 1 : Nat) : Int) - 1075 by omega] at e2
  rw [e2] at e
  exact e
theorem Scale_calls (x : Nat) (k : Int) (hx : x < 18446744073709551616) (w : World) : Calls Try.prog 18 #[.int .u64 x, .int .i64 k] w fun e w' => e = .returned (.int .u64 (scaleF x (clampF k))) ∧ w = w' := by
  unfold scaleF
  by_cases h : x % 9223372036854775808 = 0 ∨ 9218868437227405312 ≤ x % 9223372036854775808
  · rw [if_pos h]
    exact Scale_of x k x (fun w => ldexp_same x _ hx h w) w
  · rw [if_neg h]
    unfold sigM sigE
    rcases Nat.lt_or_ge (x % 9223372036854775808) 4503599627370496 with h1 | h1
    · rw [if_pos h1, if_pos h1]
      exact Scale_of x k _ (fun w => sub_norm x hx (by omega) h1 _ (clamp_bd k) w) w
    · rw [if_neg (by omega), if_neg (by omega)]
      have hn := NormW.of x hx h1 (by omega)
      have hc : NormC x x 0 := ⟨hx, by omega, by omega, by omega, by omega, normal_calls x hx h1 (by omega)⟩
      refine Scale_of x k _ (fun w => ?_) w
      have e := ldexpG x x _ _ _ _ 0 hc hn (clampF k) (clamp_bd k) w
      rw [show x % 9223372036854775808 % 4503599627370496 = x % 4503599627370496 by omega]
      rw [show clampF k + 0 + ((x % 9223372036854775808 / 4503599627370496 : Nat) : Int) - 1075 = clampF k + ((x % 9223372036854775808 / 4503599627370496 : Nat) : Int) - 1075 by omega] at e
      exact e
end Go.Proofs.Ytcgonhnfpnmlcaa
