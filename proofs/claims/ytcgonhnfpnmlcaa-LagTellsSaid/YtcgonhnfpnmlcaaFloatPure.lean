
/- Floats' words (chapter 3), in plain Lean: what is a NaN, what is nought. -/
import Derived.Test.YtcgonhnfpnmlcaaBase
set_option linter.unusedVariables false
set_option linter.unusedSimpArgs false
namespace Go.Proofs.Ytcgonhnfpnmlcaa
open Go.RowKit Go.Proofs.YtcgonhnfpnmlcaaW.PrintWords Go.Proofs.YtcgonhnfpnmlcaaW.PrintLast Go.Proofs.YtcgonhnfpnmlcaaW.PrintMore

theorem sw : Ieee.double.signWeight = 9223372036854775808 := by decide
theorem bw : Ieee.double.binade = 4503599627370496 := by decide
theorem iw : Ieee.double.infRung = 9218868437227405312 := by decide
theorem read_cases (x : Nat) : (x % 9223372036854775808 < 4503599627370496 ∧ ∃ s, Ieee.double.read x = .number s (x % 9223372036854775808) Ieee.double.leastPlace) ∨
    (4503599627370496 ≤ x % 9223372036854775808 ∧ x % 9223372036854775808 < 9218868437227405312 ∧ ∃ s m e, 0 < m ∧ Ieee.double.read x = .number s m e) ∨
    (x % 9223372036854775808 = 9218868437227405312 ∧ ∃ s, Ieee.double.read x = .infinity s) ∨ (9218868437227405312 < x % 9223372036854775808 ∧ ∃ s f, Ieee.double.read x = .nan s f) := by
  unfold Ieee.Format.read
  rw [sw, bw, iw]
  simp only
  by_cases h1 : x % 9223372036854775808 < 4503599627370496
  · rw [if_pos h1]
    exact Or.inl ⟨h1, _, rfl⟩
  · rw [if_neg h1]
    by_cases h2 : x % 9223372036854775808 < 9218868437227405312
    · rw [if_pos h2]
      exact Or.inr (Or.inl ⟨by omega, h2, _, _, _, by omega, rfl⟩)
    · rw [if_neg h2]
      by_cases h3 : x % 9223372036854775808 = 9218868437227405312
      · rw [if_pos h3]
        exact Or.inr (Or.inr (Or.inl ⟨h3, _, rfl⟩))
      · rw [if_neg h3]
        exact Or.inr (Or.inr (Or.inr ⟨by omega, _, _, rfl⟩))
theorem nan_iff (x : Nat) : (Ieee.double.order x x != some .eq) = decide (9218868437227405312 < x % 9223372036854775808) := by
  unfold Ieee.Format.order
  rcases read_cases x with ⟨h, s, e⟩ | ⟨h, h2, s, m, p, hm, e⟩ | ⟨h, s, e⟩ | ⟨h, s, f, e⟩
  · rw [e, decide_eq_false (by omega)]
    simp [Ieee.Datum.order]
  · rw [e, decide_eq_false (by omega)]
    simp [Ieee.Datum.order]
  · rw [e, decide_eq_false (by omega)]
    simp [Ieee.Datum.order]
  · rw [e, decide_eq_true h]
    simp [Ieee.Datum.order]
theorem signed_zero (s : Bool) (m k : Nat) : Ieee.signed s m k = 0 ↔ m = 0 := by
  unfold Ieee.signed
  have h : (m <<< k : Nat) = 0 ↔ m = 0 := by
    rw [Nat.shiftLeft_eq, Nat.mul_eq_zero]
    have : (2 : Nat) ^ k ≠ 0 := Nat.pos_iff_ne_zero.1 (Nat.two_pow_pos k)
    simp [this]
  cases s <;> simp [h] <;> omega
theorem zero_iff (x : Nat) : (Ieee.double.order x 0 == some .eq) = decide (x % 9223372036854775808 = 0) := by
  have e0 : Ieee.double.read 0 = .number false 0 Ieee.double.leastPlace := by decide
  unfold Ieee.Format.order
  rw [e0]
  rcases read_cases x with ⟨h, s, e⟩ | ⟨h, h2, s, m, p, hm, e⟩ | ⟨h, s, e⟩ | ⟨h, s, f, e⟩
  · rw [e]
    simp only [Ieee.Datum.order]
    rw [Bool.eq_iff_iff]
    simp only [beq_iff_eq, Option.some.injEq, Int.compare_eq_eq, decide_eq_true_eq]
    rw [show Ieee.signed false 0 _ = 0 from (signed_zero _ _ _).2 rfl, signed_zero]
  · rw [e, decide_eq_false (by omega)]
    simp only [Ieee.Datum.order]
    rw [Bool.eq_iff_iff]
    simp only [beq_iff_eq, Option.some.injEq, Int.compare_eq_eq]
    rw [show Ieee.signed false 0 _ = 0 from (signed_zero _ _ _).2 rfl, signed_zero]
    simp
    omega
  · rw [e, decide_eq_false (by omega)]
    cases s <;> simp [Ieee.Datum.order]
  · rw [e, decide_eq_false (by omega)]
    simp [Ieee.Datum.order]
end Go.Proofs.Ytcgonhnfpnmlcaa
