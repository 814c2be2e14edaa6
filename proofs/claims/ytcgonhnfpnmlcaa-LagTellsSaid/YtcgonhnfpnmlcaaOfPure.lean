
/- A whole number's float (chapter 3), in plain Lean: the document's rounding and the model's. -/
import Derived.Test.YtcgonhnfpnmlcaaLagTicks
set_option linter.unusedVariables false
set_option linter.unusedSimpArgs false
namespace Go.Proofs.Ytcgonhnfpnmlcaa
open Go.RowKit Go.Proofs.YtcgonhnfpnmlcaaW.PrintWords Go.Proofs.YtcgonhnfpnmlcaaW.PrintLast Go.Proofs.YtcgonhnfpnmlcaaW.PrintMore

/-- By so many bits lower, to the nearest, to the even one of two (the document's 'shifted'). -/
def shiftF (m by_ : Nat) : Nat := m / 2 ^ by_ + (if 2 ^ by_ < 2 * (m % 2 ^ by_) ∨ (2 ^ by_ = 2 * (m % 2 ^ by_) ∧ m / 2 ^ by_ % 2 = 1) then 1 else 0)
theorem cut_even (neg : Bool) (n d : Nat) (h : d ≤ n.log2 + 2) : Ieee.Toward.cut .even neg n d = shiftF n d := by
  unfold Ieee.Toward.cut shiftF
  simp only
  rw [Nat.min_eq_left h, Nat.one_shiftLeft]
  congr 1
  generalize 2 ^ d = g
  generalize n / g = q
  generalize n % g = r
  by_cases h1 : g < 2 * r
  · rw [if_pos (Or.inl h1)]
    simp [h1]
  · by_cases h2 : g = 2 * r ∧ q % 2 = 1
    · rw [if_pos (Or.inr h2)]
      simp [h2.1, h2.2]
    · rw [if_neg (by intro h3; rcases h3 with h3 | h3; exact h1 h3; exact h2 h3)]
      have e1 : decide (g < 2 * r) = false := decide_eq_false h1
      have e2 : (g == 2 * r && q % 2 == 1) = false := by
        rw [Bool.eq_false_iff]
        intro h3
        rw [Bool.and_eq_true, beq_iff_eq, beq_iff_eq] at h3
        exact h2 h3
      rw [e1, e2]
      rfl
theorem shiftF_zero (m : Nat) : shiftF m 0 = m := by
  unfold shiftF
  rw [Nat.pow_zero, Nat.div_one, Nat.mod_one, if_neg (by omega), Nat.add_zero]
theorem lp_double : Ieee.double.leastPlace = -1074 := by decide
theorem fb_double : Ieee.double.fractionBits = 52 := rfl
theorem ww_double (neg : Bool) (r : Nat) : Ieee.double.word neg r = if neg = true then 9223372036854775808 + r else r := by
  unfold Ieee.Format.word
  rw [sw]
/-- A whole number's rung. -/
def ofR (m : Nat) : Nat := if m.log2 ≤ 52 then (m.log2 + 1022) * 4503599627370496 + m * 2 ^ (52 - m.log2) else (m.log2 + 1022) * 4503599627370496 + shiftF m (m.log2 - 52)
theorem nearest_whole (neg : Bool) (m : Nat) (h0 : m ≠ 0) (hm : m < 18446744073709551616) : Ieee.double.nearest neg m 0 = if neg = true then 9223372036854775808 + min (ofR m) 9218868437227405312 else min (ofR m) 9218868437227405312 := by
  have hl : m.log2 < 64 := (Nat.log2_lt h0).2 (by omega)
  unfold Ieee.Format.nearest
  rw [if_neg h0, ww_double, bw, iw, lp_double, fb_double]
  have e : max ((0 : Int) + (m.log2 : Int) - (52 : Nat)) (-1074) = (m.log2 : Int) - 52 := by omega
  simp only [e]
  have key : ((m.log2 : Int) - 52 - -1074).toNat * 4503599627370496 + Ieee.Toward.even.cut neg (m <<< ((0 : Int) - ((m.log2 : Int) - 52)).toNat) ((m.log2 : Int) - 52 - 0).toNat = ofR m := by
    unfold ofR
    rw [show ((m.log2 : Int) - 52 - -1074).toNat = m.log2 + 1022 by omega]
    by_cases h1 : m.log2 ≤ 52
    · rw [if_pos h1, show ((m.log2 : Int) - 52 - 0).toNat = 0 by omega, show ((0 : Int) - ((m.log2 : Int) - 52)).toNat = 52 - m.log2 by omega, cut_even _ _ _ (by omega), shiftF_zero, Nat.shiftLeft_eq]
    · rw [if_neg h1, show ((0 : Int) - ((m.log2 : Int) - 52)).toNat = 0 by omega, Nat.shiftLeft_zero, show ((m.log2 : Int) - 52 - 0).toNat = m.log2 - 52 by omega, cut_even _ _ _ (by omega)]
  rw [key]
theorem ofW_eq (n : Int) (h0 : n ≠ 0) (hn : n.natAbs < 18446744073709551616) : ofW n = if n < 0 then 9223372036854775808 + min (ofR n.natAbs) 9218868437227405312 else min (ofR n.natAbs) 9218868437227405312 := by
  unfold ofW FloatKind.nearest FloatKind.encode
  show Ieee.double.nearest (decide (n < 0)) n.natAbs 0 = _
  rw [nearest_whole _ _ (by omega) hn]
  by_cases h : n < 0
  · rw [if_pos h, decide_eq_true h, if_pos rfl]
  · rw [if_neg h, decide_eq_false h, if_neg (by simp)]
theorem ofW_zero : ofW 0 = 0 := by decide +kernel
end Go.Proofs.Ytcgonhnfpnmlcaa
