
/- Scale (chapter 3), in plain Lean: what the statement wants of it. -/
import Derived.Test.YtcgonhnfpnmlcaaLagWholeLaw
set_option linter.unusedVariables false
set_option linter.unusedSimpArgs false
namespace Go.Proofs.Ytcgonhnfpnmlcaa
open Go.RowKit Go.Proofs.YtcgonhnfpnmlcaaW.PrintWords Go.Proofs.YtcgonhnfpnmlcaaW.PrintLast Go.Proofs.YtcgonhnfpnmlcaaW.PrintMore

theorem modE (E fr : Nat) (hf : fr < 4503599627370496) : (E * 4503599627370496 + fr) % 4503599627370496 = fr := by omega
theorem divE (E fr : Nat) (hf : fr < 4503599627370496) : (E * 4503599627370496 + fr) / 4503599627370496 = E := by omega
theorem scale_norm (sg E fr E' : Nat) (a : Int) (hE : (E' : Int) = a + E) (hsg : sg ≤ 1) (h1 : 1 ≤ E) (h2 : E ≤ 2046) (h3 : 1 ≤ E') (h4 : E' ≤ 2046) (hf : fr < 4503599627370496) : scaleF (sg * 9223372036854775808 + (E * 4503599627370496 + fr)) a = sg * 9223372036854775808 + (E' * 4503599627370496 + fr) := by
  have e1 : (sg * 9223372036854775808 + (E * 4503599627370496 + fr)) % 9223372036854775808 = E * 4503599627370496 + fr := by omega
  have e2 : (sg * 9223372036854775808 + (E * 4503599627370496 + fr)) / 9223372036854775808 = sg := by omega
  have e3 : sigM (E * 4503599627370496 + fr) = 4503599627370496 + fr := by
    have e5 := modE E fr hf
    unfold sigM
    rw [if_neg (by omega), e5]
  have e4 : sigE (E * 4503599627370496 + fr) = E := by
    have e5 := divE E fr hf
    unfold sigE
    rw [if_neg (by omega), e5]
  unfold scaleF
  rw [e1, if_neg (by omega), e2, e3, e4, ← hE, nearR_high _ _ (by omega) (by omega) (by omega), Int.toNat_natCast, Nat.add_sub_cancel_left, plain_word _ _ hsg (by omega)]
  unfold wordF
  rw [Nat.min_eq_left (by omega)]
theorem scale_zero (x : Nat) (hx : x < 18446744073709551616) : scaleF x 0 = plainF x := by
  by_cases h : x % 9223372036854775808 = 0 ∨ 9218868437227405312 ≤ x % 9223372036854775808
  · unfold scaleF
    rw [if_pos h]
  · have hp : plainF x = x := by
      unfold plainF
      rw [if_neg (by omega), if_neg (by omega)]
    rcases Nat.lt_or_ge (x % 9223372036854775808) 4503599627370496 with h1 | h1
    · unfold scaleF
      rw [if_neg h]
      unfold sigM sigE
      rw [if_pos h1, if_pos h1]
      have hn : nearR (x % 9223372036854775808) (0 + ((1 : Nat) : Int) - 1075) = x % 9223372036854775808 := by
        have hl : (x % 9223372036854775808).log2 < 52 := (Nat.log2_lt (by omega)).2 (by omega)
        unfold nearR
        rw [show max (0 + ((1 : Nat) : Int) - 1075 + ((x % 9223372036854775808).log2 : Int) - 52) (-1074) = -1074 by omega]
        rw [show ((-1074 : Int) + 1074).toNat = 0 by omega, show (0 + ((1 : Nat) : Int) - 1075 - -1074).toNat = 0 by omega, show ((-1074 : Int) - (0 + ((1 : Nat) : Int) - 1075)).toNat = 0 by omega, Nat.pow_zero, Nat.mul_one, shiftF_zero]
        omega
      rw [hn]
      unfold wordF
      rw [Nat.min_eq_left (by omega), show x / 9223372036854775808 * 9223372036854775808 + x % 9223372036854775808 = x by omega]
    · have e := scale_norm (x / 9223372036854775808) (x % 9223372036854775808 / 4503599627370496) (x % 4503599627370496) (x % 9223372036854775808 / 4503599627370496) 0 (by omega) (by omega) (by omega) (by omega) (by omega) (by omega) (by omega)
      rw [show x / 9223372036854775808 * 9223372036854775808 + (x % 9223372036854775808 / 4503599627370496 * 4503599627370496 + x % 4503599627370496) = x by omega] at e
      rw [hp]
      exact e
theorem scale_plain (x : Nat) (hx : x < 18446744073709551616) (k : Int) : scaleF (plainF x) k = scaleF x k := by
  by_cases h1 : 9218868437227405312 < x % 9223372036854775808
  · have e : plainF x = 9221120237041090561 := by unfold plainF; rw [if_pos h1]
    unfold scaleF
    rw [e, if_pos (by decide), if_pos (by omega)]
    decide
  · by_cases h2 : x % 9223372036854775808 = 0
    · have e : plainF x = 0 := by unfold plainF; rw [if_neg h1, if_pos h2]
      unfold scaleF
      rw [e, if_pos (by decide), if_pos (by omega)]
      decide
    · rw [show plainF x = x by unfold plainF; rw [if_neg h1, if_neg h2]]
theorem scale_inf (x : Nat) (k : Int) (h : 9218868437227405312 ≤ x % 9223372036854775808) : scaleF x k = plainF x := by
  unfold scaleF
  rw [if_pos (Or.inr h)]
theorem ofW_form (c : Nat) (h0 : c ≠ 0) (h : c < 9007199254740992) : ∃ l d : Nat, l + d = 52 ∧ ofW c = (l + 1023) * 4503599627370496 + (c * 2 ^ d - 4503599627370496) ∧ 4503599627370496 ≤ c * 2 ^ d ∧ c * 2 ^ d < 9007199254740992 := by
  have hl : c.log2 < 53 := (Nat.log2_lt h0).2 (by omega)
  have a := Nat.log2_self_le h0
  have b := Nat.lt_log2_self (n := c)
  obtain ⟨d, hd⟩ : ∃ d, 52 - c.log2 = d := ⟨_, rfl⟩
  have p := Nat.two_pow_pos d
  have a2 := Nat.mul_le_mul_right (2 ^ d) a
  have b2 := Nat.mul_lt_mul_of_pos_right b p
  rw [← Nat.pow_add, show c.log2 + d = 52 by omega] at a2
  rw [← Nat.pow_add, show c.log2 + 1 + d = 53 by omega] at b2
  have e2 := nearR_shift c d 0 h0
  rw [show (0 : Int) - (d : Int) = ((c.log2 : Int) + 1023) - 1075 by omega, nearR_high _ _ a2 b2 (by omega), show ((c.log2 : Int) + 1023).toNat = c.log2 + 1023 by omega] at e2
  refine ⟨c.log2, d, by omega, ?_, a2, b2⟩
  rw [ofW_word c (by omega), show (c : Int).natAbs = c by omega, ← e2]
  unfold wordF sgI
  rw [if_neg (by omega), Nat.zero_mul, Nat.zero_add, Nat.min_eq_left (by omega)]
theorem scale_of (m s : Nat) (hm : m < 1073741824) (hs : s < 30) : scaleF (ofW (m : Int)) s = ofW ((m * 2 ^ s : Nat) : Int) := by
  by_cases h0 : m = 0
  · subst h0
    rw [Nat.zero_mul, show ofW ((0 : Nat) : Int) = 0 from ofW_zero]
    unfold scaleF
    rw [if_pos (by decide)]
    decide
  · obtain ⟨l, d, hld, e, b1, b2⟩ := ofW_form m h0 (by omega)
    have hms : m * 2 ^ s ≠ 0 := by
      have p := Nat.two_pow_pos s
      exact Nat.mul_ne_zero h0 (by omega)
    have e2 := nearR_shift m d s h0
    have e3 := nearR_shift m s s h0
    rw [Int.sub_self] at e3
    have hr := nearR_pos (m * 2 ^ s) hms
    rw [ofW_word ((m * 2 ^ s : Nat) : Int) (by omega), e, Int.natAbs_natCast]
    generalize m * 2 ^ d = q at *
    unfold scaleF
    have e5 : ((l + 1023) * 4503599627370496 + (q - 4503599627370496)) % 9223372036854775808 = (l + 1023) * 4503599627370496 + (q - 4503599627370496) := by omega
    have e6 : ((l + 1023) * 4503599627370496 + (q - 4503599627370496)) / 9223372036854775808 = 0 := by omega
    have e7 : ((l + 1023) * 4503599627370496 + (q - 4503599627370496)) % 4503599627370496 = q - 4503599627370496 := by omega
    have e8 : ((l + 1023) * 4503599627370496 + (q - 4503599627370496)) / 4503599627370496 = l + 1023 := by omega
    have h1 : sigM ((l + 1023) * 4503599627370496 + (q - 4503599627370496)) = q := by
      unfold sigM
      rw [if_neg (by omega), e7]
      omega
    have h2 : sigE ((l + 1023) * 4503599627370496 + (q - 4503599627370496)) = l + 1023 := by
      unfold sigE
      rw [if_neg (by omega), e8]
    rw [e5, if_neg (by omega), e6, h1, h2, show (s : Int) + ((l + 1023 : Nat) : Int) - 1075 = (s : Int) - (d : Int) by omega, e2, ← e3, show sgI ((m * 2 ^ s : Nat) : Int) = 0 by unfold sgI; rw [if_neg (by omega)], plain_word _ _ (by omega) (by omega)]
end Go.Proofs.Ytcgonhnfpnmlcaa
