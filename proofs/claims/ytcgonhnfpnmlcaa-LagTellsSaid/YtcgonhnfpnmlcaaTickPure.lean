
/- Ticks (chapter 3), in plain Lean: the least whole number that is not less. -/
import Derived.Test.YtcgonhnfpnmlcaaLagRef4
set_option linter.unusedVariables false
set_option linter.unusedSimpArgs false
namespace Go.Proofs.Ytcgonhnfpnmlcaa
open Go.RowKit Go.Proofs.YtcgonhnfpnmlcaaW.PrintWords Go.Proofs.YtcgonhnfpnmlcaaW.PrintLast Go.Proofs.YtcgonhnfpnmlcaaW.PrintMore

/-- m / 2^d, upwards. -/
def ceilF (m d : Nat) : Nat := m / 2 ^ d + if m % 2 ^ d = 0 then 0 else 1
theorem cut_up (n d : Nat) (h0 : n ≠ 0) : Ieee.Toward.cut .up false n d = ceilF n d := by
  unfold Ieee.Toward.cut ceilF
  simp only [Bool.not_false, Bool.true_and]
  rw [Nat.one_shiftLeft]
  rcases Nat.lt_or_ge (n.log2 + 2) d with h | h
  · rw [Nat.min_eq_right (by omega)]
    have h1 := Nat.lt_log2_self (n := n)
    have h2 : 2 ^ (n.log2 + 1) ≤ 2 ^ d := Nat.pow_le_pow_right (by omega) (by omega)
    have h3 : 2 ^ (n.log2 + 1) ≤ 2 ^ (n.log2 + 2) := Nat.pow_le_pow_right (by omega) (by omega)
    rw [Nat.div_eq_of_lt (by omega), Nat.mod_eq_of_lt (by omega), Nat.div_eq_of_lt (by omega), Nat.mod_eq_of_lt (by omega), if_neg h0]
    simp [h0]
  · rw [Nat.min_eq_left h]
    congr 1
    by_cases h1 : n % 2 ^ d = 0
    · simp [h1]
    · simp [h1]
theorem cut_zero (n d : Nat) (h : d ≤ n.log2 + 2) : Ieee.Toward.cut .zero false n d = n / 2 ^ d := by
  unfold Ieee.Toward.cut
  simp only
  rw [Nat.min_eq_left h, Nat.one_shiftLeft]
  simp
theorem ceilF_spec (m d : Nat) : m ≤ ceilF m d * 2 ^ d ∧ (0 < m → (ceilF m d - 1) * 2 ^ d < m ∧ 1 ≤ ceilF m d) := by
  have h := Nat.div_add_mod m (2 ^ d)
  have p := Nat.two_pow_pos d
  have h2 := Nat.mod_lt m p
  unfold ceilF
  generalize 2 ^ d = g at *
  rw [Nat.mul_comm] at h
  generalize m % g = r at *
  generalize m / g = q at *
  by_cases h1 : r = 0
  · subst h1
    rw [if_pos rfl, Nat.add_zero]
    refine ⟨by omega, fun h3 => ?_⟩
    have hq : 1 ≤ q := by
      rcases Nat.eq_zero_or_pos q with h4 | h4
      · subst h4; omega
      · exact h4
    have e : (q - 1) * g + g = q * g := by
      rw [← Nat.succ_mul]
      congr 1
      omega
    exact ⟨by omega, hq⟩
  · rw [if_neg h1]
    have e : (q + 1) * g = q * g + g := Nat.succ_mul _ _
    exact ⟨by omega, fun _ => ⟨by rw [Nat.add_sub_cancel]; omega, by omega⟩⟩
theorem read_sig (x : Nat) (h : x % 9223372036854775808 < 9218868437227405312) : Ieee.double.read x = .number (x / 9223372036854775808 % 2 == 1) (sigM (x % 9223372036854775808)) ((sigE (x % 9223372036854775808) : Int) - 1075) := by
  unfold Ieee.Format.read sigM sigE
  rw [sw, bw, iw, lp_double]
  simp only
  by_cases h1 : x % 9223372036854775808 < 4503599627370496
  · rw [if_pos h1, if_pos h1, if_pos h1]
    rfl
  · rw [if_neg h1, if_neg h1, if_neg h1, if_pos h]
    congr 1
    omega
theorem sig_bd (s : Nat) (h : s < 9218868437227405312) : sigM s < 9007199254740992 ∧ 1 ≤ sigE s ∧ sigE s ≤ 2046 ∧ (0 < s → 0 < sigM s) := by
  unfold sigM sigE
  by_cases h1 : s < 4503599627370496
  · rw [if_pos h1, if_pos h1]
    omega
  · rw [if_neg h1, if_neg h1]
    omega
/-- A float's size is its significand by its power. -/
theorem mag_sig (s : Nat) : mag s = sigM s * 2 ^ (sigE s - 1) := by
  unfold mag sigM sigE
  by_cases h1 : s < 4503599627370496
  · rw [if_pos h1, if_pos h1, if_pos h1]
    simp
  · rw [if_neg h1, if_neg h1, if_neg h1]
/-- How many of the least floats are 1. -/
def U1 : Nat := 2 ^ 1074
theorem U1_split {a b : Nat} (h : a + b = 1074) : U1 = 2 ^ a * 2 ^ b := by
  unfold U1
  rw [← Nat.pow_add, h]
theorem U1_pos : 0 < U1 := by
  unfold U1
  exact Nat.two_pow_pos 1074
theorem whole53 : mag (nearR 9007199254740992 0) = 9007199254740992 * U1 := by decide +kernel
/-- A whole number's word, of at most 2^53. -/
theorem nearR_whole (m : Nat) (h0 : m ≠ 0) (h : m ≤ 9007199254740992) : mag (nearR m 0) = m * U1 ∧ nearR m 0 < 9218868437227405312 ∧ 4503599627370496 ≤ nearR m 0 := by
  rcases Nat.lt_or_ge m 9007199254740992 with h1 | h1
  · have hl : m.log2 < 53 := (Nat.log2_lt h0).2 (by omega)
    have a := Nat.log2_self_le h0
    have b := Nat.lt_log2_self (n := m)
    obtain ⟨d, hd⟩ : ∃ d, 52 - m.log2 = d := ⟨_, rfl⟩
    have p := Nat.two_pow_pos d
    have a2 := Nat.mul_le_mul_right (2 ^ d) a
    have b2 := Nat.mul_lt_mul_of_pos_right b p
    rw [← Nat.pow_add, show m.log2 + d = 52 by omega] at a2
    rw [← Nat.pow_add, show m.log2 + 1 + d = 53 by omega] at b2
    have e2 := nearR_shift m d 0 h0
    rw [show (0 : Int) - (d : Int) = ((m.log2 : Int) + 1023) - 1075 by omega, nearR_high _ _ a2 b2 (by omega), show ((m.log2 : Int) + 1023).toNat = m.log2 + 1023 by omega] at e2
    rw [← e2]
    refine ⟨?_, by omega, by omega⟩
    unfold mag
    rw [if_neg (by omega)]
    have e3 : m * U1 = m * 2 ^ d * 2 ^ (m.log2 + 1022) := by
      rw [Nat.mul_assoc, ← U1_split (by omega)]
    rw [e3]
    generalize m * 2 ^ d = q at *
    generalize m.log2 = l at *
    clear e3 a b
    have e5 : ((l + 1023) * 4503599627370496 + (q - 4503599627370496)) % 4503599627370496 = q - 4503599627370496 := by omega
    have e6 : ((l + 1023) * 4503599627370496 + (q - 4503599627370496)) / 4503599627370496 = l + 1023 := by omega
    rw [e5, e6, Nat.add_sub_cancel' a2]
    rfl
  · obtain rfl : m = 9007199254740992 := by omega
    exact ⟨whole53, by decide +kernel, by decide +kernel⟩
theorem ofW_val (n : Int) (h : -9007199254740992 ≤ n ∧ n ≤ 9007199254740992) : val (ofW n) = n * U1 ∧ ofW n % 9223372036854775808 < 9218868437227405312 ∧ ofW n < 18446744073709551616 := by
  by_cases h0 : n = 0
  · subst h0
    rw [ofW_zero]
    exact ⟨by rw [Int.zero_mul]; decide, by decide, by decide⟩
  · obtain ⟨e, b1, b2⟩ := nearR_whole n.natAbs (by omega) (by omega)
    rw [ofW_word n h0]
    unfold wordF
    rw [Nat.min_eq_left (by omega)]
    have hc : ((n.natAbs * U1 : Nat) : Int) = (n.natAbs : Int) * U1 := Int.natCast_mul _ _
    generalize nearR n.natAbs 0 = R at *
    unfold val sgI
    by_cases h1 : n < 0
    · rw [if_pos h1, Nat.one_mul]
      rw [show (9223372036854775808 + R) / 9223372036854775808 % 2 = 1 by omega, show (9223372036854775808 + R) % 9223372036854775808 = R by omega, e, hc, if_pos (by decide)]
      refine ⟨?_, by omega, by omega⟩
      rw [show (n.natAbs : Int) = -n by omega, Int.neg_mul, Int.neg_neg]
    · rw [if_neg h1, Nat.zero_mul, Nat.zero_add]
      rw [show R / 9223372036854775808 % 2 = 0 by omega, show R % 9223372036854775808 = R by omega, e, hc, if_neg (by decide)]
      refine ⟨?_, by omega, by omega⟩
      rw [show (n.natAbs : Int) = n by omega]
/-- What is ticked of a word that is no NaN. -/
def tickN (x : Nat) : Nat := if 9223372036854775808 ≤ x ∨ x = 0 then 0 else if 4787326403894837248 < x then 1099511627776 else ceilF (sigM x) (1075 - sigE x)
theorem word40 : ofW 1099511627776 = 4787326403894837248 := by decide +kernel
theorem tick_mid (x : Nat) (h0 : 0 < x) (h : x ≤ 4787326403894837248) : mag x ≤ ceilF (sigM x) (1075 - sigE x) * U1 ∧ (ceilF (sigM x) (1075 - sigE x) - 1) * U1 < mag x ∧ 1 ≤ ceilF (sigM x) (1075 - sigE x) := by
  obtain ⟨b1, b2, b3, b4⟩ := sig_bd x (by omega)
  have b5 : sigE x ≤ 1063 := by
    unfold sigE
    split <;> omega
  obtain ⟨c1, c2⟩ := ceilF_spec (sigM x) (1075 - sigE x)
  obtain ⟨c3, c4⟩ := c2 (b4 h0)
  rw [mag_sig]
  generalize ceilF (sigM x) (1075 - sigE x) = c at *
  have p := Nat.two_pow_pos (sigE x - 1)
  have e : U1 = 2 ^ (1075 - sigE x) * 2 ^ (sigE x - 1) := U1_split (by omega)
  rw [e, ← Nat.mul_assoc, ← Nat.mul_assoc]
  exact ⟨Nat.mul_le_mul_right _ c1, Nat.mul_lt_mul_of_pos_right c3 p, c4⟩
theorem ceil_bd (x : Nat) (h0 : 0 < x) (h : x ≤ 4787326403894837248) : 1 ≤ ceilF (sigM x) (1075 - sigE x) ∧ ceilF (sigM x) (1075 - sigE x) ≤ 1099511627776 := by
  obtain ⟨a, b, c⟩ := tick_mid x h0 h
  refine ⟨c, ?_⟩
  have hm : mag x ≤ mag 4787326403894837248 := by
    rcases Nat.lt_or_ge x 4787326403894837248 with h1 | h1
    · exact Nat.le_of_lt (mag_mono h1)
    · rw [show x = 4787326403894837248 by omega]; exact Nat.le_refl _
  have e40 : mag 4787326403894837248 = 1099511627776 * U1 := by decide +kernel
  rw [e40] at hm
  have h3 : (ceilF (sigM x) (1075 - sigE x) - 1) * U1 < 1099511627776 * U1 := Nat.lt_of_lt_of_le b hm
  have h4 := Nat.lt_of_mul_lt_mul_right h3
  omega
end Go.Proofs.Ytcgonhnfpnmlcaa
