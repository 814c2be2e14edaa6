
/- The model's rounding of a number, in plain Lean: it hangs on the number alone, and is the document's. -/
import Derived.Test.YtcgonhnfpnmlcaaOfPure
set_option linter.unusedVariables false
set_option linter.unusedSimpArgs false
namespace Go.Proofs.Ytcgonhnfpnmlcaa
open Go.RowKit Go.Proofs.YtcgonhnfpnmlcaaW.PrintWords Go.Proofs.YtcgonhnfpnmlcaaW.PrintLast Go.Proofs.YtcgonhnfpnmlcaaW.PrintMore

theorem log2_lt' (n : Nat) : n < 2 ^ (n.log2 + 1) := Nat.lt_log2_self
theorem shiftF_far (n d : Nat) (h : n.log2 + 2 ≤ d) : shiftF n d = 0 := by
  have h1 := log2_lt' n
  have h2 : 2 ^ (n.log2 + 2) ≤ 2 ^ d := Nat.pow_le_pow_right (by omega) h
  rw [Nat.pow_succ] at h2
  unfold shiftF
  generalize 2 ^ d = g at *
  generalize 2 ^ (n.log2 + 1) = f at *
  rw [Nat.div_eq_of_lt (by omega), Nat.mod_eq_of_lt (by omega), if_neg (by omega)]
theorem cut_all (neg : Bool) (n d : Nat) : Ieee.Toward.cut .even neg n d = shiftF n d := by
  rcases Nat.lt_or_ge (n.log2 + 2) d with h | h
  · rw [shiftF_far n d (by omega), ← shiftF_far n (n.log2 + 2) (by omega), ← cut_even neg n (n.log2 + 2) (by omega)]
    unfold Ieee.Toward.cut
    rw [Nat.min_eq_right (by omega), Nat.min_self]
  · exact cut_even neg n d h
theorem shiftF_mul (m u v c : Nat) : shiftF (m * 2 ^ (c + u)) (c + v) = shiftF (m * 2 ^ u) v := by
  unfold shiftF
  have p := Nat.two_pow_pos c
  have e1 : m * 2 ^ (c + u) = m * 2 ^ u * 2 ^ c := by rw [Nat.pow_add, Nat.mul_comm (2 ^ c), Nat.mul_assoc]
  have e2 : 2 ^ (c + v) = 2 ^ v * 2 ^ c := by rw [Nat.pow_add, Nat.mul_comm]
  rw [e1, e2, Nat.mul_div_mul_right _ _ p, Nat.mul_mod_mul_right]
  congr 1
  generalize m * 2 ^ u % 2 ^ v = r
  generalize 2 ^ v = g
  generalize 2 ^ c = q at *
  have h1 : g * q < 2 * (r * q) ↔ g < 2 * r := by
    rw [← Nat.mul_assoc]
    exact Nat.mul_lt_mul_right p
  have h2 : g * q = 2 * (r * q) ↔ g = 2 * r := by
    rw [← Nat.mul_assoc]
    exact Nat.mul_right_cancel_iff p
  simp only [h1, h2]
/-- The rung nearest to m * 2 ^ p (unbounded). -/
def nearR (m : Nat) (p : Int) : Nat := (max (p + (m.log2 : Int) - 52) (-1074) + 1074).toNat * 4503599627370496 + shiftF (m * 2 ^ (p - max (p + (m.log2 : Int) - 52) (-1074)).toNat) (max (p + (m.log2 : Int) - 52) (-1074) - p).toNat
theorem nearest_nearR (neg : Bool) (m : Nat) (p : Int) (h0 : m ≠ 0) : Ieee.double.nearest neg m p = if neg = true then 9223372036854775808 + min (nearR m p) 9218868437227405312 else min (nearR m p) 9218868437227405312 := by
  unfold Ieee.Format.nearest nearR
  rw [if_neg h0, ww_double, bw, iw, lp_double, fb_double, cut_all, Nat.shiftLeft_eq]
  rfl
theorem log2_mul_pow (m a : Nat) (h : m ≠ 0) : (m * 2 ^ a).log2 = m.log2 + a := by
  have p := Nat.two_pow_pos a
  refine (Nat.log2_eq_iff (Nat.mul_ne_zero h (by omega))).2 ⟨?_, ?_⟩
  · rw [Nat.pow_add]
    exact Nat.mul_le_mul_right _ (Nat.log2_self_le h)
  · rw [show m.log2 + a + 1 = (m.log2 + 1) + a by omega, Nat.pow_add]
    exact Nat.mul_lt_mul_of_pos_right Nat.lt_log2_self p
theorem nearR_shift (m a : Nat) (p : Int) (h : m ≠ 0) : nearR (m * 2 ^ a) (p - a) = nearR m p := by
  unfold nearR
  rw [log2_mul_pow m a h]
  rw [show p - (a : Int) + ((m.log2 + a : Nat) : Int) - 52 = p + (m.log2 : Int) - 52 by omega]
  generalize max (p + (m.log2 : Int) - 52) (-1074) = L
  congr 1
  rcases Int.lt_or_le L p with h1 | h1
  · rw [show (L - p).toNat = 0 by omega]
    rcases Int.lt_or_le L (p - a) with h2 | h2
    · rw [show (L - (p - a)).toNat = 0 by omega, Nat.mul_assoc, ← Nat.pow_add]
      congr 3
      omega
    · rw [show (p - a - L).toNat = 0 by omega, Nat.pow_zero, Nat.mul_one]
      obtain ⟨b, hb⟩ : ∃ b, (L - (p - a)).toNat = b := ⟨_, rfl⟩
      have e := shiftF_mul m (p - L).toNat 0 b
      rw [hb, ← e, Nat.add_zero]
      congr 3
      omega
  · rw [show (p - L).toNat = 0 by omega, show (p - a - L).toNat = 0 by omega, Nat.pow_zero, Nat.mul_one, Nat.mul_one]
    have e := shiftF_mul m 0 (L - p).toNat a
    rw [Nat.add_zero, Nat.pow_zero, Nat.mul_one] at e
    rw [← e]
    congr 1
    omega
theorem log2_53 (m : Nat) (h1 : 4503599627370496 ≤ m) (h2 : m < 9007199254740992) : m.log2 = 52 := (Nat.log2_eq_iff (by omega)).2 ⟨by omega, by omega⟩
/-- Of a number from 2^52 to less than 2^53 the rung is what the document says. -/
theorem nearR_low (m : Nat) (e : Int) (h1 : 4503599627370496 ≤ m) (h2 : m < 9007199254740992) (he : e < 1) : nearR m (e - 1075) = shiftF m (1 - e).toNat := by
  unfold nearR
  rw [log2_53 m h1 h2, show max (e - 1075 + ((52 : Nat) : Int) - 52) (-1074) = -1074 by omega]
  rw [show ((-1074 : Int) + 1074).toNat = 0 by omega, Nat.zero_mul, Nat.zero_add, show (e - 1075 - -1074).toNat = 0 by omega, Nat.pow_zero, Nat.mul_one]
  congr 1
  omega
theorem nearR_high (m : Nat) (e : Int) (h1 : 4503599627370496 ≤ m) (h2 : m < 9007199254740992) (he : 1 ≤ e) : nearR m (e - 1075) = e.toNat * 4503599627370496 + (m - 4503599627370496) := by
  unfold nearR
  rw [log2_53 m h1 h2, show max (e - 1075 + ((52 : Nat) : Int) - 52) (-1074) = e - 1075 by omega]
  rw [show (e - 1075 - (e - 1075)).toNat = 0 by omega, Nat.pow_zero, Nat.mul_one, shiftF_zero]
  omega
theorem shiftF_lo (m d : Nat) (h2 : m < 9007199254740992) (hd : 54 < d + 0) : shiftF m d = 0 := by
  by_cases h0 : m = 0
  · subst h0; exact shiftF_far 0 d (by simp; omega)
  · exact shiftF_far m d (by
      have := (Nat.log2_lt h0 (k := 53)).2 (by omega)
      omega)
theorem shiftF_54 (m : Nat) (h2 : m < 9007199254740992) : shiftF m 54 = 0 := by
  unfold shiftF
  rw [Nat.div_eq_of_lt (by omega), Nat.mod_eq_of_lt (by omega), if_neg (by omega)]
theorem shiftF_le (m d : Nat) : shiftF m (d + 1) ≤ m := by
  unfold shiftF
  have h := Nat.div_add_mod m (2 ^ (d + 1))
  have p := Nat.two_pow_pos d
  rw [Nat.pow_succ] at *
  generalize 2 ^ d = g at *
  have h3 : m / (g * 2) * 1 ≤ g * 2 * (m / (g * 2)) := by rw [Nat.mul_one]; exact Nat.le_mul_of_pos_left _ (by omega)
  generalize m / (g * 2) = q at *
  generalize m % (g * 2) = r at *
  generalize g * 2 * q = t at *
  split <;> omega
end Go.Proofs.Ytcgonhnfpnmlcaa
