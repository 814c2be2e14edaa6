
/- Floats' words (chapter 3), in plain Lean: their order. -/
import Derived.Test.YtcgonhnfpnmlcaaFloatPure
set_option linter.unusedVariables false
set_option linter.unusedSimpArgs false
namespace Go.Proofs.Ytcgonhnfpnmlcaa
open Go.RowKit Go.Proofs.YtcgonhnfpnmlcaaW.PrintWords Go.Proofs.YtcgonhnfpnmlcaaW.PrintLast Go.Proofs.YtcgonhnfpnmlcaaW.PrintMore

/-- A finite word's magnitude, in units of the least one. -/
def mag (s : Nat) : Nat := if s < 4503599627370496 then s else (4503599627370496 + s % 4503599627370496) * 2 ^ (s / 4503599627370496 - 1)
theorem mag_mono {s t : Nat} (h : s < t) : mag s < mag t := by
  unfold mag
  by_cases h1 : s < 4503599627370496
  · rw [if_pos h1]
    by_cases h2 : t < 4503599627370496
    · rw [if_pos h2]; exact h
    · rw [if_neg h2]
      have := Nat.le_mul_of_pos_right (4503599627370496 + t % 4503599627370496) (Nat.two_pow_pos (t / 4503599627370496 - 1))
      omega
  · rw [if_neg h1, if_neg (by omega)]
    have e1 := Nat.div_add_mod s 4503599627370496
    have e2 := Nat.div_add_mod t 4503599627370496
    have m1 := Nat.mod_lt s (show 0 < 4503599627370496 by omega)
    have m2 := Nat.mod_lt t (show 0 < 4503599627370496 by omega)
    generalize s % 4503599627370496 = a at *
    generalize t % 4503599627370496 = b at *
    generalize s / 4503599627370496 = i at *
    generalize t / 4503599627370496 = j at *
    rcases Nat.lt_trichotomy i j with hij | hij | hij
    · obtain ⟨d, rfl⟩ : ∃ d, j = i + 1 + d := ⟨j - (i + 1), by omega⟩
      obtain ⟨i', rfl⟩ : ∃ i', i = i' + 1 := ⟨i - 1, by omega⟩
      have p := Nat.two_pow_pos i'
      have q := Nat.two_pow_pos d
      rw [show i' + 1 - 1 = i' by omega, show i' + 1 + 1 + d - 1 = (i' + 1) + d by omega, Nat.pow_add, Nat.pow_succ]
      calc (4503599627370496 + a) * 2 ^ i' < (2 * 4503599627370496) * 2 ^ i' := Nat.mul_lt_mul_of_pos_right (by omega) p
        _ = 4503599627370496 * (2 ^ i' * 2) := by rw [Nat.mul_comm 2 4503599627370496, Nat.mul_assoc, Nat.mul_comm 2 (2 ^ i')]
        _ ≤ 4503599627370496 * (2 ^ i' * 2 * 2 ^ d) := Nat.mul_le_mul_left _ (Nat.le_mul_of_pos_right _ q)
        _ ≤ (4503599627370496 + b) * (2 ^ i' * 2 * 2 ^ d) := Nat.mul_le_mul_right _ (by omega)
    · subst hij
      exact Nat.mul_lt_mul_of_pos_right (by omega) (Nat.two_pow_pos _)
    · omega
theorem mag_lt {s t : Nat} : mag s < mag t ↔ s < t := by
  constructor
  · intro h
    rcases Nat.lt_trichotomy s t with g | g | g
    · exact g
    · subst g; omega
    · have := mag_mono g; omega
  · exact mag_mono
theorem mag_eq {s t : Nat} : mag s = mag t ↔ s = t := by
  constructor
  · intro h
    rcases Nat.lt_trichotomy s t with g | g | g
    · have := mag_mono g; omega
    · exact g
    · have := mag_mono g; omega
  · rintro rfl; rfl
theorem mag_zero : mag 0 = 0 := by decide
/-- A finite word's datum by its magnitude. -/
theorem read_mag (x : Nat) (h : x % 9223372036854775808 < 9218868437227405312) : ∃ (m a : Nat), Ieee.double.read x = .number (x / 9223372036854775808 % 2 == 1) m (Ieee.double.leastPlace + a) ∧ m * 2 ^ a = mag (x % 9223372036854775808) := by
  unfold Ieee.Format.read mag
  rw [sw, bw, iw]
  simp only
  by_cases h1 : x % 9223372036854775808 < 4503599627370496
  · rw [if_pos h1, if_pos h1]
    exact ⟨x % 9223372036854775808, 0, by simp, by simp⟩
  · rw [if_neg h1, if_neg h1, if_pos h]
    exact ⟨_, _, rfl, rfl⟩
theorem signed_scale (s : Bool) (m a k : Nat) (h : k ≤ a) : Ieee.signed s m (a - k) * 2 ^ k = Ieee.signed s m a := by
  have e : (m <<< (a - k)) * 2 ^ k = m <<< a := by
    rw [Nat.shiftLeft_eq, Nat.shiftLeft_eq, Nat.mul_assoc, ← Nat.pow_add, Nat.sub_add_cancel h]
  unfold Ieee.signed
  cases s
  · simp only [Bool.false_eq_true, if_false]
    rw [← e]; simp
  · simp only [if_true]
    rw [← e, Int.neg_mul]; simp
/-- A word's value, in units of the least float; a NaN's is not asked for. -/
def vmag (s : Nat) : Nat := if s < 9218868437227405312 then mag s else mag 9218868437227405312
def val (x : Nat) : Int := if (x / 9223372036854775808 % 2 == 1) = true then -(mag (x % 9223372036854775808) : Int) else (mag (x % 9223372036854775808) : Int)
theorem signed_val (s : Bool) (m a : Nat) : Ieee.signed s m a = if s = true then -((m * 2 ^ a : Nat) : Int) else ((m * 2 ^ a : Nat) : Int) := by
  unfold Ieee.signed
  rw [Nat.shiftLeft_eq]
theorem order_fin (x y : Nat) (hx : x % 9223372036854775808 < 9218868437227405312) (hy : y % 9223372036854775808 < 9218868437227405312) : Ieee.double.order x y = some (compare (val x) (val y)) := by
  obtain ⟨m, a, ex, em⟩ := read_mag x hx
  obtain ⟨n, b, ey, en⟩ := read_mag y hy
  unfold Ieee.Format.order
  rw [ex, ey]
  simp only [Ieee.Datum.order]
  generalize Ieee.double.leastPlace = lp
  have hb : ∃ k : Nat, min (lp + (a : Int)) (lp + b) = lp + k ∧ k ≤ a ∧ k ≤ b := ⟨min a b, by omega, by omega, by omega⟩
  obtain ⟨k, hk, ha, hb⟩ := hb
  rw [hk, show (lp + (a : Int) - (lp + k)).toNat = a - k by omega, show (lp + (b : Int) - (lp + k)).toNat = b - k by omega]
  have e1 := signed_scale (x / 9223372036854775808 % 2 == 1) m a k ha
  have e2 := signed_scale (y / 9223372036854775808 % 2 == 1) n b k hb
  rw [signed_val _ m a, em] at e1
  rw [signed_val _ n b, en] at e2
  have p : (0 : Int) < 2 ^ k := Int.pow_pos (by decide)
  unfold val
  rw [← e1, ← e2]
  congr 1
  generalize Ieee.signed _ m (a - k) = X
  generalize Ieee.signed _ n (b - k) = Y
  rcases Int.lt_trichotomy X Y with h | h | h
  · rw [Int.compare_eq_lt.2 h, Int.compare_eq_lt.2 (Int.mul_lt_mul_of_pos_right h p)]
  · rw [h, Int.compare_eq_eq.2 rfl, Int.compare_eq_eq.2 rfl]
  · rw [Int.compare_eq_gt.2 h, Int.compare_eq_gt.2 (Int.mul_lt_mul_of_pos_right h p)]
end Go.Proofs.Ytcgonhnfpnmlcaa
