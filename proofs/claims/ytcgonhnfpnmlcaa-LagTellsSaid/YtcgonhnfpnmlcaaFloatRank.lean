
/- Floats' words (chapter 3), in plain Lean: their ranks. -/
import Derived.Test.YtcgonhnfpnmlcaaFloatOrder
import Derived.Test.YtcgonhnfpnmlcaaLagWalk
set_option linter.unusedVariables false
set_option linter.unusedSimpArgs false
namespace Go.Proofs.Ytcgonhnfpnmlcaa
open Go.RowKit Go.Proofs.YtcgonhnfpnmlcaaW.PrintWords Go.Proofs.YtcgonhnfpnmlcaaW.PrintLast Go.Proofs.YtcgonhnfpnmlcaaW.PrintMore

theorem read_inf (x : Nat) (h : x % 9223372036854775808 = 9218868437227405312) : Ieee.double.read x = .infinity (x / 9223372036854775808 % 2 == 1) := by
  unfold Ieee.Format.read
  rw [sw, bw, iw]
  simp only
  rw [if_neg (by omega), if_neg (by omega), if_pos h]
theorem order_val (x y : Nat) (hx : x % 9223372036854775808 ≤ 9218868437227405312) (hy : y % 9223372036854775808 ≤ 9218868437227405312) : Ieee.double.order x y = some (compare (val x) (val y)) := by
  rcases Nat.lt_or_ge (x % 9223372036854775808) 9218868437227405312 with h1 | h1
  · rcases Nat.lt_or_ge (y % 9223372036854775808) 9218868437227405312 with h2 | h2
    · exact order_fin x y h1 h2
    · obtain ⟨m, a, ex, em⟩ := read_mag x h1
      have h3 : y % 9223372036854775808 = 9218868437227405312 := by omega
      have hm := mag_mono h1
      unfold Ieee.Format.order val
      rw [ex, read_inf y h3, h3]
      simp only [Ieee.Datum.order]
      congr 1
      rcases Bool.eq_false_or_eq_true (y / 9223372036854775808 % 2 == 1) with hb | hb
      · simp only [hb, if_true]
        rw [eq_comm, Int.compare_eq_gt]
        split <;> omega
      · simp only [hb, Bool.false_eq_true, if_false]
        rw [eq_comm, Int.compare_eq_lt]
        split <;> omega
  · have h4 : x % 9223372036854775808 = 9218868437227405312 := by omega
    rcases Nat.lt_or_ge (y % 9223372036854775808) 9218868437227405312 with h2 | h2
    · obtain ⟨m, a, ey, em⟩ := read_mag y h2
      have hm := mag_mono h2
      unfold Ieee.Format.order val
      rw [ey, read_inf x h4, h4]
      simp only [Ieee.Datum.order]
      congr 1
      rcases Bool.eq_false_or_eq_true (x / 9223372036854775808 % 2 == 1) with hb | hb
      · simp only [hb, if_true]
        rw [eq_comm, Int.compare_eq_lt]
        split <;> omega
      · simp only [hb, Bool.false_eq_true, if_false]
        rw [eq_comm, Int.compare_eq_gt]
        split <;> omega
    · have h3 : y % 9223372036854775808 = 9218868437227405312 := by omega
      have hm := mag_mono (show 0 < 9218868437227405312 by omega)
      rw [mag_zero] at hm
      unfold Ieee.Format.order val
      rw [read_inf y h3, read_inf x h4, h3, h4]
      simp only [Ieee.Datum.order]
      congr 1
      generalize mag 9218868437227405312 = M at *
      rcases Bool.eq_false_or_eq_true (x / 9223372036854775808 % 2 == 1) with hb | hb
      · rcases Bool.eq_false_or_eq_true (y / 9223372036854775808 % 2 == 1) with hc | hc
        · rw [hb, hc, if_pos rfl, Int.compare_eq_eq.2 rfl]; decide
        · rw [hb, hc, if_pos rfl, if_neg (by simp), Int.compare_eq_lt.2 (by omega)]; decide
      · rcases Bool.eq_false_or_eq_true (y / 9223372036854775808 % 2 == 1) with hc | hc
        · rw [hb, hc, if_neg (by simp), if_pos rfl, Int.compare_eq_gt.2 (by omega)]; decide
        · rw [hb, hc, if_neg (by simp), Int.compare_eq_eq.2 rfl]; decide
def rankF (x : Nat) : Nat := if 9223372036854775808 ≤ plainF x then 18446744073709551615 - plainF x else plainF x + 9223372036854775808
theorem val_rank (x y : Nat) (hx : x < 18446744073709551616) (hy : y < 18446744073709551616) (h1 : x % 9223372036854775808 ≤ 9218868437227405312) (h2 : y % 9223372036854775808 ≤ 9218868437227405312) : val x < val y ↔ rankF x < rankF y := by
  have cx : (x < 9223372036854775808 ∧ x / 9223372036854775808 % 2 = 0 ∧ x % 9223372036854775808 = x) ∨ (9223372036854775808 ≤ x ∧ x / 9223372036854775808 % 2 = 1 ∧ x % 9223372036854775808 = x - 9223372036854775808) := by omega
  have cy : (y < 9223372036854775808 ∧ y / 9223372036854775808 % 2 = 0 ∧ y % 9223372036854775808 = y) ∨ (9223372036854775808 ≤ y ∧ y / 9223372036854775808 % 2 = 1 ∧ y % 9223372036854775808 = y - 9223372036854775808) := by omega
  have ml : ∀ s t : Nat, mag s < mag t ↔ s < t := fun s t => mag_lt
  have m0 : mag 0 = 0 := mag_zero
  unfold val rankF plainF
  rw [if_neg (show ¬ 9218868437227405312 < x % 9223372036854775808 by omega), if_neg (show ¬ 9218868437227405312 < y % 9223372036854775808 by omega)]
  generalize hs : x % 9223372036854775808 = s at *
  generalize ht : y % 9223372036854775808 = t at *
  have a1 := ml 0 s
  have a2 := ml 0 t
  have a3 := ml s t
  have a4 := ml t s
  rw [m0] at a1 a2
  rcases cx with ⟨c1, c2, c3⟩ | ⟨c1, c2, c3⟩
  · rcases cy with ⟨d1, d2, d3⟩ | ⟨d1, d2, d3⟩
    · rw [c2, d2]
      simp only [show ((0 : Nat) == 1) = false from rfl, Bool.false_eq_true, if_false]
      (repeat' split) <;> omega
    · rw [c2, d2]
      simp only [show ((0 : Nat) == 1) = false from rfl, show ((1 : Nat) == 1) = true from rfl, Bool.false_eq_true, if_false, if_true]
      (repeat' split) <;> omega
  · rcases cy with ⟨d1, d2, d3⟩ | ⟨d1, d2, d3⟩
    · rw [c2, d2]
      simp only [show ((0 : Nat) == 1) = false from rfl, show ((1 : Nat) == 1) = true from rfl, Bool.false_eq_true, if_false, if_true]
      (repeat' split) <;> omega
    · rw [c2, d2]
      simp only [show ((1 : Nat) == 1) = true from rfl, if_true]
      (repeat' split) <;> omega
end Go.Proofs.Ytcgonhnfpnmlcaa
