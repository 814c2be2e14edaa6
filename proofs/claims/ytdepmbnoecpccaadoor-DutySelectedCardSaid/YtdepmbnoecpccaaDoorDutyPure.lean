
/- Committees (chapter 10), in plain Lean. -/
import Derived.Test.YtdepmbnoecpccaaDoorShufLawBase
set_option linter.unusedVariables false
set_option linter.unusedSimpArgs false
namespace Go.Proofs.YtdepmbnoecpccaaDoor
open Go.RowKit Go.Proofs.YtdepmbnoecpccaaDoorW.PrintWords Go.Proofs.YtdepmbnoecpccaaDoorW.PrintLast Go.Proofs.YtdepmbnoecpccaaDoorW.PrintMore

/-- A chain, by its numbers. -/
structure ChainV where
  (va sl co su ti di ra ro ag se : Int)
def win (x a b : Int) : Bool := decide (a ≤ x ∧ x ≤ b)
theorem win_iff {x a b : Int} : win x a b = true ↔ a ≤ x ∧ x ≤ b := by unfold win; exact decide_eq_true_iff
def fitsC (c : ChainV) : Bool := win c.va 1 1024 && win c.sl 1 32 && win c.co 1 8 && win c.su 1 64 && win c.ti 1 1000 && win c.ra 1 64 && win c.ro 0 90 && win c.ag 1 16 && win c.di 0 c.ti
theorem fitsC_iff (c : ChainV) : fitsC c = true ↔ (1 ≤ c.va ∧ c.va ≤ 1024) ∧ (1 ≤ c.sl ∧ c.sl ≤ 32) ∧ (1 ≤ c.co ∧ c.co ≤ 8) ∧ (1 ≤ c.su ∧ c.su ≤ 64) ∧ (1 ≤ c.ti ∧ c.ti ≤ 1000) ∧ (1 ≤ c.ra ∧ c.ra ≤ 64) ∧ (0 ≤ c.ro ∧ c.ro ≤ 90) ∧ (1 ≤ c.ag ∧ c.ag ≤ 16) ∧ (0 ≤ c.di ∧ c.di ≤ c.ti) := by
  unfold fitsC
  simp only [Bool.and_eq_true, win_iff, and_assoc]

/-- Where a committee begins; which committee a place lies in. -/
def fromF (V A k : Int) : Int := V * k / A
def kOf (V A j : Int) : Int := (A * (j + 1) - 1) / V
theorem from_iff {V A : Int} (hV : 1 ≤ V) (hA : 1 ≤ A) (k j : Int) : k ≤ kOf V A j ↔ fromF V A k ≤ j := by
  unfold kOf fromF
  rw [Int.le_ediv_iff_mul_le (by omega), show (V * k / A ≤ j ↔ V * k / A < j + 1) by omega, Int.ediv_lt_iff_lt_mul (by omega), Int.mul_comm k V, Int.mul_comm (j + 1) A]
  omega
theorem from_zero (V A : Int) : fromF V A 0 = 0 := by unfold fromF; rw [Int.mul_zero, Int.zero_ediv]
theorem from_all {V A : Int} (hA : 1 ≤ A) : fromF V A A = V := by unfold fromF; exact Int.mul_ediv_cancel _ (by omega)
theorem from_mono {V A k l : Int} (hV : 1 ≤ V) (hA : 1 ≤ A) (h : k ≤ l) : fromF V A k ≤ fromF V A l := by
  unfold fromF
  exact Int.ediv_le_ediv (by omega) (Int.mul_le_mul_of_nonneg_left h (by omega))
theorem from_bd {V A k : Int} (hV : 1 ≤ V) (hA : 1 ≤ A) (h : 0 ≤ k ∧ k ≤ A) : 0 ≤ fromF V A k ∧ fromF V A k ≤ V := by
  have a := from_mono hV hA h.1
  have b := from_mono hV hA h.2
  rw [from_zero] at a
  rw [from_all hA] at b
  exact ⟨a, b⟩
theorem kOf_spec {V A j : Int} (hV : 1 ≤ V) (hA : 1 ≤ A) (hj : 0 ≤ j ∧ j < V) : 0 ≤ kOf V A j ∧ kOf V A j < A ∧ fromF V A (kOf V A j) ≤ j ∧ j < fromF V A (kOf V A j + 1) := by
  refine ⟨?_, ?_, (from_iff hV hA _ _).1 (Int.le_refl _), ?_⟩
  · rw [from_iff hV hA, from_zero]; exact hj.1
  · have := from_iff hV hA A j
    rw [from_all hA] at this
    omega
  · have := from_iff hV hA (kOf V A j + 1) j
    omega
theorem kOf_uniq {V A j k : Int} (hV : 1 ≤ V) (hA : 1 ≤ A) (h1 : fromF V A k ≤ j) (h2 : j < fromF V A (k + 1)) : kOf V A j = k := by
  have a := from_iff hV hA k j
  have b := from_iff hV hA (k + 1) j
  omega
theorem from_step {V A k : Int} (hA : 1 ≤ A) : V / A ≤ fromF V A (k + 1) - fromF V A k ∧ fromF V A (k + 1) - fromF V A k ≤ V / A + 1 := by
  unfold fromF
  rw [Int.mul_add, Int.mul_one]
  generalize V * k = x
  have a1 := Int.ediv_mul_le x (show A ≠ 0 by omega)
  have a2 := Int.ediv_mul_le V (show A ≠ 0 by omega)
  have b1 := Int.lt_ediv_add_one_mul_self x (show 0 < A by omega)
  have b2 := Int.lt_ediv_add_one_mul_self V (show 0 < A by omega)
  rw [Int.add_mul, Int.one_mul] at b1 b2
  have t1 : x / A + V / A ≤ (x + V) / A := by
    rw [Int.le_ediv_iff_mul_le (by omega), Int.add_mul]
    omega
  have t2 : (x + V) / A < x / A + V / A + 2 := by
    rw [Int.ediv_lt_iff_lt_mul (by omega), Int.add_mul, Int.add_mul]
    omega
  omega
end Go.Proofs.YtdepmbnoecpccaaDoor
