
/- Plans (chapter 11), in plain Lean. -/
import Derived.Test.YtejfjbfkbdcmnaaDoorDutyWalk
set_option linter.unusedVariables false
set_option linter.unusedSimpArgs false
namespace Go.Proofs.YtejfjbfkbdcmnaaDoor
open Go.RowKit Go.Proofs.YtejfjbfkbdcmnaaDoorW.PrintWords Go.Proofs.YtejfjbfkbdcmnaaDoorW.PrintLast Go.Proofs.YtejfjbfkbdcmnaaDoorW.PrintMore

/-- A plan, by its numbers. -/
structure PlanV where
  (no ke pe : Int)
def fitsP (p : PlanV) : Bool := win p.ke 0 64 && win p.pe 1 256
theorem fitsP_iff (p : PlanV) : fitsP p = true ↔ (0 ≤ p.ke ∧ p.ke ≤ 64) ∧ (1 ≤ p.pe ∧ p.pe ≤ 256) := by
  unfold fitsP
  simp only [Bool.and_eq_true, win_iff]
def mayP (c : ChainV) (p : PlanV) (e : Int) : Bool := fitsC c && (fitsP p && win e 0 1099511627776)
theorem mayP_iff (c : ChainV) (p : PlanV) (e : Int) : mayP c p e = true ↔ fitsC c = true ∧ fitsP p = true ∧ (0 ≤ e ∧ e ≤ 1099511627776) := by
  unfold mayP
  simp only [Bool.and_eq_true, win_iff]
def blockP (p : PlanV) (e : Int) : Int := (e + p.no % p.pe) / p.pe
def firstP (c : ChainV) (p : PlanV) (n : Int) : Int := placeF c.su (foldF [p.no, n]) c.ro.toNat (p.no % c.su)
def onP (s f t : Int) (j : Nat) : Bool := decide ((j : Int) < s ∧ ((j : Int) - f) % s < t)
theorem onP_iff (s f t : Int) (j : Nat) : onP s f t j = true ↔ (j : Int) < s ∧ ((j : Int) - f) % s < t := by unfold onP; exact decide_eq_true_iff
def keptP (s f t : Int) : List Bool := (List.range 64).map (onP s f t)
theorem keptP_len (s f t : Int) : (keptP s f t).length = 64 := by simp [keptP]
theorem emod_lo {x s : Int} (h0 : 0 ≤ x) (h1 : x < s) : x % s = x := Int.emod_eq_of_lt h0 h1
theorem emod_hi {x s : Int} (h0 : s ≤ x) (h1 : x < 2 * s) : x % s = x - s := by
  have h := Int.add_mul_emod_self_right (x - s) 1 s
  rw [Int.one_mul, Int.sub_add_cancel] at h
  rw [h]
  exact Int.emod_eq_of_lt (by omega) (by omega)
theorem emod_neg {x s : Int} (h0 : -s ≤ x) (h1 : x < 0) : x % s = x + s := by
  have h := Int.add_mul_emod_self_right x 1 s
  rw [Int.one_mul] at h
  rw [← h]
  exact Int.emod_eq_of_lt (by omega) (by omega)
theorem onP_zero (s f : Int) (hs : 1 ≤ s) (j : Nat) : onP s f 0 j = false := by
  rw [← Bool.not_eq_true, onP_iff]
  have := Int.emod_nonneg ((j : Int) - f) (show s ≠ 0 by omega)
  omega
theorem keptP_zero (s f : Int) (hs : 1 ≤ s) : keptP s f 0 = List.replicate 64 false := by
  unfold keptP
  rw [List.map_congr_left (g := fun _ => false) (fun j _ => onP_zero s f hs j)]
  exact List.map_const' ..
theorem onP_next (s f t : Int) (h : 0 ≤ f ∧ f < s) (ht : 0 ≤ t ∧ t < s) (j : Nat) : onP s f (t + 1) j = (onP s f t j || decide ((f + t) % s = (j : Int))) := by
  rw [Bool.eq_iff_iff, Bool.or_eq_true, decide_eq_true_eq, onP_iff, onP_iff]
  rcases Int.lt_or_le (j : Int) s with hj | hj
  · rcases Int.lt_or_le (f + t) s with h1 | h1
    · rw [emod_lo (show 0 ≤ f + t by omega) h1]
      rcases Int.lt_or_le (j : Int) f with h2 | h2
      · rw [emod_neg (show -s ≤ (j : Int) - f by omega) (by omega)]; omega
      · rw [emod_lo (show 0 ≤ (j : Int) - f by omega) (by omega)]; omega
    · rw [emod_hi h1 (by omega)]
      rcases Int.lt_or_le (j : Int) f with h2 | h2
      · rw [emod_neg (show -s ≤ (j : Int) - f by omega) (by omega)]; omega
      · rw [emod_lo (show 0 ≤ (j : Int) - f by omega) (by omega)]; omega
  · have := Int.emod_lt_of_pos (f + t) (show 0 < s by omega)
    omega
theorem keptP_set (s f t : Int) (v : Nat) (h : 0 ≤ f ∧ f < s) (ht : 0 ≤ t ∧ t < s) (hv : (f + t) % s = (v : Int)) : (keptP s f t).set v true = keptP s f (t + 1) := by
  apply List.ext_getElem (by simp [keptP])
  intro i h1 h2
  rw [List.getElem_set]
  simp only [keptP, List.getElem_map, List.getElem_range, onP_next s f t h ht, hv]
  by_cases e : v = i
  · subst e; simp
  · rw [if_neg e, decide_eq_false (by omega), Bool.or_false]
theorem keptP_min (s f k : Int) (hs : 1 ≤ s) : keptP s f (if s < k then s else k) = keptP s f k := by
  unfold keptP
  apply List.map_congr_left
  intro j _
  rw [Bool.eq_iff_iff, onP_iff, onP_iff]
  have := Int.emod_lt_of_pos ((j : Int) - f) (show 0 < s by omega)
  split <;> omega
/-- Which bits are set, below k. -/
def onList (f : Nat → Bool) (k : Nat) : List Int := ((List.range k).filter f).map Int.ofNat
theorem onList_succ (f : Nat → Bool) (k : Nat) : onList f (k + 1) = if f k = true then onList f k ++ [(k : Int)] else onList f k := by
  unfold onList
  rw [List.range_succ, List.filter_append, List.map_append]
  by_cases h : f k = true
  · rw [if_pos h]; simp [h]
  · rw [if_neg h]; simp [h]
theorem onList_len (f : Nat → Bool) (k : Nat) : (onList f k).length ≤ k := by
  unfold onList
  rw [List.length_map]
  exact Nat.le_trans (List.length_filter_le _ _) (by simp)
/-- The same as one number. -/
def onBits (f : Nat → Bool) : Nat → Nat
  | 0 => 0
  | k + 1 => onBits f k + if f k = true then 2 ^ k else 0
theorem onBits_lt (f : Nat → Bool) (k : Nat) : onBits f k < 2 ^ k := by
  induction k with
  | zero => simp [onBits]
  | succ k ih =>
    have := Nat.two_pow_pos k
    rw [onBits, Nat.pow_succ]
    split <;> omega
theorem onBits_or (f : Nat → Bool) (k : Nat) : onBits f k ||| 2 ^ k = onBits f k + 2 ^ k := by
  rw [Nat.or_comm, Nat.add_comm]
  have h := Nat.two_pow_add_eq_or_of_lt (onBits_lt f k) 1
  rw [Nat.mul_one] at h
  exact h.symm
theorem onBits_bit (f : Nat → Bool) (k i : Nat) (h : i < k) : (onBits f k).testBit i = f i := by
  induction k with
  | zero => omega
  | succ k ih =>
    rw [onBits]
    by_cases hf : f k = true
    · rw [if_pos hf, ← onBits_or, Nat.testBit_or, Nat.testBit_two_pow]
      rcases Nat.lt_or_ge i k with h1 | h1
      · rw [ih h1, decide_eq_false (by omega), Bool.or_false]
      · obtain rfl : i = k := by omega
        rw [Nat.testBit_lt_two_pow (onBits_lt f i), hf]
        simp
    · rw [if_neg hf, Nat.add_zero]
      rcases Nat.lt_or_ge i k with h1 | h1
      · exact ih h1
      · obtain rfl : i = k := by omega
        rw [Nat.testBit_lt_two_pow (onBits_lt f i)]
        simpa using hf
theorem block_bd (p : PlanV) (e : Int) (h : fitsP p = true) (he : 0 ≤ e ∧ e ≤ 1099511627776) : 0 ≤ p.no % p.pe ∧ p.no % p.pe < p.pe ∧ 0 ≤ blockP p e ∧ blockP p e ≤ e + 255 := by
  obtain ⟨h1, h2⟩ := (fitsP_iff p).1 h
  have a := Int.emod_nonneg p.no (show p.pe ≠ 0 by omega)
  have b := Int.emod_lt_of_pos p.no (show 0 < p.pe by omega)
  have c := Int.ediv_nonneg (show 0 ≤ e + p.no % p.pe by omega) (show 0 ≤ p.pe by omega)
  have d := Int.ediv_le_self p.pe (show 0 ≤ e + p.no % p.pe by omega)
  unfold blockP
  omega
theorem first_bd (c : ChainV) (p : PlanV) (n : Int) (h : fitsC c = true) : 0 ≤ p.no % c.su ∧ p.no % c.su < c.su ∧ 0 ≤ firstP c p n ∧ firstP c p n < c.su := by
  obtain ⟨h1, h2, h3, h4, h5, h6, h7, h8, h9⟩ := (fitsC_iff c).1 h
  have a := Int.emod_nonneg p.no (show c.su ≠ 0 by omega)
  have b := Int.emod_lt_of_pos p.no (show 0 < c.su by omega)
  have d := place_bd c.su (foldF [p.no, n]) c.ro.toNat (p.no % c.su) ⟨a, b⟩
  exact ⟨a, b, d.1, d.2⟩
end Go.Proofs.YtejfjbfkbdcmnaaDoor
