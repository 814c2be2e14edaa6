
/- Plans' subnets (chapter 11), in plain Lean: as many as are kept, one behind the other. -/
import Derived.Test.YtejfjbfkbdcmnaaDoorSchedPure
import Derived.Test.YtejfjbfkbdcmnaaDoorBitsFind
set_option linter.unusedVariables false
set_option linter.unusedSimpArgs false
namespace Go.Proofs.YtejfjbfkbdcmnaaDoor
open Go.RowKit Go.Proofs.YtejfjbfkbdcmnaaDoorW.PrintWords Go.Proofs.YtejfjbfkbdcmnaaDoorW.PrintLast Go.Proofs.YtejfjbfkbdcmnaaDoorW.PrintMore

theorem mem_onList (F : Nat → Bool) (k : Nat) (x : Int) : x ∈ onList F k ↔ ∃ j : Nat, j < k ∧ F j = true ∧ x = (j : Int) := by
  unfold onList
  simp only [List.mem_map, List.mem_filter, List.mem_range]
  constructor
  · rintro ⟨j, ⟨h1, h2⟩, rfl⟩; exact ⟨j, h1, h2, rfl⟩
  · rintro ⟨j, h1, h2, rfl⟩; exact ⟨j, ⟨h1, h2⟩, rfl⟩
theorem last_onList (F : Nat → Bool) (k : Nat) : lastB (-1) (onList F k) < (k : Int) := by
  induction k with
  | zero => simp [onList, lastB]
  | succ k ih =>
    rw [onList_succ]
    split
    · rw [lastB_snoc]; omega
    · omega
theorem inc_onList (F : Nat → Bool) (len : Int) (k : Nat) (h : ∀ j, F j = true → (j : Int) < len) : incB (-1) len (onList F k) = true := by
  induction k with
  | zero => rfl
  | succ k ih =>
    rw [onList_succ]
    split
    · rename_i hf
      rw [incB_snoc, ih, decide_eq_true (last_onList F k), decide_eq_true (h k hf)]
      rfl
    · exact ih
theorem right_onList (F : Nat → Bool) (len : Int) (k : Nat) (h0 : 0 ≤ len) (h1 : len ≤ 2048) (h : ∀ j, F j = true → (j : Int) < len) : rightB len (onList F k) = true := by
  unfold rightB
  rw [decide_eq_true h0, decide_eq_true h1, inc_onList F len k h]
  rfl
theorem has_onList (F : Nat → Bool) (len : Int) (k i : Nat) (h0 : 0 ≤ len) (h1 : len ≤ 2048) (h : ∀ j, F j = true → (j : Int) < len) (hi : i < k) : hasB len (onList F k) (i : Int) = F i := by
  unfold hasB
  rw [right_onList F len k h0 h1 h, Bool.true_and, Bool.eq_iff_iff, decide_eq_true_eq, mem_onList]
  constructor
  · rintro ⟨j, _, h2, h3⟩
    obtain rfl : i = j := by omega
    exact h2
  · intro h2
    exact ⟨i, hi, h2, rfl⟩
theorem len_or (F : Nat → Bool) (v k : Nat) (h : F v = false) : (onList (fun (j : Nat) => F j || decide (v = j)) k).length = (onList F k).length + if v < k then 1 else 0 := by
  induction k with
  | zero => simp [onList]
  | succ k ih =>
    rw [onList_succ, onList_succ]
    by_cases hv : v = k
    · subst hv
      rw [if_pos (by simp), if_neg (by simp [h]), List.length_append, ih, if_neg (by omega), if_pos (by omega)]
      rfl
    · by_cases hf : F k = true
      · rw [if_pos (by simp [hf]), if_pos hf, List.length_append, List.length_append, ih]
        by_cases hk : v < k
        · rw [if_pos hk, if_pos (by omega)]; omega
        · rw [if_neg hk, if_neg (by omega)]; omega
      · rw [if_neg (by simp [hf, hv]), if_neg hf, ih]
        by_cases hk : v < k
        · rw [if_pos hk, if_pos (by omega)]
        · rw [if_neg hk, if_neg (by omega)]
theorem onP_lt (s f t : Int) (j : Nat) (h : onP s f t j = true) : (j : Int) < s := ((onP_iff s f t j).1 h).1
theorem onP_all (s f t : Int) (hs : 1 ≤ s) (ht : s ≤ t) (j : Nat) : onP s f t j = decide ((j : Int) < s) := by
  rw [Bool.eq_iff_iff, onP_iff, decide_eq_true_eq]
  have := Int.emod_lt_of_pos ((j : Int) - f) (show 0 < s by omega)
  omega
theorem onP_self (s f t : Int) (h : 0 ≤ f ∧ f < s) (ht : 0 ≤ t ∧ t < s) (v : Nat) (hv : (f + t) % s = (v : Int)) : onP s f t v = false := by
  rw [← Bool.not_eq_true, onP_iff, ← hv]
  rcases Int.lt_or_le (f + t) s with h1 | h1
  · rw [emod_lo (show 0 ≤ f + t by omega) h1, emod_lo (show 0 ≤ f + t - f by omega) (by omega)]; omega
  · rw [emod_hi h1 (by omega), emod_neg (show -s ≤ f + t - s - f by omega) (by omega)]; omega
theorem onP_count (s f : Int) (h : 0 ≤ f ∧ f < s) (hs : s ≤ 64) (t : Nat) (ht : (t : Int) ≤ s) : (onList (onP s f t) 64).length = t := by
  induction t with
  | zero =>
    rw [show onP s f ((0 : Nat) : Int) = fun _ => false from funext fun j => onP_zero s f (by omega) j]
    decide
  | succ t ih =>
    obtain ⟨v, hv⟩ : ∃ v : Nat, (f + t) % s = (v : Int) := ⟨((f + t) % s).toNat, by have := Int.emod_nonneg (f + t) (show s ≠ 0 by omega); omega⟩
    have hv2 := Int.emod_lt_of_pos (f + t) (show 0 < s by omega)
    have e : onP s f ((t + 1 : Nat) : Int) = fun j => onP s f t j || decide (v = j) := by
      funext j
      rw [show ((t + 1 : Nat) : Int) = (t : Int) + 1 by omega, onP_next s f t h ⟨by omega, by omega⟩ j, hv]
      congr 1
      rw [decide_eq_decide]
      omega
    rw [e, len_or _ v 64 (onP_self s f t h ⟨by omega, by omega⟩ v hv), ih (by omega), if_pos (by omega)]
theorem all_count (s : Int) (h : 0 ≤ s ∧ s ≤ 64) (k : Nat) : (onList (fun (j : Nat) => decide ((j : Int) < s)) k).length = min k s.toNat := by
  induction k with
  | zero => simp [onList]
  | succ k ih =>
    rw [onList_succ]
    by_cases hk : (k : Int) < s
    · rw [if_pos (by simpa using hk), List.length_append, ih]; simp; omega
    · rw [if_neg (by simpa using hk), ih]; omega
theorem onP_len (s f t : Int) (h : 0 ≤ f ∧ f < s) (hs : s ≤ 64) (ht : 0 ≤ t) : ((onList (onP s f t) 64).length : Int) = if s < t then s else t := by
  rcases Int.lt_or_le s t with h1 | h1
  · rw [if_pos h1, show onP s f t = fun (j : Nat) => decide ((j : Int) < s) from funext fun j => onP_all s f t (by omega) (by omega) j, all_count s ⟨by omega, hs⟩]
    omega
  · rw [if_neg (by omega)]
    obtain ⟨n, rfl⟩ := Int.eq_ofNat_of_zero_le ht
    rw [onP_count s f h hs n h1]
/-- Which one begins: the first, if not all are set, nor none. -/
theorem onP_begin (s f t : Int) (h : 0 ≤ f ∧ f < s) (ht : 0 ≤ t) (i v : Nat) (hi : (i : Int) < s) (hv : ((i : Int) + s - 1) % s = (v : Int)) : (onP s f t i && !onP s f t v) = decide ((i : Int) = f ∧ 0 < t ∧ t < s) := by
  have hvs : (v : Int) < s := by rw [← hv]; exact Int.emod_lt_of_pos _ (by omega)
  have e : v = (if i = 0 then s.toNat - 1 else i - 1) := by
    by_cases h0 : i = 0
    · subst h0
      rw [if_pos rfl]
      rw [emod_lo (by omega) (by omega)] at hv
      omega
    · rw [if_neg h0]
      rw [emod_hi (by omega) (by omega)] at hv
      omega
  rw [Bool.eq_iff_iff, Bool.and_eq_true, Bool.not_eq_true', ← Bool.not_eq_true, onP_iff, onP_iff, decide_eq_true_eq]
  have hd : ((i : Int) - f) % s = if (i : Int) < f then i - f + s else i - f := by
    split
    · exact emod_neg (by omega) (by omega)
    · exact emod_lo (by omega) (by omega)
  have hd2 : ((v : Int) - f) % s = if (v : Int) < f then v - f + s else v - f := by
    split
    · exact emod_neg (by omega) (by omega)
    · exact emod_lo (by omega) (by omega)
  rw [hd, hd2]
  by_cases h0 : i = 0
  · rw [if_pos h0] at e
    split <;> split <;> omega
  · rw [if_neg h0] at e
    split <;> split <;> omega
end Go.Proofs.YtejfjbfkbdcmnaaDoor
