
/- Bits (chapter 2), in plain Lean: which may be; whether one is set. -/
import Derived.Test.YtejfjbfkbdcmnaaDoorBase
set_option linter.unusedVariables false
set_option linter.unusedSimpArgs false
namespace Go.Proofs.YtejfjbfkbdcmnaaDoor
open Go.RowKit Go.Proofs.YtejfjbfkbdcmnaaDoorW.PrintWords Go.Proofs.YtejfjbfkbdcmnaaDoorW.PrintLast Go.Proofs.YtejfjbfkbdcmnaaDoorW.PrintMore

/-- Numbers that grow, from behind one on, all below another. -/
def incB (last len : Int) : List Int → Bool
  | [] => true
  | x :: xs => decide (last < x) && decide (x < len) && incB x len xs
def rightB (len : Int) (xs : List Int) : Bool := decide (0 ≤ len) && decide (len ≤ 2048) && incB (-1) len xs
def lastB (last : Int) : List Int → Int
  | [] => last
  | x :: xs => lastB x xs
theorem lastB_snoc (last : Int) (xs : List Int) (y : Int) : lastB last (xs ++ [y]) = y := by
  induction xs generalizing last with
  | nil => rfl
  | cons x xs ih => exact ih x
theorem incB_append (last len : Int) (xs ys : List Int) : incB last len (xs ++ ys) = (incB last len xs && incB (lastB last xs) len ys) := by
  induction xs generalizing last with
  | nil => simp [incB, lastB]
  | cons x xs ih => simp [incB, lastB, ih, Bool.and_assoc]
theorem incB_snoc (last len : Int) (xs : List Int) (y : Int) : incB last len (xs ++ [y]) = (incB last len xs && (decide (lastB last xs < y) && decide (y < len))) := by
  rw [incB_append]
  simp [incB]
theorem incB_mem {last len : Int} {xs : List Int} (h : incB last len xs = true) : ∀ x ∈ xs, last < x ∧ x < len := by
  induction xs generalizing last with
  | nil => intro x hx; cases hx
  | cons y ys ih =>
    simp only [incB, Bool.and_eq_true, decide_eq_true_eq] at h
    intro x hx
    rcases List.mem_cons.1 hx with rfl | hx
    · exact h.1
    · have := ih h.2 x hx
      omega
theorem incB_get {last len : Int} {xs : List Int} (h : incB last len xs = true) (i j : Nat) (hij : i < j) (hj : j < xs.length) : nth xs i < nth xs j := by
  induction xs generalizing last i j with
  | nil => simp at hj
  | cons y ys ih =>
    simp only [incB, Bool.and_eq_true, decide_eq_true_eq] at h
    obtain ⟨j', rfl⟩ : ∃ j', j = j' + 1 := ⟨j - 1, by omega⟩
    have hj' : j' < ys.length := by simpa using hj
    rcases i with _ | i
    · have := (incB_mem h.2 (nth ys j') (nth_mem hj')).1
      simpa [nth] using this
    · have := ih h.2 i j' (by omega) hj'
      simpa [nth] using this
/-- Where the search ends: all before are less, none from there on. -/
theorem find_at {xs : List Int} {t : Int} {p : Nat} (hs : ∀ i j, i < j → j < xs.length → nth xs i < nth xs j) (hp : p ≤ xs.length) (h1 : ∀ i, i < p → nth xs i < t) (h2 : ∀ i, p ≤ i → i < xs.length → t ≤ nth xs i) : (t ∈ xs) ↔ (p < xs.length ∧ nth xs p = t) := by
  constructor
  · intro h
    obtain ⟨i, hi, e⟩ := List.getElem_of_mem h
    have e2 : nth xs i = t := by rw [nth_eq hi, e]
    rcases Nat.lt_trichotomy i p with g | g | g
    · have := h1 i g; omega
    · subst g; exact ⟨hi, e2⟩
    · have a := h2 p (Nat.le_refl _) (by omega)
      have b := hs p i g hi
      omega
  · rintro ⟨h, rfl⟩
    exact nth_mem h
end Go.Proofs.YtejfjbfkbdcmnaaDoor
