
/- Marks (chapter 13), in plain Lean: what the document's functions compute. -/
import Derived.Test.YtppcojfgpjnagaaBase
import Derived.Test.YtppcojfgpjnagaaQmootbellref13Right
import Derived.Test.YtppcojfgpjnagaaQmootbellref13Has
import Derived.Test.YtppcojfgpjnagaaQmootbellref13Same
import Derived.Test.YtppcojfgpjnagaaQmootbellref09Ints
import Derived.Test.YtppcojfgpjnagaaQseenmay
set_option linter.unusedVariables false
set_option linter.unusedSimpArgs false
namespace Go.Proofs.Ytppcojfgpjnagaa
open Go.RowKit Go.Proofs.YtppcojfgpjnagaaW.PrintWords Go.Proofs.YtppcojfgpjnagaaW.PrintLast Go.Proofs.YtppcojfgpjnagaaW.PrintMore
open Go.Proofs.Ytppcojfgpjnagaa.PQ

abbrev Mk := S25
abbrev kM : Kd Mk := k25
abbrev zM : Mk := z25
/-- An element of a list, by a name that the walk does not look into. -/
abbrev rdM (l : List Mk) (i : Int) : Mk := rd_T25 l i
theorem rdM_eq {l : List Mk} {i : Nat} (h : i < l.length) : rdM l (i : Int) = l[i] := by
  unfold rdM rd_T25
  rw [Int.toNat_natCast, List.getD_eq_getElem?_getD, List.getElem?_eq_getElem h]
  rfl
theorem mk_ext {a b : Mk} (h0 : a.f0 = b.f0) (h1 : a.f1 = b.f1) (h2 : a.f2 = b.f2) : a = b := by
  cases a; cases b
  simp at h0 h1 h2
  subst h0 h1 h2
  rfl
instance : DecidableEq Mk := fun a b => if h : a.f0 = b.f0 ∧ a.f1 = b.f1 ∧ a.f2 = b.f2 then .isTrue (mk_ext h.1 h.2.1 h.2.2) else .isFalse (fun e => h (by subst e; exact ⟨rfl, rfl, rfl⟩))
def ltM (a b : Mk) : Bool := decide (a.f0 < b.f0 ∨ (a.f0 = b.f0 ∧ (a.f1 < b.f1 ∨ (a.f1 = b.f1 ∧ a.f2 < b.f2))))
def mayM (a : Mk) : Bool := decide (0 ≤ a.f0 ∧ 0 ≤ a.f1 ∧ 0 ≤ a.f2)
theorem ltM_iff {a b : Mk} : ltM a b = true ↔ (a.f0 < b.f0 ∨ (a.f0 = b.f0 ∧ (a.f1 < b.f1 ∨ (a.f1 = b.f1 ∧ a.f2 < b.f2)))) := by
  unfold ltM
  exact decide_eq_true_iff
theorem ltM_trans {a b c : Mk} (h1 : ltM a b = true) (h2 : ltM b c = true) : ltM a c = true := by
  rw [ltM_iff] at *
  omega
theorem ltM_irr (a : Mk) : ltM a a = false := by
  rw [← Bool.not_eq_true, ltM_iff]
  omega
theorem ltM_tri (a b : Mk) (h1 : ltM a b = false) (h2 : ltM b a = false) : a = b := by
  rw [← Bool.not_eq_true, ltM_iff] at h1 h2
  exact mk_ext (by omega) (by omega) (by omega)
theorem ltM_asymm {a b : Mk} (h : ltM a b = true) : ltM b a = false := by
  rw [← Bool.not_eq_true]
  intro h2
  have := ltM_trans h h2
  rw [ltM_irr] at this
  cases this
/-- Is the element at i right, and ahead of it its neighbour? -/
def okAt (l : List Mk) (i : Nat) : Bool := mayM (rdM l i) && (i == 0 || ltM (rdM l ((i : Int) - 1)) (rdM l i))
def rightFrom (l : List Mk) : Nat → Nat → Bool
  | 0, _ => true
  | r + 1, i => okAt l i && rightFrom l r (i + 1)
def rightM (l : List Mk) : Bool := rightFrom l l.length 0
theorem rightFrom_iff (l : List Mk) (r i : Nat) : rightFrom l r i = true ↔ ∀ j, i ≤ j → j < i + r → okAt l j = true := by
  induction r generalizing i with
  | zero => exact ⟨fun _ j h1 h2 => by omega, fun _ => rfl⟩
  | succ r ih =>
    rw [rightFrom, Bool.and_eq_true, ih]
    constructor
    · rintro ⟨h1, h2⟩ j h3 h4
      rcases Nat.lt_or_ge i j with h5 | h5
      · exact h2 j h5 (by omega)
      · rw [show j = i by omega]
        exact h1
    · intro h
      exact ⟨h i (Nat.le_refl _) (by omega), fun j h3 h4 => h j (by omega) (by omega)⟩
theorem rightM_iff (l : List Mk) : rightM l = true ↔ (∀ x ∈ l, mayM x = true) ∧ l.Pairwise (fun a b => ltM a b = true) := by
  unfold rightM
  rw [rightFrom_iff]
  constructor
  · intro h
    constructor
    · intro x hx
      obtain ⟨j, hj, rfl⟩ := List.getElem_of_mem hx
      have h1 := h j (Nat.zero_le _) (by omega)
      unfold okAt at h1
      rw [Bool.and_eq_true, rdM_eq hj] at h1
      exact h1.1
    · rw [List.pairwise_iff_getElem]
      intro i j hi hj hij
      induction j with
      | zero => omega
      | succ j ih =>
        have h1 := h (j + 1) (Nat.zero_le _) (by omega)
        unfold okAt at h1
        rw [Bool.and_eq_true, rdM_eq hj, show ((j + 1 : Nat) : Int) - 1 = (j : Int) by omega, rdM_eq (by omega : j < l.length)] at h1
        have h2 : ltM l[j] l[j + 1] = true := by simpa using h1.2
        rcases Nat.lt_or_ge i j with h5 | h5
        · exact ltM_trans (ih (by omega) h5) h2
        · obtain rfl : i = j := by omega
          exact h2
  · rintro ⟨h1, h2⟩ j _ hj
    have hj : j < l.length := by omega
    unfold okAt
    rw [Bool.and_eq_true, rdM_eq hj, Bool.or_eq_true]
    refine ⟨h1 _ (List.getElem_mem _), ?_⟩
    cases j with
    | zero => left; rfl
    | succ j =>
      right
      rw [show ((j + 1 : Nat) : Int) - 1 = (j : Int) by omega, rdM_eq (by omega : j < l.length)]
      exact (List.pairwise_iff_getElem.1 h2) j (j + 1) (by omega) hj (by omega)
/-! the document's own functions -/
theorem i64_next {i n : Nat} (h : i < n) (hn : n ≤ 9223372036854775807) : wrap64 ((i : Int) + 1) = ((i + 1 : Nat) : Int) := by
  rw [← i64_w]
  exact IntWalk.i64_in _ (by omega)
theorem may_f (a : Mk) : mootbellref13_may.f a.f0 a.f1 a.f2 = some (mayM a) := by
  unfold mootbellref13_may.f mayM
  by_cases h0 : a.f0 ≥ 0
  · rw [if_pos h0]
    by_cases h1 : a.f1 ≥ 0
    · rw [if_pos h1]
      congr 1
      rw [Bool.eq_iff_iff, decide_eq_true_iff, decide_eq_true_iff]
      omega
    · rw [if_neg h1, decide_eq_false (by omega)]
  · rw [if_neg h0, decide_eq_false (by omega)]
theorem smay_f (a : Mk) : seen_may.f a.f0 a.f1 a.f2 = some (mayM a) := may_f a
theorem ahead_f (a b : Mk) : mootbellref13_ahead.f a.f0 a.f1 a.f2 b.f0 b.f1 b.f2 = some (ltM a b) := by
  unfold mootbellref13_ahead.f ltM
  (repeat' split) <;> (congr 1; rw [Bool.eq_iff_iff, decide_eq_true_iff, decide_eq_true_iff]; omega)
theorem right_l0 (l : List Mk) (hl : l.length ≤ 9223372036854775807) (k r i : Nat) (hr : i + r = l.length) (hk : r < k) : mootbellref13_Right.l0 k l (i : Int) = some (rightFrom l r i) := by
  induction k generalizing r i with
  | zero => omega
  | succ k ih =>
    rw [mootbellref13_Right.l0]
    cases r with
    | zero =>
      rw [if_neg (by omega)]
      rfl
    | succ r =>
      rw [if_pos (by omega), if_pos (by omega), rightFrom]
      have h1 := may_f (rdM l i)
      unfold okAt
      rw [h1, Option.bind_some]
      cases h2 : mayM (rdM l i)
      · simp
      · rw [if_pos rfl]
        have e1 : wrap64 ((i : Int) + 1) = ((i + 1 : Nat) : Int) := i64_next (n := l.length) (by omega) hl
        rw [e1]
        by_cases h3 : i = 0
        · rw [if_neg (by omega), ih r (i + 1) (by omega) (by omega), h3]
          simp
        · have e2 : wrap64 ((i : Int) - 1) = (i : Int) - 1 := by
            rw [← i64_w]
            exact IntWalk.i64_in _ (by omega)
          have h4 := ahead_f (rdM l ((i : Int) - 1)) (rdM l i)
          rw [if_pos (by omega), e2, if_pos (by omega), if_pos (by omega), h4, Option.bind_some, show (i == 0) = false by simpa using h3]
          cases h5 : ltM (rdM l ((i : Int) - 1)) (rdM l i)
          · simp
          · rw [if_pos rfl, ih r (i + 1) (by omega) (by omega)]
            simp
theorem right_f (l : List Mk) (hl : l.length ≤ 9223372036854775807) (k : Nat) (hk : l.length < k) : mootbellref13_Right.f k l = some (rightM l) := right_l0 l hl k l.length 0 (by omega) hk
def hasM (l : List Mk) (m : Mk) : Bool := rightM l && decide (m ∈ l)
theorem drop_mk (l : List Mk) (i : Nat) (h : i < l.length) : l.drop i = rdM l i :: l.drop (i + 1) := by
  rw [rdM_eq h]
  exact List.drop_eq_getElem_cons h
theorem eq3 (a b : Mk) : (a.f0 == b.f0 && (a.f1 == b.f1 && a.f2 == b.f2)) = decide (a = b) := by
  rw [Bool.eq_iff_iff]
  simp only [Bool.and_eq_true, beq_iff_eq, decide_eq_true_eq]
  exact ⟨fun ⟨h0, h1, h2⟩ => mk_ext h0 h1 h2, fun h => by subst h; exact ⟨rfl, rfl, rfl⟩⟩
theorem has_l0 (l : List Mk) (m : Mk) (hl : l.length ≤ 9223372036854775807) (k r i : Nat) (hr : i + r = l.length) (hk : 2 * r + 1 < k) : mootbellref13_Has.l0 k l true (i : Int) m.f0 m.f1 m.f2 = some (decide (m ∈ l.drop i)) := by
  induction r generalizing k i with
  | zero =>
    obtain ⟨k, rfl⟩ : ∃ k', k = k' + 2 := ⟨k - 2, by omega⟩
    rw [mootbellref13_Has.l0, if_pos rfl, mootbellref13_Has.j1, decide_eq_false (by omega), if_neg (by simp), List.drop_eq_nil_of_le (by omega)]
    simp
  | succ r ih =>
    obtain ⟨k, rfl⟩ : ∃ k', k = k' + 2 := ⟨k - 2, by omega⟩
    rw [mootbellref13_Has.l0, if_pos rfl, mootbellref13_Has.j1, decide_eq_true (show (i : Int) < (l.length : Int) by omega), if_pos rfl, if_pos (by omega), if_pos (by omega)]
    have h1 := eq3 (rdM l i) m
    rw [h1, drop_mk l i (by omega)]
    by_cases h2 : rdM l i = m
    · rw [decide_eq_true h2, if_pos rfl, h2]
      simp
    · rw [decide_eq_false h2, if_neg (by simp), i64_next (n := l.length) (by omega) hl, ih _ (i + 1) (by omega) (by omega)]
      congr 1
      rw [Bool.eq_iff_iff, decide_eq_true_iff, decide_eq_true_iff, List.mem_cons]
      exact ⟨Or.inr, fun h => h.resolve_left (fun e => h2 e.symm)⟩
theorem has_l0f (l : List Mk) (m : Mk) (k : Nat) (hk : 1 < k) : mootbellref13_Has.l0 k l false 0 m.f0 m.f1 m.f2 = some false := by
  obtain ⟨k, rfl⟩ : ∃ k', k = k' + 2 := ⟨k - 2, by omega⟩
  rw [mootbellref13_Has.l0, if_neg (by simp), mootbellref13_Has.j1, if_neg (by simp)]
theorem has_f (l : List Mk) (m : Mk) (hl : l.length ≤ 9223372036854775807) (k : Nat) (hk : 2 * l.length + 1 < k) : mootbellref13_Has.f k l m.f0 m.f1 m.f2 = some (hasM l m) := by
  unfold mootbellref13_Has.f hasM
  rw [right_f l hl k (by omega), Option.bind_some]
  cases rightM l
  · rw [has_l0f l m k (by omega)]
    rfl
  · have := has_l0 l m hl k l.length 0 (by omega) hk
    rw [List.drop_zero] at this
    exact this
def pruneM (l : List Mk) (e : Int) : List Mk := if rightM l = true then l.filter (fun x => decide (e ≤ x.f0)) else []
def ofM (l : List Mk) (e h : Int) : List Int := if rightM l = true then (l.filter (fun x => decide (x.f0 = e ∧ x.f1 = h))).map (fun x => x.f2) else []
theorem same_l0 (a b : List Mk) (hab : a.length = b.length) (hl : a.length ≤ 9223372036854775807) (k r i : Nat) (hr : i + r = a.length) (hk : r < k) : mootbellref13_Same.l0 k a b (i : Int) = some (decide (a.drop i = b.drop i)) := by
  induction k generalizing r i with
  | zero => omega
  | succ k ih =>
    rw [mootbellref13_Same.l0]
    cases r with
    | zero =>
      rw [if_neg (by omega), List.drop_eq_nil_of_le (by omega), List.drop_eq_nil_of_le (by omega)]
      simp
    | succ r =>
      rw [if_pos (by omega), if_pos (by omega), if_pos (by omega), drop_mk a i (by omega), drop_mk b i (by omega), i64_next (n := a.length) (by omega) hl]
      have h1 : (!((rdM a i).f0 == (rdM b i).f0) || (!((rdM a i).f1 == (rdM b i).f1) || (!((rdM a i).f2 == (rdM b i).f2)))) = !decide (rdM a i = rdM b i) := by
        rw [← eq3]
        simp [Bool.not_and]
      rw [h1]
      by_cases h2 : rdM a i = rdM b i
      · rw [decide_eq_true h2, if_neg (by simp), ih r (i + 1) (by omega) (by omega), h2]
        congr 1
        rw [Bool.eq_iff_iff, decide_eq_true_iff, decide_eq_true_iff]
        simp
      · rw [decide_eq_false h2, if_pos (show (!false) = true from rfl)]
        congr 1
        rw [eq_comm, decide_eq_false_iff_not]
        intro h3
        exact h2 (List.cons.inj h3).1
theorem same_f (a b : List Mk) (hl : a.length ≤ 9223372036854775807) (k : Nat) (hk : a.length < k) : mootbellref13_Same.f k a b = some (decide (a = b)) := by
  unfold mootbellref13_Same.f
  by_cases h : a.length = b.length
  · rw [if_pos (by omega)]
    have := same_l0 a b h hl k a.length 0 (by omega) hk
    simpa using this
  · rw [if_neg (by omega)]
    congr 1
    rw [eq_comm, decide_eq_false_iff_not]
    intro e
    exact h (by rw [e])
theorem ints_l0 (a b : List Int) (hab : a.length = b.length) (hl : a.length ≤ 9223372036854775807) (k r i : Nat) (hr : i + r = a.length) (hk : r < k) : mootbellref09_Ints.l0 k a b (i : Int) = some (decide (a.drop i = b.drop i)) := by
  induction k generalizing r i with
  | zero => omega
  | succ k ih =>
    rw [mootbellref09_Ints.l0]
    cases r with
    | zero =>
      rw [if_neg (by omega), List.drop_eq_nil_of_le (by omega), List.drop_eq_nil_of_le (by omega)]
      simp
    | succ r =>
      have ea : a.drop i = rd a i :: a.drop (i + 1) := by
        rw [List.drop_eq_getElem_cons (show i < a.length by omega)]
        congr 1
        simp [rd, show i < a.length by omega]
      have eb : b.drop i = rd b i :: b.drop (i + 1) := by
        rw [List.drop_eq_getElem_cons (show i < b.length by omega)]
        congr 1
        simp [rd, show i < b.length by omega]
      rw [if_pos (by omega), if_pos (by omega), if_pos (by omega), ea, eb, i64_next (n := a.length) (by omega) hl]
      by_cases h2 : rd a i = rd b i
      · rw [if_pos h2, ih r (i + 1) (by omega) (by omega), h2]
        congr 1
        rw [Bool.eq_iff_iff, decide_eq_true_iff, decide_eq_true_iff]
        simp
      · rw [if_neg h2]
        congr 1
        rw [eq_comm, decide_eq_false_iff_not]
        intro h3
        exact h2 (List.cons.inj h3).1
theorem ints_f (a b : List Int) (hl : a.length ≤ 9223372036854775807) (k : Nat) (hk : a.length < k) : mootbellref09_Ints.f k a b = some (decide (a = b)) := by
  unfold mootbellref09_Ints.f
  by_cases h : a.length = b.length
  · rw [if_pos (by omega)]
    have := ints_l0 a b h hl k a.length 0 (by omega) hk
    simpa using this
  · rw [if_neg (by omega)]
    congr 1
    rw [eq_comm, decide_eq_false_iff_not]
    intro e
    exact h (by rw [e])
end Go.Proofs.Ytppcojfgpjnagaa
