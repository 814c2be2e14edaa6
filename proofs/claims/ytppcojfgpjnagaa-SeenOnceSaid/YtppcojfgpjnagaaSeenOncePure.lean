
/- What SeenOnce (chapter 13) keeps beside the marks: which of all were there; in plain Lean, and in memory. -/
import Derived.Test.YtppcojfgpjnagaaSeenOpen
import Derived.Test.YtppcojfgpjnagaaSeenAwakeF
set_option linter.unusedVariables false
set_option linter.unusedSimpArgs false
namespace Go.Proofs.Ytppcojfgpjnagaa
open Go.RowKit Go.Proofs.YtppcojfgpjnagaaW.PrintWords Go.Proofs.YtppcojfgpjnagaaW.PrintLast Go.Proofs.YtppcojfgpjnagaaW.PrintMore
open Go.ChangeShapes Go.WideShapes Go.ChangeAt
open Go.ChangeMaps (open_string shut_string)
open Go.Proofs.Ytppcojfgpjnagaa.PQ

theorem C_drew {α : Type} {d : Kd α} {w : World} {A : Option Addr} {n : Nat} {xs : List α} (h : d.C w A n xs) : d.C w.drew A n xs := Kd.C_below h (below_drew1 (Below.refl _ _))
def hadC (H : Nat → Bool) : Array Value := ((List.range 90).map (fun i => Value.bool (H i))).toArray
theorem hadC_get (H : Nat → Bool) {i : Nat} (h : i < 90) : (hadC H)[i]? = some (.bool (H i)) := by
  unfold hadC
  simp [h]
theorem hadC_put (H : Nat → Bool) {i : Nat} (b : Bool) : (hadC H).setIfInBounds i (.bool b) = hadC (fun j => if j = i then b else H j) := by
  unfold hadC
  apply Array.ext'
  simp only [Array.toList_setIfInBounds]
  apply List.ext_getElem?
  intro j
  rw [List.getElem?_set]
  simp only [List.getElem?_map, List.length_map, List.length_range]
  by_cases hj : j < 90
  · rw [List.getElem?_range hj]
    by_cases e : i = j
    · subst e
      simp [hj]
    · simp [e, Ne.symm e]
  · rw [List.getElem?_eq_none (by simpa using hj)]
    (repeat' split) <;> first | omega | rfl
theorem had_cells {b : Nat} {T : TypeId} (n : Nat) : ∀ (k : Nat) (w : World) (H : Nat → Bool), Box w b (hadC H) T → Box (w.setCells b k (List.replicate n (.bool false))) b (hadC (fun j => if k ≤ j ∧ j < k + n then false else H j)) T := by
  induction n with
  | zero =>
    intro k w H h
    have e : (fun j => if k ≤ j ∧ j < k + 0 then false else H j) = H := by
      funext j
      rw [if_neg (by omega)]
    rw [e]
    exact h
  | succ n ih =>
    intro k w H h
    rw [List.replicate_succ]
    have h1 := Box.put (j := k) (v := .bool false) h
    rw [hadC_put] at h1
    have h2 := ih (k + 1) _ _ h1
    have e : (fun j => if k + 1 ≤ j ∧ j < k + 1 + n then false else if j = k then false else H j) = (fun j => if k ≤ j ∧ j < k + (n + 1) then false else H j) := by
      funext j
      (repeat' split) <;> first | rfl | omega
    rw [e] at h2
    exact h2
/-- A list's value, that lies elsewhere than the block g. -/
def ListV (w : World) (g : Nat) (v : Value) (l : List Mk) : Prop := ∃ A n c, v = .slice A n c ∧ n ≤ c ∧ kM.C w A n l ∧ ∀ ad : Addr, A = some ad → ad.block ≠ g
theorem ListV.nil (w : World) (g : Nat) : ListV w g (.slice none 0 0) [] := ⟨none, 0, 0, rfl, Nat.le_refl _, Kd.C_nil _ _, fun _ h => by cases h⟩
theorem ListV.below {w w' : World} {g : Nat} {v : Value} {l : List Mk} (h : ListV w g v l) (hb : Below w.heap.size w w') : ListV w' g v l := by
  obtain ⟨A, n, c, rfl, hn, hC, hA⟩ := h
  exact ⟨A, n, c, rfl, hn, Kd.C_below hC hb, hA⟩
theorem ListV.drew {w : World} {g : Nat} {v : Value} {l : List Mk} (h : ListV w g v l) : ListV w.drew g v l := h.below (below_drew1 (Below.refl _ _))
theorem ListV.at {w w' : World} {g : Nat} {v : Value} {l : List Mk} (h : ListV w g v l) (hs : ∀ a : Addr, a.block ≠ g → w'.cell? a = w.cell? a) : ListV w' g v l := by
  obtain ⟨A, n, c, rfl, hn, hC, hA⟩ := h
  refine ⟨A, n, c, rfl, hn, ⟨hC.1, hC.2.1, fun hp => ?_⟩, hA⟩
  obtain ⟨ad, e, hr⟩ := hC.2.2 hp
  refine ⟨ad, e, fun j p hj => ?_⟩
  obtain ⟨cs, h1, h2, h3⟩ := hr j p hj
  refine ⟨cs, h1, ?_, fun i u hu => ?_⟩
  · rw [k25_open h2]
    exact k25_mk _ _
  · rw [hs _ (by rw [show (ad.add (j * kM.sz + i)).block = ad.block by unfold Addr.add; split <;> rfl]; exact hA ad e)]
    exact h3 i u hu
theorem far_cells {b : Nat} {a : Addr} (h : a.block ≠ b) : ∀ (vs : List Value) (o : Nat) (w : World), (w.setCells b o vs).cell? a = w.cell? a
  | [], _, _ => rfl
  | v :: vs, o, w => (far_cells h vs (o + 1) _).trans (cell_farp h)
theorem ListV.cells {w : World} {g : Nat} {v : Value} {l : List Mk} (h : ListV w g v l) (o : Nat) (vs : List Value) : ListV (w.setCells g o vs) g v l := h.at fun _ ha => far_cells ha vs o w
theorem ListV.set {w : World} {g o : Nat} {u v : Value} {l : List Mk} (h : ListV w g v l) : ListV (w.setCell ⟨g, o, none⟩ u) g v l := h.at fun _ ha => cell_farp ha
theorem ListV.ofR {w : World} {g base : Nat} {ok : Nat → Prop} {v : Value} {l : List Mk} (h : kM.R 25 w base ok v l) (hg : g < base) : ListV w g v l := by
  obtain ⟨A, c, rfl, hc, hr⟩ := Kd.R_reads h
  refine ⟨A, l.length, c, rfl, hc, hr, fun ad e => ?_⟩
  subst e
  obtain ⟨h1, h2 | ⟨g', cap, cur, e, hgb, _⟩⟩ := own_of_R h
  · cases h2.1
  · injection e with e
    injection e with e
    subst e
    show g' ≠ g
    omega
/-- Marks, and which of all are among them. -/
def InvO (l : List Mk) (H : Nat → Bool) : Prop := rightM l = true ∧ ∀ e k q : Nat, e < 5 → k < 3 → q < 6 → H (e * 18 + k * 6 + q) = decide ((⟨e, k, q⟩ : Mk) ∈ l)
theorem InvO.nil : InvO [] (fun _ => false) := ⟨right_nil, fun e k q _ _ _ => by simp⟩
theorem InvO.add {l : List Mk} {H : Nat → Bool} (h : InvO l H) {e k q : Nat} (he : e < 5) (hk : k < 3) (hq : q < 6) (hn : (⟨e, k, q⟩ : Mk) ∉ l) : InvO (insAt l (posM l ⟨e, k, q⟩) ⟨e, k, q⟩) (fun j => if j = e * 18 + k * 6 + q then true else H j) := by
  have hm : mayM (⟨e, k, q⟩ : Mk) = true := by
    unfold mayM
    exact decide_eq_true ⟨by simp, by simp, by simp⟩
  refine ⟨insAt_right l _ h.1 hm hn, fun e' k' q' he' hk' hq' => ?_⟩
  show (if e' * 18 + k' * 6 + q' = e * 18 + k * 6 + q then true else H (e' * 18 + k' * 6 + q')) = _
  by_cases g : e' * 18 + k' * 6 + q' = e * 18 + k * 6 + q
  · obtain rfl : e' = e := by omega
    obtain rfl : k' = k := by omega
    obtain rfl : q' = q := by omega
    rw [if_pos rfl, eq_comm, decide_eq_true_iff, insAt_mem]
    exact .inl rfl
  · rw [if_neg g, h.2 e' k' q' he' hk' hq', decide_eq_decide, insAt_mem]
    refine ⟨.inr, fun g2 => g2.resolve_left fun e2 => g ?_⟩
    injection e2 with e0 e1 e3
    omega
theorem InvO.prune {l : List Mk} {H : Nat → Bool} (h : InvO l H) (p x : Nat) (hx : x = min p 5) : InvO (pruneM l (p : Int)) (fun j => if j < x * 18 then false else H j) := by
  have hp : rightM (pruneM l (p : Int)) = true ∧ ∀ y, y ∈ pruneM l (p : Int) ↔ y ∈ l ∧ (p : Int) ≤ y.f0 := by
    unfold pruneM
    have h1 := h.1
    rw [if_pos h1]
    rw [rightM_iff] at h1
    refine ⟨(rightM_iff _).2 ⟨fun x hx => h1.1 x (List.mem_filter.1 hx).1, h1.2.sublist List.filter_sublist⟩, fun x => ?_⟩
    rw [List.mem_filter, decide_eq_true_iff]
  refine ⟨hp.1, fun e k q he hk hq => ?_⟩
  show (if e * 18 + k * 6 + q < x * 18 then false else H (e * 18 + k * 6 + q)) = _
  by_cases g : e < x
  · rw [if_pos (by omega), eq_comm, decide_eq_false_iff_not, hp.2]
    rintro ⟨_, g2⟩
    simp only at g2
    omega
  · rw [if_neg (by omega), h.2 e k q he hk hq, decide_eq_decide, hp.2]
    exact ⟨fun g1 => ⟨g1, by simp only; omega⟩, fun g1 => g1.1⟩
end Go.Proofs.Ytppcojfgpjnagaa
