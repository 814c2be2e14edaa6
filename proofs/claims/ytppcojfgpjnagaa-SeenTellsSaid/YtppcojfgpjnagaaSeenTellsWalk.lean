
/- SeenTells (chapter 13): the walk. -/
import Derived.Test.YtppcojfgpjnagaaSeenOpen
import Derived.Test.YtppcojfgpjnagaaSeenAwakeF
import Derived.Test.YtppcojfgpjnagaaSeenPure
import Derived.Test.YtppcojfgpjnagaaQmootbellref13Prune
import Derived.Test.YtppcojfgpjnagaaQmootbellref13Of
set_option linter.unusedVariables false
set_option linter.unusedSimpArgs false
namespace Go.Proofs.Ytppcojfgpjnagaa
open Go.RowKit Go.Proofs.YtppcojfgpjnagaaW.PrintWords Go.Proofs.YtppcojfgpjnagaaW.PrintLast Go.Proofs.YtppcojfgpjnagaaW.PrintMore
open Go.ChangeShapes Go.WideShapes Go.ChangeAt
open Go.ChangeMaps (open_string shut_string)

open Go.Proofs.Ytppcojfgpjnagaa.PQ

theorem C_drew {α : Type} {d : Kd α} {w : World} {A : Option Addr} {n : Nat} {xs : List α} (h : d.C w A n xs) : d.C w.drew A n xs := Kd.C_below h (below_drew1 (Below.refl _ _))
def hadC (H : Nat → Bool) : Array Value := ((List.range 90).map (fun i => Value.bool (H i))).toArray
theorem hadC_get (H : Nat → Bool) {i : Nat} (h : i < 90) : (hadC H)[i]? = some (.bool (H i)) := by
  unfold hadC
  simp [h]
theorem hadC_put (H : Nat → Bool) {i : Nat} (b : Bool) : (hadC H).setIfInBounds i (.bool b) = hadC (fun j => if j = i then b else H j) := by
  unfold hadC
  apply Array.ext'
  simp only [Array.toList_setIfInBounds]
  apply List.ext_getElem?
  intro j
  rw [List.getElem?_set]
  simp only [List.getElem?_map, List.length_map, List.length_range]
  by_cases hj : j < 90
  · rw [List.getElem?_range hj]
    by_cases e : i = j
    · subst e
      simp [hj]
    · simp [e, Ne.symm e]
  · rw [List.getElem?_eq_none (by simpa using hj)]
    (repeat' split) <;> first | omega | rfl
theorem had_cells {b : Nat} {T : TypeId} (n : Nat) : ∀ (k : Nat) (w : World) (H : Nat → Bool), Box w b (hadC H) T → Box (w.setCells b k (List.replicate n (.bool false))) b (hadC (fun j => if k ≤ j ∧ j < k + n then false else H j)) T := by
  induction n with
  | zero =>
    intro k w H h
    have e : (fun j => if k ≤ j ∧ j < k + 0 then false else H j) = H := by
      funext j
      rw [if_neg (by omega)]
    rw [e]
    exact h
  | succ n ih =>
    intro k w H h
    rw [List.replicate_succ]
    have h1 := Box.put (j := k) (v := .bool false) h
    rw [hadC_put] at h1
    have h2 := ih (k + 1) _ _ h1
    have e : (fun j => if k + 1 ≤ j ∧ j < k + 1 + n then false else if j = k then false else H j) = (fun j => if k ≤ j ∧ j < k + (n + 1) then false else H j) := by
      funext j
      (repeat' split) <;> first | rfl | omega
    rw [e] at h2
    exact h2
/-- A list's value, that lies elsewhere than the block g. -/
def ListV (w : World) (g : Nat) (v : Value) (l : List Mk) : Prop := ∃ A n c, v = .slice A n c ∧ n ≤ c ∧ kM.C w A n l ∧ ∀ ad : Addr, A = some ad → ad.block ≠ g
theorem ListV.nil (w : World) (g : Nat) : ListV w g (.slice none 0 0) [] := ⟨none, 0, 0, rfl, Nat.le_refl _, Kd.C_nil _ _, fun _ h => by cases h⟩
theorem ListV.below {w w' : World} {g : Nat} {v : Value} {l : List Mk} (h : ListV w g v l) (hb : Below w.heap.size w w') : ListV w' g v l := by
  obtain ⟨A, n, c, rfl, hn, hC, hA⟩ := h
  exact ⟨A, n, c, rfl, hn, Kd.C_below hC hb, hA⟩
theorem ListV.drew {w : World} {g : Nat} {v : Value} {l : List Mk} (h : ListV w g v l) : ListV w.drew g v l := h.below (below_drew1 (Below.refl _ _))
theorem ListV.at {w w' : World} {g : Nat} {v : Value} {l : List Mk} (h : ListV w g v l) (hs : ∀ a : Addr, a.block ≠ g → w'.cell? a = w.cell? a) : ListV w' g v l := by
  obtain ⟨A, n, c, rfl, hn, hC, hA⟩ := h
  refine ⟨A, n, c, rfl, hn, ⟨hC.1, hC.2.1, fun hp => ?_⟩, hA⟩
  obtain ⟨ad, e, hr⟩ := hC.2.2 hp
  refine ⟨ad, e, fun j p hj => ?_⟩
  obtain ⟨cs, h1, h2, h3⟩ := hr j p hj
  refine ⟨cs, h1, ?_, fun i u hu => ?_⟩
  · rw [k25_open h2]
    exact k25_mk _ _
  · rw [hs _ (by rw [show (ad.add (j * kM.sz + i)).block = ad.block by unfold Addr.add; split <;> rfl]; exact hA ad e)]
    exact h3 i u hu
theorem far_cells {b : Nat} {a : Addr} (h : a.block ≠ b) : ∀ (vs : List Value) (o : Nat) (w : World), (w.setCells b o vs).cell? a = w.cell? a
  | [], _, _ => rfl
  | v :: vs, o, w => (far_cells h vs (o + 1) _).trans (cell_farp h)
theorem ListV.cells {w : World} {g : Nat} {v : Value} {l : List Mk} (h : ListV w g v l) (o : Nat) (vs : List Value) : ListV (w.setCells g o vs) g v l := h.at fun _ ha => far_cells ha vs o w
theorem ListV.set {w : World} {g o : Nat} {u v : Value} {l : List Mk} (h : ListV w g v l) : ListV (w.setCell ⟨g, o, none⟩ u) g v l := h.at fun _ ha => cell_farp ha
theorem ListV.ofR {w : World} {g base : Nat} {ok : Nat → Prop} {v : Value} {l : List Mk} (h : kM.R 25 w base ok v l) (hg : g < base) : ListV w g v l := by
  obtain ⟨A, c, rfl, hc, hr⟩ := Kd.R_reads h
  refine ⟨A, l.length, c, rfl, hc, hr, fun ad e => ?_⟩
  subst e
  obtain ⟨h1, h2 | ⟨g', cap, cur, e, hgb, _⟩⟩ := own_of_R h
  · cases h2.1
  · injection e with e
    injection e with e
    subst e
    show g' ≠ g
    omega
/-- Marks, and which of all are among them. -/
def InvO (l : List Mk) (H : Nat → Bool) : Prop := rightM l = true ∧ ∀ e k q : Nat, e < 5 → k < 3 → q < 6 → H (e * 18 + k * 6 + q) = decide ((⟨e, k, q⟩ : Mk) ∈ l)
theorem InvO.nil : InvO [] (fun _ => false) := ⟨right_nil, fun e k q _ _ _ => by simp⟩
theorem InvO.add {l : List Mk} {H : Nat → Bool} (h : InvO l H) {e k q : Nat} (he : e < 5) (hk : k < 3) (hq : q < 6) (hn : (⟨e, k, q⟩ : Mk) ∉ l) : InvO (insAt l (posM l ⟨e, k, q⟩) ⟨e, k, q⟩) (fun j => if j = e * 18 + k * 6 + q then true else H j) := by
  have hm : mayM (⟨e, k, q⟩ : Mk) = true := by
    unfold mayM
    exact decide_eq_true ⟨by simp, by simp, by simp⟩
  refine ⟨insAt_right l _ h.1 hm hn, fun e' k' q' he' hk' hq' => ?_⟩
  show (if e' * 18 + k' * 6 + q' = e * 18 + k * 6 + q then true else H (e' * 18 + k' * 6 + q')) = _
  by_cases g : e' * 18 + k' * 6 + q' = e * 18 + k * 6 + q
  · obtain rfl : e' = e := by omega
    obtain rfl : k' = k := by omega
    obtain rfl : q' = q := by omega
    rw [if_pos rfl, eq_comm, decide_eq_true_iff, insAt_mem]
    exact .inl rfl
  · rw [if_neg g, h.2 e' k' q' he' hk' hq', decide_eq_decide, insAt_mem]
    refine ⟨.inr, fun g2 => g2.resolve_left fun e2 => g ?_⟩
    injection e2 with e0 e1 e3
    omega
theorem InvO.prune {l : List Mk} {H : Nat → Bool} (h : InvO l H) (p x : Nat) (hx : x = min p 5) : InvO (pruneM l (p : Int)) (fun j => if j < x * 18 then false else H j) := by
  have hp : rightM (pruneM l (p : Int)) = true ∧ ∀ y, y ∈ pruneM l (p : Int) ↔ y ∈ l ∧ (p : Int) ≤ y.f0 := by
    unfold pruneM
    have h1 := h.1
    rw [if_pos h1]
    rw [rightM_iff] at h1
    refine ⟨(rightM_iff _).2 ⟨fun x hx => h1.1 x (List.mem_filter.1 hx).1, h1.2.sublist List.filter_sublist⟩, fun x => ?_⟩
    rw [List.mem_filter, decide_eq_true_iff]
  refine ⟨hp.1, fun e k q he hk hq => ?_⟩
  show (if e * 18 + k * 6 + q < x * 18 then false else H (e * 18 + k * 6 + q)) = _
  by_cases g : e < x
  · rw [if_pos (by omega), eq_comm, decide_eq_false_iff_not, hp.2]
    rintro ⟨_, g2⟩
    simp only at g2
    omega
  · rw [if_neg (by omega), h.2 e k q he hk hq, decide_eq_decide, hp.2]
    exact ⟨fun g1 => ⟨g1, by simp only; omega⟩, fun g1 => g1.1⟩
theorem prune_l0 (l : List Mk) (e : Int) (hl : l.length ≤ 1000000) (k r i : Nat) (out : List Mk) (ho : out.length ≤ i) (hr : i + r = l.length) (hk : 2 * r + 1 < k) :
    mootbellref13_Prune.l0 k l e true out (i : Int) = some (out ++ (l.drop i).filter (fun x => decide (e ≤ x.f0))) := by
  induction r generalizing k i out with
  | zero =>
    obtain ⟨k, rfl⟩ : ∃ k', k = k' + 2 := ⟨k - 2, by omega⟩
    rw [mootbellref13_Prune.l0, if_pos rfl, mootbellref13_Prune.j1, decide_eq_false (by omega), if_neg (by simp), List.drop_eq_nil_of_le (by omega)]
    simp
  | succ r ih =>
    obtain ⟨k, rfl⟩ : ∃ k', k = k' + 2 := ⟨k - 2, by omega⟩
    rw [mootbellref13_Prune.l0, if_pos rfl, mootbellref13_Prune.j1, decide_eq_true (show (i : Int) < (l.length : Int) by omega), if_pos rfl, if_pos (by omega), if_pos (by omega), drop_mk l i (by omega), i64_next (n := l.length) (by omega) (by omega)]
    by_cases h2 : (rdM l i).f0 ≥ e
    · rw [if_pos h2, if_pos (by omega), ih _ (i + 1) _ (by rw [List.length_append]; simp; omega) (by omega) (by omega), List.filter_cons, if_pos (decide_eq_true h2), List.append_assoc]
      rfl
    · rw [if_neg h2, ih _ (i + 1) _ (by omega) (by omega) (by omega), List.filter_cons, if_neg (by simpa using h2)]
theorem prune_f (l : List Mk) (e : Int) (hl : l.length ≤ 1000000) (k : Nat) (hk : 2 * l.length + 1 < k) : mootbellref13_Prune.f k l e = some (pruneM l e) := by
  unfold mootbellref13_Prune.f pruneM
  rw [right_f l (by omega) k (by omega), Option.bind_some]
  cases rightM l
  · obtain ⟨k, rfl⟩ : ∃ k', k = k' + 2 := ⟨k - 2, by omega⟩
    rw [mootbellref13_Prune.l0, if_neg (by simp), mootbellref13_Prune.j1, if_neg (by simp), if_neg (by simp)]
  · have := prune_l0 l e hl k l.length 0 [] (by simp) (by omega) hk
    rw [List.drop_zero] at this
    rw [if_pos rfl]
    exact this
theorem of_l0 (l : List Mk) (e h : Int) (hl : l.length ≤ 1000000) (k r i : Nat) (out : List Int) (ho : out.length ≤ i) (hr : i + r = l.length) (hk : 2 * r + 1 < k) :
    mootbellref13_Of.l0 k l e h true out (i : Int) = some (out ++ ((l.drop i).filter (fun x => decide (x.f0 = e ∧ x.f1 = h))).map (fun x => x.f2)) := by
  induction r generalizing k i out with
  | zero =>
    obtain ⟨k, rfl⟩ : ∃ k', k = k' + 2 := ⟨k - 2, by omega⟩
    rw [mootbellref13_Of.l0, if_pos rfl, mootbellref13_Of.j1, decide_eq_false (by omega), if_neg (by simp), List.drop_eq_nil_of_le (by omega)]
    simp
  | succ r ih =>
    obtain ⟨k, rfl⟩ : ∃ k', k = k' + 2 := ⟨k - 2, by omega⟩
    rw [mootbellref13_Of.l0, if_pos rfl, mootbellref13_Of.j1, decide_eq_true (show (i : Int) < (l.length : Int) by omega), if_pos rfl, if_pos (by omega), if_pos (by omega), drop_mk l i (by omega), i64_next (n := l.length) (by omega) (by omega)]
    by_cases h2 : (rdM l i).f0 = e
    · rw [if_pos h2]
      by_cases h3 : (rdM l i).f1 = h
      · rw [if_pos h3, if_pos (by omega), ih _ (i + 1) _ (by rw [List.length_append]; simp; omega) (by omega) (by omega), List.filter_cons, if_pos (decide_eq_true ⟨h2, h3⟩), List.map_cons, List.append_assoc]
        rfl
      · rw [if_neg h3, ih _ (i + 1) _ (by omega) (by omega) (by omega), List.filter_cons, if_neg (by simp; intro _; exact h3)]
    · rw [if_neg h2, ih _ (i + 1) _ (by omega) (by omega) (by omega), List.filter_cons, if_neg (by simp; intro g; exact absurd g h2)]
theorem of_f (l : List Mk) (e h : Int) (hl : l.length ≤ 1000000) (k : Nat) (hk : 2 * l.length + 1 < k) : mootbellref13_Of.f k l e h = some (ofM l e h) := by
  unfold mootbellref13_Of.f ofM
  rw [right_f l (by omega) k (by omega), Option.bind_some]
  cases rightM l
  · obtain ⟨k, rfl⟩ : ∃ k', k = k' + 2 := ⟨k - 2, by omega⟩
    rw [mootbellref13_Of.l0, if_neg (by simp), mootbellref13_Of.j1, if_neg (by simp), if_neg (by simp)]
  · have := of_l0 l e h hl k l.length 0 [] (by simp) (by omega) hk
    rw [List.drop_zero] at this
    rw [if_pos rfl]
    exact this
/-- A list's value: at most forty marks. -/
def LiV (w : World) (v : Value) (l : List Mk) : Prop := l.length ≤ 40 ∧ ∃ A n c, v = .slice A n c ∧ n ≤ c ∧ kM.C w A n l
theorem LiV.below {w w' : World} {v : Value} {l : List Mk} (h : LiV w v l) (hb : Below w.heap.size w w') : LiV w' v l := by
  obtain ⟨h0, A, n, c, rfl, hn, hC⟩ := h
  exact ⟨h0, A, n, c, rfl, hn, Kd.C_below hC hb⟩
theorem LiV.drew {w : World} {v : Value} {l : List Mk} (h : LiV w v l) : LiV w.drew v l := h.below (below_drew1 (Below.refl _ _))
theorem tAdd (v : Value) (l : List Mk) (r : Int) (m : Mk) (w : World) (hl : LiV w v l) : Calls Try.prog 12 #[v, .int .i64 r, .agg #[.int .i64 m.f0, .int .i64 m.f1, .int .i64 m.f2]] w
    fun e w' => ∃ v', e = .returned (.tuple #[v', .int .i64 (addM l r m).2]) ∧ kM.R 25 w' w.heap.size (fun _ => True) v' (addM l r m).1 ∧ Below w.heap.size w w' := by
  obtain ⟨h0, A, n, c, rfl, hc, hC⟩ := hl
  exact SAdd_calls A n c l r m w hC (by rw [← Kd.C_len hC]; omega)
theorem tRAdd (v : Value) (l : List Mk) (r : Int) (m : Mk) (w : World) (hl : LiV w v l) : Calls Try.prog 13 #[v, .int .i64 r, .agg #[.int .i64 m.f0, .int .i64 m.f1, .int .i64 m.f2]] w
    fun e w' => ∃ v', e = .returned (.tuple #[v', .int .i64 (addM l r m).2]) ∧ kM.R 25 w' w.heap.size (fun _ => True) v' (addM l r m).1 ∧ Below w.heap.size w w' := by
  obtain ⟨h0, A, n, c, rfl, hc, hC⟩ := hl
  exact RAdd_calls A n c l r m w hC hc (by rw [← Kd.C_len hC]; omega)
theorem tHas (v : Value) (l : List Mk) (m : Mk) (w : World) (hl : LiV w v l) : Calls Try.prog 15 #[v, .agg #[.int .i64 m.f0, .int .i64 m.f1, .int .i64 m.f2]] w fun e w' => e = .returned (.bool (hasM l m)) ∧ Below w.heap.size w w' := by
  obtain ⟨h0, A, n, c, rfl, hc, hC⟩ := hl
  exact SHas_calls A n c l m w hC
theorem tRHas (v : Value) (l : List Mk) (m : Mk) (w : World) (hl : LiV w v l) : Calls Try.prog 16 #[v, .agg #[.int .i64 m.f0, .int .i64 m.f1, .int .i64 m.f2]] w fun e w' => e = .returned (.bool (hasM l m)) ∧ Below w.heap.size w w' := by
  obtain ⟨h0, A, n, c, rfl, hc, hC⟩ := hl
  exact RHas_v A n c l m _ w hC hc rfl
theorem tRight (v : Value) (l : List Mk) (w : World) (hl : LiV w v l) : Calls Try.prog 22 #[v] w fun e w' => e = .returned (.bool (rightM l)) ∧ Below w.heap.size w w' := by
  obtain ⟨h0, A, n, c, rfl, hc, hC⟩ := hl
  exact SRight_calls A n c l w hC
theorem tRRight (v : Value) (l : List Mk) (w : World) (hl : LiV w v l) : Calls Try.prog 23 #[v] w fun e w' => e = .returned (.bool (rightM l)) ∧ Below w.heap.size w w' := by
  obtain ⟨h0, A, n, c, rfl, hc, hC⟩ := hl
  exact RRight_v A n c l _ w hC hc rfl
theorem tPrune (v : Value) (l : List Mk) (p : Int) (w : World) (hl : LiV w v l) : Calls Try.prog 17 #[v, .int .i64 p] w fun r w' => ∃ v', r = .returned v' ∧ kM.R 25 w' w.heap.size (fun _ => True) v' (pruneM l p) ∧ Below w.heap.size w w' := by
  obtain ⟨h0, A, n, c, rfl, hc, hC⟩ := hl
  exact SPrune_calls A n c l p w hC (by rw [← Kd.C_len hC]; omega)
theorem tRPrune (v : Value) (l : List Mk) (p : Int) (w : World) (hl : LiV w v l) : Calls Try.prog 18 #[v, .int .i64 p] w fun r w' => ∃ v', r = .returned v' ∧ kM.R 25 w' w.heap.size (fun _ => True) v' (pruneM l p) ∧ Below w.heap.size w w' := by
  obtain ⟨h0, A, n, c, rfl, hc, hC⟩ := hl
  obtain rfl := Kd.C_len hC
  exact mootbellref13_Prune.calls (2 * l.length + 2) A c l p _ w hC hc (prune_f l p (by omega) _ (by omega))
theorem tOf (v : Value) (l : List Mk) (a b : Int) (w : World) (hl : LiV w v l) : Calls Try.prog 20 #[v, .int .i64 a, .int .i64 b] w fun r w' => ∃ v', r = .returned v' ∧ (Kd.int .i64).R 3 w' w.heap.size (fun _ => True) v' (ofM l a b) ∧ Below w.heap.size w w' := by
  obtain ⟨h0, A, n, c, rfl, hc, hC⟩ := hl
  exact SOf_calls A n c l a b w hC (by rw [← Kd.C_len hC]; omega)
theorem tROf (v : Value) (l : List Mk) (a b : Int) (w : World) (hl : LiV w v l) : Calls Try.prog 21 #[v, .int .i64 a, .int .i64 b] w fun r w' => ∃ v', r = .returned v' ∧ (Kd.int .i64).R 3 w' w.heap.size (fun _ => True) v' (ofM l a b) ∧ Below w.heap.size w w' := by
  obtain ⟨h0, A, n, c, rfl, hc, hC⟩ := hl
  obtain rfl := Kd.C_len hC
  exact mootbellref13_Of.calls (2 * l.length + 2) A c l a b _ w hC hc (of_f l a b (by omega) _ (by omega))
theorem tSame (A B : Option Addr) (n c m d : Nat) (l : List Mk) (w : World) (h1 : kM.C w A n l) (hc : n ≤ c) (h2 : kM.C w B m l) (hd : m ≤ d) : Calls Try.prog 14 #[.slice A n c, .slice B m d] w fun e w' => e = .returned (.bool true) ∧ Below w.heap.size w w' := by
  have hm := Kd.C_max h1
  obtain rfl := Kd.C_len h1
  obtain rfl := Kd.C_len h2
  exact (mootbellref13_Same.calls (l.length + 1) A c l B d l true w h1 hc h2 hd (by rw [same_f l l hm _ (by omega), decide_eq_true rfl])).mono fun e w' hh => ⟨hh.1, hh.2.below⟩
theorem tInts (A B : Option Addr) (n c m d : Nat) (l : List Int) (w : World) (h1 : (Kd.int .i64).C w A n l) (hc : n ≤ c) (h2 : (Kd.int .i64).C w B m l) (hd : m ≤ d) : Calls Try.prog 19 #[.slice A n c, .slice B m d] w fun e w' => e = .returned (.bool true) ∧ Below w.heap.size w w' := by
  have hm := Kd.C_max h1
  obtain rfl := Kd.C_len h1
  obtain rfl := Kd.C_len h2
  exact (mootbellref09_Ints.calls (l.length + 1) A c l B d l true w h1 hc h2 hd (by rw [ints_f l l hm _ (by omega), decide_eq_true rfl])).mono fun e w' hh => ⟨hh.1, hh.2.below⟩
theorem mark_v (a b c : Int) (m : Mk) (ha : In64 a) (hb : In64 b) (hc : In64 c) (w : World) (h : markM a b c = m) : Calls Try.prog 10 #[.agg #[.int .i64 a, .int .i64 b, .int .i64 c]] w fun e w' => e = .returned (.agg #[.int .i64 m.f0, .int .i64 m.f1, .int .i64 m.f2]) ∧ Below w.heap.size w w' := by
  subst h
  exact mootbelllaw13_Mark.calls a b c _ _ _ w (mark_f a b c ha hb hc)
theorem pick_v (c n r : Int) (hc : In64 c) (hn : 0 < n) (w : World) (h : pickZ c n = r) : Calls Try.prog 11 #[.int .i64 c, .int .i64 n] w fun e w' => e = .returned (.int .i64 r) ∧ Below w.heap.size w w' :=
  (mootbelllaw13_pick.calls c n r w (by rw [pick_f c n hc hn, h])).mono fun e w' hh => ⟨hh.1, hh.2.below⟩
theorem tAddE (v : Value) (l : List Mk) (r : Int) (m : Mk) (L : List Mk) (x : Int) (w : World) (hl : LiV w v l) (h : addM l r m = (L, x)) : Calls Try.prog 12 #[v, .int .i64 r, .agg #[.int .i64 m.f0, .int .i64 m.f1, .int .i64 m.f2]] w
    fun e w' => ∃ v', e = .returned (.tuple #[v', .int .i64 x]) ∧ kM.R 25 w' w.heap.size (fun _ => True) v' L ∧ Below w.heap.size w w' := by
  have e := tAdd v l r m w hl
  rw [h] at e
  exact e
theorem tRAddE (v : Value) (l : List Mk) (r : Int) (m : Mk) (L : List Mk) (x : Int) (w : World) (hl : LiV w v l) (h : addM l r m = (L, x)) : Calls Try.prog 13 #[v, .int .i64 r, .agg #[.int .i64 m.f0, .int .i64 m.f1, .int .i64 m.f2]] w
    fun e w' => ∃ v', e = .returned (.tuple #[v', .int .i64 x]) ∧ kM.R 25 w' w.heap.size (fun _ => True) v' L ∧ Below w.heap.size w w' := by
  have e := tRAdd v l r m w hl
  rw [h] at e
  exact e
theorem tRightE (v : Value) (l : List Mk) (q : Bool) (w : World) (hl : LiV w v l) (h : rightM l = q) : Calls Try.prog 22 #[v] w fun e w' => e = .returned (.bool q) ∧ Below w.heap.size w w' := h ▸ tRight v l w hl
theorem tRRightE (v : Value) (l : List Mk) (q : Bool) (w : World) (hl : LiV w v l) (h : rightM l = q) : Calls Try.prog 23 #[v] w fun e w' => e = .returned (.bool q) ∧ Below w.heap.size w w' := h ▸ tRRight v l w hl
theorem tPruneE (v : Value) (l : List Mk) (p : Int) (L : List Mk) (w : World) (hl : LiV w v l) (h : pruneM l p = L) : Calls Try.prog 17 #[v, .int .i64 p] w fun r w' => ∃ v', r = .returned v' ∧ kM.R 25 w' w.heap.size (fun _ => True) v' L ∧ Below w.heap.size w w' := h ▸ tPrune v l p w hl
theorem tRPruneE (v : Value) (l : List Mk) (p : Int) (L : List Mk) (w : World) (hl : LiV w v l) (h : pruneM l p = L) : Calls Try.prog 18 #[v, .int .i64 p] w fun r w' => ∃ v', r = .returned v' ∧ kM.R 25 w' w.heap.size (fun _ => True) v' L ∧ Below w.heap.size w w' := h ▸ tRPrune v l p w hl
theorem tOfE (v : Value) (l : List Mk) (a b : Int) (I : List Int) (w : World) (hl : LiV w v l) (h : ofM l a b = I) : Calls Try.prog 20 #[v, .int .i64 a, .int .i64 b] w fun r w' => ∃ v', r = .returned v' ∧ (Kd.int .i64).R 3 w' w.heap.size (fun _ => True) v' I ∧ Below w.heap.size w w' := h ▸ tOf v l a b w hl
theorem tROfE (v : Value) (l : List Mk) (a b : Int) (I : List Int) (w : World) (hl : LiV w v l) (h : ofM l a b = I) : Calls Try.prog 21 #[v, .int .i64 a, .int .i64 b] w fun r w' => ∃ v', r = .returned v' ∧ (Kd.int .i64).R 3 w' w.heap.size (fun _ => True) v' I ∧ Below w.heap.size w w' := h ▸ tROf v l a b w hl
theorem tMarks (B : Option Addr) (nb cb : Nat) (raw : List Rw) (M : List Mk) (w : World) (hB : Kd.C k26 w B nb raw) (hcb : nb ≤ cb) (h : mootbelllaw13_Marks.f 100 raw = some M) : Calls Try.prog 9 #[.slice B nb cb] w fun e w' => ∃ v, e = .returned v ∧ kM.R 25 w' w.heap.size (fun _ => True) v M ∧ Below w.heap.size w w' := by
  obtain rfl := Kd.C_len hB
  exact mootbelllaw13_Marks.calls 100 B cb raw M w hB hcb h
set_option maxRecDepth 100000 in
set_option maxHeartbeats 8000000 in
theorem SeenTells_calls (A : Option Addr) (n c : Nat) (wild : List Mk) (B : Option Addr) (nb cb : Nat) (raw : List Rw) (o : Mk) (k0 k1 k2 room ep ki : Int) (w : World) (hA : kM.C w A n wild) (hc : n ≤ c) (hB : Kd.C k26 w B nb raw) (hcb : nb ≤ cb) (ho : OkR raw) (hk0 : In64 k0) (hk1 : In64 k1) (hk2 : In64 k2) (hr : In64 room) (he : In64 ep) (hk : In64 ki) :
    Calls Try.prog 3 #[.slice A n c, .slice B nb cb, .agg #[.int .i64 o.f0, .int .i64 o.f1, .int .i64 o.f2], .agg #[.int .i64 k0, .int .i64 k1, .int .i64 k2], .int .i64 room, .int .i64 ep, .int .i64 ki] w
    fun e w' => e = .returned (.bool true) ∧ Below w.heap.size w w' := by
  have HX := Aside0.mk hA
  have HR := Aside0.mk hB
  have HO := Aside0.mk ho
  clear hA hB ho
  obtain ⟨M, hM, hMr, hMl⟩ := marks_f raw HO.out (by have := Kd.C_max HR.out; rw [← Kd.C_len HR.out] at this; exact this) 100 (by omega)
  have HM := Aside0.mk hM
  clear hM
  obtain ⟨e6, he6⟩ : ∃ r, pickZ ep 6 = r := ⟨_, rfl⟩
  have HE6 := Aside0.mk he6
  clear he6
  obtain ⟨k3, hk3⟩ : ∃ r, pickZ ki 3 = r := ⟨_, rfl⟩
  have HK3 := Aside0.mk hk3
  clear hk3
  obtain ⟨r1, hr1⟩ : ∃ r, pickZ room 45 = r := ⟨_, rfl⟩
  have HR1 := Aside0.mk hr1
  clear hr1
  obtain ⟨m, hm⟩ : ∃ m, markM k0 k1 k2 = m := ⟨_, rfl⟩
  have HMK := Aside0.mk hm
  clear hm
  have HB := Aside0.mk (Below.refl w.heap.size w)
  go_enter Try.func3, Try.ntmps3
  go_wp2_with fail
  refine (awake_calls _).mono ?_
  rintro e w3 ⟨rfl, hb_⟩
  have YO : Box w3 (w.heap.size) _ _ := Box.below (by repeat (with_reducible first | exact XO.out | exact Box.new | exact Box.new1 | exact Box.new2 | exact Box.new3 | apply Box.alloc | apply Box.drew | apply Box.drewN | apply Box.set)) hb_
  (try clear XO rO kO fO); have XO := Aside0.mk YO; have rO := YO.cell; have fO := YO.frozen; have kO := YO.lt; clear YO
  have YK : Box w3 (w.heap.size + 1) _ _ := Box.below (by repeat (with_reducible first | exact XK.out | exact Box.new | exact Box.new1 | exact Box.new2 | exact Box.new3 | apply Box.alloc | apply Box.drew | apply Box.drewN | apply Box.set)) hb_
  (try clear XK rK kK fK); have XK := Aside0.mk YK; have rK := YK.cell; have fK := YK.frozen; have kK := YK.lt; clear YK
  have ZHX := Aside0.mk (Kd.C_below (by repeat (with_reducible first | exact HX.out | apply C_alloc | apply C_drew)) hb_); clear HX; have HX := ZHX; clear ZHX
  have ZHR := Aside0.mk (Kd.C_below (by repeat (with_reducible first | exact HR.out | apply C_alloc | apply C_drew)) hb_); clear HR; have HR := ZHR; clear ZHR
  have n_ := Aside0.mk (below_step (by repeat (first | exact HB.out | apply below_alloc | apply pw_below_drewN | apply below_drew1 | refine below_set ?_ (by first | omega | (simp; omega)))) hb_); clear HB hb_; have HB := n_; clear n_
  go_upto_region 2 with (fail)
  obtain ⟨p, hp, hp40, hmin⟩ : ∃ p : Nat, p ≤ n ∧ p ≤ 40 ∧ min (n : Int) 40 = (p : Int) := ⟨min n 40, by omega, by omega, by omega⟩
  have hpn : (p : Int) ≤ (c : Int) := by omega
  have hp0 : 0 ≤ (p : Int) := by omega
  have hpc : p ≤ c := by omega
  refine wp_region_held_drew (S := (fun w' => Below w3.heap.size w3 w' ∧ (∀ j, w'.cell? ⟨w.heap.size, j, none⟩ = (#[.int .i64 o.f0, .int .i64 o.f1, .int .i64 o.f2] : Array Value)[j]?) ∧ (∀ j, w'.cell? ⟨w.heap.size + 1, j, none⟩ = (#[.int .i64 k0, .int .i64 k1, .int .i64 k2] : Array Value)[j]?))) (by kernel_rfl) ?hS4x0 (fun hHeld => ?hR4x0)
  case hS4x0 => ((try dsimp only); (first | exact ⟨below_drew1 (Below.refl _ _), rO, rK⟩ | exact ⟨below_drew1 b0_, rO, rK⟩ | exact ⟨j0, jO, jK⟩ | exact ⟨below_alloc j0 _, fun j => (cell_alloc_old (Nat.lt_of_lt_of_le kO j0.size)).trans (jO j), fun j => (cell_alloc_old (Nat.lt_of_lt_of_le kK j0.size)).trans (jK j)⟩ | exact ⟨below_alloc (below_drew1 (Below.refl _ _)) _, fun j => (cell_alloc_old kO).trans (rO j), fun j => (cell_alloc_old kK).trans (rK j)⟩ | assumption))
  refine wpAnyH_take (i := 0) (oi := ⟨some 29, _, _, _, _, _⟩) (v := ?_) rfl (by kernel_rfl) (by kernel_rfl) (by kernel_rfl) (fun _ _ _ h => h) (Or.inl ⟨by rfl, ?hY4x2⟩) (by assumption) ?hR4x2
  case hY4x2 => (intro w hSw; (try dsimp only at hSw); go_simp; try with_reducible rfl)
  (try simp only [Act.put, List.setIfInBounds_toArray, List.set_cons_zero, List.set_cons_succ])
  refine wpAnyH_take (i := 1) (oi := ⟨some 30, _, _, _, _, _⟩) (v := ?_) rfl (by kernel_rfl) (by kernel_rfl) (by kernel_rfl) (fun _ _ _ h => h) (Or.inl ⟨by rfl, ?hY4x3⟩) (by assumption) ?hR4x3
  case hY4x3 => (intro w hSw; (try dsimp only at hSw); go_simp; try with_reducible rfl)
  (try simp only [Act.put, List.setIfInBounds_toArray, List.set_cons_zero, List.set_cons_succ])
  refine wpAnyH_take (i := 2) (oi := ⟨some 31, _, _, _, _, _⟩) (v := ?_) rfl (by kernel_rfl) (by kernel_rfl) (by kernel_rfl) (fun _ _ _ h => h) (Or.inl ⟨by rfl, ?hY4x4⟩) (by assumption) ?hR4x4
  case hY4x4 => (intro w hSw; (try dsimp only at hSw); go_simp; try with_reducible rfl)
  (try simp only [Act.put, List.setIfInBounds_toArray, List.set_cons_zero, List.set_cons_succ])
  refine wpAnyH_take (i := 3) (oi := ⟨some 32, _, _, _, _, _⟩) (v := ?_) rfl (by kernel_rfl) (by kernel_rfl) (by kernel_rfl) (fun _ _ _ h => h) (Or.inl ⟨by rfl, ?hY4x5⟩) (by assumption) ?hR4x5
  case hY4x5 => (intro w hSw; (try dsimp only at hSw); go_simp; try with_reducible rfl)
  (try simp only [Act.put, List.setIfInBounds_toArray, List.set_cons_zero, List.set_cons_succ])
  refine wpAnyH_take (i := 4) (oi := ⟨some 33, _, _, _, _, _⟩) (v := ?_) rfl (by kernel_rfl) (by kernel_rfl) (by kernel_rfl) (fun _ _ _ h => h) (Or.inl ⟨by rfl, ?hY4x6⟩) (by assumption) ?hR4x6
  case hY4x6 => (intro w hSw; (try dsimp only at hSw); go_simp; try with_reducible rfl)
  (try simp only [Act.put, List.setIfInBounds_toArray, List.set_cons_zero, List.set_cons_succ])
  refine wpAnyH_take (i := 5) (oi := ⟨some 34, _, _, _, _, _⟩) (v := ?_) rfl (by kernel_rfl) (by kernel_rfl) (by kernel_rfl) (fun _ _ _ h => h) (Or.inl ⟨by rfl, ?hY4x7⟩) (by assumption) ?hR4x7
  case hY4x7 => (intro w hSw; (try dsimp only at hSw); go_simp; try with_reducible rfl)
  (try simp only [Act.put, List.setIfInBounds_toArray, List.set_cons_zero, List.set_cons_succ])
  refine wpAnyH_take (i := 9) (oi := ⟨some 38, _, _, _, _, _⟩) (v := ?_) rfl (by kernel_rfl) (by kernel_rfl) (by kernel_rfl) (fun _ _ _ h => h) (Or.inl ⟨by rfl, ?hY4x8⟩) (by assumption) ?hR4x8
  case hY4x8 => (intro w hSw; (try dsimp only at hSw); go_simp; try with_reducible rfl)
  (try simp only [Act.put, List.setIfInBounds_toArray, List.set_cons_zero, List.set_cons_succ])
  refine wpAnyH_ready (rs := [6]) (by kernel_rfl) (by simp) ?_
  refine AllReadyH.cons (o := ⟨some 35, _, _, _, _, _⟩) rfl (fun K hK => ?hT4x9) ?hM4x9
  case hM4x9 => exact AllReadyH.nil
  go_simp
  (first | (go_at_call 9; obtain ⟨g0, gO, gK⟩ := ‹Below w3.heap.size w3 _ ∧ _›; ((with_reducible refine (tMarks B nb cb raw M _ (Kd.C_below HR.out g0) hcb HM.out).mono ?_));  rintro e w5 ⟨v5, rfl, hR4x5, hb_⟩; have j0 := below_step g0 hb_; have s5 := j0.size; have jO := fun j => (j0.cell (p := ⟨w.heap.size, j, none⟩) kO).trans (rO j); have jK := fun j => (j0.cell (p := ⟨w.heap.size + 1, j, none⟩) kK).trans (rK j); obtain ⟨A5, c5, rfl, hc5, hC5⟩ := Kd.R_reads hR4x5))
  (try go_wp2_with fail)
  refine hK.out _ _ ?hS4x9 (fun hHeld => ?hR4x9)
  case hS4x9 => ((try dsimp only); (first | exact ⟨below_drew1 (Below.refl _ _), rO, rK⟩ | exact ⟨below_drew1 b0_, rO, rK⟩ | exact ⟨j0, jO, jK⟩ | exact ⟨below_alloc j0 _, fun j => (cell_alloc_old (Nat.lt_of_lt_of_le kO j0.size)).trans (jO j), fun j => (cell_alloc_old (Nat.lt_of_lt_of_le kK j0.size)).trans (jK j)⟩ | exact ⟨below_alloc (below_drew1 (Below.refl _ _)) _, fun j => (cell_alloc_old kO).trans (rO j), fun j => (cell_alloc_old kK).trans (rK j)⟩ | assumption))
  clear hK K
  (try simp only [Act.put, List.setIfInBounds_toArray, List.set_cons_zero, List.set_cons_succ])
  refine wpAnyH_ready (rs := [7]) (by kernel_rfl) (by simp) ?_
  refine AllReadyH.cons (o := ⟨some 36, _, _, _, _, _⟩) rfl (fun K hK => ?hT4x10) ?hM4x10
  case hM4x10 => exact AllReadyH.nil
  go_simp
  (try go_wp2_with fail)
  refine hK.out _ _ ?hS4x10 (fun hHeld => ?hR4x10)
  case hS4x10 => ((try dsimp only); (first | exact ⟨below_drew1 (Below.refl _ _), rO, rK⟩ | exact ⟨below_drew1 b0_, rO, rK⟩ | exact ⟨j0, jO, jK⟩ | exact ⟨below_alloc j0 _, fun j => (cell_alloc_old (Nat.lt_of_lt_of_le kO j0.size)).trans (jO j), fun j => (cell_alloc_old (Nat.lt_of_lt_of_le kK j0.size)).trans (jK j)⟩ | exact ⟨below_alloc (below_drew1 (Below.refl _ _)) _, fun j => (cell_alloc_old kO).trans (rO j), fun j => (cell_alloc_old kK).trans (rK j)⟩ | assumption))
  clear hK K
  (try simp only [Act.put, List.setIfInBounds_toArray, List.set_cons_zero, List.set_cons_succ])
  refine wpAnyH_take (i := 8) (oi := ⟨some 37, _, _, _, _, _⟩) (v := ?_) rfl (by kernel_rfl) (by kernel_rfl) (by kernel_rfl) (fun _ _ _ h => h) (Or.inl ⟨by rfl, ?hY4x11⟩) (by assumption) ?hR4x11
  case hY4x11 => (intro w hSw; (try dsimp only at hSw); go_simp; try with_reducible rfl)
  (try simp only [Act.put, List.setIfInBounds_toArray, List.set_cons_zero, List.set_cons_succ])
  refine wpAnyH_done (by kernel_rfl) ?_ _
  obtain ⟨W, hW⟩ : ∃ W, w5.alloc (.cells #[.slice A p c, .slice A5 M.length c5] 22) = W := ⟨_, rfl⟩
  rw [hW]
  have HBW := Aside0.mk (hW ▸ below_alloc (below_step HB.out j0) _ : Below w.heap.size w W)
  have bO := Aside0.mk (hW ▸ (XO.out.below j0).alloc : Box W w.heap.size _ _)
  have bK := Aside0.mk (hW ▸ (XK.out.below j0).alloc : Box W (w.heap.size + 1) _ _)
  have bS := Aside0.mk (hW ▸ Box.new : Box W w5.heap.size #[.slice A p c, .slice A5 M.length c5] 22)
  have hL0 : LiV W (.slice A p c) (wild.take p) := ⟨by simp; omega, A, p, c, rfl, hpc, hW ▸ C_alloc (C_take' (Kd.C_below HX.out j0) hp)⟩
  have hL1 : LiV W (.slice A5 M.length c5) M := ⟨hMl, A5, _, c5, rfl, hc5, hW ▸ C_alloc hC5⟩
  have HL := Aside0.mk (And.intro hL0 hL1)
  clear hL0 hL1 hW hR4x5 hC5 HB XO XK rO rK fO fK kO kK HX HR j0 jO jK hb_ hmin hp0 hpn
  try clear hHeld
  try clear hHeld
  generalize w5.heap.size = sb at *
  generalize hv0 : (Value.slice A p c) = v0 at *
  generalize hv1 : (Value.slice A5 M.length c5) = v1 at *
  generalize hl0 : wild.take p = l0 at *
  clear hv0 hv1 hl0
  generalize w.heap.size + 1 = kb at *
  go_wp2
  go_loopw [38] (fun iv wx => ∃ i : Nat, i ≤ 2 ∧ iv = .int .i64 i ∧ Below W.heap.size W wx) (fun iv _ => 2 - (intOf iv).toNat)
  case atStart => exact ⟨0, by omega, rfl, Below.refl _ _⟩
  case round =>
    obtain ⟨i, hi, rfl, hb1⟩ := hrel
    have bO1 := bO.out.below hb1
    have bK1 := bK.out.below hb1
    have bS1 := bS.out.below hb1
    have rS := bS1.cell
    rcases Nat.lt_or_ge i 2 with hlt | hge
    · go_upto_region 4 with (fail)
      go_cut [17, 38] (fun v17 v38 wd => ∃ l, v38 = .int .i64 i ∧ LiV W v17 l ∧ wd = wr)
      case first =>
        have hv : i = 0 ∨ i = 1 := by omega
        rcases hv with rfl | rfl
        all_goals
          go_wp2
          go_meet
          case rel => first | exact ⟨_, rfl, HL.out.1, rfl⟩ | exact ⟨_, rfl, HL.out.2, rfl⟩
      case rest =>
        obtain ⟨l, rfl, hl, rfl⟩ := hcut
        go_upto_region 5 with (fail)
        have rO := bO1.cell
        have rK := bK1.cell
        have kO := bO1.lt
        have kK := bK1.lt
        clear rS bS1
        refine wp_region_held_drew (S := (fun w' => Below wc.heap.size wc w' ∧ (∀ j, w'.cell? ⟨w.heap.size, j, none⟩ = (#[.int .i64 o.f0, .int .i64 o.f1, .int .i64 o.f2] : Array Value)[j]?) ∧ (∀ j, w'.cell? ⟨kb, j, none⟩ = (#[.int .i64 k0, .int .i64 k1, .int .i64 k2] : Array Value)[j]?))) (by kernel_rfl) ?hS3x0 (fun hHeld => ?hR3x0)
        case hS3x0 => ((try dsimp only); (first | exact ⟨below_drew1 (Below.refl _ _), rO, rK⟩ | exact ⟨below_drew1 b0_, rO, rK⟩ | exact ⟨j0, jO, jK⟩ | exact ⟨below_alloc j0 _, fun j => (cell_alloc_old (Nat.lt_of_lt_of_le kO j0.size)).trans (jO j), fun j => (cell_alloc_old (Nat.lt_of_lt_of_le kK j0.size)).trans (jK j)⟩ | exact ⟨below_alloc (below_drew1 (Below.refl _ _)) _, fun j => (cell_alloc_old kO).trans (rO j), fun j => (cell_alloc_old kK).trans (rK j)⟩ | assumption))
        refine wpAnyH_take (i := 0) (oi := ⟨some 42, _, _, _, _, _⟩) (v := ?_) rfl (by kernel_rfl) (by kernel_rfl) (by kernel_rfl) (fun _ _ _ h => h) (Or.inl ⟨by rfl, ?hY3x2⟩) (by assumption) ?hR3x2
        case hY3x2 => (intro w hSw; (try dsimp only at hSw); go_simp; try with_reducible rfl)
        (try simp only [Act.put, List.setIfInBounds_toArray, List.set_cons_zero, List.set_cons_succ])
        refine wpAnyH_take (i := 1) (oi := ⟨some 43, _, _, _, _, _⟩) (v := ?_) rfl (by kernel_rfl) (by kernel_rfl) (by kernel_rfl) (fun _ _ _ h => h) (Or.inl ⟨by rfl, ?hY3x3⟩) (by assumption) ?hR3x3
        case hY3x3 => (intro w hSw; (try dsimp only at hSw); go_simp; try with_reducible rfl)
        (try simp only [Act.put, List.setIfInBounds_toArray, List.set_cons_zero, List.set_cons_succ])
        refine wpAnyH_take (i := 5) (oi := ⟨some 47, _, _, _, _, _⟩) (v := ?_) rfl (by kernel_rfl) (by kernel_rfl) (by kernel_rfl) (fun _ _ _ h => h) (Or.inl ⟨by rfl, ?hY3x4⟩) (by assumption) ?hR3x4
        case hY3x4 => (intro w hSw; (try dsimp only at hSw); go_simp; try with_reducible rfl)
        (try simp only [Act.put, List.setIfInBounds_toArray, List.set_cons_zero, List.set_cons_succ])
        refine wpAnyH_ready (rs := [2]) (by kernel_rfl) (by simp) ?_
        refine AllReadyH.cons (o := ⟨some 44, _, _, _, _, _⟩) rfl (fun K hK => ?hT3x5) ?hM3x5
        case hM3x5 => exact AllReadyH.nil
        go_simp
        (first | (go_at_call 10; obtain ⟨g0, gO, gK⟩ := ‹Below wc.heap.size wc _ ∧ _›; ((with_reducible refine (mark_v k0 k1 k2 m hk0 hk1 hk2 _ HMK.out).mono ?_));  rintro e w6 ⟨rfl, hb_⟩; have j0 := below_step g0 hb_; have s6 := j0.size; have jO := fun j => (j0.cell (p := ⟨w.heap.size, j, none⟩) kO).trans (rO j); have jK := fun j => (j0.cell (p := ⟨kb, j, none⟩) kK).trans (rK j)))
        (try go_wp2_with fail)
        refine hK.out _ _ ?hS3x5 (fun hHeld => ?hR3x5)
        case hS3x5 => ((try dsimp only); (first | exact ⟨below_drew1 (Below.refl _ _), rO, rK⟩ | exact ⟨below_drew1 b0_, rO, rK⟩ | exact ⟨j0, jO, jK⟩ | exact ⟨below_alloc j0 _, fun j => (cell_alloc_old (Nat.lt_of_lt_of_le kO j0.size)).trans (jO j), fun j => (cell_alloc_old (Nat.lt_of_lt_of_le kK j0.size)).trans (jK j)⟩ | exact ⟨below_alloc (below_drew1 (Below.refl _ _)) _, fun j => (cell_alloc_old kO).trans (rO j), fun j => (cell_alloc_old kK).trans (rK j)⟩ | assumption))
        clear hK K
        (try simp only [Act.put, List.setIfInBounds_toArray, List.set_cons_zero, List.set_cons_succ])
        refine wpAnyH_ready (rs := [3]) (by kernel_rfl) (by simp) ?_
        refine AllReadyH.cons (o := ⟨some 45, _, _, _, _, _⟩) rfl (fun K hK => ?hT3x6) ?hM3x6
        case hM3x6 => exact AllReadyH.nil
        go_simp
        (try go_wp2_with fail)
        refine hK.out _ _ ?hS3x6 (fun hHeld => ?hR3x6)
        case hS3x6 => ((try dsimp only); (first | exact ⟨below_drew1 (Below.refl _ _), rO, rK⟩ | exact ⟨below_drew1 b0_, rO, rK⟩ | exact ⟨j0, jO, jK⟩ | exact ⟨below_alloc j0 _, fun j => (cell_alloc_old (Nat.lt_of_lt_of_le kO j0.size)).trans (jO j), fun j => (cell_alloc_old (Nat.lt_of_lt_of_le kK j0.size)).trans (jK j)⟩ | exact ⟨below_alloc (below_drew1 (Below.refl _ _)) _, fun j => (cell_alloc_old kO).trans (rO j), fun j => (cell_alloc_old kK).trans (rK j)⟩ | assumption))
        clear hK K
        (try simp only [Act.put, List.setIfInBounds_toArray, List.set_cons_zero, List.set_cons_succ])
        refine wpAnyH_take (i := 4) (oi := ⟨some 46, _, _, _, _, _⟩) (v := ?_) rfl (by kernel_rfl) (by kernel_rfl) (by kernel_rfl) (fun _ _ _ h => h) (Or.inl ⟨by rfl, ?hY3x7⟩) (by assumption) ?hR3x7
        case hY3x7 => (intro w hSw; (try dsimp only at hSw); go_simp; try with_reducible rfl)
        (try simp only [Act.put, List.setIfInBounds_toArray, List.set_cons_zero, List.set_cons_succ])
        refine wpAnyH_done (by kernel_rfl) ?_ _
        obtain ⟨V, hV⟩ : ∃ V, w6.alloc (.cells #[.int .i64 o.f0, .int .i64 o.f1, .int .i64 o.f2, .int .i64 m.f0, .int .i64 m.f1, .int .i64 m.f2] 25) = V := ⟨_, rfl⟩
        rw [hV]
        have bP := Aside0.mk (hV ▸ Box.new : Box V w6.heap.size #[.int .i64 o.f0, .int .i64 o.f1, .int .i64 o.f2, .int .i64 m.f0, .int .i64 m.f1, .int .i64 m.f2] 25)
        have HBV := Aside0.mk (hV ▸ below_alloc (below_step hb1 j0) _ : Below W.heap.size W V)
        have HLV := Aside0.mk (LiV.below hl HBV.out : LiV V u17 l)
        clear bO1 bK1 rO rK kO kK hb1 hl hV j0 jO jK hb_
        try clear hHeld
        try clear hHeld
        generalize w6.heap.size = pb at *
        go_wp2
        go_loopw [47] (fun iv wx => ∃ j : Nat, j ≤ 2 ∧ iv = .int .i64 j ∧ Below V.heap.size V wx) (fun iv _ => 2 - (intOf iv).toNat)
        case atStart => exact ⟨0, by omega, rfl, Below.refl _ _⟩
        case round =>
          obtain ⟨j, hj, rfl, hb2⟩ := hrel
          rcases Nat.lt_or_ge j 2 with hlt2 | hge2
          · have bP1 := bP.out.below hb2
            have rP := bP1.cell
            have kP := bP1.lt
            go_upto_region 7 with (fail)
            go_cut [19, 47] (fun v19 v47 wd => ∃ x : Mk, v47 = .int .i64 j ∧ v19 = .pointer (some ⟨wr.heap.size, 0, none⟩) ∧ Box wd wr.heap.size #[.int .i64 x.f0, .int .i64 x.f1, .int .i64 x.f2] 25 ∧ Below wr.heap.size wr wd)
            case first =>
              have hv : j = 0 ∨ j = 1 := by omega
              rcases hv with rfl | rfl
              all_goals
                go_wp2
                go_meet
                case rel => first | exact ⟨o, rfl, rfl, Box.new, below_alloc (Below.refl _ _) _⟩ | exact ⟨m, rfl, rfl, Box.new, below_alloc (Below.refl _ _) _⟩
            case rest =>
              obtain ⟨x, rfl, rfl, bX, hbc⟩ := hcut
              clear rP kP bP1
              have XX := Aside0.mk bX
              have HB := Aside0.mk (below_step hb2 hbc)
              have rX := bX.cell
              have kX := bX.lt
              have fX := bX.frozen
              clear bX hb2 hbc
              generalize wr.heap.size = xb at *
              go_wp2_with fail
              refine (pick_v room 45 r1 hr (by omega) _ HR1.out).mono ?_
              rintro e w8 ⟨rfl, hb_⟩
              have YX : Box w8 (xb) _ _ := Box.below (by repeat (with_reducible first | exact XX.out | exact Box.new | exact Box.new1 | exact Box.new2 | exact Box.new3 | apply Box.alloc | apply Box.drew | apply Box.drewN | apply Box.set)) hb_
              (try clear XX rX kX fX); have XX := Aside0.mk YX; have rX := YX.cell; have fX := YX.frozen; have kX := YX.lt; clear YX
              have n_ := Aside0.mk (below_step (by repeat (first | exact HB.out | apply below_alloc | apply pw_below_drewN | apply below_drew1 | refine below_set ?_ (by first | omega | (simp; omega)))) hb_); clear HB hb_; have HB := n_; clear n_
              go_wp2
              obtain ⟨U, hU⟩ : ∃ U, w8.alloc (.cells #[.int .i64 room, .int .i64 r1] 3) = U := ⟨_, rfl⟩
              rw [hU]
              have bR := Aside0.mk (hU ▸ Box.new : Box U w8.heap.size #[.int .i64 room, .int .i64 r1] 3)
              have bX := Aside0.mk (hU ▸ XX.out.alloc : Box U xb _ _)
              have HBU := Aside0.mk (hU ▸ below_alloc HB.out _ : Below V.heap.size V U)
              have HLU := Aside0.mk (HLV.out.below HBU.out)
              clear hU HB XX rX kX fX
              generalize w8.heap.size = rb at *
              go_loopw [56] (fun iv wx => ∃ z : Nat, z ≤ 2 ∧ iv = .int .i64 z ∧ Below U.heap.size U wx) (fun iv _ => 2 - (intOf iv).toNat)
              case atStart => exact ⟨0, by omega, rfl, Below.refl _ _⟩
              case round =>
                obtain ⟨z, hz, rfl, hb3⟩ := hrel
                rcases Nat.lt_or_ge z 2 with hlt3 | hge3
                · have bR1 := bR.out.below hb3
                  have rR := bR1.cell
                  go_upto_region 10 with (fail)
                  go_cut [21, 56] (fun v21 v56 wd => ∃ rr : Int, v56 = .int .i64 z ∧ v21 = .int .i64 rr ∧ wd = wr)
                  case first =>
                    have hv : z = 0 ∨ z = 1 := by omega
                    rcases hv with rfl | rfl
                    all_goals
                      go_wp2
                      go_meet
                      case rel => first | exact ⟨room, rfl, rfl, rfl⟩ | exact ⟨r1, rfl, rfl, rfl⟩
                  case rest =>
                    obtain ⟨rr, rfl, rfl, rfl⟩ := hcut
                    clear rR bR1
                    have XX := Aside0.mk (bX.out.below hb3)
                    have rX := XX.out.cell
                    have kX := XX.out.lt
                    have fX := XX.out.frozen
                    have HB := Aside0.mk hb3
                    clear hb3
                    obtain ⟨⟨L, er⟩, hL⟩ : ∃ q, addM l rr x = q := ⟨_, rfl⟩
                    have HQ := Aside0.mk hL
                    clear hL
                    go_wp2_with fail
                    refine (tAddE u17 l rr x L er _ (HLU.out.below (by repeat (first | exact HB.out | apply below_alloc | apply pw_below_drewN | apply below_drew1 | refine below_set ?_ (by first | omega | (simp; omega))))) HQ.out).mono ?_
                    rintro e w11 ⟨v', rfl, hR_, hb_⟩
                    have YX : Box w11 (xb) _ _ := Box.below (by repeat (with_reducible first | exact XX.out | exact Box.new | exact Box.new1 | exact Box.new2 | exact Box.new3 | apply Box.alloc | apply Box.drew | apply Box.drewN | apply Box.set)) hb_
                    (try clear XX rX kX fX); have XX := Aside0.mk YX; have rX := YX.cell; have fX := YX.frozen; have kX := YX.lt; clear YX
                    have n_ := Aside0.mk (below_step (by repeat (first | exact HB.out | apply below_alloc | apply pw_below_drewN | apply below_drew1 | refine below_set ?_ (by first | omega | (simp; omega)))) hb_); clear HB hb_; have HB := n_; clear n_
                    obtain ⟨A1, c1, rfl, hc1, hC_⟩ := Kd.R_reads hR_
                    have C1 := Aside0.mk hC_
                    clear hC_ hR_
                    go_wp2_with fail
                    refine (tRAddE u17 l rr x L er _ (HLU.out.below (by repeat (first | exact HB.out | apply below_alloc | apply pw_below_drewN | apply below_drew1 | refine below_set ?_ (by first | omega | (simp; omega))))) HQ.out).mono ?_
                    rintro e w12 ⟨v', rfl, hR_, hb_⟩
                    have YX : Box w12 (xb) _ _ := Box.below (by repeat (with_reducible first | exact XX.out | exact Box.new | exact Box.new1 | exact Box.new2 | exact Box.new3 | apply Box.alloc | apply Box.drew | apply Box.drewN | apply Box.set)) hb_
                    (try clear XX rX kX fX); have XX := Aside0.mk YX; have rX := YX.cell; have fX := YX.frozen; have kX := YX.lt; clear YX
                    have ZC1 := Aside0.mk (Kd.C_below (by repeat (with_reducible first | exact C1.out | apply C_alloc | apply C_drew)) hb_); clear C1; have C1 := ZC1; clear ZC1
                    have n_ := Aside0.mk (below_step (by repeat (first | exact HB.out | apply below_alloc | apply pw_below_drewN | apply below_drew1 | refine below_set ?_ (by first | omega | (simp; omega)))) hb_); clear HB hb_; have HB := n_; clear n_
                    obtain ⟨A2, c2, rfl, hc2, hC_⟩ := Kd.R_reads hR_
                    have C2 := Aside0.mk hC_
                    clear hC_ hR_
                    go_upto_region 13 with (fail)
                    clear kX fX
                    have kX := XX.out.lt
                    refine wp_region_held_drew (S := (fun w' => Below w12.heap.size w12 w' ∧ (∀ j, w'.cell? ⟨xb, j, none⟩ = (#[.int .i64 x.f0, .int .i64 x.f1, .int .i64 x.f2] : Array Value)[j]?))) (by kernel_rfl) ?hS1x0 (fun hHeld => ?hR1x0)
                    case hS1x0 => ((try dsimp only); (first | exact ⟨below_drew1 (Below.refl _ _), rX⟩ | exact ⟨below_drew1 b0_, rX⟩ | exact ⟨j0, jX⟩ | exact ⟨below_alloc j0 _, fun j => (cell_alloc_old (Nat.lt_of_lt_of_le kX j0.size)).trans (jX j)⟩ | exact ⟨below_alloc (below_drew1 (Below.refl _ _)) _, fun j => (cell_alloc_old kX).trans (rX j)⟩ | assumption))
                    refine wpAnyH_take (i := 0) (oi := ⟨some 74, _, _, _, _, _⟩) (v := ?_) rfl (by kernel_rfl) (by kernel_rfl) (by kernel_rfl) (fun _ _ _ h => h) (Or.inl ⟨by rfl, ?hY1x2⟩) (by assumption) ?hR1x2
                    case hY1x2 => (intro w hSw; (try dsimp only at hSw); go_simp; try with_reducible rfl)
                    (try simp only [Act.put, List.setIfInBounds_toArray, List.set_cons_zero, List.set_cons_succ])
                    refine wpAnyH_take (i := 1) (oi := ⟨some 75, _, _, _, _, _⟩) (v := ?_) rfl (by kernel_rfl) (by kernel_rfl) (by kernel_rfl) (fun _ _ _ h => h) (Or.inl ⟨by rfl, ?hY1x3⟩) (by assumption) ?hR1x3
                    case hY1x3 => (intro w hSw; (try dsimp only at hSw); go_simp; try with_reducible rfl)
                    (try simp only [Act.put, List.setIfInBounds_toArray, List.set_cons_zero, List.set_cons_succ])
                    refine wpAnyH_take (i := 2) (oi := ⟨some 76, _, _, _, _, _⟩) (v := ?_) rfl (by kernel_rfl) (by kernel_rfl) (by kernel_rfl) (fun _ _ _ h => h) (Or.inl ⟨by rfl, ?hY1x4⟩) (by assumption) ?hR1x4
                    case hY1x4 => (intro w hSw; (try dsimp only at hSw); go_simp; try with_reducible rfl)
                    (try simp only [Act.put, List.setIfInBounds_toArray, List.set_cons_zero, List.set_cons_succ])
                    refine wpAnyH_take (i := 3) (oi := ⟨some 77, _, _, _, _, _⟩) (v := ?_) rfl (by kernel_rfl) (by kernel_rfl) (by kernel_rfl) (fun _ _ _ h => h) (Or.inl ⟨by rfl, ?hY1x5⟩) (by assumption) ?hR1x5
                    case hY1x5 => (intro w hSw; (try dsimp only at hSw); go_simp; try with_reducible rfl)
                    (try simp only [Act.put, List.setIfInBounds_toArray, List.set_cons_zero, List.set_cons_succ])
                    refine wpAnyH_take (i := 4) (oi := ⟨some 78, _, _, _, _, _⟩) (v := ?_) rfl (by kernel_rfl) (by kernel_rfl) (by kernel_rfl) (fun _ _ _ h => h) (Or.inl ⟨by rfl, ?hY1x6⟩) (by assumption) ?hR1x6
                    case hY1x6 => (intro w hSw; (try dsimp only at hSw); go_simp; try with_reducible rfl)
                    (try simp only [Act.put, List.setIfInBounds_toArray, List.set_cons_zero, List.set_cons_succ])
                    refine wpAnyH_take (i := 5) (oi := ⟨some 79, _, _, _, _, _⟩) (v := ?_) rfl (by kernel_rfl) (by kernel_rfl) (by kernel_rfl) (fun _ _ _ h => h) (Or.inl ⟨by rfl, ?hY1x7⟩) (by assumption) ?hR1x7
                    case hY1x7 => (intro w hSw; (try dsimp only at hSw); go_simp; try with_reducible rfl)
                    (try simp only [Act.put, List.setIfInBounds_toArray, List.set_cons_zero, List.set_cons_succ])
                    refine wpAnyH_ready (rs := [6]) (by kernel_rfl) (by simp) ?_
                    refine AllReadyH.cons (o := ⟨some 80, _, _, _, _, _⟩) rfl (fun K hK => ?hT1x8) ?hM1x8
                    case hM1x8 => exact AllReadyH.nil
                    go_simp
                    (first | (go_at_call 14; obtain ⟨g0, gX⟩ := ‹Below w12.heap.size w12 _ ∧ _›; ((with_reducible refine (tSame A1 A2 L.length c1 L.length c2 L _ (Kd.C_below C1.out g0) hc1 (Kd.C_below C2.out g0) hc2).mono ?_));  rintro e w14 ⟨rfl, hb_⟩; have j0 := below_step g0 hb_; have s14 := j0.size; have jX := fun j => (j0.cell (p := ⟨xb, j, none⟩) kX).trans (rX j)) | (go_at_call 15; obtain ⟨g0, gX⟩ := ‹Below w12.heap.size w12 _ ∧ _›; ((with_reducible refine (tHas u17 l x _ (HLU.out.below (below_step HB.out g0))).mono ?_));  rintro e w15 ⟨rfl, hb_⟩; have j0 := below_step g0 hb_; have s15 := j0.size; have jX := fun j => (j0.cell (p := ⟨xb, j, none⟩) kX).trans (rX j)) | (go_at_call 16; obtain ⟨g0, gX⟩ := ‹Below w12.heap.size w12 _ ∧ _›; ((with_reducible refine (tRHas u17 l x _ (HLU.out.below (below_step HB.out g0))).mono ?_));  rintro e w16 ⟨rfl, hb_⟩; have j0 := below_step g0 hb_; have s16 := j0.size; have jX := fun j => (j0.cell (p := ⟨xb, j, none⟩) kX).trans (rX j)))
                    (try go_wp2_with fail)
                    refine hK.out _ _ ?hS1x8 (fun hHeld => ?hR1x8)
                    case hS1x8 => ((try dsimp only); (first | exact ⟨below_drew1 (Below.refl _ _), rX⟩ | exact ⟨below_drew1 b0_, rX⟩ | exact ⟨j0, jX⟩ | exact ⟨below_alloc j0 _, fun j => (cell_alloc_old (Nat.lt_of_lt_of_le kX j0.size)).trans (jX j)⟩ | exact ⟨below_alloc (below_drew1 (Below.refl _ _)) _, fun j => (cell_alloc_old kX).trans (rX j)⟩ | assumption))
                    clear hK K
                    (try simp only [Act.put, List.setIfInBounds_toArray, List.set_cons_zero, List.set_cons_succ])
                    refine wpAnyH_take (i := 7) (oi := ⟨some 81, _, _, _, _, _⟩) (v := ?_) rfl (by kernel_rfl) (by kernel_rfl) (by kernel_rfl) (fun _ _ _ h => h) (Or.inl ⟨by rfl, ?hY1x9⟩) (by assumption) ?hR1x9
                    case hY1x9 => (intro w hSw; (try dsimp only at hSw); go_simp; try with_reducible rfl)
                    (try simp only [Act.put, List.setIfInBounds_toArray, List.set_cons_zero, List.set_cons_succ])
                    refine wpAnyH_take (i := 8) (oi := ⟨some 82, _, _, _, _, _⟩) (v := ?_) rfl (by kernel_rfl) (by kernel_rfl) (by kernel_rfl) (fun _ _ _ h => h) (Or.inl ⟨by rfl, ?hY1x10⟩) (by assumption) ?hR1x10
                    case hY1x10 => (intro w hSw; (try dsimp only at hSw); go_simp; try with_reducible rfl)
                    (try simp only [Act.put, List.setIfInBounds_toArray, List.set_cons_zero, List.set_cons_succ])
                    refine wpAnyH_take (i := 9) (oi := ⟨some 83, _, _, _, _, _⟩) (v := ?_) rfl (by kernel_rfl) (by kernel_rfl) (by kernel_rfl) (fun _ _ _ h => h) (Or.inl ⟨by rfl, ?hY1x11⟩) (by assumption) ?hR1x11
                    case hY1x11 => (intro w hSw; (try dsimp only at hSw); go_simp; try with_reducible rfl)
                    (try simp only [Act.put, List.setIfInBounds_toArray, List.set_cons_zero, List.set_cons_succ])
                    refine wpAnyH_take (i := 10) (oi := ⟨some 84, _, _, _, _, _⟩) (v := ?_) rfl (by kernel_rfl) (by kernel_rfl) (by kernel_rfl) (fun _ _ _ h => h) (Or.inl ⟨by rfl, ?hY1x12⟩) (by assumption) ?hR1x12
                    case hY1x12 => (intro w hSw; (try dsimp only at hSw); go_simp; try with_reducible rfl)
                    (try simp only [Act.put, List.setIfInBounds_toArray, List.set_cons_zero, List.set_cons_succ])
                    refine wpAnyH_take (i := 11) (oi := ⟨some 85, _, _, _, _, _⟩) (v := ?_) rfl (by kernel_rfl) (by kernel_rfl) (by kernel_rfl) (fun _ _ _ h => h) (Or.inl ⟨by rfl, ?hY1x13⟩) (by assumption) ?hR1x13
                    case hY1x13 => (intro w hSw; (try dsimp only at hSw); go_simp; try with_reducible rfl)
                    (try simp only [Act.put, List.setIfInBounds_toArray, List.set_cons_zero, List.set_cons_succ])
                    refine wpAnyH_take (i := 13) (oi := ⟨some 87, _, _, _, _, _⟩) (v := ?_) rfl (by kernel_rfl) (by kernel_rfl) (by kernel_rfl) (fun _ _ _ h => h) (Or.inl ⟨by rfl, ?hY1x14⟩) (by assumption) ?hR1x14
                    case hY1x14 => (intro w hSw; (try dsimp only at hSw); go_simp; try with_reducible rfl)
                    (try simp only [Act.put, List.setIfInBounds_toArray, List.set_cons_zero, List.set_cons_succ])
                    refine wpAnyH_take (i := 14) (oi := ⟨some 88, _, _, _, _, _⟩) (v := ?_) rfl (by kernel_rfl) (by kernel_rfl) (by kernel_rfl) (fun _ _ _ h => h) (Or.inl ⟨by rfl, ?hY1x15⟩) (by assumption) ?hR1x15
                    case hY1x15 => (intro w hSw; (try dsimp only at hSw); go_simp; try with_reducible rfl)
                    (try simp only [Act.put, List.setIfInBounds_toArray, List.set_cons_zero, List.set_cons_succ])
                    refine wpAnyH_ready (rs := [12]) (by kernel_rfl) (by simp) ?_
                    refine AllReadyH.cons (o := ⟨some 86, _, _, _, _, _⟩) rfl (fun K hK => ?hT1x16) ?hM1x16
                    case hM1x16 => exact AllReadyH.nil
                    go_simp
                    (first | (go_at_call 14; obtain ⟨g0, gX⟩ := ‹Below w12.heap.size w12 _ ∧ _›; ((with_reducible refine (tSame A1 A2 L.length c1 L.length c2 L _ (Kd.C_below C1.out g0) hc1 (Kd.C_below C2.out g0) hc2).mono ?_));  rintro e w14 ⟨rfl, hb_⟩; have j0 := below_step g0 hb_; have s14 := j0.size; have jX := fun j => (j0.cell (p := ⟨xb, j, none⟩) kX).trans (rX j)) | (go_at_call 15; obtain ⟨g0, gX⟩ := ‹Below w12.heap.size w12 _ ∧ _›; ((with_reducible refine (tHas u17 l x _ (HLU.out.below (below_step HB.out g0))).mono ?_));  rintro e w15 ⟨rfl, hb_⟩; have j0 := below_step g0 hb_; have s15 := j0.size; have jX := fun j => (j0.cell (p := ⟨xb, j, none⟩) kX).trans (rX j)) | (go_at_call 16; obtain ⟨g0, gX⟩ := ‹Below w12.heap.size w12 _ ∧ _›; ((with_reducible refine (tRHas u17 l x _ (HLU.out.below (below_step HB.out g0))).mono ?_));  rintro e w16 ⟨rfl, hb_⟩; have j0 := below_step g0 hb_; have s16 := j0.size; have jX := fun j => (j0.cell (p := ⟨xb, j, none⟩) kX).trans (rX j)))
                    (try go_wp2_with fail)
                    refine hK.out _ _ ?hS1x16 (fun hHeld => ?hR1x16)
                    case hS1x16 => ((try dsimp only); (first | exact ⟨below_drew1 (Below.refl _ _), rX⟩ | exact ⟨below_drew1 b0_, rX⟩ | exact ⟨j0, jX⟩ | exact ⟨below_alloc j0 _, fun j => (cell_alloc_old (Nat.lt_of_lt_of_le kX j0.size)).trans (jX j)⟩ | exact ⟨below_alloc (below_drew1 (Below.refl _ _)) _, fun j => (cell_alloc_old kX).trans (rX j)⟩ | assumption))
                    clear hK K
                    (try simp only [Act.put, List.setIfInBounds_toArray, List.set_cons_zero, List.set_cons_succ])
                    refine wpAnyH_ready (rs := [15]) (by kernel_rfl) (by simp) ?_
                    refine AllReadyH.cons (o := ⟨some 89, _, _, _, _, _⟩) rfl (fun K hK => ?hT1x17) ?hM1x17
                    case hM1x17 => exact AllReadyH.nil
                    go_simp
                    (first | (go_at_call 14; obtain ⟨g0, gX⟩ := ‹Below w12.heap.size w12 _ ∧ _›; ((with_reducible refine (tSame A1 A2 L.length c1 L.length c2 L _ (Kd.C_below C1.out g0) hc1 (Kd.C_below C2.out g0) hc2).mono ?_));  rintro e w14 ⟨rfl, hb_⟩; have j0 := below_step g0 hb_; have s14 := j0.size; have jX := fun j => (j0.cell (p := ⟨xb, j, none⟩) kX).trans (rX j)) | (go_at_call 15; obtain ⟨g0, gX⟩ := ‹Below w12.heap.size w12 _ ∧ _›; ((with_reducible refine (tHas u17 l x _ (HLU.out.below (below_step HB.out g0))).mono ?_));  rintro e w15 ⟨rfl, hb_⟩; have j0 := below_step g0 hb_; have s15 := j0.size; have jX := fun j => (j0.cell (p := ⟨xb, j, none⟩) kX).trans (rX j)) | (go_at_call 16; obtain ⟨g0, gX⟩ := ‹Below w12.heap.size w12 _ ∧ _›; ((with_reducible refine (tRHas u17 l x _ (HLU.out.below (below_step HB.out g0))).mono ?_));  rintro e w16 ⟨rfl, hb_⟩; have j0 := below_step g0 hb_; have s16 := j0.size; have jX := fun j => (j0.cell (p := ⟨xb, j, none⟩) kX).trans (rX j)))
                    (try go_wp2_with fail)
                    refine hK.out _ _ ?hS1x17 (fun hHeld => ?hR1x17)
                    case hS1x17 => ((try dsimp only); (first | exact ⟨below_drew1 (Below.refl _ _), rX⟩ | exact ⟨below_drew1 b0_, rX⟩ | exact ⟨j0, jX⟩ | exact ⟨below_alloc j0 _, fun j => (cell_alloc_old (Nat.lt_of_lt_of_le kX j0.size)).trans (jX j)⟩ | exact ⟨below_alloc (below_drew1 (Below.refl _ _)) _, fun j => (cell_alloc_old kX).trans (rX j)⟩ | assumption))
                    clear hK K
                    (try simp only [Act.put, List.setIfInBounds_toArray, List.set_cons_zero, List.set_cons_succ])
                    refine wpAnyH_take (i := 16) (oi := ⟨some 90, _, _, _, _, _⟩) (v := ?_) rfl (by kernel_rfl) (by kernel_rfl) (by kernel_rfl) (fun _ _ _ h => h) (Or.inl ⟨by rfl, ?hY1x18⟩) (by assumption) ?hR1x18
                    case hY1x18 => (intro w hSw; (try dsimp only at hSw); go_simp; try with_reducible rfl)
                    (try simp only [Act.put, List.setIfInBounds_toArray, List.set_cons_zero, List.set_cons_succ])
                    refine wpAnyH_take (i := 17) (oi := ⟨some 91, _, _, _, _, _⟩) (v := ?_) rfl (by kernel_rfl) (by kernel_rfl) (by kernel_rfl) (fun _ _ _ h => h) (Or.inl ⟨by rfl, ?hY1x19⟩) (by assumption) ?hR1x19
                    case hY1x19 => (intro w hSw; (try dsimp only at hSw); go_simp; try with_reducible rfl)
                    (try simp only [Act.put, List.setIfInBounds_toArray, List.set_cons_zero, List.set_cons_succ])
                    refine wpAnyH_done (by kernel_rfl) ?_ _
                    go_wp2
                    go_roundw
                    case rel => exact ⟨z + 1, by omega, by go_num, below_step HB.out j0⟩
                    case measure => simp [intOf]; omega
                · obtain rfl : z = 2 := by omega
                  go_wp2
                  go_roundw
                  case rel => exact ⟨j + 1, by omega, by go_num, below_step HBU.out hb3⟩
                  case measure => simp [intOf]; omega
          · obtain rfl : j = 2 := by omega
            clear bP
            have HB := Aside0.mk hb2
            clear hb2
            go_wp2_with fail
            refine (pick_v ep 6 e6 he (by omega) _ HE6.out).mono ?_
            rintro e w17 ⟨rfl, hb_⟩
            have n_ := Aside0.mk (below_step (by repeat (first | exact HB.out | apply below_alloc | apply pw_below_drewN | apply below_drew1 | refine below_set ?_ (by first | omega | (simp; omega)))) hb_); clear HB hb_; have HB := n_; clear n_
            go_wp2_with fail
            refine (pick_v ki 3 k3 hk (by omega) _ HK3.out).mono ?_
            rintro e w18 ⟨rfl, hb_⟩
            have n_ := Aside0.mk (below_step (by repeat (first | exact HB.out | apply below_alloc | apply pw_below_drewN | apply below_drew1 | refine below_set ?_ (by first | omega | (simp; omega)))) hb_); clear HB hb_; have HB := n_; clear n_
            go_wp2
            obtain ⟨U, hU⟩ : ∃ U, w18.alloc (.cells #[.int .i64 ep, .int .i64 ki, .int .i64 e6, .int .i64 k3] 38) = U := ⟨_, rfl⟩
            rw [hU]
            have bR := Aside0.mk (hU ▸ Box.new : Box U w18.heap.size #[.int .i64 ep, .int .i64 ki, .int .i64 e6, .int .i64 k3] 38)
            have HBU := Aside0.mk (hU ▸ below_alloc HB.out _ : Below V.heap.size V U)
            have HLU := Aside0.mk (HLV.out.below HBU.out)
            clear hU HB
            generalize w18.heap.size = rb at *
            go_loopw [104] (fun iv wx => ∃ z : Nat, z ≤ 2 ∧ iv = .int .i64 z ∧ Below U.heap.size U wx) (fun iv _ => 2 - (intOf iv).toNat)
            case atStart => exact ⟨0, by omega, rfl, Below.refl _ _⟩
            case round =>
              obtain ⟨z, hz, rfl, hb3⟩ := hrel
              rcases Nat.lt_or_ge z 2 with hlt3 | hge3
              · have bR1 := bR.out.below hb3
                have rR := bR1.cell
                go_upto_region 19 with (fail)
                go_cut [27, 104] (fun v27 v104 wd => ∃ x y : Int, v104 = .int .i64 z ∧ v27 = .pointer (some ⟨wr.heap.size, 0, none⟩) ∧ Box wd wr.heap.size #[.int .i64 x, .int .i64 y] 38 ∧ Below wr.heap.size wr wd)
                case first =>
                  have hv : z = 0 ∨ z = 1 := by omega
                  rcases hv with rfl | rfl
                  all_goals
                    go_wp2
                    go_meet
                    case rel => first | exact ⟨ep, ki, rfl, rfl, Box.new, below_alloc (Below.refl _ _) _⟩ | exact ⟨e6, k3, rfl, rfl, Box.new, below_alloc (Below.refl _ _) _⟩
                case rest =>
                  obtain ⟨x, y, rfl, rfl, bX, hbc⟩ := hcut
                  have HB := Aside0.mk (below_step hb3 hbc)
                  have rX := bX.cell
                  have kX := bX.lt
                  clear rR bR1 bX hb3 hbc
                  generalize wr.heap.size = xb at *
                  obtain ⟨L, hL⟩ : ∃ q, pruneM l x = q := ⟨_, rfl⟩
                  obtain ⟨I, hI⟩ : ∃ q, ofM l x y = q := ⟨_, rfl⟩
                  have HQ := Aside0.mk (And.intro hL hI)
                  clear hL hI
                  go_upto_region 20 with (fail)
                  refine wp_region_held_drew (S := (fun w' => Below wc.heap.size wc w' ∧ (∀ j, w'.cell? ⟨xb, j, none⟩ = (#[.int .i64 x, .int .i64 y] : Array Value)[j]?))) (by kernel_rfl) ?hS2x0 (fun hHeld => ?hR2x0)
                  case hS2x0 => ((try dsimp only); (first | exact ⟨below_drew1 (Below.refl _ _), rX⟩ | exact ⟨below_drew1 b0_, rX⟩ | exact ⟨j0, jX⟩ | exact ⟨below_alloc j0 _, fun j => (cell_alloc_old (Nat.lt_of_lt_of_le kX j0.size)).trans (jX j)⟩ | exact ⟨below_alloc (below_drew1 (Below.refl _ _)) _, fun j => (cell_alloc_old kX).trans (rX j)⟩ | assumption))
                  refine wpAnyH_take (i := 0) (oi := ⟨some 108, _, _, _, _, _⟩) (v := ?_) rfl (by kernel_rfl) (by kernel_rfl) (by kernel_rfl) (fun _ _ _ h => h) (Or.inl ⟨by rfl, ?hY2x2⟩) (by assumption) ?hR2x2
                  case hY2x2 => (intro w hSw; (try dsimp only at hSw); go_simp; try with_reducible rfl)
                  (try simp only [Act.put, List.setIfInBounds_toArray, List.set_cons_zero, List.set_cons_succ])
                  refine wpAnyH_take (i := 1) (oi := ⟨some 109, _, _, _, _, _⟩) (v := ?_) rfl (by kernel_rfl) (by kernel_rfl) (by kernel_rfl) (fun _ _ _ h => h) (Or.inl ⟨by rfl, ?hY2x3⟩) (by assumption) ?hR2x3
                  case hY2x3 => (intro w hSw; (try dsimp only at hSw); go_simp; try with_reducible rfl)
                  (try simp only [Act.put, List.setIfInBounds_toArray, List.set_cons_zero, List.set_cons_succ])
                  refine wpAnyH_take (i := 2) (oi := ⟨some 110, _, _, _, _, _⟩) (v := ?_) rfl (by kernel_rfl) (by kernel_rfl) (by kernel_rfl) (fun _ _ _ h => h) (Or.inl ⟨by rfl, ?hY2x4⟩) (by assumption) ?hR2x4
                  case hY2x4 => (intro w hSw; (try dsimp only at hSw); go_simp; try with_reducible rfl)
                  (try simp only [Act.put, List.setIfInBounds_toArray, List.set_cons_zero, List.set_cons_succ])
                  refine wpAnyH_take (i := 4) (oi := ⟨some 112, _, _, _, _, _⟩) (v := ?_) rfl (by kernel_rfl) (by kernel_rfl) (by kernel_rfl) (fun _ _ _ h => h) (Or.inl ⟨by rfl, ?hY2x5⟩) (by assumption) ?hR2x5
                  case hY2x5 => (intro w hSw; (try dsimp only at hSw); go_simp; try with_reducible rfl)
                  (try simp only [Act.put, List.setIfInBounds_toArray, List.set_cons_zero, List.set_cons_succ])
                  refine wpAnyH_take (i := 5) (oi := ⟨some 113, _, _, _, _, _⟩) (v := ?_) rfl (by kernel_rfl) (by kernel_rfl) (by kernel_rfl) (fun _ _ _ h => h) (Or.inl ⟨by rfl, ?hY2x6⟩) (by assumption) ?hR2x6
                  case hY2x6 => (intro w hSw; (try dsimp only at hSw); go_simp; try with_reducible rfl)
                  (try simp only [Act.put, List.setIfInBounds_toArray, List.set_cons_zero, List.set_cons_succ])
                  refine wpAnyH_take (i := 6) (oi := ⟨some 114, _, _, _, _, _⟩) (v := ?_) rfl (by kernel_rfl) (by kernel_rfl) (by kernel_rfl) (fun _ _ _ h => h) (Or.inl ⟨by rfl, ?hY2x7⟩) (by assumption) ?hR2x7
                  case hY2x7 => (intro w hSw; (try dsimp only at hSw); go_simp; try with_reducible rfl)
                  (try simp only [Act.put, List.setIfInBounds_toArray, List.set_cons_zero, List.set_cons_succ])
                  refine wpAnyH_ready (rs := [3]) (by kernel_rfl) (by simp) ?_
                  refine AllReadyH.cons (o := ⟨some 111, _, _, _, _, _⟩) rfl (fun K hK => ?hT2x8) ?hM2x8
                  case hM2x8 => exact AllReadyH.nil
                  go_simp
                  (first | (go_at_call 17; obtain ⟨g0, gX⟩ := ‹Below wc.heap.size wc _ ∧ _›; ((with_reducible refine (tPruneE u17 l x L _ (HLU.out.below (below_step HB.out g0)) HQ.out.1).mono ?_));  rintro e w20 ⟨v', rfl, hR_, hb_⟩; have j0 := below_step g0 hb_; have s20 := j0.size; have jX := fun j => (j0.cell (p := ⟨xb, j, none⟩) kX).trans (rX j); obtain ⟨A1, c1, rfl, hc1, C1⟩ := Kd.R_reads hR_) | (go_at_call 18; obtain ⟨g0, gX⟩ := ‹Below wc.heap.size wc _ ∧ _›; ((with_reducible refine (tRPruneE u17 l x L _ (HLU.out.below (below_step HB.out g0)) HQ.out.1).mono ?_));  rintro e w21 ⟨v', rfl, hR_, hb_⟩; have j0 := below_step g0 hb_; have s21 := j0.size; have jX := fun j => (j0.cell (p := ⟨xb, j, none⟩) kX).trans (rX j); obtain ⟨A2, c2, rfl, hc2, C2⟩ := Kd.R_reads hR_; have C1 := Kd.C_below C1 hb_) | (go_at_call 14; obtain ⟨g0, gX⟩ := ‹Below wc.heap.size wc _ ∧ _›; ((with_reducible refine (tSame A1 A2 L.length c1 L.length c2 L _ C1 hc1 C2 hc2).mono ?_));  rintro e w22 ⟨rfl, hb_⟩; have j0 := below_step g0 hb_; have s22 := j0.size; have jX := fun j => (j0.cell (p := ⟨xb, j, none⟩) kX).trans (rX j)) | (go_at_call 20; obtain ⟨g0, gX⟩ := ‹Below wc.heap.size wc _ ∧ _›; ((with_reducible refine (tOfE u17 l x y I _ (HLU.out.below (below_step HB.out g0)) HQ.out.2).mono ?_));  rintro e w23 ⟨v', rfl, hR_, hb_⟩; have j0 := below_step g0 hb_; have s23 := j0.size; have jX := fun j => (j0.cell (p := ⟨xb, j, none⟩) kX).trans (rX j); obtain ⟨A3, c3, rfl, hc3, C3⟩ := Kd.R_reads hR_) | (go_at_call 21; obtain ⟨g0, gX⟩ := ‹Below wc.heap.size wc _ ∧ _›; ((with_reducible refine (tROfE u17 l x y I _ (HLU.out.below (below_step HB.out g0)) HQ.out.2).mono ?_));  rintro e w24 ⟨v', rfl, hR_, hb_⟩; have j0 := below_step g0 hb_; have s24 := j0.size; have jX := fun j => (j0.cell (p := ⟨xb, j, none⟩) kX).trans (rX j); obtain ⟨A4, c4, rfl, hc4, C4⟩ := Kd.R_reads hR_; have C3 := Kd.C_below C3 hb_) | (go_at_call 19; obtain ⟨g0, gX⟩ := ‹Below wc.heap.size wc _ ∧ _›; ((with_reducible refine (tInts A3 A4 I.length c3 I.length c4 I _ C3 hc3 C4 hc4).mono ?_));  rintro e w25 ⟨rfl, hb_⟩; have j0 := below_step g0 hb_; have s25 := j0.size; have jX := fun j => (j0.cell (p := ⟨xb, j, none⟩) kX).trans (rX j)))
                  (try go_wp2_with fail)
                  refine hK.out _ _ ?hS2x8 (fun hHeld => ?hR2x8)
                  case hS2x8 => ((try dsimp only); (first | exact ⟨below_drew1 (Below.refl _ _), rX⟩ | exact ⟨below_drew1 b0_, rX⟩ | exact ⟨j0, jX⟩ | exact ⟨below_alloc j0 _, fun j => (cell_alloc_old (Nat.lt_of_lt_of_le kX j0.size)).trans (jX j)⟩ | exact ⟨below_alloc (below_drew1 (Below.refl _ _)) _, fun j => (cell_alloc_old kX).trans (rX j)⟩ | assumption))
                  clear hK K
                  (try simp only [Act.put, List.setIfInBounds_toArray, List.set_cons_zero, List.set_cons_succ])
                  refine wpAnyH_ready (rs := [7]) (by kernel_rfl) (by simp) ?_
                  refine AllReadyH.cons (o := ⟨some 115, _, _, _, _, _⟩) rfl (fun K hK => ?hT2x9) ?hM2x9
                  case hM2x9 => exact AllReadyH.nil
                  go_simp
                  (first | (go_at_call 17; obtain ⟨g0, gX⟩ := ‹Below wc.heap.size wc _ ∧ _›; ((with_reducible refine (tPruneE u17 l x L _ (HLU.out.below (below_step HB.out g0)) HQ.out.1).mono ?_));  rintro e w20 ⟨v', rfl, hR_, hb_⟩; have j0 := below_step g0 hb_; have s20 := j0.size; have jX := fun j => (j0.cell (p := ⟨xb, j, none⟩) kX).trans (rX j); obtain ⟨A1, c1, rfl, hc1, C1⟩ := Kd.R_reads hR_) | (go_at_call 18; obtain ⟨g0, gX⟩ := ‹Below wc.heap.size wc _ ∧ _›; ((with_reducible refine (tRPruneE u17 l x L _ (HLU.out.below (below_step HB.out g0)) HQ.out.1).mono ?_));  rintro e w21 ⟨v', rfl, hR_, hb_⟩; have j0 := below_step g0 hb_; have s21 := j0.size; have jX := fun j => (j0.cell (p := ⟨xb, j, none⟩) kX).trans (rX j); obtain ⟨A2, c2, rfl, hc2, C2⟩ := Kd.R_reads hR_; have C1 := Kd.C_below C1 hb_) | (go_at_call 14; obtain ⟨g0, gX⟩ := ‹Below wc.heap.size wc _ ∧ _›; ((with_reducible refine (tSame A1 A2 L.length c1 L.length c2 L _ C1 hc1 C2 hc2).mono ?_));  rintro e w22 ⟨rfl, hb_⟩; have j0 := below_step g0 hb_; have s22 := j0.size; have jX := fun j => (j0.cell (p := ⟨xb, j, none⟩) kX).trans (rX j)) | (go_at_call 20; obtain ⟨g0, gX⟩ := ‹Below wc.heap.size wc _ ∧ _›; ((with_reducible refine (tOfE u17 l x y I _ (HLU.out.below (below_step HB.out g0)) HQ.out.2).mono ?_));  rintro e w23 ⟨v', rfl, hR_, hb_⟩; have j0 := below_step g0 hb_; have s23 := j0.size; have jX := fun j => (j0.cell (p := ⟨xb, j, none⟩) kX).trans (rX j); obtain ⟨A3, c3, rfl, hc3, C3⟩ := Kd.R_reads hR_) | (go_at_call 21; obtain ⟨g0, gX⟩ := ‹Below wc.heap.size wc _ ∧ _›; ((with_reducible refine (tROfE u17 l x y I _ (HLU.out.below (below_step HB.out g0)) HQ.out.2).mono ?_));  rintro e w24 ⟨v', rfl, hR_, hb_⟩; have j0 := below_step g0 hb_; have s24 := j0.size; have jX := fun j => (j0.cell (p := ⟨xb, j, none⟩) kX).trans (rX j); obtain ⟨A4, c4, rfl, hc4, C4⟩ := Kd.R_reads hR_; have C3 := Kd.C_below C3 hb_) | (go_at_call 19; obtain ⟨g0, gX⟩ := ‹Below wc.heap.size wc _ ∧ _›; ((with_reducible refine (tInts A3 A4 I.length c3 I.length c4 I _ C3 hc3 C4 hc4).mono ?_));  rintro e w25 ⟨rfl, hb_⟩; have j0 := below_step g0 hb_; have s25 := j0.size; have jX := fun j => (j0.cell (p := ⟨xb, j, none⟩) kX).trans (rX j)))
                  (try go_wp2_with fail)
                  refine hK.out _ _ ?hS2x9 (fun hHeld => ?hR2x9)
                  case hS2x9 => ((try dsimp only); (first | exact ⟨below_drew1 (Below.refl _ _), rX⟩ | exact ⟨below_drew1 b0_, rX⟩ | exact ⟨j0, jX⟩ | exact ⟨below_alloc j0 _, fun j => (cell_alloc_old (Nat.lt_of_lt_of_le kX j0.size)).trans (jX j)⟩ | exact ⟨below_alloc (below_drew1 (Below.refl _ _)) _, fun j => (cell_alloc_old kX).trans (rX j)⟩ | assumption))
                  clear hK K
                  (try simp only [Act.put, List.setIfInBounds_toArray, List.set_cons_zero, List.set_cons_succ])
                  refine wpAnyH_ready (rs := [8]) (by kernel_rfl) (by simp) ?_
                  refine AllReadyH.cons (o := ⟨some 116, _, _, _, _, _⟩) rfl (fun K hK => ?hT2x10) ?hM2x10
                  case hM2x10 => exact AllReadyH.nil
                  go_simp
                  (first | (go_at_call 17; obtain ⟨g0, gX⟩ := ‹Below wc.heap.size wc _ ∧ _›; ((with_reducible refine (tPruneE u17 l x L _ (HLU.out.below (below_step HB.out g0)) HQ.out.1).mono ?_));  rintro e w20 ⟨v', rfl, hR_, hb_⟩; have j0 := below_step g0 hb_; have s20 := j0.size; have jX := fun j => (j0.cell (p := ⟨xb, j, none⟩) kX).trans (rX j); obtain ⟨A1, c1, rfl, hc1, C1⟩ := Kd.R_reads hR_) | (go_at_call 18; obtain ⟨g0, gX⟩ := ‹Below wc.heap.size wc _ ∧ _›; ((with_reducible refine (tRPruneE u17 l x L _ (HLU.out.below (below_step HB.out g0)) HQ.out.1).mono ?_));  rintro e w21 ⟨v', rfl, hR_, hb_⟩; have j0 := below_step g0 hb_; have s21 := j0.size; have jX := fun j => (j0.cell (p := ⟨xb, j, none⟩) kX).trans (rX j); obtain ⟨A2, c2, rfl, hc2, C2⟩ := Kd.R_reads hR_; have C1 := Kd.C_below C1 hb_) | (go_at_call 14; obtain ⟨g0, gX⟩ := ‹Below wc.heap.size wc _ ∧ _›; ((with_reducible refine (tSame A1 A2 L.length c1 L.length c2 L _ C1 hc1 C2 hc2).mono ?_));  rintro e w22 ⟨rfl, hb_⟩; have j0 := below_step g0 hb_; have s22 := j0.size; have jX := fun j => (j0.cell (p := ⟨xb, j, none⟩) kX).trans (rX j)) | (go_at_call 20; obtain ⟨g0, gX⟩ := ‹Below wc.heap.size wc _ ∧ _›; ((with_reducible refine (tOfE u17 l x y I _ (HLU.out.below (below_step HB.out g0)) HQ.out.2).mono ?_));  rintro e w23 ⟨v', rfl, hR_, hb_⟩; have j0 := below_step g0 hb_; have s23 := j0.size; have jX := fun j => (j0.cell (p := ⟨xb, j, none⟩) kX).trans (rX j); obtain ⟨A3, c3, rfl, hc3, C3⟩ := Kd.R_reads hR_) | (go_at_call 21; obtain ⟨g0, gX⟩ := ‹Below wc.heap.size wc _ ∧ _›; ((with_reducible refine (tROfE u17 l x y I _ (HLU.out.below (below_step HB.out g0)) HQ.out.2).mono ?_));  rintro e w24 ⟨v', rfl, hR_, hb_⟩; have j0 := below_step g0 hb_; have s24 := j0.size; have jX := fun j => (j0.cell (p := ⟨xb, j, none⟩) kX).trans (rX j); obtain ⟨A4, c4, rfl, hc4, C4⟩ := Kd.R_reads hR_; have C3 := Kd.C_below C3 hb_) | (go_at_call 19; obtain ⟨g0, gX⟩ := ‹Below wc.heap.size wc _ ∧ _›; ((with_reducible refine (tInts A3 A4 I.length c3 I.length c4 I _ C3 hc3 C4 hc4).mono ?_));  rintro e w25 ⟨rfl, hb_⟩; have j0 := below_step g0 hb_; have s25 := j0.size; have jX := fun j => (j0.cell (p := ⟨xb, j, none⟩) kX).trans (rX j)))
                  (try go_wp2_with fail)
                  refine hK.out _ _ ?hS2x10 (fun hHeld => ?hR2x10)
                  case hS2x10 => ((try dsimp only); (first | exact ⟨below_drew1 (Below.refl _ _), rX⟩ | exact ⟨below_drew1 b0_, rX⟩ | exact ⟨j0, jX⟩ | exact ⟨below_alloc j0 _, fun j => (cell_alloc_old (Nat.lt_of_lt_of_le kX j0.size)).trans (jX j)⟩ | exact ⟨below_alloc (below_drew1 (Below.refl _ _)) _, fun j => (cell_alloc_old kX).trans (rX j)⟩ | assumption))
                  clear hK K
                  (try simp only [Act.put, List.setIfInBounds_toArray, List.set_cons_zero, List.set_cons_succ])
                  refine wpAnyH_take (i := 9) (oi := ⟨some 117, _, _, _, _, _⟩) (v := ?_) rfl (by kernel_rfl) (by kernel_rfl) (by kernel_rfl) (fun _ _ _ h => h) (Or.inl ⟨by rfl, ?hY2x11⟩) (by assumption) ?hR2x11
                  case hY2x11 => (intro w hSw; (try dsimp only at hSw); go_simp; try with_reducible rfl)
                  (try simp only [Act.put, List.setIfInBounds_toArray, List.set_cons_zero, List.set_cons_succ])
                  refine wpAnyH_take (i := 10) (oi := ⟨some 118, _, _, _, _, _⟩) (v := ?_) rfl (by kernel_rfl) (by kernel_rfl) (by kernel_rfl) (fun _ _ _ h => h) (Or.inl ⟨by rfl, ?hY2x12⟩) (by assumption) ?hR2x12
                  case hY2x12 => (intro w hSw; (try dsimp only at hSw); go_simp; try with_reducible rfl)
                  (try simp only [Act.put, List.setIfInBounds_toArray, List.set_cons_zero, List.set_cons_succ])
                  refine wpAnyH_take (i := 11) (oi := ⟨some 119, _, _, _, _, _⟩) (v := ?_) rfl (by kernel_rfl) (by kernel_rfl) (by kernel_rfl) (fun _ _ _ h => h) (Or.inl ⟨by rfl, ?hY2x13⟩) (by assumption) ?hR2x13
                  case hY2x13 => (intro w hSw; (try dsimp only at hSw); go_simp; try with_reducible rfl)
                  (try simp only [Act.put, List.setIfInBounds_toArray, List.set_cons_zero, List.set_cons_succ])
                  refine wpAnyH_take (i := 12) (oi := ⟨some 120, _, _, _, _, _⟩) (v := ?_) rfl (by kernel_rfl) (by kernel_rfl) (by kernel_rfl) (fun _ _ _ h => h) (Or.inl ⟨by rfl, ?hY2x14⟩) (by assumption) ?hR2x14
                  case hY2x14 => (intro w hSw; (try dsimp only at hSw); go_simp; try with_reducible rfl)
                  (try simp only [Act.put, List.setIfInBounds_toArray, List.set_cons_zero, List.set_cons_succ])
                  refine wpAnyH_take (i := 13) (oi := ⟨some 121, _, _, _, _, _⟩) (v := ?_) rfl (by kernel_rfl) (by kernel_rfl) (by kernel_rfl) (fun _ _ _ h => h) (Or.inl ⟨by rfl, ?hY2x15⟩) (by assumption) ?hR2x15
                  case hY2x15 => (intro w hSw; (try dsimp only at hSw); go_simp; try with_reducible rfl)
                  (try simp only [Act.put, List.setIfInBounds_toArray, List.set_cons_zero, List.set_cons_succ])
                  refine wpAnyH_take (i := 14) (oi := ⟨some 122, _, _, _, _, _⟩) (v := ?_) rfl (by kernel_rfl) (by kernel_rfl) (by kernel_rfl) (fun _ _ _ h => h) (Or.inl ⟨by rfl, ?hY2x16⟩) (by assumption) ?hR2x16
                  case hY2x16 => (intro w hSw; (try dsimp only at hSw); go_simp; try with_reducible rfl)
                  (try simp only [Act.put, List.setIfInBounds_toArray, List.set_cons_zero, List.set_cons_succ])
                  refine wpAnyH_take (i := 15) (oi := ⟨some 123, _, _, _, _, _⟩) (v := ?_) rfl (by kernel_rfl) (by kernel_rfl) (by kernel_rfl) (fun _ _ _ h => h) (Or.inl ⟨by rfl, ?hY2x17⟩) (by assumption) ?hR2x17
                  case hY2x17 => (intro w hSw; (try dsimp only at hSw); go_simp; try with_reducible rfl)
                  (try simp only [Act.put, List.setIfInBounds_toArray, List.set_cons_zero, List.set_cons_succ])
                  refine wpAnyH_take (i := 17) (oi := ⟨some 125, _, _, _, _, _⟩) (v := ?_) rfl (by kernel_rfl) (by kernel_rfl) (by kernel_rfl) (fun _ _ _ h => h) (Or.inl ⟨by rfl, ?hY2x18⟩) (by assumption) ?hR2x18
                  case hY2x18 => (intro w hSw; (try dsimp only at hSw); go_simp; try with_reducible rfl)
                  (try simp only [Act.put, List.setIfInBounds_toArray, List.set_cons_zero, List.set_cons_succ])
                  refine wpAnyH_take (i := 18) (oi := ⟨some 126, _, _, _, _, _⟩) (v := ?_) rfl (by kernel_rfl) (by kernel_rfl) (by kernel_rfl) (fun _ _ _ h => h) (Or.inl ⟨by rfl, ?hY2x19⟩) (by assumption) ?hR2x19
                  case hY2x19 => (intro w hSw; (try dsimp only at hSw); go_simp; try with_reducible rfl)
                  (try simp only [Act.put, List.setIfInBounds_toArray, List.set_cons_zero, List.set_cons_succ])
                  refine wpAnyH_take (i := 19) (oi := ⟨some 127, _, _, _, _, _⟩) (v := ?_) rfl (by kernel_rfl) (by kernel_rfl) (by kernel_rfl) (fun _ _ _ h => h) (Or.inl ⟨by rfl, ?hY2x20⟩) (by assumption) ?hR2x20
                  case hY2x20 => (intro w hSw; (try dsimp only at hSw); go_simp; try with_reducible rfl)
                  (try simp only [Act.put, List.setIfInBounds_toArray, List.set_cons_zero, List.set_cons_succ])
                  refine wpAnyH_take (i := 20) (oi := ⟨some 128, _, _, _, _, _⟩) (v := ?_) rfl (by kernel_rfl) (by kernel_rfl) (by kernel_rfl) (fun _ _ _ h => h) (Or.inl ⟨by rfl, ?hY2x21⟩) (by assumption) ?hR2x21
                  case hY2x21 => (intro w hSw; (try dsimp only at hSw); go_simp; try with_reducible rfl)
                  (try simp only [Act.put, List.setIfInBounds_toArray, List.set_cons_zero, List.set_cons_succ])
                  refine wpAnyH_take (i := 21) (oi := ⟨some 129, _, _, _, _, _⟩) (v := ?_) rfl (by kernel_rfl) (by kernel_rfl) (by kernel_rfl) (fun _ _ _ h => h) (Or.inl ⟨by rfl, ?hY2x22⟩) (by assumption) ?hR2x22
                  case hY2x22 => (intro w hSw; (try dsimp only at hSw); go_simp; try with_reducible rfl)
                  (try simp only [Act.put, List.setIfInBounds_toArray, List.set_cons_zero, List.set_cons_succ])
                  refine wpAnyH_ready (rs := [16]) (by kernel_rfl) (by simp) ?_
                  refine AllReadyH.cons (o := ⟨some 124, _, _, _, _, _⟩) rfl (fun K hK => ?hT2x23) ?hM2x23
                  case hM2x23 => exact AllReadyH.nil
                  go_simp
                  (first | (go_at_call 17; obtain ⟨g0, gX⟩ := ‹Below wc.heap.size wc _ ∧ _›; ((with_reducible refine (tPruneE u17 l x L _ (HLU.out.below (below_step HB.out g0)) HQ.out.1).mono ?_));  rintro e w20 ⟨v', rfl, hR_, hb_⟩; have j0 := below_step g0 hb_; have s20 := j0.size; have jX := fun j => (j0.cell (p := ⟨xb, j, none⟩) kX).trans (rX j); obtain ⟨A1, c1, rfl, hc1, C1⟩ := Kd.R_reads hR_) | (go_at_call 18; obtain ⟨g0, gX⟩ := ‹Below wc.heap.size wc _ ∧ _›; ((with_reducible refine (tRPruneE u17 l x L _ (HLU.out.below (below_step HB.out g0)) HQ.out.1).mono ?_));  rintro e w21 ⟨v', rfl, hR_, hb_⟩; have j0 := below_step g0 hb_; have s21 := j0.size; have jX := fun j => (j0.cell (p := ⟨xb, j, none⟩) kX).trans (rX j); obtain ⟨A2, c2, rfl, hc2, C2⟩ := Kd.R_reads hR_; have C1 := Kd.C_below C1 hb_) | (go_at_call 14; obtain ⟨g0, gX⟩ := ‹Below wc.heap.size wc _ ∧ _›; ((with_reducible refine (tSame A1 A2 L.length c1 L.length c2 L _ C1 hc1 C2 hc2).mono ?_));  rintro e w22 ⟨rfl, hb_⟩; have j0 := below_step g0 hb_; have s22 := j0.size; have jX := fun j => (j0.cell (p := ⟨xb, j, none⟩) kX).trans (rX j)) | (go_at_call 20; obtain ⟨g0, gX⟩ := ‹Below wc.heap.size wc _ ∧ _›; ((with_reducible refine (tOfE u17 l x y I _ (HLU.out.below (below_step HB.out g0)) HQ.out.2).mono ?_));  rintro e w23 ⟨v', rfl, hR_, hb_⟩; have j0 := below_step g0 hb_; have s23 := j0.size; have jX := fun j => (j0.cell (p := ⟨xb, j, none⟩) kX).trans (rX j); obtain ⟨A3, c3, rfl, hc3, C3⟩ := Kd.R_reads hR_) | (go_at_call 21; obtain ⟨g0, gX⟩ := ‹Below wc.heap.size wc _ ∧ _›; ((with_reducible refine (tROfE u17 l x y I _ (HLU.out.below (below_step HB.out g0)) HQ.out.2).mono ?_));  rintro e w24 ⟨v', rfl, hR_, hb_⟩; have j0 := below_step g0 hb_; have s24 := j0.size; have jX := fun j => (j0.cell (p := ⟨xb, j, none⟩) kX).trans (rX j); obtain ⟨A4, c4, rfl, hc4, C4⟩ := Kd.R_reads hR_; have C3 := Kd.C_below C3 hb_) | (go_at_call 19; obtain ⟨g0, gX⟩ := ‹Below wc.heap.size wc _ ∧ _›; ((with_reducible refine (tInts A3 A4 I.length c3 I.length c4 I _ C3 hc3 C4 hc4).mono ?_));  rintro e w25 ⟨rfl, hb_⟩; have j0 := below_step g0 hb_; have s25 := j0.size; have jX := fun j => (j0.cell (p := ⟨xb, j, none⟩) kX).trans (rX j)))
                  (try go_wp2_with fail)
                  refine hK.out _ _ ?hS2x23 (fun hHeld => ?hR2x23)
                  case hS2x23 => ((try dsimp only); (first | exact ⟨below_drew1 (Below.refl _ _), rX⟩ | exact ⟨below_drew1 b0_, rX⟩ | exact ⟨j0, jX⟩ | exact ⟨below_alloc j0 _, fun j => (cell_alloc_old (Nat.lt_of_lt_of_le kX j0.size)).trans (jX j)⟩ | exact ⟨below_alloc (below_drew1 (Below.refl _ _)) _, fun j => (cell_alloc_old kX).trans (rX j)⟩ | assumption))
                  clear hK K
                  (try simp only [Act.put, List.setIfInBounds_toArray, List.set_cons_zero, List.set_cons_succ])
                  refine wpAnyH_ready (rs := [22]) (by kernel_rfl) (by simp) ?_
                  refine AllReadyH.cons (o := ⟨some 130, _, _, _, _, _⟩) rfl (fun K hK => ?hT2x24) ?hM2x24
                  case hM2x24 => exact AllReadyH.nil
                  go_simp
                  (first | (go_at_call 17; obtain ⟨g0, gX⟩ := ‹Below wc.heap.size wc _ ∧ _›; ((with_reducible refine (tPruneE u17 l x L _ (HLU.out.below (below_step HB.out g0)) HQ.out.1).mono ?_));  rintro e w20 ⟨v', rfl, hR_, hb_⟩; have j0 := below_step g0 hb_; have s20 := j0.size; have jX := fun j => (j0.cell (p := ⟨xb, j, none⟩) kX).trans (rX j); obtain ⟨A1, c1, rfl, hc1, C1⟩ := Kd.R_reads hR_) | (go_at_call 18; obtain ⟨g0, gX⟩ := ‹Below wc.heap.size wc _ ∧ _›; ((with_reducible refine (tRPruneE u17 l x L _ (HLU.out.below (below_step HB.out g0)) HQ.out.1).mono ?_));  rintro e w21 ⟨v', rfl, hR_, hb_⟩; have j0 := below_step g0 hb_; have s21 := j0.size; have jX := fun j => (j0.cell (p := ⟨xb, j, none⟩) kX).trans (rX j); obtain ⟨A2, c2, rfl, hc2, C2⟩ := Kd.R_reads hR_; have C1 := Kd.C_below C1 hb_) | (go_at_call 14; obtain ⟨g0, gX⟩ := ‹Below wc.heap.size wc _ ∧ _›; ((with_reducible refine (tSame A1 A2 L.length c1 L.length c2 L _ C1 hc1 C2 hc2).mono ?_));  rintro e w22 ⟨rfl, hb_⟩; have j0 := below_step g0 hb_; have s22 := j0.size; have jX := fun j => (j0.cell (p := ⟨xb, j, none⟩) kX).trans (rX j)) | (go_at_call 20; obtain ⟨g0, gX⟩ := ‹Below wc.heap.size wc _ ∧ _›; ((with_reducible refine (tOfE u17 l x y I _ (HLU.out.below (below_step HB.out g0)) HQ.out.2).mono ?_));  rintro e w23 ⟨v', rfl, hR_, hb_⟩; have j0 := below_step g0 hb_; have s23 := j0.size; have jX := fun j => (j0.cell (p := ⟨xb, j, none⟩) kX).trans (rX j); obtain ⟨A3, c3, rfl, hc3, C3⟩ := Kd.R_reads hR_) | (go_at_call 21; obtain ⟨g0, gX⟩ := ‹Below wc.heap.size wc _ ∧ _›; ((with_reducible refine (tROfE u17 l x y I _ (HLU.out.below (below_step HB.out g0)) HQ.out.2).mono ?_));  rintro e w24 ⟨v', rfl, hR_, hb_⟩; have j0 := below_step g0 hb_; have s24 := j0.size; have jX := fun j => (j0.cell (p := ⟨xb, j, none⟩) kX).trans (rX j); obtain ⟨A4, c4, rfl, hc4, C4⟩ := Kd.R_reads hR_; have C3 := Kd.C_below C3 hb_) | (go_at_call 19; obtain ⟨g0, gX⟩ := ‹Below wc.heap.size wc _ ∧ _›; ((with_reducible refine (tInts A3 A4 I.length c3 I.length c4 I _ C3 hc3 C4 hc4).mono ?_));  rintro e w25 ⟨rfl, hb_⟩; have j0 := below_step g0 hb_; have s25 := j0.size; have jX := fun j => (j0.cell (p := ⟨xb, j, none⟩) kX).trans (rX j)))
                  (try go_wp2_with fail)
                  refine hK.out _ _ ?hS2x24 (fun hHeld => ?hR2x24)
                  case hS2x24 => ((try dsimp only); (first | exact ⟨below_drew1 (Below.refl _ _), rX⟩ | exact ⟨below_drew1 b0_, rX⟩ | exact ⟨j0, jX⟩ | exact ⟨below_alloc j0 _, fun j => (cell_alloc_old (Nat.lt_of_lt_of_le kX j0.size)).trans (jX j)⟩ | exact ⟨below_alloc (below_drew1 (Below.refl _ _)) _, fun j => (cell_alloc_old kX).trans (rX j)⟩ | assumption))
                  clear hK K
                  (try simp only [Act.put, List.setIfInBounds_toArray, List.set_cons_zero, List.set_cons_succ])
                  refine wpAnyH_ready (rs := [23]) (by kernel_rfl) (by simp) ?_
                  refine AllReadyH.cons (o := ⟨some 131, _, _, _, _, _⟩) rfl (fun K hK => ?hT2x25) ?hM2x25
                  case hM2x25 => exact AllReadyH.nil
                  go_simp
                  (first | (go_at_call 17; obtain ⟨g0, gX⟩ := ‹Below wc.heap.size wc _ ∧ _›; ((with_reducible refine (tPruneE u17 l x L _ (HLU.out.below (below_step HB.out g0)) HQ.out.1).mono ?_));  rintro e w20 ⟨v', rfl, hR_, hb_⟩; have j0 := below_step g0 hb_; have s20 := j0.size; have jX := fun j => (j0.cell (p := ⟨xb, j, none⟩) kX).trans (rX j); obtain ⟨A1, c1, rfl, hc1, C1⟩ := Kd.R_reads hR_) | (go_at_call 18; obtain ⟨g0, gX⟩ := ‹Below wc.heap.size wc _ ∧ _›; ((with_reducible refine (tRPruneE u17 l x L _ (HLU.out.below (below_step HB.out g0)) HQ.out.1).mono ?_));  rintro e w21 ⟨v', rfl, hR_, hb_⟩; have j0 := below_step g0 hb_; have s21 := j0.size; have jX := fun j => (j0.cell (p := ⟨xb, j, none⟩) kX).trans (rX j); obtain ⟨A2, c2, rfl, hc2, C2⟩ := Kd.R_reads hR_; have C1 := Kd.C_below C1 hb_) | (go_at_call 14; obtain ⟨g0, gX⟩ := ‹Below wc.heap.size wc _ ∧ _›; ((with_reducible refine (tSame A1 A2 L.length c1 L.length c2 L _ C1 hc1 C2 hc2).mono ?_));  rintro e w22 ⟨rfl, hb_⟩; have j0 := below_step g0 hb_; have s22 := j0.size; have jX := fun j => (j0.cell (p := ⟨xb, j, none⟩) kX).trans (rX j)) | (go_at_call 20; obtain ⟨g0, gX⟩ := ‹Below wc.heap.size wc _ ∧ _›; ((with_reducible refine (tOfE u17 l x y I _ (HLU.out.below (below_step HB.out g0)) HQ.out.2).mono ?_));  rintro e w23 ⟨v', rfl, hR_, hb_⟩; have j0 := below_step g0 hb_; have s23 := j0.size; have jX := fun j => (j0.cell (p := ⟨xb, j, none⟩) kX).trans (rX j); obtain ⟨A3, c3, rfl, hc3, C3⟩ := Kd.R_reads hR_) | (go_at_call 21; obtain ⟨g0, gX⟩ := ‹Below wc.heap.size wc _ ∧ _›; ((with_reducible refine (tROfE u17 l x y I _ (HLU.out.below (below_step HB.out g0)) HQ.out.2).mono ?_));  rintro e w24 ⟨v', rfl, hR_, hb_⟩; have j0 := below_step g0 hb_; have s24 := j0.size; have jX := fun j => (j0.cell (p := ⟨xb, j, none⟩) kX).trans (rX j); obtain ⟨A4, c4, rfl, hc4, C4⟩ := Kd.R_reads hR_; have C3 := Kd.C_below C3 hb_) | (go_at_call 19; obtain ⟨g0, gX⟩ := ‹Below wc.heap.size wc _ ∧ _›; ((with_reducible refine (tInts A3 A4 I.length c3 I.length c4 I _ C3 hc3 C4 hc4).mono ?_));  rintro e w25 ⟨rfl, hb_⟩; have j0 := below_step g0 hb_; have s25 := j0.size; have jX := fun j => (j0.cell (p := ⟨xb, j, none⟩) kX).trans (rX j)))
                  (try go_wp2_with fail)
                  refine hK.out _ _ ?hS2x25 (fun hHeld => ?hR2x25)
                  case hS2x25 => ((try dsimp only); (first | exact ⟨below_drew1 (Below.refl _ _), rX⟩ | exact ⟨below_drew1 b0_, rX⟩ | exact ⟨j0, jX⟩ | exact ⟨below_alloc j0 _, fun j => (cell_alloc_old (Nat.lt_of_lt_of_le kX j0.size)).trans (jX j)⟩ | exact ⟨below_alloc (below_drew1 (Below.refl _ _)) _, fun j => (cell_alloc_old kX).trans (rX j)⟩ | assumption))
                  clear hK K
                  (try simp only [Act.put, List.setIfInBounds_toArray, List.set_cons_zero, List.set_cons_succ])
                  refine wpAnyH_take (i := 24) (oi := ⟨some 132, _, _, _, _, _⟩) (v := ?_) rfl (by kernel_rfl) (by kernel_rfl) (by kernel_rfl) (fun _ _ _ h => h) (Or.inl ⟨by rfl, ?hY2x26⟩) (by assumption) ?hR2x26
                  case hY2x26 => (intro w hSw; (try dsimp only at hSw); go_simp; try with_reducible rfl)
                  (try simp only [Act.put, List.setIfInBounds_toArray, List.set_cons_zero, List.set_cons_succ])
                  refine wpAnyH_take (i := 25) (oi := ⟨some 133, _, _, _, _, _⟩) (v := ?_) rfl (by kernel_rfl) (by kernel_rfl) (by kernel_rfl) (fun _ _ _ h => h) (Or.inl ⟨by rfl, ?hY2x27⟩) (by assumption) ?hR2x27
                  case hY2x27 => (intro w hSw; (try dsimp only at hSw); go_simp; try with_reducible rfl)
                  (try simp only [Act.put, List.setIfInBounds_toArray, List.set_cons_zero, List.set_cons_succ])
                  refine wpAnyH_done (by kernel_rfl) ?_ _
                  go_wp2
                  go_roundw
                  case rel => exact ⟨z + 1, by omega, by go_num, below_step HB.out j0⟩
                  case measure => simp [intOf]; omega
              · obtain rfl : z = 2 := by omega
                clear bR
                have HB := Aside0.mk hb3
                clear hb3
                obtain ⟨q, hq⟩ : ∃ q, rightM l = q := ⟨_, rfl⟩
                have HQ := Aside0.mk hq
                clear hq
                go_wp2_with fail
                refine (tRightE u17 l q _ (HLU.out.below (by repeat (first | exact HB.out | apply below_alloc | apply pw_below_drewN | apply below_drew1 | refine below_set ?_ (by first | omega | (simp; omega))))) HQ.out).mono ?_
                rintro e w26 ⟨rfl, hb_⟩
                have n_ := Aside0.mk (below_step (by repeat (first | exact HB.out | apply below_alloc | apply pw_below_drewN | apply below_drew1 | refine below_set ?_ (by first | omega | (simp; omega)))) hb_); clear HB hb_; have HB := n_; clear n_
                go_wp2_with fail
                refine (tRRightE u17 l q _ (HLU.out.below (by repeat (first | exact HB.out | apply below_alloc | apply pw_below_drewN | apply below_drew1 | refine below_set ?_ (by first | omega | (simp; omega))))) HQ.out).mono ?_
                rintro e w27 ⟨rfl, hb_⟩
                have n_ := Aside0.mk (below_step (by repeat (first | exact HB.out | apply below_alloc | apply pw_below_drewN | apply below_drew1 | refine below_set ?_ (by first | omega | (simp; omega)))) hb_); clear HB hb_; have HB := n_; clear n_
                have hqq : decide (q = q) = true := by simp
                go_wp2
                go_roundw
                case rel => exact ⟨i + 1, by omega, by go_num, below_step HBV.out (below_step HBU.out HB.out)⟩
                case measure => simp [intOf]; omega
    · obtain rfl : i = 2 := by omega
      go_wp2
      go_ret
      exact ⟨rfl, below_step HBW.out hb1⟩
end Go.Proofs.Ytppcojfgpjnagaa
