
/- Shuffles (chapter 9), in plain Lean. -/
import Derived.Deep.Heap
import Derived.Deep.Grids
import Derived.Test.YtdepmbnoecpccaaDoorChurnRef
set_option linter.unusedVariables false
set_option linter.unusedSimpArgs false
namespace Go.Proofs.YtdepmbnoecpccaaDoor
open Go.RowKit Go.Proofs.YtdepmbnoecpccaaDoorW.PrintWords Go.Proofs.YtdepmbnoecpccaaDoorW.PrintLast Go.Proofs.YtdepmbnoecpccaaDoorW.PrintMore

/-- One round's swap. -/
def flipF (n seed r i : Int) : Int := (drawF n [seed, r] + n - i) % n
def swapF (n seed r i : Int) : Int := if bitF [seed, r, max i (flipF n seed r i)] then flipF n seed r i else i
def runF (n seed : Int) (l : List Int) (i : Int) : Int := l.foldl (fun k r => swapF n seed r k) i
def upF (m : Nat) : List Int := (List.range m).map (fun (j : Nat) => (j : Int))
def downF (m : Nat) : List Int := (List.range m).map (fun (j : Nat) => (m : Int) - 1 - (j : Int))
def placeF (n seed : Int) (m : Nat) (i : Int) : Int := runF n seed (upF m) i
def backF9 (n seed : Int) (m : Nat) (i : Int) : Int := runF n seed (downF m) i
def mayB (n m i : Int) : Bool := decide ((1 ≤ n ∧ n ≤ 65536) ∧ (0 ≤ m ∧ m ≤ 90) ∧ 0 ≤ i ∧ i < n)

theorem draw_bd (n : Int) (l : List Int) (h1 : 1 ≤ n) : 0 ≤ drawF n l ∧ drawF n l < n := by
  have e : drawF n l = foldF l % n := by unfold drawF; rw [if_neg (by omega)]
  rw [e]
  exact ⟨Int.emod_nonneg _ (by omega), Int.emod_lt_of_pos _ (by omega)⟩
theorem flip_bd (n seed r i : Int) (h1 : 1 ≤ n) : 0 ≤ flipF n seed r i ∧ flipF n seed r i < n :=
  ⟨Int.emod_nonneg _ (by omega), Int.emod_lt_of_pos _ (by omega)⟩
theorem flip_flip (n seed r i : Int) (h : 0 ≤ i ∧ i < n) : flipF n seed r (flipF n seed r i) = i := by
  unfold flipF
  generalize drawF n [seed, r] = p
  have e : (p + n - (p + n - i) % n) % n = (p + n - (p + n - i)) % n := by rw [Int.sub_emod, Int.emod_emod, ← Int.sub_emod]
  rw [e, show p + n - (p + n - i) = i by omega]
  exact Int.emod_eq_of_lt h.1 h.2
theorem swap_bd (n seed r i : Int) (h : 0 ≤ i ∧ i < n) : 0 ≤ swapF n seed r i ∧ swapF n seed r i < n := by
  unfold swapF
  have := flip_bd n seed r i (by omega)
  split <;> omega
theorem swap_swap (n seed r i : Int) (h : 0 ≤ i ∧ i < n) : swapF n seed r (swapF n seed r i) = i := by
  have hf := flip_flip n seed r i h
  by_cases hb : bitF [seed, r, max i (flipF n seed r i)] = true
  · have e : swapF n seed r i = flipF n seed r i := by unfold swapF; rw [if_pos hb]
    rw [e]
    unfold swapF
    rw [hf, show max (flipF n seed r i) i = max i (flipF n seed r i) by omega, if_pos hb]
  · have e : swapF n seed r i = i := by unfold swapF; rw [if_neg hb]
    rw [e, e]
theorem run_nil (n seed i : Int) : runF n seed [] i = i := by unfold runF; rw [List.foldl_nil]
theorem run_cons (n seed : Int) (l : List Int) (r i : Int) : runF n seed (r :: l) i = runF n seed l (swapF n seed r i) := by unfold runF; rw [List.foldl_cons]
theorem run_snoc (n seed : Int) (l : List Int) (r i : Int) : runF n seed (l ++ [r]) i = swapF n seed r (runF n seed l i) := by unfold runF; rw [List.foldl_append, List.foldl_cons, List.foldl_nil]
theorem run_bd (n seed : Int) (l : List Int) : ∀ i, 0 ≤ i ∧ i < n → 0 ≤ runF n seed l i ∧ runF n seed l i < n := by
  induction l with
  | nil => exact fun i h => by rw [run_nil]; exact h
  | cons r l ih => exact fun i h => by rw [run_cons]; exact ih _ (swap_bd n seed r i h)
theorem run_back (n seed : Int) (l : List Int) : ∀ i, 0 ≤ i ∧ i < n → runF n seed l.reverse (runF n seed l i) = i := by
  induction l with
  | nil => exact fun i h => by rw [List.reverse_nil, run_nil, run_nil]
  | cons r l ih => exact fun i h => by rw [List.reverse_cons, run_snoc, run_cons, ih _ (swap_bd n seed r i h), swap_swap n seed r i h]
theorem upF_succ (m : Nat) : upF (m + 1) = upF m ++ [(m : Int)] := by simp [upF, List.range_succ]
theorem upF_len (m : Nat) : (upF m).length = m := by simp [upF]
theorem downF_len (m : Nat) : (downF m).length = m := by simp [downF]
theorem upF_rev (m : Nat) : (upF m).reverse = downF m := by
  apply List.ext_getElem
  · simp [upF, downF]
  · intro i h1 h2
    simp [downF] at h2
    simp only [upF, downF, List.getElem_reverse, List.getElem_map, List.getElem_range, List.length_map, List.length_range]
    omega
theorem downF_rev (m : Nat) : (downF m).reverse = upF m := by rw [← upF_rev, List.reverse_reverse]
theorem downF_succ (m : Nat) : downF (m + 1) = (m : Int) :: downF m := by rw [← upF_rev, upF_succ, List.reverse_append, ← upF_rev]; rfl
theorem place_bd (n seed : Int) (m : Nat) (i : Int) (h : 0 ≤ i ∧ i < n) : 0 ≤ placeF n seed m i ∧ placeF n seed m i < n := run_bd n seed _ i h
theorem back_bd9 (n seed : Int) (m : Nat) (i : Int) (h : 0 ≤ i ∧ i < n) : 0 ≤ backF9 n seed m i ∧ backF9 n seed m i < n := run_bd n seed _ i h
theorem back_place (n seed : Int) (m : Nat) (i : Int) (h : 0 ≤ i ∧ i < n) : backF9 n seed m (placeF n seed m i) = i := by
  unfold backF9 placeF; rw [← upF_rev]; exact run_back n seed _ i h
theorem place_back (n seed : Int) (m : Nat) (i : Int) (h : 0 ≤ i ∧ i < n) : placeF n seed m (backF9 n seed m i) = i := by
  unfold backF9 placeF; rw [← downF_rev]; exact run_back n seed _ i h
theorem place_succ (n seed : Int) (m : Nat) (i : Int) : placeF n seed (m + 1) i = swapF n seed m (placeF n seed m i) := by unfold placeF; rw [upF_succ, run_snoc]
theorem back_succ (n seed : Int) (m : Nat) (i : Int) : backF9 n seed (m + 1) i = backF9 n seed m (swapF n seed m i) := by unfold backF9; rw [downF_succ, run_cons]
theorem place_inj (n seed : Int) (m : Nat) (i j : Int) (hi : 0 ≤ i ∧ i < n) (hj : 0 ≤ j ∧ j < n) : placeF n seed m i = placeF n seed m j ↔ i = j :=
  ⟨fun e => by rw [← back_place n seed m i hi, ← back_place n seed m j hj, e], fun e => by rw [e]⟩

theorem Box.new3 {w : World} {o o' o'' : Obj} {cs : Array Value} {T : TypeId} : Box ((((w.alloc o).alloc o').alloc o'').alloc (.cells cs T)) (w.heap.size + 1 + 1 + 1) cs T := by
  have h := Box.new2 (w := w.alloc o) (o := o') (o' := o'') (cs := cs) (T := T)
  rwa [size_alloc] at h
theorem cell_set_far {W : World} {a : Addr} {b j : Nat} {v : Value} (h : a.block ≠ b) : (W.setCell ⟨b, j, none⟩ v).cell? a = W.cell? a := by
  simp only [World.cell?, Go.Deep.blk_setCell_other W ⟨b, j, none⟩ v a.block h]
theorem Box.other {w : World} {b b' j : Nat} {cs : Array Value} {T : TypeId} {v : Value} (h : Box w b cs T) (hne : b ≠ b') : Box (w.setCell ⟨b', j, none⟩ v) b cs T := by
  unfold Box at h ⊢
  rw [← h]
  exact Go.Deep.blk_setCell_other w ⟨b', j, none⟩ v b hne
theorem setCell_heap (w : World) (b j : Nat) (v : Value) (cs : Array Value) (T : TypeId) (h : w.heap[b]? = some (.cells cs T (0, 0))) : (w.setCell ⟨b, j, none⟩ v).heap[b]? = some (.cells (cs.setIfInBounds j v) T (0, 0)) := by
  have hlt : b < w.heap.size := (Array.getElem?_eq_some_iff.1 h).1
  have h' : w.heap[b] = .cells cs T (0, 0) := (Array.getElem?_eq_some_iff.1 h).2
  simp [World.setCell, h, hlt, Array.getElem_modify, h']
theorem Box.set {w : World} {b j : Nat} {cs : Array Value} {T : TypeId} {v : Value} (h : Box w b cs T) : Box (w.setCell ⟨b, j, none⟩ v) b (cs.setIfInBounds j v) T := setCell_heap w b j v cs T h
theorem C_box (k : IntKind) (W : World) (b : Nat) (T : TypeId) (l : List Int) (hl : l.length ≤ 9223372036854775807) (hb : Box W b (l.map (Value.int k)).toArray T) :
    (Kd.int k).C W (some ⟨b, 0, none⟩) l.length l := by
  refine Kd.C_of_reads (enc := Value.int k) (d := (0 : Int)) (h1 := fun _ => rfl) ⟨rfl, hl, fun _ => ⟨_, rfl, fun j hj => ?_⟩⟩
  rw [List.getD_eq_getElem?_getD, List.getElem?_eq_getElem hj]
  have h0 : (((⟨b, 0, none⟩ : Addr).add j)) = ⟨b, j, none⟩ := by
    unfold Addr.add
    split
    · subst j; rfl
    · simp
  rw [h0, hb.cell]
  simp [hj]
theorem Draw2_calls (n seed r : Int) (b : Nat) (T : TypeId) (w : World) (hb : Box w b #[.int .u64 seed, .int .u64 r] T) (hn : n ≤ 9223372036854775807) (hs : 0 ≤ seed) (hr : 0 ≤ r) (hG : ChurnLaid w) :
    Calls Tryd.prog 63 #[.int .i64 n, .slice (some ⟨b, 0, none⟩) 2 2] w fun e w' => e = .returned (.int .i64 (drawF n [seed, r])) ∧ Below w.heap.size w w' :=
  Draw_calls n hn _ 2 2 [seed, r] w (C_box .u64 w b T [seed, r] (by simp) hb) (by simp; exact ⟨hs, hr⟩) hG
theorem Bit3_calls (seed r t : Int) (b : Nat) (T : TypeId) (w : World) (hb : Box w b #[.int .u64 seed, .int .u64 r, .int .u64 t] T) (hs : 0 ≤ seed) (hr : 0 ≤ r) (ht : 0 ≤ t) (hG : ChurnLaid w) :
    Calls Tryd.prog 65 #[.slice (some ⟨b, 0, none⟩) 3 3] w fun e w' => e = .returned (.bool (bitF [seed, r, t])) ∧ Below w.heap.size w w' :=
  Bit_calls _ 3 3 [seed, r, t] w (C_box .u64 w b T [seed, r, t] (by simp) hb) (by simp; exact ⟨hs, hr, ht⟩) hG
theorem RDraw2_calls (n seed r : Int) (b : Nat) (T : TypeId) (w : World) (hb : Box w b #[.int .u64 seed, .int .u64 r] T) (hn : n ≤ 9223372036854775807) (hs : 0 ≤ seed) (hr : 0 ≤ r) :
    Calls Tryd.prog 66 #[.int .i64 n, .slice (some ⟨b, 0, none⟩) 2 2] w fun e w' => e = .returned (.int .i64 (drawF n [seed, r])) ∧ Below w.heap.size w w' :=
  RDraw_calls n hn _ 2 2 [seed, r] w (C_box .u64 w b T [seed, r] (by simp) hb) (by omega) (by simp; exact ⟨hs, hr⟩)
theorem RBit3_calls (seed r t : Int) (b : Nat) (T : TypeId) (w : World) (hb : Box w b #[.int .u64 seed, .int .u64 r, .int .u64 t] T) (hs : 0 ≤ seed) (hr : 0 ≤ r) (ht : 0 ≤ t) :
    Calls Tryd.prog 67 #[.slice (some ⟨b, 0, none⟩) 3 3] w fun e w' => e = .returned (.bool (bitF [seed, r, t])) ∧ Below w.heap.size w w' :=
  RBit_calls _ 3 3 [seed, r, t] w (C_box .u64 w b T [seed, r, t] (by simp) hb) (by omega) (by simp; exact ⟨hs, hr, ht⟩)
end Go.Proofs.YtdepmbnoecpccaaDoor
