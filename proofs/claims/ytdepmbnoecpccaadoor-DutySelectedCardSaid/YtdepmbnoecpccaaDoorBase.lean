
/- Small lemmas that all walks of mine use: endings, cells, elements of rows that are read. -/
import Derived.Test.YtdepmbnoecpccaaDoorRows
import Derived.Test.YtdepmbnoecpccaaDoorWMore
import Derived.WalkKit
import Derived.WalkSpells
import Derived.WalkLawsBesides
import Derived.Deep.QuietTactic
import Derived.BigQuiet
import Derived.Deep.LoopGhost
set_option linter.unusedVariables false
set_option linter.unusedSimpArgs false
namespace Go.Proofs.YtdepmbnoecpccaaDoor
open Go.RowKit Go.Proofs.YtdepmbnoecpccaaDoorW.PrintWords Go.Proofs.YtdepmbnoecpccaaDoorW.PrintLast Go.Proofs.YtdepmbnoecpccaaDoorW.PrintMore
theorem cell_lt {w : World} {a : Addr} {v : Value} (h : w.cell? a = some v) : a.block < w.heap.size := by
  unfold World.cell? at h
  rcases Nat.lt_or_ge a.block w.heap.size with h1 | h1
  · exact h1
  · rw [Array.getElem?_eq_none h1] at h
    cases h
theorem ret_int {k : IntKind} {a b : Int} (h : a = b) : Ending.returned (.int k a) = .returned (.int k b) := by rw [h]
theorem ret_bool {a b : Bool} (h : a = b) : Ending.returned (.bool a) = .returned (.bool b) := by rw [h]
theorem ret_str {a b : ByteArray} (h : a = b) : Ending.returned (.string a) = .returned (.string b) := by rw [h]
theorem take_snoc (s : ByteArray) (k : Nat) (h : k < s.size) : s.data.toList.take (k + 1) = s.data.toList.take k ++ [s[k]] := by
  rw [List.take_succ_eq_append_getElem (by simpa using h)]; rfl
theorem drop_cons (s : ByteArray) (k : Nat) (h : k < s.size) : s.data.toList.drop k = s[k] :: s.data.toList.drop (k + 1) := by
  rw [List.drop_eq_getElem_cons (by simpa using h)]; rfl

/-- An element of a list, by a name that the walk does not look into. -/
def nth (xs : List Int) (i : Nat) : Int := xs.getD i 0
theorem nth_eq {xs : List Int} {i : Nat} (h : i < xs.length) : nth xs i = xs[i] := by simp [nth, List.getD_eq_getElem?_getD, List.getElem?_eq_getElem h]
theorem nth_mem {xs : List Int} {i : Nat} (h : i < xs.length) : nth xs i ∈ xs := by rw [nth_eq h]; exact List.getElem_mem h
/-- An element of a row of numbers that is read. -/
theorem C_nat {k : IntKind} {w : World} {A : Option Addr} {n : Nat} {xs : List Int} (h : (Kd.int k).C w A n xs) (i : Nat) (hi : i < n) :
    ∃ b o s, A = some ⟨b, o, s⟩ ∧ w.cell? ((⟨b, o, s⟩ : Addr).add i) = some (.int k (nth xs i)) := by
  obtain ⟨ad, e, hc⟩ := Kd.at_int h (i : Int) (by omega) (by omega)
  refine ⟨ad.block, ad.off, ad.spot, e, ?_⟩
  exact hc


/-- A literal of numbers that was just laid. -/
theorem C_lit (k : IntKind) (W : World) (T : TypeId) (l : List Int) (hl : l.length ≤ 9223372036854775807) :
    (Kd.int k).C (W.alloc (.cells (l.map (Value.int k)).toArray T)) (some ⟨W.heap.size, 0, none⟩) l.length l := by
  refine Kd.C_of_reads (enc := Value.int k) (d := (0 : Int)) (h1 := fun _ => rfl) ⟨rfl, hl, fun _ => ⟨_, rfl, fun j hj => ?_⟩⟩
  rw [List.getD_eq_getElem?_getD, List.getElem?_eq_getElem hj]
  have h0 : (((⟨W.heap.size, 0, none⟩ : Addr).add j)) = ⟨W.heap.size, j, none⟩ := by
    unfold Addr.add
    split
    · subst j; rfl
    · simp
  rw [h0]
  unfold World.cell?
  rw [show (W.alloc (Obj.cells (l.map (Value.int k)).toArray T)).heap[W.heap.size]? = some (Obj.cells (l.map (Value.int k)).toArray T) from by
    show (W.heap.push _)[W.heap.size]? = _
    simp]
  simp [hj]

theorem heap_alloc_old {W : World} {o : Obj} {b : Nat} (h : b < W.heap.size) : (W.alloc o).heap[b]? = W.heap[b]? := by
  show (W.heap.push o)[b]? = _
  rw [Array.getElem?_push, if_neg (by omega)]
theorem heap_alloc_new {W : World} {o : Obj} : (W.alloc o).heap[W.heap.size]? = some o := by
  show (W.heap.push o)[W.heap.size]? = _
  simp
theorem cell_alloc_old {W : World} {o : Obj} {b j : Nat} (h : b < W.heap.size) : (W.alloc o).cell? ⟨b, j, none⟩ = W.cell? ⟨b, j, none⟩ := by
  simp only [World.cell?, heap_alloc_old h]
theorem frozen_alloc_old {W : World} {o : Obj} {b j : Nat} (h : b < W.heap.size) : (W.alloc o).frozen? ⟨b, j, none⟩ = W.frozen? ⟨b, j, none⟩ := by
  simp only [World.frozen?, heap_alloc_old h]
theorem cell_alloc_oldp {W : World} {o : Obj} {p : Addr} (h : p.block < W.heap.size) : (W.alloc o).cell? p = W.cell? p := by
  simp only [World.cell?, heap_alloc_old h]
theorem cell_farp {w : World} {q p : Addr} {v : Value} (h : p.block ≠ q.block) : (w.setCell q v).cell? p = w.cell? p := by
  simp only [World.cell?, Below.heap_setCell w q v p.block h]
theorem cell_alloc_new {W : World} {c : Array Value} {T : TypeId} {j : Nat} : (W.alloc (.cells c T)).cell? ⟨W.heap.size, j, none⟩ = c[j]? := by
  simp only [World.cell?, heap_alloc_new]
  rfl
theorem frozen_alloc_new {W : World} {c : Array Value} {T : TypeId} {j : Nat} : (W.alloc (.cells c T)).frozen? ⟨W.heap.size, j, none⟩ = false := by
  simp only [World.frozen?, heap_alloc_new]
  simp
theorem size_alloc {W : World} {o : Obj} : (W.alloc o).heap.size = W.heap.size + 1 := by
  show (W.heap.push o).size = _
  simp
theorem bcell {W w1 : World} (hb : Below W.heap.size W w1) : (∀ b o, b < W.heap.size → w1.cell? ⟨b, o, none⟩ = W.cell? ⟨b, o, none⟩) ∧ (∀ b o, b < W.heap.size → w1.frozen? ⟨b, o, none⟩ = W.frozen? ⟨b, o, none⟩) :=
  ⟨fun b o h => hb.cell (p := ⟨b, o, none⟩) h, fun b o h => hb.frozen (p := ⟨b, o, none⟩) h⟩

/-- A box of the call's own: a block known whole. -/
def Box (w : World) (b : Nat) (cs : Array Value) (T : TypeId) : Prop := w.heap[b]? = some (.cells cs T (0, 0))
theorem Box.lt {w : World} {b : Nat} {cs : Array Value} {T : TypeId} (h : Box w b cs T) : b < w.heap.size := by
  unfold Box at h
  rcases Nat.lt_or_ge b w.heap.size with h1 | h1
  · exact h1
  · rw [Array.getElem?_eq_none h1] at h
    cases h
theorem Box.below {w w' : World} {b : Nat} {cs : Array Value} {T : TypeId} (h : Box w b cs T) (hb : Below w.heap.size w w') : Box w' b cs T := (hb.block b h.lt).trans h
theorem Box.cell {w : World} {b : Nat} {cs : Array Value} {T : TypeId} (h : Box w b cs T) (j : Nat) : w.cell? ⟨b, j, none⟩ = cs[j]? := by
  unfold Box at h
  simp only [World.cell?, h]
  rfl
theorem Box.frozen {w : World} {b : Nat} {cs : Array Value} {T : TypeId} (h : Box w b cs T) (j : Nat) : w.frozen? ⟨b, j, none⟩ = false := by
  unfold Box at h
  simp only [World.frozen?, h]
  simp
theorem Box.alloc {w : World} {b : Nat} {cs : Array Value} {T : TypeId} {o : Obj} (h : Box w b cs T) : Box (w.alloc o) b cs T := (heap_alloc_old h.lt).trans h
theorem Box.drew {w : World} {b : Nat} {cs : Array Value} {T : TypeId} (h : Box w b cs T) : Box w.drew b cs T := h
theorem Box.drewN {w : World} {b n : Nat} {cs : Array Value} {T : TypeId} (h : Box w b cs T) : Box (w.drewN n) b cs T := h
theorem Box.new {w : World} {cs : Array Value} {T : TypeId} : Box (w.alloc (.cells cs T)) w.heap.size cs T := heap_alloc_new
theorem Box.new1 {w : World} {o : Obj} {cs : Array Value} {T : TypeId} : Box ((w.alloc o).alloc (.cells cs T)) (w.heap.size + 1) cs T := by
  have h := Box.new (w := w.alloc o) (cs := cs) (T := T)
  rwa [size_alloc] at h
theorem Box.new2 {w : World} {o o' : Obj} {cs : Array Value} {T : TypeId} : Box (((w.alloc o).alloc o').alloc (.cells cs T)) (w.heap.size + 1 + 1) cs T := by
  have h := Box.new1 (w := w.alloc o) (o := o') (cs := cs) (T := T)
  rwa [size_alloc] at h
end Go.Proofs.YtdepmbnoecpccaaDoor
