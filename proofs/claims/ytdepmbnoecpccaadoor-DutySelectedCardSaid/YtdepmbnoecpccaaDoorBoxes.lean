
/- More on boxes: stores elsewhere; long arrays. -/
import Derived.Deep.MidRow
import Derived.Test.YtdepmbnoecpccaaDoorBase
set_option linter.unusedVariables false
set_option linter.unusedSimpArgs false
namespace Go.Proofs.YtdepmbnoecpccaaDoor
open Go.RowKit Go.Proofs.YtdepmbnoecpccaaDoorW.PrintWords Go.Proofs.YtdepmbnoecpccaaDoorW.PrintLast Go.Proofs.YtdepmbnoecpccaaDoorW.PrintMore

theorem cell_far {w : World} {p : Addr} {u : Value} {b j : Nat} (h : b ≠ p.block) : (w.setCell p u).cell? ⟨b, j, none⟩ = w.cell? ⟨b, j, none⟩ := by
  simp only [World.cell?, Below.heap_setCell w p u b h]
theorem Box.far {w : World} {p : Addr} {u : Value} {b : Nat} {cs : Array Value} {T : TypeId} (h : Box w b cs T) (hne : b ≠ p.block) : Box (w.setCell p u) b cs T := (Below.heap_setCell w p u b hne).trans h
theorem range_of_box {w : World} {b : Nat} {cs : Array Value} {T : TypeId} (h : Box w b cs T) : w.rangeAt b 0 cs.toList := fun j v hv => by
  rw [Nat.zero_add, h.cell j]
  simpa using hv
theorem there_of_box {w : World} {b : Nat} {cs : Array Value} {T : TypeId} (h : Box w b cs T) : w.there b 0 cs.size := fun j hj => by
  rw [Nat.zero_add, h.cell j]
  exact ⟨by simp [hj], h.frozen j⟩
theorem setCell_heapB (w : World) (b j : Nat) (v : Value) (cs : Array Value) (T : TypeId) (h : w.heap[b]? = some (.cells cs T (0, 0))) : (w.setCell ⟨b, j, none⟩ v).heap[b]? = some (.cells (cs.setIfInBounds j v) T (0, 0)) := by
  have hlt : b < w.heap.size := (Array.getElem?_eq_some_iff.1 h).1
  have h' : w.heap[b] = .cells cs T (0, 0) := (Array.getElem?_eq_some_iff.1 h).2
  simp [World.setCell, h, hlt, Array.getElem_modify, h']
theorem Box.put {w : World} {b j : Nat} {cs : Array Value} {T : TypeId} {v : Value} (h : Box w b cs T) : Box (w.setCell ⟨b, j, none⟩ v) b (cs.setIfInBounds j v) T := setCell_heapB w b j v cs T h
theorem Box.two {w : World} {b : Nat} {T : TypeId} {x y a c : Value} (h : Box w b #[x, y] T) : Box ((w.setCell ⟨b, 0, none⟩ a).setCell ⟨b, 1, none⟩ c) b #[a, c] T := by
  have := Box.put (j := 1) (v := c) (Box.put (j := 0) (v := a) h)
  simpa using this
theorem Box.three {w : World} {b : Nat} {T : TypeId} {x y z a c d : Value} (h : Box w b #[x, y, z] T) : Box (((w.setCell ⟨b, 0, none⟩ a).setCell ⟨b, 1, none⟩ c).setCell ⟨b, 2, none⟩ d) b #[a, c, d] T := by
  have := Box.put (j := 2) (v := d) (Box.put (j := 1) (v := c) (Box.put (j := 0) (v := a) h))
  simpa using this
theorem Box.setCells {b : Nat} {T : TypeId} : ∀ (ys : List Value) (k : Nat) (w : World) (pre post : List Value), pre.length = k → post.length = ys.length → Box w b (pre ++ post).toArray T → Box (w.setCells b k ys) b (pre ++ ys).toArray T
  | [], k, w, pre, post, _, hp, h => by
    obtain rfl : post = [] := List.length_eq_zero_iff.1 hp
    exact h
  | y :: ys, k, w, pre, [], _, hp, h => by cases hp
  | y :: ys, k, w, pre, p :: post, hk, hp, h => by
    have h1 := Box.put (j := k) (v := y) h
    have e : ((pre ++ p :: post).toArray).setIfInBounds k y = ((pre ++ [y]) ++ post).toArray := by
      subst hk
      simp
    rw [e] at h1
    have := Box.setCells ys (k + 1) (w.setCell ⟨b, k, none⟩ y) (pre ++ [y]) post (by simp [hk]) (by simpa using hp) h1
    rw [List.append_assoc] at this
    exact this
theorem Box.over {w : World} {b : Nat} {T : TypeId} {cs ds : Array Value} (h : Box w b cs T) (hs : cs.size = ds.size) : Box (w.setCells b 0 ds.toList) b ds T := by
  have := Box.setCells ds.toList 0 w [] cs.toList rfl (by simpa using hs) (by simpa using h)
  simpa using this
theorem below_cells {W : World} {b : Nat} (hb : W.heap.size ≤ b) : ∀ (vs : List Value) (o : Nat) (w : World), Below W.heap.size W w → Below W.heap.size W (w.setCells b o vs)
  | [], _, _, h => h
  | v :: vs, o, w, h => below_cells hb vs (o + 1) _ (below_set h hb)
theorem C_alloc {α : Type} {d : Kd α} {w : World} {A : Option Addr} {n : Nat} {xs : List α} {o : Obj} (h : d.C w A n xs) : d.C (w.alloc o) A n xs := Kd.C_below h (below_alloc (Below.refl _ _) _)
end Go.Proofs.YtdepmbnoecpccaaDoor
