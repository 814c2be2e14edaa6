
/- Which numbers have come: a row of marks. -/
import Derived.Test.YtdepmbnoecpccaaDoorDutyAwake
set_option linter.unusedVariables false
set_option linter.unusedSimpArgs false
namespace Go.Proofs.YtdepmbnoecpccaaDoor
open Go.RowKit Go.Proofs.YtdepmbnoecpccaaDoorW.PrintWords Go.Proofs.YtdepmbnoecpccaaDoorW.PrintLast Go.Proofs.YtdepmbnoecpccaaDoorW.PrintMore

theorem info_bool : (Tryd.prog.info? 4).map (fun i => (i.zero, i.size, i.bytes)) = some (some (.bool false), 1, 1) := by kernel_rfl
def hadRow (N : Nat) (f : Nat → Int) (k : Nat) : List Bool := (List.range N).map fun (v : Nat) => (List.range k).any fun j => f j == (v : Int)
theorem hadRow_len (N : Nat) (f : Nat → Int) (k : Nat) : (hadRow N f k).length = N := by simp [hadRow]
theorem hadRow_zero (N : Nat) (f : Nat → Int) : hadRow N f 0 = List.replicate N false := by
  apply List.ext_getElem (by simp [hadRow])
  intro i h1 h2
  simp [hadRow]
theorem hadRow_set (N : Nat) (f : Nat → Int) (k v : Nat) (h : f k = (v : Int)) : (hadRow N f k).set v true = hadRow N f (k + 1) := by
  apply List.ext_getElem (by simp [hadRow])
  intro i h1 h2
  rw [List.getElem_set]
  simp only [hadRow, List.getElem_map, List.getElem_range, List.range_succ, List.any_append, List.any_cons, List.any_nil, Bool.or_false]
  by_cases e : v = i
  · subst e
    rw [if_pos rfl, h, beq_self_eq_true, Bool.or_true]
  · rw [if_neg e, h, beq_eq_false_iff_ne.2 (show (v : Int) ≠ (i : Int) by omega), Bool.or_false]
theorem hadRow_at (N : Nat) (f : Nat → Int) (k v : Nat) (hv : v < N) (h : ∀ j, j < k → f j ≠ (v : Int)) : (hadRow N f k).getD v false = false := by
  simp only [hadRow, List.getD_eq_getElem?_getD, List.getElem?_map, List.getElem?_range hv, Option.map_some, Option.getD_some]
  rw [List.any_eq_false]
  intro j hj
  have := h j (List.mem_range.1 hj)
  simpa using this
theorem cell_far {w : World} {p : Addr} {u : Value} {b j : Nat} (h : b ≠ p.block) : (w.setCell p u).cell? ⟨b, j, none⟩ = w.cell? ⟨b, j, none⟩ := by
  simp only [World.cell?, Below.heap_setCell w p u b h]
theorem Box.far {w : World} {p : Addr} {u : Value} {b : Nat} {cs : Array Value} {T : TypeId} (h : Box w b cs T) (hne : b ≠ p.block) : Box (w.setCell p u) b cs T := (Below.heap_setCell w p u b hne).trans h
theorem comm_at (c : ChainV) (e s i : Int) (hs : 0 ≤ s ∧ s < c.sl) : commF c (e * c.sl + s) i = s * c.co + i := by
  unfold commF
  rw [Int.add_comm (e * c.sl) s, Int.add_mul_emod_self_right, Int.emod_eq_of_lt hs.1 hs.2]
theorem epoch_at (c : ChainV) (e s : Int) (hs : 0 ≤ s ∧ s < c.sl) : (e * c.sl + s) / c.sl = e := by
  rw [Int.add_comm, Int.add_mul_ediv_right _ _ (by omega), Int.ediv_eq_zero_of_lt hs.1 hs.2]
  omega
end Go.Proofs.YtdepmbnoecpccaaDoor
