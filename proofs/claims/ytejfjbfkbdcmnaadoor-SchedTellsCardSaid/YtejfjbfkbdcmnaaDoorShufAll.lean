
/- All of a shuffle (chapter 9). -/
import Derived.Test.YtejfjbfkbdcmnaaDoorShufBy
set_option linter.unusedVariables false
set_option linter.unusedSimpArgs false
namespace Go.Proofs.YtejfjbfkbdcmnaaDoor
open Go.RowKit Go.Proofs.YtejfjbfkbdcmnaaDoorW.PrintWords Go.Proofs.YtejfjbfkbdcmnaaDoorW.PrintLast Go.Proofs.YtejfjbfkbdcmnaaDoorW.PrintMore
open Go.Shelf
attribute [local go_sem] Oper.semAt_some

theorem info_int : (Tryd.prog.info? 3).map (fun i => (i.zero, i.size, i.bytes)) = some (some (.int .i64 0), 1, 8) := by kernel_rfl

/-- A row that is being made of another one. -/
def stepRow (f g : Nat → Int) (N k : Nat) : List Int := (List.range N).map fun j => if j < k then g j else f j
theorem stepRow_len (f g : Nat → Int) (N k : Nat) : (stepRow f g N k).length = N := by simp [stepRow]
theorem stepRow_zero (f g : Nat → Int) (N : Nat) : stepRow f g N 0 = (List.range N).map f := by simp [stepRow]
theorem stepRow_all (f g : Nat → Int) (N : Nat) : stepRow f g N N = (List.range N).map g := by
  unfold stepRow
  apply List.map_congr_left
  intro i hi
  rw [if_pos (List.mem_range.1 hi)]
theorem stepRow_set (f g : Nat → Int) (N k : Nat) : (stepRow f g N k).set k (g k) = stepRow f g N (k + 1) := by
  apply List.ext_getElem (by simp [stepRow])
  intro i h1 h2
  rw [List.getElem_set]
  by_cases e : k = i
  · subst e; simp [stepRow]
  · rw [if_neg e]
    simp only [stepRow, List.getElem_map, List.getElem_range]
    by_cases hi : i < k
    · rw [if_pos hi, if_pos (by omega)]
    · rw [if_neg hi, if_neg (by omega)]
theorem stepRow_at (f g : Nat → Int) (N k : Nat) (h : k < N) : (stepRow f g N k).getD k 0 = f k := by
  simp [stepRow, List.getD_eq_getElem?_getD, h]
def allF (N : Nat) (seed : Int) (m : Nat) : List Int := (List.range N).map fun (j : Nat) => placeF N seed m j

end Go.Proofs.YtejfjbfkbdcmnaaDoor
