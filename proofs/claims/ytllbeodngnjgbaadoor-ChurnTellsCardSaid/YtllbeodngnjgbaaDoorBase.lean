/- Small lemmas that all walks of mine use: endings, cells, elements of rows that are read. -/
import Derived.Test.YtllbeodngnjgbaaDoorRows
import Derived.Test.YtllbeodngnjgbaaDoorWMore
import Derived.WalkKit
import Derived.WalkSpells
import Derived.WalkLawsBesides
import Derived.Deep.QuietTactic
import Derived.BigQuiet
import Derived.Deep.LoopGhost
set_option linter.unusedVariables false
set_option linter.unusedSimpArgs false
namespace Go.Proofs.YtllbeodngnjgbaaDoor
open Go.RowKit Go.Proofs.YtllbeodngnjgbaaDoorW.PrintWords Go.Proofs.YtllbeodngnjgbaaDoorW.PrintLast Go.Proofs.YtllbeodngnjgbaaDoorW.PrintMore
theorem cell_lt {w : World} {a : Addr} {v : Value} (h : w.cell? a = some v) : a.block < w.heap.size := by
  unfold World.cell? at h
  rcases Nat.lt_or_ge a.block w.heap.size with h1 | h1
  · exact h1
  · rw [Array.getElem?_eq_none h1] at h
    cases h
theorem ret_int {k : IntKind} {a b : Int} (h : a = b) : Ending.returned (.int k a) = .returned (.int k b) := by rw [h]
theorem ret_bool {a b : Bool} (h : a = b) : Ending.returned (.bool a) = .returned (.bool b) := by rw [h]
theorem ret_str {a b : ByteArray} (h : a = b) : Ending.returned (.string a) = .returned (.string b) := by rw [h]
theorem take_snoc (s : ByteArray) (k : Nat) (h : k < s.size) : s.data.toList.take (k + 1) = s.data.toList.take k ++ [s[k]] := by
  rw [List.take_succ_eq_append_getElem (by simpa using h)]; rfl
theorem drop_cons (s : ByteArray) (k : Nat) (h : k < s.size) : s.data.toList.drop k = s[k] :: s.data.toList.drop (k + 1) := by
  rw [List.drop_eq_getElem_cons (by simpa using h)]; rfl

/-- An element of a list, by a name that the walk does not look into. -/
def nth (xs : List Int) (i : Nat) : Int := xs.getD i 0
theorem nth_eq {xs : List Int} {i : Nat} (h : i < xs.length) : nth xs i = xs[i] := by simp [nth, List.getD_eq_getElem?_getD, List.getElem?_eq_getElem h]
theorem nth_mem {xs : List Int} {i : Nat} (h : i < xs.length) : nth xs i ∈ xs := by rw [nth_eq h]; exact List.getElem_mem h
/-- An element of a row of numbers that is read. -/
theorem C_nat {k : IntKind} {w : World} {A : Option Addr} {n : Nat} {xs : List Int} (h : (Kd.int k).C w A n xs) (i : Nat) (hi : i < n) :
    ∃ b o s, A = some ⟨b, o, s⟩ ∧ w.cell? ((⟨b, o, s⟩ : Addr).add i) = some (.int k (nth xs i)) := by
  obtain ⟨ad, e, hc⟩ := Kd.at_int h (i : Int) (by omega) (by omega)
  refine ⟨ad.block, ad.off, ad.spot, e, ?_⟩
  exact hc


/-- A literal of numbers that was just laid. -/
theorem C_lit (k : IntKind) (W : World) (T : TypeId) (l : List Int) (hl : l.length ≤ 9223372036854775807) :
    (Kd.int k).C (W.alloc (.cells (l.map (Value.int k)).toArray T)) (some ⟨W.heap.size, 0, none⟩) l.length l := by
  refine Kd.C_of_reads (enc := Value.int k) (d := (0 : Int)) (h1 := fun _ => rfl) ⟨rfl, hl, fun _ => ⟨_, rfl, fun j hj => ?_⟩⟩
  rw [List.getD_eq_getElem?_getD, List.getElem?_eq_getElem hj]
  have h0 : (((⟨W.heap.size, 0, none⟩ : Addr).add j)) = ⟨W.heap.size, j, none⟩ := by
    unfold Addr.add
    split
    · subst j; rfl
    · simp
  rw [h0]
  unfold World.cell?
  rw [show (W.alloc (Obj.cells (l.map (Value.int k)).toArray T)).heap[W.heap.size]? = some (Obj.cells (l.map (Value.int k)).toArray T) from by
    show (W.heap.push _)[W.heap.size]? = _
    simp]
  simp [hj]
end Go.Proofs.YtllbeodngnjgbaaDoor
