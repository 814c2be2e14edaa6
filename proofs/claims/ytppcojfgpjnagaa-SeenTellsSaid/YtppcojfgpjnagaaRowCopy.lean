
/- copy at elements of several cells; what Insert makes of a row's cells, in plain lists. -/
import Derived.Laws.CopyRow
import Derived.Laws.CopyOwn
import Derived.Lib.Overlaps
import Derived.Lib.AppendZerosOnto
import Derived.Laws.Externs
import Derived.Shelf.Spec.SlicesInsert
import Derived.Test.YtppcojfgpjnagaaBase
set_option linter.unusedVariables false
set_option linter.unusedSimpArgs false
namespace Go.Proofs.Ytppcojfgpjnagaa
open Go.RowKit Go.Proofs.YtppcojfgpjnagaaW.PrintWords Go.Proofs.YtppcojfgpjnagaaW.PrintLast Go.Proofs.YtppcojfgpjnagaaW.PrintMore

theorem run_copy_rowK {P : Program} (w : World) (dT sT ty elem : TypeId) (g o dLen dCap : Nat) (a : Addr) (sLen sCap k : Nat) (cur : Array Value) (t : TypeId) (cs : List Value)
    (hu : P.underlying dT = some (.slice elem)) (hs : (P.info? elem).map (·.size) = some k)
    (hg : w.heap[g]? = some (.cells cur t (0, 0))) (hn : cs.length = Nat.min sLen dLen * k)
    (hsrc : ∀ j v, cs[j]? = some v → w.cell? (a.add j) = some v) (hfit : o + cs.length ≤ cur.size) (h1 : ∀ v ∈ cs, v.oneCell' = true) :
    (Builtin.copy_ #[dT, sT] ty #[.slice (some ⟨g, o, none⟩) dLen dCap, .slice (some a) sLen sCap]).run P w =
      .ok (goInt (Nat.min sLen dLen)) (w.setRow g (cur.toList.take o ++ cs ++ cur.toList.drop (o + cs.length)).toArray) := by
  have hl := run_loadCells_list (P := P) w a cs hsrc
  have hst := run_storeCells_at P g o t cs 0 cur w hg (by simpa using hfit) h1
  cases hq : P.info? elem with
  | none => simp [hq] at hs
  | some i =>
    have hi : i.size = k := by simpa [hq] using hs
    simp [Builtin.copy_, run_underlying hu, Builtin.lenOf, Builtin.firstCells, sizeOf, typeInfo, hq, hi, ← hn, hl, hst]
/-- Behind an insertion in place: the first cells. -/
theorem insert_cells {α : Type} (cur C X : List α) (a x r : Nat) (hC : cur.take (a + r) = C) (hl : C.length = a + r) (hX : X.length = x) (hx : r ≤ cur.length - (a + x)) (hx2 : a + x + r ≤ cur.length) :
    (((cur.take (a + x) ++ C.drop a ++ cur.drop (a + x + (C.drop a).length)).take a ++ X ++ (cur.take (a + x) ++ C.drop a ++ cur.drop (a + x + (C.drop a).length)).drop (a + X.length)).take (a + x + r)) = C.take a ++ X ++ C.drop a := by
  have hd : (C.drop a).length = r := by rw [List.length_drop]; omega
  have h1 : (cur.take (a + x) ++ C.drop a ++ cur.drop (a + x + (C.drop a).length)).take a = C.take a := by
    rw [List.append_assoc, List.take_append_of_le_length (by rw [List.length_take]; omega), List.take_take, Nat.min_eq_left (by omega), ← hC, List.take_take, Nat.min_eq_left (by omega)]
  have h2 : (cur.take (a + x) ++ C.drop a ++ cur.drop (a + x + (C.drop a).length)).drop (a + X.length) = C.drop a ++ cur.drop (a + x + (C.drop a).length) := by
    rw [List.append_assoc, hX, List.drop_left' (by rw [List.length_take]; omega)]
  have hta : (C.take a).length = a := by rw [List.length_take]; omega
  have hl3 : (C.take a ++ X ++ C.drop a).length = a + x + r := by
    rw [List.length_append, List.length_append, hta, hX, hd]
  rw [h1, h2, ← List.append_assoc]
  exact List.take_left' hl3
/-- Behind an insertion into a new row. -/
theorem grown_cells {α : Type} (Z C X : List α) (a x r : Nat) (hZ : Z.take a = C.take a) (hl : C.length = a + r) (hX : X.length = x) (hz : a + x + r ≤ Z.length) :
    (((Z.take a ++ X ++ Z.drop (a + X.length)).take (a + x) ++ C.drop a ++ (Z.take a ++ X ++ Z.drop (a + X.length)).drop (a + x + (C.drop a).length)).take (a + x + r)) = C.take a ++ X ++ C.drop a := by
  have hd : (C.drop a).length = r := by rw [List.length_drop]; omega
  have hta : (C.take a).length = a := by rw [List.length_take]; omega
  have h1 : (Z.take a ++ X ++ Z.drop (a + X.length)).take (a + x) = C.take a ++ X := by
    rw [hZ]
    exact List.take_left' (by rw [List.length_append, hta, hX])
  have hl3 : (C.take a ++ X ++ C.drop a).length = a + x + r := by
    rw [List.length_append, List.length_append, hta, hX, hd]
  rw [h1]
  exact List.take_left' hl3
theorem heap_setRow_self {w : World} {g : Nat} {cur : Array Value} {t : TypeId} {fr : Nat × Nat} (cs : Array Value) (h : w.heap[g]? = some (.cells cur t fr)) : (w.setRow g cs).heap[g]? = some (.cells cs t fr) := setRow_heap w g _ _ t _ h
end Go.Proofs.Ytppcojfgpjnagaa
