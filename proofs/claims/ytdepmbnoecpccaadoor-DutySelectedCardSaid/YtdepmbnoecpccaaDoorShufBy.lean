
/- Rounds, one behind the other (chapter 9): loops over iterators. -/
import Derived.RangeFuncNested
import Derived.RangeFuncBound
import Derived.RangeFuncCalls
import Derived.RangeFuncLeaves
import Derived.RangeFuncFrom
import Derived.RangeFuncBox
import Derived.Shelf.Abstract
import Derived.Shelf.RegionOpen
import Derived.OwnWalkIn
import Derived.TacticsInMore
import Derived.LoopNIn
import Derived.LoopIn
import Derived.Test.YtdepmbnoecpccaaDoorShufWalk
set_option linter.unusedVariables false
set_option linter.unusedSimpArgs false
namespace Go.Proofs.YtdepmbnoecpccaaDoor
open Go.RowKit Go.Proofs.YtdepmbnoecpccaaDoorW.PrintWords Go.Proofs.YtdepmbnoecpccaaDoorW.PrintLast Go.Proofs.YtdepmbnoecpccaaDoorW.PrintMore
open Go.Shelf
attribute [local go_sem] Oper.semAt_some

/-- A round's number. -/
abbrev R90 := { x : Int // 0 ≤ x ∧ x < 90 }
def vals (l : List R90) : List Int := l.map (·.1)
theorem vals_snoc (l : List R90) (x : R90) : vals (l ++ [x]) = vals l ++ [x.1] := by simp [vals]
theorem vals_len (l : List R90) : (vals l).length = l.length := by simp [vals]

set_option maxRecDepth 100000 in
set_option maxHeartbeats 2000000 in
theorem forth1_in (F : Fence) (n : Nat) (h7 : F.fn 62) (hro : F.round = none) (hn : 1 ≤ n) (l Bs m : Nat) (hm : m ≤ 90) (Kp : World → World → Prop) (J Jx : List R90 → World → Prop)
    (hY : ∀ pre x W, J pre W → pre.length < m → YieldAt F (n - 1) Tryd.prog l #[.int .i64 x.1] W fun e W' =>
      (e = .returned (.bool true) ∧ J (pre ++ [x]) W' ∧ Kp W W') ∨ (e = .returned (.bool false) ∧ Jx (pre ++ [x]) W'))
    (W : World) (hBs : W.cell? ⟨Bs, 0, none⟩ = some (.int .i64 m)) (h0 : J [] W) :
    CallsIn F n Tryd.prog 62 #[.func (.yield l) #[] #[], .pointer (some ⟨Bs, 0, none⟩)] W fun e W' => (∃ v, e = .returned v) ∧
      ((∃ ys, vals ys = upF m ∧ J ys W') ∨ (∃ pre, True ∧ Jx pre W')) := by
  refine callsIn_of_wp Tryd.func62 rfl h7 ?_ hro
  simp only [Tryd.ntmps62, List.size_toArray, List.length_cons, List.length_nil, Nat.reduceAdd, Nat.reduceSub, Array.replicate_succ, Array.replicate_zero, List.push_toArray, List.append_toArray, List.nil_append, List.cons_append]
  gi_wp2
  gi_loopw [5] (fun i wr => ∃ (k : Nat) (pre : List R90), k ≤ m ∧ i = .int .i64 k ∧ vals pre = upF k ∧ J pre wr)
    (fun i _ => m - (intOf i).toNat)
  case atStart => exact ⟨0, [], Nat.zero_le _, rfl, rfl, h0⟩
  case round =>
    obtain ⟨k, pre, hk, rfl, hp, hJs⟩ := hrel
    by_cases hlt : k < m
    · have hlen : pre.length = k := by rw [← vals_len, hp, upF_len]
      obtain ⟨fn, tmps, assign, body, hy, hR⟩ := hY pre ⟨(k : Int), by omega⟩ wr hJs (by omega)
      dsimp only at hy
      gi_wp2
      refine hR.mono ?_
      rintro e W3 (⟨rfl, hJ3, hk3⟩ | ⟨rfl, hJx3⟩)
      · gi_wp2
        go_roundw
        case rel => exact ⟨k + 1, _, by omega, by go_num, by rw [vals_snoc, hp, upF_succ], hJ3⟩
        case measure => simp [intOf]; omega
      · gi_wp2
        refine bodyPost_ret (results_none rfl _ _ _) rfl ?_
        exact ⟨⟨_, rfl⟩, .inr ⟨_, trivial, hJx3⟩⟩
    · obtain rfl : k = m := by omega
      gi_wp2
      go_end0
      exact ⟨⟨_, rfl⟩, .inl ⟨pre, hp, hJs⟩⟩

theorem downF_take (m k : Nat) (h : k < m) : (downF m).take (k + 1) = (downF m).take k ++ [(m : Int) - 1 - k] := by
  rw [List.take_succ_eq_append_getElem (by rw [downF_len]; exact h)]
  simp [downF]
set_option maxRecDepth 100000 in
set_option maxHeartbeats 2000000 in
theorem back1_in (F : Fence) (n : Nat) (h7 : F.fn 68) (hro : F.round = none) (hn : 1 ≤ n) (l Bs n₀ m : Nat) (hm : m ≤ 90) (hb : Bs < n₀) (J Jx : List R90 → World → Prop)
    (hY : ∀ pre x W, J pre W → pre.length < m → YieldAt F (n - 1) Tryd.prog l #[.int .i64 x.1] W fun e W' =>
      (e = .returned (.bool true) ∧ J (pre ++ [x]) W' ∧ Below n₀ W W') ∨ (e = .returned (.bool false) ∧ Jx (pre ++ [x]) W'))
    (W : World) (hBs : W.cell? ⟨Bs, 0, none⟩ = some (.int .i64 m)) (h0 : J [] W) :
    CallsIn F n Tryd.prog 68 #[.func (.yield l) #[] #[], .pointer (some ⟨Bs, 0, none⟩)] W fun e W' => (∃ v, e = .returned v) ∧
      ((∃ ys, vals ys = downF m ∧ J ys W') ∨ (∃ pre, True ∧ Jx pre W')) := by
  refine callsIn_of_wp Tryd.func68 rfl h7 ?_ hro
  simp only [Tryd.ntmps68, List.size_toArray, List.length_cons, List.length_nil, Nat.reduceAdd, Nat.reduceSub, Array.replicate_succ, Array.replicate_zero, List.push_toArray, List.append_toArray, List.nil_append, List.cons_append]
  gi_wp2
  gi_loopw [5] (fun i wr => ∃ (k : Nat) (pre : List R90), k ≤ m ∧ i = .int .i64 k ∧ vals pre = (downF m).take k ∧ J pre wr ∧ Below n₀ W wr)
    (fun i _ => m - (intOf i).toNat)
  case atStart => exact ⟨0, [], Nat.zero_le _, rfl, rfl, h0, Below.refl _ _⟩
  case round =>
    obtain ⟨k, pre, hk, rfl, hp, hJs, hnx⟩ := hrel
    have hcx := (hnx.cell (p := ⟨Bs, 0, none⟩) hb).trans hBs
    by_cases hlt : k < m
    · have hlen : pre.length = k := by rw [← vals_len, hp, List.length_take, downF_len]; omega
      obtain ⟨fn, tmps, assign, body, hy, hR⟩ := hY pre ⟨(m : Int) - 1 - k, by omega⟩ wr hJs (by omega)
      dsimp only at hy
      gi_wp2
      refine hR.mono ?_
      rintro e W3 (⟨rfl, hJ3, hk3⟩ | ⟨rfl, hJx3⟩)
      · gi_wp2
        go_roundw
        case rel => exact ⟨k + 1, _, by omega, by go_num, by rw [vals_snoc, hp, downF_take m k hlt], hJ3, hnx.trans hk3⟩
        case measure => simp [intOf]; omega
      · gi_wp2
        refine bodyPost_ret (results_none rfl _ _ _) rfl ?_
        exact ⟨⟨_, rfl⟩, .inr ⟨_, trivial, hJx3⟩⟩
    · obtain rfl : k = m := by omega
      gi_wp2
      go_end0
      exact ⟨⟨_, rfl⟩, .inl ⟨pre, by rw [hp, List.take_of_length_le (by rw [downF_len]; omega)], hJs⟩⟩

theorem forth_stops (F : Fence) (n : Nat) (h7 : F.fn 62) (hro : F.round = none) (hn : 1 ≤ n) (Bs m : Nat) (hm : m ≤ 90) (Kp : World → World → Prop) (w : World) (hB : Bs < w.heap.size) (hc : w.cell? ⟨Bs, 0, none⟩ = some (.int .i64 m)) :
    SeqStopsK F n Tryd.prog 62 #[.pointer (some ⟨Bs, 0, none⟩)] (fun x : R90 => #[Value.int .i64 x.1]) Kp (fun ys => vals ys = upF m) (fun _ => True) m w := fun l J Jx W hW _ _ hY h0 =>
  forth1_in F n h7 hro hn l Bs m hm Kp J Jx hY W ((hW.cell (p := ⟨Bs, 0, none⟩) hB).trans hc) h0
theorem back_stops (F : Fence) (n : Nat) (h7 : F.fn 68) (hro : F.round = none) (hn : 1 ≤ n) (Bs n₀ m : Nat) (hm : m ≤ 90) (w : World) (hB : Bs < w.heap.size) (hb : Bs < n₀) (hc : w.cell? ⟨Bs, 0, none⟩ = some (.int .i64 m)) :
    SeqStopsK F n Tryd.prog 68 #[.pointer (some ⟨Bs, 0, none⟩)] (fun x : R90 => #[Value.int .i64 x.1]) (Below n₀) (fun ys => vals ys = downF m) (fun _ => True) m w := fun l J Jx W hW _ _ hY h0 =>
  back1_in F n h7 hro hn l Bs n₀ m hm hb J Jx hY W ((hW.cell (p := ⟨Bs, 0, none⟩) hB).trans hc) h0
theorem forth_calls (m : Int) (w : World) : Calls Tryd.prog 49 #[.int .i64 m] w fun e w' => e = .returned (.func (.func 62) #[] #[.pointer (some ⟨w.heap.size, 0, none⟩)]) ∧ Box w' w.heap.size #[.int .i64 m] 3 ∧ Below w.heap.size w w' := by
  have HB := Aside0.mk (Below.refl w.heap.size w)
  go_enter Tryd.func49, Tryd.ntmps49
  go_wp2
  go_ret
  exact ⟨rfl, Box.new, (by repeat (first | exact HB.out | apply below_alloc | apply pw_below_drewN | apply below_drew1 | refine below_set ?_ (by first | omega | (simp; omega))))⟩
theorem back_calls9 (m : Int) (w : World) : Calls Tryd.prog 58 #[.int .i64 m] w fun e w' => e = .returned (.func (.func 68) #[] #[.pointer (some ⟨w.heap.size, 0, none⟩)]) ∧ Box w' w.heap.size #[.int .i64 m] 3 ∧ Below w.heap.size w w' := by
  have HB := Aside0.mk (Below.refl w.heap.size w)
  go_enter Tryd.func58, Tryd.ntmps58
  go_wp2
  go_ret
  exact ⟨rfl, Box.new, (by repeat (first | exact HB.out | apply below_alloc | apply pw_below_drewN | apply below_drew1 | refine below_set ?_ (by first | omega | (simp; omega))))⟩

theorem keeps_below {W W' : World} (h : Below W.heap.size W W') : KeepsOthers W W' :=
  ⟨h.size, fun k o hk _ => (h.block k (Array.getElem?_eq_some_iff.1 hk).1).trans hk⟩
theorem Box.kept {W W' : World} {row : Option Nat} {b : Nat} {cs : Array Value} {T : TypeId} (h : Box W b cs T) (hg : W.grownBy W' row) (hr : ∀ r, row = some r → ∃ o : Obj, W.heap[r]? = some o ∧ o.isCells = false) : Box W' b cs T :=
  (grownBy_keeps_cells hg hr h rfl).trans h
theorem row_kept {W W' : World} {row : Option Nat} {e base : Nat} {v : Value} {xs : List Int} (h : (Kd.int .i64).R e W base (fun _ => True) v xs) (hg : W.grownBy W' row) (hr : ∀ r, row = some r → ∃ o : Obj, W.heap[r]? = some o ∧ o.isCells = false) : (Kd.int .i64).R e W' base (fun _ => True) v xs :=
  Kd.R_mono (Kd.R_step (Kd.R_bound h) (fun k hk hlt => by
    obtain ⟨_, _, _, q, _, cells, hc⟩ := hk
    exact grownBy_keeps_cells hg hr hc rfl)) (fun k hk => hk.1)
end Go.Proofs.YtdepmbnoecpccaaDoor
