
/- What the document's own functions of chapter 9 compute. -/
import Derived.Test.YtejfjbfkbdcmnaaDoorShufAll
set_option linter.unusedVariables false
set_option linter.unusedSimpArgs false
namespace Go.Proofs.YtejfjbfkbdcmnaaDoor
open Go.RowKit Go.Proofs.YtejfjbfkbdcmnaaDoorW.PrintWords Go.Proofs.YtejfjbfkbdcmnaaDoorW.PrintLast Go.Proofs.YtejfjbfkbdcmnaaDoorW.PrintMore

set_option maxHeartbeats 2000000 in
theorem RPlace_yes (n seed i : Int) (m : Nat) (w : World) (h : mayB n m i = true) (hs : 0 ≤ seed) : Calls Tryd.prog 32 #[.int .i64 n, .int .i64 m, .int .u64 seed, .int .i64 i] w fun e w' =>
    e = .returned (.tuple #[.int .i64 (placeF n seed m i), .int .i64 0]) ∧ Below w.heap.size w w' := by
  have HB := Aside0.mk (Below.refl w.heap.size w)
  obtain ⟨hn, hm, hi⟩ := (may_iff n m i).1 h
  go_enter Tryd.func32, Tryd.ntmps32
  go_wp2_with fail
  refine (may9_calls n m i _).mono ?_
  rintro e w1 ⟨rfl, hb_⟩
  have n_ := Aside0.mk (below_step (by repeat (first | exact HB.out | apply below_alloc | apply pw_below_drewN | apply below_drew1 | refine below_set ?_ (by first | omega | (simp; omega)))) hb_); clear HB hb_; have HB := n_; clear n_
  go_wp2
  go_loopw [11, 12] (fun kv rv wr => ∃ r : Nat, r ≤ m ∧ rv = .int .i64 r ∧ kv = .int .i64 (runF n seed (upF r) i) ∧ Below w.heap.size w wr) (fun _ rv _ => m - (intOf rv).toNat)
  case atStart => exact ⟨0, by omega, rfl, by rw [show upF 0 = [] from rfl, run_nil], HB.out⟩
  case round =>
    clear HB
    obtain ⟨r, hr, rfl, rfl, hb⟩ := hrel
    have HB := Aside0.mk hb
    clear hb
    by_cases hlt : r < m
    · have hc := run_bd n seed (upF r) i hi
      have HS := Aside0.mk (show runF n seed (upF (r + 1)) i = swapF n seed r (runF n seed (upF r) i) by rw [upF_succ, run_snoc])
      generalize runF n seed (upF r) i = c at *
      have hmy : mayB n 0 c = true := (may_iff n 0 c).2 ⟨hn, by omega, hc⟩
      go_wp2_with (go_at_call 47; ((with_reducible refine (RRound_yes n seed r c _ hmy (by omega) hs).mono ?_)); rintro e w_ ⟨rfl, hb_⟩; have n_ := Aside0.mk (below_step (by repeat (first | exact HB.out | apply below_alloc | apply pw_below_drewN | apply below_drew1 | refine below_set ?_ (by first | omega | (simp; omega)))) hb_); clear HB hb_; have HB := n_; clear n_)
      go_roundw
      case rel => exact ⟨r + 1, by omega, by go_num, by rw [HS.out], HB.out⟩
      case measure => simp [intOf]; omega
    · obtain rfl : m = r := by omega
      go_wp2
      go_ret2
      exact ⟨rfl, HB.out⟩
theorem RPlace_no (n m seed i : Int) (w : World) (h : mayB n m i = false) : Calls Tryd.prog 32 #[.int .i64 n, .int .i64 m, .int .u64 seed, .int .i64 i] w fun e w' =>
    e = .returned (.tuple #[.int .i64 0, .int .i64 1]) ∧ Below w.heap.size w w' := by
  have HB := Aside0.mk (Below.refl w.heap.size w)
  go_enter Tryd.func32, Tryd.ntmps32
  go_wp2_with fail
  refine (may9_calls n m i _).mono ?_
  rintro e w1 ⟨rfl, hb_⟩
  have n_ := Aside0.mk (below_step (by repeat (first | exact HB.out | apply below_alloc | apply pw_below_drewN | apply below_drew1 | refine below_set ?_ (by first | omega | (simp; omega)))) hb_); clear HB hb_; have HB := n_; clear n_
  go_wp2
  go_ret2
  exact ⟨rfl, HB.out⟩
def partF (N : Nat) (seed : Int) (m k : Nat) : List Int := (List.range k).map fun (j : Nat) => placeF N seed m j
theorem partF_snoc (N : Nat) (seed : Int) (m k : Nat) : partF N seed m (k + 1) = partF N seed m k ++ [placeF N seed m k] := by
  unfold partF; rw [List.range_succ, List.map_append]; rfl
theorem partF_len (N : Nat) (seed : Int) (m k : Nat) : (partF N seed m k).length = k := by simp [partF]
/-- Are two lists the same? -/
theorem take_same {xs ys : List Int} (k : Nat) (h : xs.take k = ys.take k) (h1 : k < xs.length) (h2 : k < ys.length) (h3 : nth xs k = nth ys k) : xs.take (k + 1) = ys.take (k + 1) := by
  rw [List.take_succ_eq_append_getElem h1, List.take_succ_eq_append_getElem h2, h, ← nth_eq h1, ← nth_eq h2, h3]
theorem nth_of_eq {xs ys : List Int} (h : xs = ys) (k : Nat) : nth xs k = nth ys k := by rw [h]
end Go.Proofs.YtejfjbfkbdcmnaaDoor
