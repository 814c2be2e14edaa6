
/- What the document's own functions of chapter 9 compute. -/
import Derived.Test.YtdepmbnoecpccaaDoorShufAll
set_option linter.unusedVariables false
set_option linter.unusedSimpArgs false
namespace Go.Proofs.YtdepmbnoecpccaaDoor
open Go.RowKit Go.Proofs.YtdepmbnoecpccaaDoorW.PrintWords Go.Proofs.YtdepmbnoecpccaaDoorW.PrintLast Go.Proofs.YtdepmbnoecpccaaDoorW.PrintMore

set_option maxHeartbeats 2000000 in
theorem RPlace_yes (n seed i : Int) (m : Nat) (w : World) (h : mayB n m i = true) (hs : 0 ≤ seed) : Calls Tryd.prog 35 #[.int .i64 n, .int .i64 m, .int .u64 seed, .int .i64 i] w fun e w' =>
    e = .returned (.tuple #[.int .i64 (placeF n seed m i), .int .i64 0]) ∧ Below w.heap.size w w' := by
  have HB := Aside0.mk (Below.refl w.heap.size w)
  obtain ⟨hn, hm, hi⟩ := (may_iff n m i).1 h
  go_enter Tryd.func35, Tryd.ntmps35
  go_wp2_with fail
  refine (may9_calls n m i _).mono ?_
  rintro e w1 ⟨rfl, hb_⟩
  have n_ := Aside0.mk (below_step (by repeat (first | exact HB.out | apply below_alloc | apply pw_below_drewN | apply below_drew1 | refine below_set ?_ (by first | omega | (simp; omega)))) hb_); clear HB hb_; have HB := n_; clear n_
  go_wp2
  go_loopw [11, 12] (fun kv rv wr => ∃ r : Nat, r ≤ m ∧ rv = .int .i64 r ∧ kv = .int .i64 (runF n seed (upF r) i) ∧ Below w.heap.size w wr) (fun _ rv _ => m - (intOf rv).toNat)
  case atStart => exact ⟨0, by omega, rfl, by rw [show upF 0 = [] from rfl, run_nil], HB.out⟩
  case round =>
    clear HB
    obtain ⟨r, hr, rfl, rfl, hb⟩ := hrel
    have HB := Aside0.mk hb
    clear hb
    by_cases hlt : r < m
    · have hc := run_bd n seed (upF r) i hi
      have HS := Aside0.mk (show runF n seed (upF (r + 1)) i = swapF n seed r (runF n seed (upF r) i) by rw [upF_succ, run_snoc])
      generalize runF n seed (upF r) i = c at *
      have hmy : mayB n 0 c = true := (may_iff n 0 c).2 ⟨hn, by omega, hc⟩
      go_wp2_with (go_at_call 56; ((with_reducible refine (RRound_yes n seed r c _ hmy (by omega) hs).mono ?_)); rintro e w_ ⟨rfl, hb_⟩; have n_ := Aside0.mk (below_step (by repeat (first | exact HB.out | apply below_alloc | apply pw_below_drewN | apply below_drew1 | refine below_set ?_ (by first | omega | (simp; omega)))) hb_); clear HB hb_; have HB := n_; clear n_)
      go_roundw
      case rel => exact ⟨r + 1, by omega, by go_num, by rw [HS.out], HB.out⟩
      case measure => simp [intOf]; omega
    · obtain rfl : m = r := by omega
      go_wp2
      go_ret2
      exact ⟨rfl, HB.out⟩
set_option maxHeartbeats 2000000 in
theorem RBack_yes (n seed i : Int) (m : Nat) (w : World) (h : mayB n m i = true) (hs : 0 ≤ seed) : Calls Tryd.prog 41 #[.int .i64 n, .int .i64 m, .int .u64 seed, .int .i64 i] w fun e w' =>
    e = .returned (.tuple #[.int .i64 (backF9 n seed m i), .int .i64 0]) ∧ Below w.heap.size w w' := by
  have HB := Aside0.mk (Below.refl w.heap.size w)
  obtain ⟨hn, hm, hi⟩ := (may_iff n m i).1 h
  go_enter Tryd.func41, Tryd.ntmps41
  go_wp2_with fail
  refine (may9_calls n m i _).mono ?_
  rintro e w1 ⟨rfl, hb_⟩
  have n_ := Aside0.mk (below_step (by repeat (first | exact HB.out | apply below_alloc | apply pw_below_drewN | apply below_drew1 | refine below_set ?_ (by first | omega | (simp; omega)))) hb_); clear HB hb_; have HB := n_; clear n_
  go_wp2
  go_loopw [11, 12] (fun kv rv wr => ∃ (j : Nat) (z : Int), j ≤ m ∧ z = (j : Int) - 1 ∧ rv = .int .i64 z ∧ kv = .int .i64 (runF n seed ((downF m).take (m - j)) i) ∧ Below w.heap.size w wr) (fun _ rv _ => (intOf rv + 1).toNat)
  case atStart => exact ⟨m, _, by omega, rfl, rfl, by rw [Nat.sub_self, List.take_zero, run_nil], HB.out⟩
  case round =>
    clear HB
    obtain ⟨j, z, hj, hz, rfl, rfl, hb⟩ := hrel
    have HB := Aside0.mk hb
    clear hb
    cases j with
    | succ j =>
      obtain rfl : z = (j : Int) := by omega
      clear hz
      have hc := run_bd n seed ((downF m).take (m - (j + 1))) i hi
      have e : runF n seed ((downF m).take (m - j)) i = swapF n seed j (runF n seed ((downF m).take (m - (j + 1))) i) := by
        have e1 : m - j = m - (j + 1) + 1 := by omega
        rw [e1, downF_take m (m - (j + 1)) (by omega), run_snoc]
        congr 1
        omega
      have HS := Aside0.mk e
      clear e
      generalize runF n seed ((downF m).take (m - (j + 1))) i = c at *
      have hmy : mayB n 0 c = true := (may_iff n 0 c).2 ⟨hn, by omega, hc⟩
      go_wp2_with (go_at_call 56; ((with_reducible refine (RRound_yes n seed j c _ hmy (by omega) hs).mono ?_)); rintro e w_ ⟨rfl, hb_⟩; have n_ := Aside0.mk (below_step (by repeat (first | exact HB.out | apply below_alloc | apply pw_below_drewN | apply below_drew1 | refine below_set ?_ (by first | omega | (simp; omega)))) hb_); clear HB hb_; have HB := n_; clear n_)
      go_roundw
      case rel => exact ⟨j, _, by omega, rfl, rfl, by rw [HS.out], HB.out⟩
      case measure => simp [intOf]
    | zero =>
      obtain rfl : z = -1 := by omega
      clear hz
      go_wp2
      go_ret2
      exact ⟨by rw [Nat.sub_zero, List.take_of_length_le (by rw [downF_len]; omega)]; rfl, HB.out⟩
theorem RPlace_no (n m seed i : Int) (w : World) (h : mayB n m i = false) : Calls Tryd.prog 35 #[.int .i64 n, .int .i64 m, .int .u64 seed, .int .i64 i] w fun e w' =>
    e = .returned (.tuple #[.int .i64 0, .int .i64 1]) ∧ Below w.heap.size w w' := by
  have HB := Aside0.mk (Below.refl w.heap.size w)
  go_enter Tryd.func35, Tryd.ntmps35
  go_wp2_with fail
  refine (may9_calls n m i _).mono ?_
  rintro e w1 ⟨rfl, hb_⟩
  have n_ := Aside0.mk (below_step (by repeat (first | exact HB.out | apply below_alloc | apply pw_below_drewN | apply below_drew1 | refine below_set ?_ (by first | omega | (simp; omega)))) hb_); clear HB hb_; have HB := n_; clear n_
  go_wp2
  go_ret2
  exact ⟨rfl, HB.out⟩
theorem RBack_no (n m seed i : Int) (w : World) (h : mayB n m i = false) : Calls Tryd.prog 41 #[.int .i64 n, .int .i64 m, .int .u64 seed, .int .i64 i] w fun e w' =>
    e = .returned (.tuple #[.int .i64 0, .int .i64 1]) ∧ Below w.heap.size w w' := by
  have HB := Aside0.mk (Below.refl w.heap.size w)
  go_enter Tryd.func41, Tryd.ntmps41
  go_wp2_with fail
  refine (may9_calls n m i _).mono ?_
  rintro e w1 ⟨rfl, hb_⟩
  have n_ := Aside0.mk (below_step (by repeat (first | exact HB.out | apply below_alloc | apply pw_below_drewN | apply below_drew1 | refine below_set ?_ (by first | omega | (simp; omega)))) hb_); clear HB hb_; have HB := n_; clear n_
  go_wp2
  go_ret2
  exact ⟨rfl, HB.out⟩
theorem All_no (n m seed : Int) (w : World) (h : mayB n m 0 = false) : Calls Tryd.prog 24 #[.int .i64 n, .int .i64 m, .int .u64 seed] w fun e w' =>
    e = .returned (.tuple #[.slice none 0 0, .int .i64 1]) ∧ Below w.heap.size w w' := by
  have HB := Aside0.mk (Below.refl w.heap.size w)
  go_enter Tryd.func24, Tryd.ntmps24
  go_wp2_with fail
  refine (fits9_calls n m 0 _).mono ?_
  rintro e w1 ⟨rfl, hb_⟩
  have Y3 : Box w1 (w.heap.size) _ _ := Box.below (by repeat (with_reducible first | exact X3.out | exact Box.new | exact Box.new1 | exact Box.new2 | exact Box.new3 | apply Box.alloc | apply Box.drew | apply Box.drewN | apply Box.set)) hb_
  (try clear X3 r3 k3 f3); have X3 := Aside0.mk Y3; have r3 := Y3.cell; have f3 := Y3.frozen; have k3 := Y3.lt; clear Y3
  have Y5 : Box w1 (w.heap.size + 1) _ _ := Box.below (by repeat (with_reducible first | exact X5.out | exact Box.new | exact Box.new1 | exact Box.new2 | exact Box.new3 | apply Box.alloc | apply Box.drew | apply Box.drewN | apply Box.set)) hb_
  (try clear X5 r5 k5 f5); have X5 := Aside0.mk Y5; have r5 := Y5.cell; have f5 := Y5.frozen; have k5 := Y5.lt; clear Y5
  have n_ := Aside0.mk (below_step (by repeat (first | exact HB.out | apply below_alloc | apply pw_below_drewN | apply below_drew1 | refine below_set ?_ (by first | omega | (simp; omega)))) hb_); clear HB hb_; have HB := n_; clear n_
  go_wp2
  go_ret2
  exact ⟨rfl, HB.out⟩

def partF (N : Nat) (seed : Int) (m k : Nat) : List Int := (List.range k).map fun (j : Nat) => placeF N seed m j
theorem partF_snoc (N : Nat) (seed : Int) (m k : Nat) : partF N seed m (k + 1) = partF N seed m k ++ [placeF N seed m k] := by
  unfold partF; rw [List.range_succ, List.map_append]; rfl
theorem partF_len (N : Nat) (seed : Int) (m k : Nat) : (partF N seed m k).length = k := by simp [partF]
/-- Are two lists the same? -/
theorem take_same {xs ys : List Int} (k : Nat) (h : xs.take k = ys.take k) (h1 : k < xs.length) (h2 : k < ys.length) (h3 : nth xs k = nth ys k) : xs.take (k + 1) = ys.take (k + 1) := by
  rw [List.take_succ_eq_append_getElem h1, List.take_succ_eq_append_getElem h2, h, ← nth_eq h1, ← nth_eq h2, h3]
theorem nth_of_eq {xs ys : List Int} (h : xs = ys) (k : Nat) : nth xs k = nth ys k := by rw [h]
set_option maxHeartbeats 2000000 in
theorem Ints_calls (A B : Option Addr) (m n c d : Nat) (xs ys : List Int) (w : World) (hx : (Kd.int .i64).C w A m xs) (hy : (Kd.int .i64).C w B n ys) :
    Calls Tryd.prog 18 #[.slice A m c, .slice B n d] w fun e w' => e = .returned (.bool (decide (xs = ys))) ∧ Below w.heap.size w w' := by
  obtain rfl := Kd.C_len hx
  obtain rfl := Kd.C_len hy
  have hmx := Kd.C_max hx
  have HX := Aside0.mk hx
  have HY := Aside0.mk hy
  clear hx hy
  by_cases hl : xs.length = ys.length
  · go_enter Tryd.func18, Tryd.ntmps18
    go_wp2
    go_loopw [5] (fun i wr => ∃ k : Nat, k ≤ xs.length ∧ i = .int .i64 k ∧ xs.take k = ys.take k ∧ Below w.heap.size w wr) (fun i _ => xs.length - (intOf i).toNat)
    case atStart => exact ⟨0, by omega, rfl, rfl, Below.refl _ _⟩
    case round =>
      obtain ⟨k, hk, rfl, ht, hb⟩ := hrel
      have HB := Aside0.mk hb
      have HT := Aside0.mk ht
      clear hb ht
      by_cases hlt : k < xs.length
      · have hlt2 : k < ys.length := by omega
        obtain ⟨b1, o1, s1, rfl, hc1⟩ := C_nat HX.out k hlt
        obtain ⟨b2, o2, s2, rfl, hc2⟩ := C_nat HY.out k hlt2
        replace hc1 := (HB.out.cell (cell_lt hc1)).trans hc1
        replace hc2 := (HB.out.cell (cell_lt hc2)).trans hc2
        have HE := Aside0.mk (fun h => take_same k HT.out hlt hlt2 h)
        have HF := Aside0.mk (fun (h : xs = ys) => nth_of_eq h k)
        generalize nth xs k = x at *
        generalize nth ys k = y at *
        by_cases hxy : x = y
        · have HE2 := Aside0.mk (HE.out hxy)
          clear HE HF
          subst hxy
          go_wp2
          go_quiet (fail)
          go_wp2
          go_roundw
          case rel => exact ⟨k + 1, by omega, by go_num, HE2.out, pw_below_drewN HB.out _⟩
          case measure => simp [intOf]; omega
        · go_wp2
          go_quiet (fail)
          go_wp2
          go_ret
          exact ⟨ret_bool (decide_eq_false (fun h => hxy (HF.out h))).symm, pw_below_drewN HB.out _⟩
      · go_wp2
        go_ret
        exact ⟨ret_bool (decide_eq_true (by have := HT.out; rwa [List.take_of_length_le (by omega), List.take_of_length_le (by omega)] at this)).symm, HB.out⟩
  · go_enter Tryd.func18, Tryd.ntmps18
    go_wp2
    go_ret
    exact ⟨ret_bool (decide_eq_false (fun h => hl (by rw [h]))).symm, Below.refl _ _⟩
end Go.Proofs.YtdepmbnoecpccaaDoor
