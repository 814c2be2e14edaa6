
/- What shuffle's functions and the document's own of chapter 9 compute. -/
import Derived.Test.YtdepmbnoecpccaaDoorShufPure
set_option linter.unusedVariables false
set_option linter.unusedSimpArgs false
namespace Go.Proofs.YtdepmbnoecpccaaDoor
open Go.RowKit Go.Proofs.YtdepmbnoecpccaaDoorW.PrintWords Go.Proofs.YtdepmbnoecpccaaDoorW.PrintLast Go.Proofs.YtdepmbnoecpccaaDoorW.PrintMore
attribute [local go_sem] max2_int min2_int max_two min_two

set_option maxHeartbeats 1000000 in
theorem fits9_calls (n m i : Int) (w : World) : Calls Tryd.prog 48 #[.int .i64 n, .int .i64 m, .int .i64 i] w fun e w' => e = .returned (.bool (mayB n m i)) ∧ Below w.heap.size w w' := by
  have HB := Aside0.mk (Below.refl w.heap.size w)
  go_enter Tryd.func48, Tryd.ntmps48
  go_wp2
  all_goals go_ret
  all_goals exact ⟨ret_bool (by rw [Bool.eq_iff_iff, mayB]; simp; omega), (by repeat (first | exact HB.out | apply below_alloc | apply pw_below_drewN | apply below_drew1 | refine below_set ?_ (by first | omega | (simp; omega))))⟩
set_option maxHeartbeats 1000000 in
theorem may9_calls (n m i : Int) (w : World) : Calls Tryd.prog 55 #[.int .i64 n, .int .i64 m, .int .i64 i] w fun e w' => e = .returned (.bool (mayB n m i)) ∧ Below w.heap.size w w' := by
  have HB := Aside0.mk (Below.refl w.heap.size w)
  go_enter Tryd.func55, Tryd.ntmps55
  go_wp2
  all_goals go_ret
  all_goals exact ⟨ret_bool (by rw [Bool.eq_iff_iff, mayB]; simp; omega), (by repeat (first | exact HB.out | apply below_alloc | apply pw_below_drewN | apply below_drew1 | refine below_set ?_ (by first | omega | (simp; omega))))⟩

/-- A function value that is one round's swap, of boxes from lo on. -/
def IsSwap (w : World) (lo : Nat) (fv : Value) (n seed r : Int) : Prop := ∃ b1 b2 b3 b4 : Nat, fv = .func (.func 64) #[] #[.pointer (some ⟨b1, 0, none⟩), .pointer (some ⟨b2, 0, none⟩), .pointer (some ⟨b3, 0, none⟩), .pointer (some ⟨b4, 0, none⟩)] ∧
  Box w b1 #[.int .i64 (drawF n [seed, r])] 3 ∧ Box w b2 #[.int .i64 n] 3 ∧ Box w b3 #[.int .u64 seed] 22 ∧ Box w b4 #[.int .u64 r] 22 ∧ (lo ≤ b1 ∧ lo ≤ b2 ∧ lo ≤ b3 ∧ lo ≤ b4)

set_option maxHeartbeats 1000000 in
theorem swapper_calls (n seed r : Int) (w : World) (hn : n ≤ 9223372036854775807) (hs : 0 ≤ seed) (hr : 0 ≤ r ∧ r ≤ 9223372036854775807) (hG : ChurnLaid w) :
    Calls Tryd.prog 50 #[.int .i64 n, .int .u64 seed, .int .i64 r] w fun e w' => ∃ fv, e = .returned fv ∧ IsSwap w' w.heap.size fv n seed r ∧ Below w.heap.size w w' := by
  have HB := Aside0.mk (Below.refl w.heap.size w)
  have HG := Aside0.mk hG
  clear hG
  obtain ⟨hr0, hr1⟩ := hr
  have hw : IntKind.u64.wrap r = r := by rw [IntKind.wrap_u64]; omega
  go_enter Tryd.func50, Tryd.ntmps50
  go_wp2_with fail
  refine (Draw2_calls n seed r _ 22 _ ?hb hn hs hr0 ?hG).mono ?_
  case hG => exact HG.out.below (by repeat (first | exact HB.out | apply below_alloc | apply pw_below_drewN | apply below_drew1 | refine below_set ?_ (by first | omega | (simp; omega))))
  case hb => exact Box.new3
  rintro e w1 ⟨rfl, hb_⟩
  have Y1 : Box w1 (w.heap.size) _ _ := Box.below (by repeat (with_reducible first | exact X1.out | exact Box.new | exact Box.new1 | exact Box.new2 | exact Box.new3 | apply Box.alloc | apply Box.drew | apply Box.drewN | apply Box.set)) hb_
  (try clear X1 r1 k1 f1); have X1 := Aside0.mk Y1; have r1 := Y1.cell; have f1 := Y1.frozen; have k1 := Y1.lt; clear Y1
  have Y2 : Box w1 (w.heap.size + 1) _ _ := Box.below (by repeat (with_reducible first | exact X2.out | exact Box.new | exact Box.new1 | exact Box.new2 | exact Box.new3 | apply Box.alloc | apply Box.drew | apply Box.drewN | apply Box.set)) hb_
  (try clear X2 r2 k2 f2); have X2 := Aside0.mk Y2; have r2 := Y2.cell; have f2 := Y2.frozen; have k2 := Y2.lt; clear Y2
  have Y3 : Box w1 (w.heap.size + 1 + 1) _ _ := Box.below (by repeat (with_reducible first | exact X3.out | exact Box.new | exact Box.new1 | exact Box.new2 | exact Box.new3 | apply Box.alloc | apply Box.drew | apply Box.drewN | apply Box.set)) hb_
  (try clear X3 r3 k3 f3); have X3 := Aside0.mk Y3; have r3 := Y3.cell; have f3 := Y3.frozen; have k3 := Y3.lt; clear Y3
  have n_ := Aside0.mk (below_step (by repeat (first | exact HB.out | apply below_alloc | apply pw_below_drewN | apply below_drew1 | refine below_set ?_ (by first | omega | (simp; omega)))) hb_); clear HB hb_; have HB := n_; clear n_
  go_wp2
  go_ret
  exact ⟨_, rfl, ⟨_, _, _, _, rfl, Box.new, Box.alloc X1.out, Box.alloc X2.out, Box.alloc X3.out, HB.out.size, Nat.le_refl _, by omega, by omega⟩, (by repeat (first | exact HB.out | apply below_alloc | apply pw_below_drewN | apply below_drew1 | refine below_set ?_ (by first | omega | (simp; omega))))⟩

theorem flip_tmod {n seed r i : Int} (hn : 1 ≤ n ∧ n ≤ 65536) (hi : 0 ≤ i ∧ i < n) : (drawF n [seed, r] + n - i).tmod n = flipF n seed r i := by
  have := draw_bd n [seed, r] hn.1
  rw [Int.tmod_eq_emod_of_nonneg (by omega)]
  rfl
set_option maxHeartbeats 1000000 in
theorem swap1_calls (n seed r i : Int) (b1 b2 b3 b4 : Nat) (w : World) (h1 : Box w b1 #[.int .i64 (drawF n [seed, r])] 3) (h2 : Box w b2 #[.int .i64 n] 3) (h3 : Box w b3 #[.int .u64 seed] 22) (h4 : Box w b4 #[.int .u64 r] 22)
    (hn : 1 ≤ n ∧ n ≤ 65536) (hi : 0 ≤ i ∧ i < n) (hs : 0 ≤ seed) (hr : 0 ≤ r) (hG : ChurnLaid w) :
    Calls Tryd.prog 64 #[.int .i64 i, .pointer (some ⟨b1, 0, none⟩), .pointer (some ⟨b2, 0, none⟩), .pointer (some ⟨b3, 0, none⟩), .pointer (some ⟨b4, 0, none⟩)] w fun e w' => e = .returned (.int .i64 (swapF n seed r i)) ∧ Below w.heap.size w w' := by
  have HB := Aside0.mk (Below.refl w.heap.size w)
  have HG := Aside0.mk hG
  have ht := flip_tmod (seed := seed) (r := r) hn hi
  have hp := draw_bd n [seed, r] hn.1
  have hf := flip_bd n seed r i hn.1
  have hsw : swapF n seed r i = if bitF [seed, r, max i (flipF n seed r i)] then flipF n seed r i else i := rfl
  rw [hsw]
  clear hsw hG
  generalize flipF n seed r i = f at *
  have hm : (if i < f then f else i) = max i f := by split <;> omega
  have hm2 : 0 ≤ max i f ∧ max i f < n := by omega
  generalize max i f = t at *
  generalize drawF n [seed, r] = p at *
  have hw : IntKind.u64.wrap t = t := by rw [IntKind.wrap_u64]; omega
  have r1 := h1.cell
  have r2 := h2.cell
  have r3 := h3.cell
  have r4 := h4.cell
  have hn0 : ¬ n = 0 := by omega
  clear h1 h2 h3 h4
  rcases Bool.eq_false_or_eq_true (bitF [seed, r, t]) with hb | hb
  all_goals
    rw [hb]
    go_enter Tryd.func64, Tryd.ntmps64
    go_wp2_with (go_at_call 65; ((with_reducible refine (Bit3_calls seed r t _ 22 _ ?hb hs hr hm2.1 ?hG).mono ?_)); (case hb => exact Box.new); (case hG => exact HG.out.below (by repeat (first | exact HB.out | apply below_alloc | apply pw_below_drewN | apply below_drew1 | refine below_set ?_ (by first | omega | (simp; omega))))); rw [hb]; rintro e w1 ⟨rfl, hb_⟩; have n_ := Aside0.mk (below_step (by repeat (first | exact HB.out | apply below_alloc | apply pw_below_drewN | apply below_drew1 | refine below_set ?_ (by first | omega | (simp; omega)))) hb_); clear HB hb_; have HB := n_; clear n_)
    go_ret
    exact ⟨rfl, HB.out⟩

def roundA (n seed r i : Int) : Int := if mayB n 0 i && decide (0 ≤ r ∧ r < 90) then swapF n seed r i else 0
def placeA (n seed m i : Int) : Int := if mayB n m i then placeF n seed m.toNat i else 0
def backA (n seed m i : Int) : Int := if mayB n m i then backF9 n seed m.toNat i else 0
def errA (b : Bool) : Int := if b then 0 else 1
theorem may_iff (n m i : Int) : mayB n m i = true ↔ (1 ≤ n ∧ n ≤ 65536) ∧ (0 ≤ m ∧ m ≤ 90) ∧ 0 ≤ i ∧ i < n := by unfold mayB; exact decide_eq_true_iff

set_option maxHeartbeats 2000000 in
theorem RRound_yes (n seed r i : Int) (w : World) (h : mayB n 0 i = true) (hr : 0 ≤ r ∧ r < 90) (hs : 0 ≤ seed) : Calls Tryd.prog 56 #[.int .i64 n, .int .u64 seed, .int .i64 r, .int .i64 i] w fun e w' =>
    e = .returned (.tuple #[.int .i64 (swapF n seed r i), .int .i64 0]) ∧ Below w.heap.size w w' := by
  have HB := Aside0.mk (Below.refl w.heap.size w)
  obtain ⟨hn, -, hi⟩ := (may_iff n 0 i).1 h
  have ht := flip_tmod (seed := seed) (r := r) hn hi
  have hp := draw_bd n [seed, r] hn.1
  have hf := flip_bd n seed r i hn.1
  have hsw : swapF n seed r i = if bitF [seed, r, max i (flipF n seed r i)] then flipF n seed r i else i := rfl
  rw [hsw]
  clear hsw
  generalize flipF n seed r i = f at *
  have hm : (if i < f then f else i) = max i f := by split <;> omega
  have hm2 : 0 ≤ max i f ∧ max i f < n := by omega
  generalize max i f = t at *
  generalize hpe : drawF n [seed, r] = p at *
  have HP := Aside0.mk hpe
  clear hpe
  have hw : IntKind.u64.wrap t = t := by rw [IntKind.wrap_u64]; omega
  have hw2 : IntKind.u64.wrap r = r := by rw [IntKind.wrap_u64]; omega
  have hn0 : ¬ n = 0 := by omega
  rcases Bool.eq_false_or_eq_true (bitF [seed, r, t]) with hb | hb
  all_goals
    rw [hb]
    go_enter Tryd.func56, Tryd.ntmps56
    go_wp2_with fail
    refine (may9_calls n 0 i _).mono ?_
    rintro e w1 ⟨rfl, hb_⟩
    have n_ := Aside0.mk (below_step (by repeat (first | exact HB.out | apply below_alloc | apply pw_below_drewN | apply below_drew1 | refine below_set ?_ (by first | omega | (simp; omega)))) hb_); clear HB hb_; have HB := n_; clear n_
    go_wp2_with fail
    refine (RDraw2_calls n seed r _ 22 _ ?hb (by omega) hs hr.1).mono ?_
    case hb => exact Box.new
    rintro e w2 ⟨rfl, hb_⟩
    have n_ := Aside0.mk (below_step (by repeat (first | exact HB.out | apply below_alloc | apply pw_below_drewN | apply below_drew1 | refine below_set ?_ (by first | omega | (simp; omega)))) hb_); clear HB hb_; have HB := n_; clear n_
    rw [HP.out]
    go_wp2_with fail
    refine (RBit3_calls seed r t _ 22 _ ?hb hs hr.1 hm2.1).mono ?_
    case hb => exact Box.new
    rintro e w3 ⟨rfl, hb_⟩
    have n_ := Aside0.mk (below_step (by repeat (first | exact HB.out | apply below_alloc | apply pw_below_drewN | apply below_drew1 | refine below_set ?_ (by first | omega | (simp; omega)))) hb_); clear HB hb_; have HB := n_; clear n_
    rw [hb]
    go_wp2
    go_ret2
    exact ⟨rfl, HB.out⟩
set_option maxHeartbeats 2000000 in
theorem RRound_no (n seed r i : Int) (w : World) (h : (mayB n 0 i && decide (0 ≤ r ∧ r < 90)) = false) : Calls Tryd.prog 56 #[.int .i64 n, .int .u64 seed, .int .i64 r, .int .i64 i] w fun e w' =>
    e = .returned (.tuple #[.int .i64 0, .int .i64 1]) ∧ Below w.heap.size w w' := by
  have HB := Aside0.mk (Below.refl w.heap.size w)
  rcases Bool.eq_false_or_eq_true (mayB n 0 i) with hm | hm
  · have hr : r < 0 ∨ (0 ≤ r ∧ 89 < r) := by simp [hm] at h; omega
    clear h
    rcases hr with hr | hr
    all_goals
      go_enter Tryd.func56, Tryd.ntmps56
      go_wp2_with fail
      refine (may9_calls n 0 i _).mono ?_
      rintro e w1 ⟨rfl, hb_⟩
      have n_ := Aside0.mk (below_step (by repeat (first | exact HB.out | apply below_alloc | apply pw_below_drewN | apply below_drew1 | refine below_set ?_ (by first | omega | (simp; omega)))) hb_); clear HB hb_; have HB := n_; clear n_
      go_wp2
      go_ret2
      exact ⟨rfl, HB.out⟩
  · clear h
    go_enter Tryd.func56, Tryd.ntmps56
    go_wp2_with fail
    refine (may9_calls n 0 i _).mono ?_
    rintro e w1 ⟨rfl, hb_⟩
    have n_ := Aside0.mk (below_step (by repeat (first | exact HB.out | apply below_alloc | apply pw_below_drewN | apply below_drew1 | refine below_set ?_ (by first | omega | (simp; omega)))) hb_); clear HB hb_; have HB := n_; clear n_
    go_wp2
    go_ret2
    exact ⟨rfl, HB.out⟩
end Go.Proofs.YtdepmbnoecpccaaDoor
