import Derived.Test.YtdepmbnoecpccaaDoorQx0
import Derived.Test.YtdepmbnoecpccaaDoorQx1
import Derived.Test.YtdepmbnoecpccaaDoorBase
import Derived.Deep.RegionHeld3
import Derived.Test.YtdepmbnoecpccaaDoorBoxes
import Derived.Lib.AppendStr
import Derived.Test.YtdepmbnoecpccaaDoorChurnWalk
import Derived.StillTailTactics
import Derived.Test.YtdepmbnoecpccaaDoorDutyNo
set_option linter.unusedVariables false
set_option linter.unusedSimpArgs false
namespace Go.Proofs.YtdepmbnoecpccaaDoor
theorem qa_ {α : Type _} (l : List α) (i : Nat) (a : α) : l.toArray.setIfInBounds i a = (l.set i a).toArray := List.setIfInBounds_toArray ..
theorem qb_ {α : Type _} (x a : α) (xs : List α) : (x :: xs).set 0 a = a :: xs := rfl
theorem qc_ {α : Type _} (x a : α) (xs : List α) (n : Nat) : (x :: xs).set (n + 1) a = x :: xs.set n a := rfl
end Go.Proofs.YtdepmbnoecpccaaDoor
namespace Go.Proofs.YtdepmbnoecpccaaDoor.PQ
open Go.RowKit Go.Proofs.YtdepmbnoecpccaaDoorW.PrintWords Go.Proofs.YtdepmbnoecpccaaDoorW.PrintLast Go.Proofs.YtdepmbnoecpccaaDoorW.PrintMore
attribute [local go_sem] max2_int min2_int max_two min_two max_three min_three max_four min_four   -- for this text's walks alone

attribute [local go_sem high] eqA53

/-! ### cmp_Or_int: function 72 -/
def cmp_Or_int.l0 : Nat → Int → List Int → Int → Int → Option (Int)
  | 0, _, _, _, _ => none
  | k + 1, x3, x6, x7, x8 => if x8 < x7 then (if 0 ≤ x8 then (if x8 < (x6.length : Int) then (if (rd x6 x8) = x3 then (cmp_Or_int.l0 k x3 x6 x7 (wrap64 (x8 + 1))) else (some (rd x6 x8))) else (none)) else (none)) else (some x3)
def cmp_Or_int.f (k : Nat) (l0 : List Int) : Option (Int) := cmp_Or_int.l0 k 0 l0 (l0.length : Int) 0
theorem cmp_Or_int.mono_l : ∀ k, (∀ y0 y1 y2 y3, LeO (cmp_Or_int.l0 k y0 y1 y2 y3) (cmp_Or_int.l0 (k + 1) y0 y1 y2 y3))
  | 0 => fun _ _ _ _ r h => by simp [cmp_Or_int.l0] at h
  | k + 1 => by
    have ih0 := cmp_Or_int.mono_l k
    · intro y0 y1 y2 y3
      unfold cmp_Or_int.l0
      repeat' first
      | (with_reducible exact ih0 _ _ _ _)
      | (with_reducible exact LeO.refl _)
      | (with_reducible exact LeO.none _)
      | (with_reducible refine LeO.ite ?_ ?_)
      | (with_reducible refine LeO.bind ?_ (fun _ => ?_))
      | exact ih0 _ _ _ _
      | exact LeO.none _
      | refine LeO.ite ?_ ?_
      | refine LeO.bind ?_ (fun _ => ?_)
theorem cmp_Or_int.mono : ∀ a0 k, LeO (cmp_Or_int.f k a0) (cmp_Or_int.f (k + 1) a0) := by
  intro a0 k
  have ih0 := cmp_Or_int.mono_l k
  unfold cmp_Or_int.f
  repeat' first
      | (with_reducible exact ih0 _ _ _ _)
      | (with_reducible exact LeO.refl _)
      | (with_reducible exact LeO.none _)
      | (with_reducible refine LeO.ite ?_ ?_)
      | (with_reducible refine LeO.bind ?_ (fun _ => ?_))
      | exact ih0 _ _ _ _
      | exact LeO.none _
      | refine LeO.ite ?_ ?_
      | refine LeO.bind ?_ (fun _ => ?_)
set_option maxHeartbeats 8000000 in
set_option maxRecDepth 100000 in
theorem cmp_Or_int.calls (k : Nat) (A0 : Option Addr) (c0 : Nat) (l0 : List Int) (r : Int) (w : World) (hr0 : Kd.C (Kd.int .i64) w A0 l0.length l0) (hc0 : l0.length ≤ c0) (h : cmp_Or_int.f k l0 = some r) :
    Calls Tryd.prog 72 #[.slice A0 l0.length c0] w fun e w' => e = .returned (.int .i64 r) ∧ Drawn0 w w' := by
  have HR0 := Aside0.mk hr0
  have HC0 := Aside0.mk hc0
  clear hr0 hc0
  have H : (cmp_Or_int.l0 k 0 l0 (l0.length : Int) 0) = some r := h
  clear h
  have H' := Aside0.mk H
  clear H
  go_enter Tryd.func72, Tryd.ntmps72
  go_wp2
  go_loopg [8] k (fun kq v8 w' => ∃ (x8_1 : Int), v8 = .int .i64 x8_1 ∧ Aside0 (cmp_Or_int.l0 kq 0 l0 (l0.length : Int) x8_1 = some r) ∧ Aside0 (kq ≤ k) ∧ Drawn0 w w')
  case atStart => exact ⟨(0), (by first | rfl | (simp; done) | (simp [*]; done)), H', ⟨Nat.le_refl _⟩, by repeat (first | exact Drawn0.refl _ | apply Drawn0.step)⟩
  case round =>
    clear H'
    obtain ⟨x8_1, rfl, HA, HK1, ⟨m1, rfl⟩⟩ := hrel
    cases gk with
    | zero => exact absurd HA.out (by simp [cmp_Or_int.l0])
    | succ k1 =>
      have H := HA.out
      clear HA
      simp only [cmp_Or_int.l0] at H
      by_cases c2 : x8_1 < (l0.length : Int)
      · rw [if_pos c2] at H
        have c2b0 : decide (x8_1 < (l0.length : Int)) = true := decide_eq_true c2
        clear c2
        by_cases c3 : 0 ≤ x8_1
        · rw [if_pos c3] at H
          have c3b0 : decide (0 ≤ x8_1) = true := decide_eq_true c3
          clear c3
          by_cases c4 : x8_1 < (l0.length : Int)
          · rw [if_pos c4] at H
            have c4b0 : decide (x8_1 < (l0.length : Int)) = true := decide_eq_true c4
            clear c4
            by_cases c5 : (rd l0 x8_1) = 0
            · rw [if_pos c5] at H
              have c5b0 : ((rd l0 x8_1) == 0) = true := beq_iff_eq.mpr c5
              have c5b1 : ((rd l0 x8_1) != 0) = false := bne_eq_false_iff_eq.mpr c5
              clear c5
              have H' := Aside0.mk H
              clear H
              have p136 : 0 ≤ (x8_1 : Int) := of_decide_eq_true (by first | (with_reducible assumption) | assumption)
              have q136 : x8_1 < (l0.length : Int) := of_decide_eq_true (by first | (with_reducible assumption) | assumption)
              obtain ⟨ad136, e136, hx136_0⟩ := Kd.at_int HR0.out x8_1 p136 q136
              cases e136
              replace p136 := eq_true p136
              replace q136 := eq_true q136
              go_wp2
              go_roundg k1
              case measure => have := HK1.out; omega
              case rel => exact ⟨(wrap64 (x8_1 + 1)), (by first | rfl | (simp; done) | (simp [*]; done)), H', ⟨by have := HK1.out; omega⟩, by repeat (first | exact Drawn0.refl _ | apply Drawn0.step)⟩
            · rw [if_neg c5] at H
              have c5b0 : ((rd l0 x8_1) == 0) = false := beq_eq_false_iff_ne.mpr c5
              have c5b1 : ((rd l0 x8_1) != 0) = true := bne_iff_ne.mpr c5
              obtain rfl := Option.some.inj H
              have p136 : 0 ≤ (x8_1 : Int) := of_decide_eq_true (by first | (with_reducible assumption) | assumption)
              have q136 : x8_1 < (l0.length : Int) := of_decide_eq_true (by first | (with_reducible assumption) | assumption)
              obtain ⟨ad136, e136, hx136_0⟩ := Kd.at_int HR0.out x8_1 p136 q136
              cases e136
              replace p136 := eq_true p136
              replace q136 := eq_true q136
              go_wp2
              go_ret
              exact ⟨by first | rfl | (simp; done) | (simp [*]; done), by repeat (first | exact Drawn0.refl _ | apply Drawn0.step)⟩
          · rw [if_neg c4] at H
            exact absurd H (by simp)
        · rw [if_neg c3] at H
          exact absurd H (by simp)
      · rw [if_neg c2] at H
        have c2b0 : decide (x8_1 < (l0.length : Int)) = false := decide_eq_false c2
        clear c2
        obtain rfl := Option.some.inj H
        go_wp2
        go_ret
        exact ⟨by first | rfl | (simp; done) | (simp [*]; done), by repeat (first | exact Drawn0.refl _ | apply Drawn0.step)⟩
end Go.Proofs.YtdepmbnoecpccaaDoor.PQ

namespace Go.Proofs.YtdepmbnoecpccaaDoor.PQ
open Go.RowKit Go.Proofs.YtdepmbnoecpccaaDoorW.PrintWords Go.Proofs.YtdepmbnoecpccaaDoorW.PrintLast Go.Proofs.YtdepmbnoecpccaaDoorW.PrintMore
attribute [local go_sem] max2_int min2_int max_two min_two max_three min_three max_four min_four   -- for this text's walks alone

attribute [local go_sem high] eqA53

/-! ### cmp_isNaN_uint64: function 74 -/
def cmp_isNaN_uint64.f (a0 : Int) : Option (Bool) := some (a0 != a0)
set_option maxHeartbeats 8000000 in
set_option maxRecDepth 100000 in
theorem cmp_isNaN_uint64.calls (a0 : Int) (r : Bool) (w : World) (h : cmp_isNaN_uint64.f a0 = some r) :
    Calls Tryd.prog 74 #[.int .u64 a0] w fun e w' => e = .returned (.bool r) ∧ Drawn0 w w' := by
  have H : (some (a0 != a0)) = some r := h
  clear h
  obtain rfl := Option.some.inj H
  go_enter Tryd.func74, Tryd.ntmps74
  go_wp2
  go_ret
  exact ⟨by first | rfl | (simp; done) | (simp [*]; done), by repeat (first | exact Drawn0.refl _ | apply Drawn0.step)⟩
end Go.Proofs.YtdepmbnoecpccaaDoor.PQ

namespace Go.Proofs.YtdepmbnoecpccaaDoor.PQ
open Go.RowKit Go.Proofs.YtdepmbnoecpccaaDoorW.PrintWords Go.Proofs.YtdepmbnoecpccaaDoorW.PrintLast Go.Proofs.YtdepmbnoecpccaaDoorW.PrintMore
attribute [local go_sem] max2_int min2_int max_two min_two max_three min_three max_four min_four   -- for this text's walks alone

attribute [local go_sem high] eqA53

/-! ### cmp_Compare_uint64: function 73 -/
def cmp_Compare_uint64.f (a0 : Int) (a1 : Int) : Option (Int) := (cmp_isNaN_uint64.f a0).bind fun t137 => ((cmp_isNaN_uint64.f a1).bind fun t138 => (if t137 = true then (if t138 = true then (some 0) else (some (-1))) else (if t138 = true then (some 1) else (if a0 < a1 then (some (-1)) else (if a0 > a1 then (some 1) else (some 0))))))
set_option maxHeartbeats 8000000 in
set_option maxRecDepth 100000 in
theorem cmp_Compare_uint64.calls (a0 : Int) (a1 : Int) (r : Int) (w : World) (h : cmp_Compare_uint64.f a0 a1 = some r) :
    Calls Tryd.prog 73 #[.int .u64 a0, .int .u64 a1] w fun e w' => e = .returned (.int .i64 r) ∧ Drawn0 w w' := by
  have H : ((cmp_isNaN_uint64.f a0).bind fun t137 => ((cmp_isNaN_uint64.f a1).bind fun t138 => (if t137 = true then (if t138 = true then (some 0) else (some (-1))) else (if t138 = true then (some 1) else (if a0 < a1 then (some (-1)) else (if a0 > a1 then (some 1) else (some 0))))))) = some r := h
  clear h
  replace H := Option.bind_eq_some_iff.mp H
  obtain ⟨t137, A30, H⟩ := H
  replace H : ((cmp_isNaN_uint64.f a1).bind fun t138 => (if t137 = true then (if t138 = true then (some 0) else (some (-1))) else (if t138 = true then (some 1) else (if a0 < a1 then (some (-1)) else (if a0 > a1 then (some 1) else (some 0)))))) = some r := H
  have A3 := Aside0.mk A30
  clear A30
  replace H := Option.bind_eq_some_iff.mp H
  obtain ⟨t138, A40, H⟩ := H
  replace H : (if t137 = true then (if t138 = true then (some 0) else (some (-1))) else (if t138 = true then (some 1) else (if a0 < a1 then (some (-1)) else (if a0 > a1 then (some 1) else (some 0))))) = some r := H
  have A4 := Aside0.mk A40
  clear A40
  by_cases c5 : t137 = true
  · subst c5
    have H1 : (if t138 = true then (some 0) else (some (-1))) = some r := by rw [if_pos rfl] at H; exact H
    clear H
    have H := H1
    clear H1
    by_cases c6 : t138 = true
    · subst c6
      have H1 : (some 0) = some r := by rw [if_pos rfl] at H; exact H
      clear H
      have H := H1
      clear H1
      obtain rfl := Option.some.inj H
      go_enter Tryd.func73, Tryd.ntmps73
      go_wp2_with (first | ((with_reducible refine gate_callee (f := 74) rfl ?_); refine goesL_ (some 8) rfl rfl Tryd.func74 (by kernel_rfl) rfl #[.int .u64 a0] rfl (by (try simp only [List.map_toArray, List.map_cons, List.map_nil]); first | done | rfl | (simp only [List.length_drop, List.length_take]; rfl)) ?_; (with_reducible refine (cmp_isNaN_uint64.calls a0 true _ A3.out).mono ?_); rintro e w' ⟨rfl, ⟨nd, rfl⟩⟩; refine ⟨_, rfl, ?_⟩) | ((with_reducible refine gate_callee (f := 74) rfl ?_); refine goesL_ (some 10) rfl rfl Tryd.func74 (by kernel_rfl) rfl #[.int .u64 a1] rfl (by (try simp only [List.map_toArray, List.map_cons, List.map_nil]); first | done | rfl | (simp only [List.length_drop, List.length_take]; rfl)) ?_; (with_reducible refine (cmp_isNaN_uint64.calls a1 true _ A4.out).mono ?_); rintro e w' ⟨rfl, ⟨nd, rfl⟩⟩; refine ⟨_, rfl, ?_⟩))
      go_ret
      exact ⟨by first | rfl | (simp; done) | (simp [*]; done), by repeat (first | exact Drawn0.refl _ | apply Drawn0.step)⟩
    · replace c6 := Bool.eq_false_iff.mpr c6
      subst c6
      have H1 : (some (-1)) = some r := by rw [if_neg (show ¬ (false = true) by decide)] at H; exact H
      clear H
      have H := H1
      clear H1
      obtain rfl := Option.some.inj H
      go_enter Tryd.func73, Tryd.ntmps73
      go_wp2_with (first | ((with_reducible refine gate_callee (f := 74) rfl ?_); refine goesL_ (some 8) rfl rfl Tryd.func74 (by kernel_rfl) rfl #[.int .u64 a0] rfl (by (try simp only [List.map_toArray, List.map_cons, List.map_nil]); first | done | rfl | (simp only [List.length_drop, List.length_take]; rfl)) ?_; (with_reducible refine (cmp_isNaN_uint64.calls a0 true _ A3.out).mono ?_); rintro e w' ⟨rfl, ⟨nd, rfl⟩⟩; refine ⟨_, rfl, ?_⟩) | ((with_reducible refine gate_callee (f := 74) rfl ?_); refine goesL_ (some 10) rfl rfl Tryd.func74 (by kernel_rfl) rfl #[.int .u64 a1] rfl (by (try simp only [List.map_toArray, List.map_cons, List.map_nil]); first | done | rfl | (simp only [List.length_drop, List.length_take]; rfl)) ?_; (with_reducible refine (cmp_isNaN_uint64.calls a1 false _ A4.out).mono ?_); rintro e w' ⟨rfl, ⟨nd, rfl⟩⟩; refine ⟨_, rfl, ?_⟩))
      go_ret
      exact ⟨by first | rfl | (simp; done) | (simp [*]; done), by repeat (first | exact Drawn0.refl _ | apply Drawn0.step)⟩
  · replace c5 := Bool.eq_false_iff.mpr c5
    subst c5
    have H1 : (if t138 = true then (some 1) else (if a0 < a1 then (some (-1)) else (if a0 > a1 then (some 1) else (some 0)))) = some r := by rw [if_neg (show ¬ (false = true) by decide)] at H; exact H
    clear H
    have H := H1
    clear H1
    by_cases c7 : t138 = true
    · subst c7
      have H1 : (some 1) = some r := by rw [if_pos rfl] at H; exact H
      clear H
      have H := H1
      clear H1
      obtain rfl := Option.some.inj H
      go_enter Tryd.func73, Tryd.ntmps73
      go_wp2_with (first | ((with_reducible refine gate_callee (f := 74) rfl ?_); refine goesL_ (some 8) rfl rfl Tryd.func74 (by kernel_rfl) rfl #[.int .u64 a0] rfl (by (try simp only [List.map_toArray, List.map_cons, List.map_nil]); first | done | rfl | (simp only [List.length_drop, List.length_take]; rfl)) ?_; (with_reducible refine (cmp_isNaN_uint64.calls a0 false _ A3.out).mono ?_); rintro e w' ⟨rfl, ⟨nd, rfl⟩⟩; refine ⟨_, rfl, ?_⟩) | ((with_reducible refine gate_callee (f := 74) rfl ?_); refine goesL_ (some 10) rfl rfl Tryd.func74 (by kernel_rfl) rfl #[.int .u64 a1] rfl (by (try simp only [List.map_toArray, List.map_cons, List.map_nil]); first | done | rfl | (simp only [List.length_drop, List.length_take]; rfl)) ?_; (with_reducible refine (cmp_isNaN_uint64.calls a1 true _ A4.out).mono ?_); rintro e w' ⟨rfl, ⟨nd, rfl⟩⟩; refine ⟨_, rfl, ?_⟩))
      go_ret
      exact ⟨by first | rfl | (simp; done) | (simp [*]; done), by repeat (first | exact Drawn0.refl _ | apply Drawn0.step)⟩
    · replace c7 := Bool.eq_false_iff.mpr c7
      subst c7
      have H1 : (if a0 < a1 then (some (-1)) else (if a0 > a1 then (some 1) else (some 0))) = some r := by rw [if_neg (show ¬ (false = true) by decide)] at H; exact H
      clear H
      have H := H1
      clear H1
      by_cases c8 : a0 < a1
      · rw [if_pos c8] at H
        have c8b0 : decide (a0 < a1) = true := decide_eq_true c8
        clear c8
        obtain rfl := Option.some.inj H
        go_enter Tryd.func73, Tryd.ntmps73
        go_wp2_with (first | ((with_reducible refine gate_callee (f := 74) rfl ?_); refine goesL_ (some 8) rfl rfl Tryd.func74 (by kernel_rfl) rfl #[.int .u64 a0] rfl (by (try simp only [List.map_toArray, List.map_cons, List.map_nil]); first | done | rfl | (simp only [List.length_drop, List.length_take]; rfl)) ?_; (with_reducible refine (cmp_isNaN_uint64.calls a0 false _ A3.out).mono ?_); rintro e w' ⟨rfl, ⟨nd, rfl⟩⟩; refine ⟨_, rfl, ?_⟩) | ((with_reducible refine gate_callee (f := 74) rfl ?_); refine goesL_ (some 10) rfl rfl Tryd.func74 (by kernel_rfl) rfl #[.int .u64 a1] rfl (by (try simp only [List.map_toArray, List.map_cons, List.map_nil]); first | done | rfl | (simp only [List.length_drop, List.length_take]; rfl)) ?_; (with_reducible refine (cmp_isNaN_uint64.calls a1 false _ A4.out).mono ?_); rintro e w' ⟨rfl, ⟨nd, rfl⟩⟩; refine ⟨_, rfl, ?_⟩))
        go_ret
        exact ⟨by first | rfl | (simp; done) | (simp [*]; done), by repeat (first | exact Drawn0.refl _ | apply Drawn0.step)⟩
      · rw [if_neg c8] at H
        have c8b0 : decide (a0 < a1) = false := decide_eq_false c8
        clear c8
        by_cases c9 : a0 > a1
        · rw [if_pos c9] at H
          have c9b0 : decide (a1 < a0) = true := decide_eq_true c9
          clear c9
          obtain rfl := Option.some.inj H
          go_enter Tryd.func73, Tryd.ntmps73
          go_wp2_with (first | ((with_reducible refine gate_callee (f := 74) rfl ?_); refine goesL_ (some 8) rfl rfl Tryd.func74 (by kernel_rfl) rfl #[.int .u64 a0] rfl (by (try simp only [List.map_toArray, List.map_cons, List.map_nil]); first | done | rfl | (simp only [List.length_drop, List.length_take]; rfl)) ?_; (with_reducible refine (cmp_isNaN_uint64.calls a0 false _ A3.out).mono ?_); rintro e w' ⟨rfl, ⟨nd, rfl⟩⟩; refine ⟨_, rfl, ?_⟩) | ((with_reducible refine gate_callee (f := 74) rfl ?_); refine goesL_ (some 10) rfl rfl Tryd.func74 (by kernel_rfl) rfl #[.int .u64 a1] rfl (by (try simp only [List.map_toArray, List.map_cons, List.map_nil]); first | done | rfl | (simp only [List.length_drop, List.length_take]; rfl)) ?_; (with_reducible refine (cmp_isNaN_uint64.calls a1 false _ A4.out).mono ?_); rintro e w' ⟨rfl, ⟨nd, rfl⟩⟩; refine ⟨_, rfl, ?_⟩))
          go_ret
          exact ⟨by first | rfl | (simp; done) | (simp [*]; done), by repeat (first | exact Drawn0.refl _ | apply Drawn0.step)⟩
        · rw [if_neg c9] at H
          have c9b0 : decide (a1 < a0) = false := decide_eq_false c9
          clear c9
          obtain rfl := Option.some.inj H
          go_enter Tryd.func73, Tryd.ntmps73
          go_wp2_with (first | ((with_reducible refine gate_callee (f := 74) rfl ?_); refine goesL_ (some 8) rfl rfl Tryd.func74 (by kernel_rfl) rfl #[.int .u64 a0] rfl (by (try simp only [List.map_toArray, List.map_cons, List.map_nil]); first | done | rfl | (simp only [List.length_drop, List.length_take]; rfl)) ?_; (with_reducible refine (cmp_isNaN_uint64.calls a0 false _ A3.out).mono ?_); rintro e w' ⟨rfl, ⟨nd, rfl⟩⟩; refine ⟨_, rfl, ?_⟩) | ((with_reducible refine gate_callee (f := 74) rfl ?_); refine goesL_ (some 10) rfl rfl Tryd.func74 (by kernel_rfl) rfl #[.int .u64 a1] rfl (by (try simp only [List.map_toArray, List.map_cons, List.map_nil]); first | done | rfl | (simp only [List.length_drop, List.length_take]; rfl)) ?_; (with_reducible refine (cmp_isNaN_uint64.calls a1 false _ A4.out).mono ?_); rintro e w' ⟨rfl, ⟨nd, rfl⟩⟩; refine ⟨_, rfl, ?_⟩))
          go_ret
          exact ⟨by first | rfl | (simp; done) | (simp [*]; done), by repeat (first | exact Drawn0.refl _ | apply Drawn0.step)⟩
end Go.Proofs.YtdepmbnoecpccaaDoor.PQ

namespace Go.Proofs.YtdepmbnoecpccaaDoor.PQ
open Go.RowKit Go.Proofs.YtdepmbnoecpccaaDoorW.PrintWords Go.Proofs.YtdepmbnoecpccaaDoorW.PrintLast Go.Proofs.YtdepmbnoecpccaaDoorW.PrintMore
attribute [local go_sem] max2_int min2_int max_two min_two max_three min_three max_four min_four   -- for this text's walks alone

attribute [local go_sem high] eqA53

/-! ### token_order: function 70 -/
def token_order.f (k : Nat) (a0_0 : Int) (a0_1 : Int) (a1_0 : Int) (a1_1 : Int) : Option (Int) := if (a0_0 == a1_0 && (a0_1 == a1_1)) = true then (some 0) else ((cmp_Compare_uint64.f a0_0 a1_0).bind fun t141 => ((cmp_Compare_uint64.f a0_1 a1_1).bind fun t142 => ((cmp_Or_int.f k (([t141, t142] : List Int))).bind fun t146 => (some t146))))
theorem token_order.mono : ∀ a0 a1 a2 a3 k, LeO (token_order.f k a0 a1 a2 a3) (token_order.f (k + 1) a0 a1 a2 a3) := by
  intro a0 a1 a2 a3 k
  unfold token_order.f
  repeat' first
      | (with_reducible exact cmp_Or_int.mono _ _)
      | (with_reducible exact LeO.refl _)
      | (with_reducible exact LeO.none _)
      | (with_reducible refine LeO.ite ?_ ?_)
      | (with_reducible refine LeO.bind ?_ (fun _ => ?_))
      | exact cmp_Or_int.mono _ _
      | exact LeO.none _
      | refine LeO.ite ?_ ?_
      | refine LeO.bind ?_ (fun _ => ?_)
def token_order.T3 : Bool × List (List Nat × List Nat) := (true, [([], []), ([0], [0]), ([], []), ([2], [2]), ([1, 3], [1, 3]), ([], []), ([5], [5]), ([], []), ([7], [7]), ([6, 8, 4], [6, 8]), ([4, 9], [4, 9]), ([10, 9], [10]), ([11, 11, 0, 1, 2, 3, 4, 5, 6, 7, 8, 9, 10, 11], [11])])
def token_order.B3 : List Nat := [0, 1, 0, 4, 15, 0, 32, 0, 128, 511, 1023, 2047, 4095]
theorem token_order.tab3 : rtab .any (opsOf Tryd.f70 3) = token_order.T3 := by kernel_rfl
theorem token_order.bits3 : waitsOk token_order.T3.2 token_order.B3 = true := by kernel_rfl
set_option maxHeartbeats 8000000 in
set_option maxRecDepth 100000 in
theorem token_order.calls (k : Nat) (a0_0 : Int) (a0_1 : Int) (a1_0 : Int) (a1_1 : Int) (r : Int) (w : World) (h : token_order.f k a0_0 a0_1 a1_0 a1_1 = some r) :
    Calls Tryd.prog 70 #[.agg #[.int .u64 a0_0, .int .u64 a0_1], .agg #[.int .u64 a1_0, .int .u64 a1_1]] w fun e w' => e = .returned (.int .i64 r) ∧ Below w.heap.size w w' := by
  have hu53 := Tryd.underlying53
  have HB := Aside0.mk (Below.refl w.heap.size w)
  have H : (if (a0_0 == a1_0 && (a0_1 == a1_1)) = true then (some 0) else ((cmp_Compare_uint64.f a0_0 a1_0).bind fun t141 => ((cmp_Compare_uint64.f a0_1 a1_1).bind fun t142 => ((cmp_Or_int.f k (([t141, t142] : List Int))).bind fun t146 => (some t146))))) = some r := h
  clear h
  by_cases c3 : (a0_0 == a1_0 && (a0_1 == a1_1)) = true
  · rw [if_pos c3] at H
    have c3b0 : (a0_0 == a1_0 && (a0_1 == a1_1)) = true := c3
    (try (have c3b1 : decide (a0_0 = a1_0 && (a0_1 == a1_1)) = true := by simpa using c3))
    (try (have c3b2 : (a0_0 == a1_0 && (a0_1 == a1_1)) = true := by simpa using c3))
    clear c3
    obtain rfl := Option.some.inj H
    go_enter Tryd.func70, Tryd.ntmps70
    go_wp2_with (first | ((with_reducible refine gate_dst (N := 2) rfl ?_); refine box_event ?hg (N := 2) ?hd (cs := #[.int .u64 a0_0, .int .u64 a0_1]) (t := 53) ?hr ?_; (case hd => rfl); (case hg => rfl); (case hr => first | (go_simp; done) | (go_simp; rfl)); intro gb139 hg w4 hbox hb; have n0_ := Aside0.mk (below_step (by repeat (first | (with_reducible first | exact HB.out | apply below_alloc | apply pw_below_drewN | apply below_drew1) | exact HB.out)) hb); have n1_ := Aside0.mk (hbox); have n2_ := Aside0.mk ((by rw [hg]; exact (below_size (by repeat (first | (with_reducible first | exact HB.out | apply below_alloc | apply pw_below_drewN | apply below_drew1) | exact HB.out))) : w.heap.size ≤ gb139)); have n3_ := Aside0.mk ((by rw [hg]; exact (below_size (by repeat (first | (with_reducible first | exact HB.out | apply below_alloc | apply pw_below_drewN | apply below_drew1) | exact HB.out))) : w.heap.size ≤ gb139)); clear HB; have HB := n0_; have BK139 := n1_; have GW139 := n2_; have GE139 := n3_; clear n0_ n1_ n2_ n3_; clear hb hbox hg) | ((with_reducible refine gate_dst (N := 3) rfl ?_); refine box_event ?hg (N := 3) ?hd (cs := #[.int .u64 a1_0, .int .u64 a1_1]) (t := 53) ?hr ?_; (case hd => rfl); (case hg => rfl); (case hr => first | (go_simp; done) | (go_simp; rfl)); intro gb140 hg w5 hbox hb; have n0_ := Aside0.mk (blk_below (g := gb139) (o := .cells #[.int .u64 a0_0, .int .u64 a0_1] 53 (0, 0)) (by (with_reducible repeat (first | refine blk_drewN ?_ _ | refine blk_drew ?_ | refine blk_alloc ?_ _)); exact BK139.out) hb); have n1_ := Aside0.mk (below_step (by repeat (first | (with_reducible first | exact HB.out | apply below_alloc | apply pw_below_drewN | apply below_drew1 | refine below_set ?_ GE139.out) | exact HB.out)) hb); have n2_ := Aside0.mk (hbox); have n3_ := Aside0.mk ((by rw [hg]; exact (below_size (by repeat (first | (with_reducible first | exact HB.out | apply below_alloc | apply pw_below_drewN | apply below_drew1 | refine below_set ?_ GE139.out) | exact HB.out))) : w.heap.size ≤ gb140)); have n4_ := Aside0.mk ((by rw [hg]; exact (below_size (by repeat (first | (with_reducible first | exact HB.out | apply below_alloc | apply pw_below_drewN | apply below_drew1 | refine below_set ?_ GE139.out) | exact HB.out))) : w.heap.size ≤ gb140)); have n5_ := Aside0.mk ((by rw [hg]; exact Nat.ne_of_lt (blk_lt (g := gb139) (o := .cells #[.int .u64 a0_0, .int .u64 a0_1] 53 (0, 0)) (by (with_reducible repeat (first | refine blk_drewN ?_ _ | refine blk_drew ?_ | refine blk_alloc ?_ _)); exact BK139.out)) : gb139 ≠ gb140)); have n6_ := Aside0.mk ((by rw [hg]; exact Nat.ne_of_gt (blk_lt (g := gb139) (o := .cells #[.int .u64 a0_0, .int .u64 a0_1] 53 (0, 0)) (by (with_reducible repeat (first | refine blk_drewN ?_ _ | refine blk_drew ?_ | refine blk_alloc ?_ _)); exact BK139.out)) : gb140 ≠ gb139)); clear BK139; clear HB; have BK139 := n0_; have HB := n1_; have BK140 := n2_; have GW140 := n3_; have GE140 := n4_; have NB139_140 := n5_; have NB140_139 := n6_; clear n0_ n1_ n2_ n3_ n4_ n5_ n6_; clear hb hbox hg; have hnb6 := NB139_140.out; have hnc6 := NB140_139.out; have hcz7_0 : w5.cell? ⟨gb139, 0, none⟩ = some (.int .u64 a0_0) := (blk_cell BK139.out 0).trans rfl; have hcz7_1 : w5.cell? ⟨gb139, 1, none⟩ = some (.int .u64 a0_1) := (blk_cell BK139.out 1).trans rfl; have hfz7_0 := blk_frozen BK139.out 0; have hfz7_1 := blk_frozen BK139.out 1; have hcz8_0 : w5.cell? ⟨gb140, 0, none⟩ = some (.int .u64 a1_0) := (blk_cell BK140.out 0).trans rfl; have hcz8_1 : w5.cell? ⟨gb140, 1, none⟩ = some (.int .u64 a1_1) := (blk_cell BK140.out 1).trans rfl; have hfz8_0 := blk_frozen BK140.out 0; have hfz8_1 := blk_frozen BK140.out 1))
    go_ret
    exact ⟨by first | rfl | (simp [errW_none, errW_some] <;> rfl) | (simp [*, errW_none, errW_some] <;> rfl), by repeat (first | (with_reducible first | exact HB.out | apply below_alloc | apply pw_below_drewN | apply below_drew1 | refine below_set ?_ GE139.out | refine below_set ?_ GE140.out) | exact HB.out)⟩
  · rw [if_neg c3] at H
    have c3b0 : (a0_0 == a1_0 && (a0_1 == a1_1)) = false := by simpa using c3
    (try (have c3b1 : decide (a0_0 = a1_0 && (a0_1 == a1_1)) = false := by simpa using c3))
    (try (have c3b2 : (a0_0 == a1_0 && (a0_1 == a1_1)) = false := by simpa using c3))
    (try (have c3b3 : ¬ (a0_0 = a1_0 && (a0_1 == a1_1)) := by simpa using c3))
    clear c3
    replace H := Option.bind_eq_some_iff.mp H
    obtain ⟨t141, A90, H⟩ := H
    replace H : ((cmp_Compare_uint64.f a0_1 a1_1).bind fun t142 => ((cmp_Or_int.f k (([t141, t142] : List Int))).bind fun t146 => (some t146))) = some r := H
    have A9 := Aside0.mk A90
    clear A90
    replace H := Option.bind_eq_some_iff.mp H
    obtain ⟨t142, A100, H⟩ := H
    replace H : ((cmp_Or_int.f k (([t141, t142] : List Int))).bind fun t146 => (some t146)) = some r := H
    have A10 := Aside0.mk A100
    clear A100
    obtain ⟨y143, hy143⟩ : ∃ y_ : List Int, y_ = (([t141, t142] : List Int)) := ⟨_, rfl⟩
    replace H : ((cmp_Or_int.f k y143).bind fun t146 => (some t146)) = some r := by first | (rw [hy143]; with_reducible exact H) | (have H2_ := (Option.bind_some _ _).symm.trans H; rw [hy143]; with_reducible exact H2_) | (have H2_ := (Option.bind_some _ _).symm.trans H; with_reducible exact H2_) | with_reducible exact H | (rw [hy143]; exact H) | exact H
    have Ny143 := Aside0.mk hy143
    clear hy143
    replace H := Option.bind_eq_some_iff.mp H
    obtain ⟨t146, A110, H⟩ := H
    replace H : (some t146) = some r := H
    have A11 := Aside0.mk A110
    clear A110
    obtain rfl := Option.some.inj H
    go_enter Tryd.func70, Tryd.ntmps70
    try go_wp2_with (first | ((with_reducible refine gate_dst (N := 2) rfl ?_); refine box_event ?hg (N := 2) ?hd (cs := #[.int .u64 a0_0, .int .u64 a0_1]) (t := 53) ?hr ?_; (case hd => rfl); (case hg => rfl); (case hr => first | (go_simp; done) | (go_simp; rfl)); intro gb139 hg w12 hbox hb; have n0_ := Aside0.mk (below_step (by repeat (first | (with_reducible first | exact HB.out | apply below_alloc | apply pw_below_drewN | apply below_drew1) | exact HB.out)) hb); have n1_ := Aside0.mk (hbox); have n2_ := Aside0.mk ((by rw [hg]; exact (below_size (by repeat (first | (with_reducible first | exact HB.out | apply below_alloc | apply pw_below_drewN | apply below_drew1) | exact HB.out))) : w.heap.size ≤ gb139)); have n3_ := Aside0.mk ((by rw [hg]; exact (below_size (by repeat (first | (with_reducible first | exact HB.out | apply below_alloc | apply pw_below_drewN | apply below_drew1) | exact HB.out))) : w.heap.size ≤ gb139)); clear HB; have HB := n0_; have BK139 := n1_; have GW139 := n2_; have GE139 := n3_; clear n0_ n1_ n2_ n3_; clear hb hbox hg) | ((with_reducible refine gate_dst (N := 3) rfl ?_); refine box_event ?hg (N := 3) ?hd (cs := #[.int .u64 a1_0, .int .u64 a1_1]) (t := 53) ?hr ?_; (case hd => rfl); (case hg => rfl); (case hr => first | (go_simp; done) | (go_simp; rfl)); intro gb140 hg w13 hbox hb; have n0_ := Aside0.mk (blk_below (g := gb139) (o := .cells #[.int .u64 a0_0, .int .u64 a0_1] 53 (0, 0)) (by (with_reducible repeat (first | refine blk_drewN ?_ _ | refine blk_drew ?_ | refine blk_alloc ?_ _)); exact BK139.out) hb); have n1_ := Aside0.mk (below_step (by repeat (first | (with_reducible first | exact HB.out | apply below_alloc | apply pw_below_drewN | apply below_drew1 | refine below_set ?_ GE139.out) | exact HB.out)) hb); have n2_ := Aside0.mk (hbox); have n3_ := Aside0.mk ((by rw [hg]; exact (below_size (by repeat (first | (with_reducible first | exact HB.out | apply below_alloc | apply pw_below_drewN | apply below_drew1 | refine below_set ?_ GE139.out) | exact HB.out))) : w.heap.size ≤ gb140)); have n4_ := Aside0.mk ((by rw [hg]; exact (below_size (by repeat (first | (with_reducible first | exact HB.out | apply below_alloc | apply pw_below_drewN | apply below_drew1 | refine below_set ?_ GE139.out) | exact HB.out))) : w.heap.size ≤ gb140)); have n5_ := Aside0.mk ((by rw [hg]; exact Nat.ne_of_lt (blk_lt (g := gb139) (o := .cells #[.int .u64 a0_0, .int .u64 a0_1] 53 (0, 0)) (by (with_reducible repeat (first | refine blk_drewN ?_ _ | refine blk_drew ?_ | refine blk_alloc ?_ _)); exact BK139.out)) : gb139 ≠ gb140)); have n6_ := Aside0.mk ((by rw [hg]; exact Nat.ne_of_gt (blk_lt (g := gb139) (o := .cells #[.int .u64 a0_0, .int .u64 a0_1] 53 (0, 0)) (by (with_reducible repeat (first | refine blk_drewN ?_ _ | refine blk_drew ?_ | refine blk_alloc ?_ _)); exact BK139.out)) : gb140 ≠ gb139)); clear BK139; clear HB; have BK139 := n0_; have HB := n1_; have BK140 := n2_; have GW140 := n3_; have GE140 := n4_; have NB139_140 := n5_; have NB140_139 := n6_; clear n0_ n1_ n2_ n3_ n4_ n5_ n6_; clear hb hbox hg; have hnb14 := NB139_140.out; have hnc14 := NB140_139.out; have hcz15_0 : w13.cell? ⟨gb139, 0, none⟩ = some (.int .u64 a0_0) := (blk_cell BK139.out 0).trans rfl; have hcz15_1 : w13.cell? ⟨gb139, 1, none⟩ = some (.int .u64 a0_1) := (blk_cell BK139.out 1).trans rfl; have hfz15_0 := blk_frozen BK139.out 0; have hfz15_1 := blk_frozen BK139.out 1; have hcz16_0 : w13.cell? ⟨gb140, 0, none⟩ = some (.int .u64 a1_0) := (blk_cell BK140.out 0).trans rfl; have hcz16_1 : w13.cell? ⟨gb140, 1, none⟩ = some (.int .u64 a1_1) := (blk_cell BK140.out 1).trans rfl; have hfz16_0 := blk_frozen BK140.out 0; have hfz16_1 := blk_frozen BK140.out 1))
    have n0_ := Aside0.mk (blk_drew BK139.out)
    have n1_ := Aside0.mk (blk_drew BK140.out)
    have n2_ := Aside0.mk (below_drew1 HB.out)
    clear BK139
    clear BK140
    clear HB
    have BK139 := n0_
    have BK140 := n1_
    have HB := n2_
    clear n0_ n1_ n2_
    refine start_ (n := 13) (S := fun w' => w'.cell? ⟨gb139, 0, none⟩ = some (.int .u64 a0_0) ∧ w'.cell? ⟨gb139, 1, none⟩ = some (.int .u64 a0_1) ∧ w'.cell? ⟨gb140, 0, none⟩ = some (.int .u64 a1_0) ∧ w'.cell? ⟨gb140, 1, none⟩ = some (.int .u64 a1_1)) (ds := []) #[false, false, false, false, false, false, false, false, false, false, false, false, false] (by kernel_rfl) rfl rfl ⟨(blk_cell BK139.out 0).trans rfl, (blk_cell BK139.out 1).trans rfl, (blk_cell BK140.out 0).trans rfl, (blk_cell BK140.out 1).trans rfl⟩ (fun hHeld => ?_); refine with_tabW token_order.tab3 token_order.bits3 (fun HT_ HW_ => ?_)
    generalize w13.drew = w17 at BK139 BK140 HB hHeld ⊢
    refine pure_ (i := 0) (N := some 8) (v := ?_) (a' := ?_) #[true, false, false, false, false, false, false, false, false, false, false, false, false] rfl rfl (any_of HT_.out (by kernel_rfl)) (fun _ _ _ h => h) (Or.inl ⟨by rfl, ?_⟩) ?_ ?_
    rotate_left
    · intro w'
      go_simp
      with_reducible rfl
    rotate_left
    · simp only [Act.put, qa_, qb_, qc_, i64_w, i32_w]
      rfl
    refine pure_ (i := 2) (N := some 10) (v := ?_) (a' := ?_) #[true, false, true, false, false, false, false, false, false, false, false, false, false] rfl rfl (any_of HT_.out (by kernel_rfl)) (fun _ _ _ h => h) (Or.inl ⟨by rfl, ?_⟩) ?_ ?_
    rotate_left
    · intro w'
      go_simp
      with_reducible rfl
    rotate_left
    · simp only [Act.put, qa_, qb_, qc_, i64_w, i32_w]
      rfl
    refine pure_ (i := 5) (N := some 13) (v := ?_) (a' := ?_) #[true, false, true, false, false, true, false, false, false, false, false, false, false] rfl rfl (any_of HT_.out (by kernel_rfl)) (fun _ _ _ h => h) (Or.inl ⟨by rfl, ?_⟩) ?_ ?_
    rotate_left
    · intro w'
      go_simp
      with_reducible rfl
    rotate_left
    · simp only [Act.put, qa_, qb_, qc_, i64_w, i32_w]
      rfl
    refine pure_ (i := 7) (N := some 15) (v := ?_) (a' := ?_) #[true, false, true, false, false, true, false, true, false, false, false, false, false] rfl rfl (any_of HT_.out (by kernel_rfl)) (fun _ _ _ h => h) (Or.inl ⟨by rfl, ?_⟩) ?_ ?_
    rotate_left
    · intro w'
      go_simp
      with_reducible rfl
    rotate_left
    · simp only [Act.put, qa_, qb_, qc_, i64_w, i32_w]
      rfl
    refine take_ (i := 1) (N := some 9) (v := ?_) (a' := ?_) #[true, true, true, false, false, true, false, true, false, false, false, false, false] rfl rfl (take_ofW HT_.out HW_.out (by kernel_rfl)) (fun _ _ _ h => h) (Or.inl ⟨by rfl, ?_⟩) hHeld ?_ ?_
    rotate_left
    · rintro w' ⟨s0, s1, s2, s3⟩
      go_simp
      with_reducible rfl
    rotate_left
    · simp only [Act.put, qa_, qb_, qc_, i64_w, i32_w]
      rfl
    refine take_ (i := 3) (N := some 11) (v := ?_) (a' := ?_) #[true, true, true, true, false, true, false, true, false, false, false, false, false] rfl rfl (take_ofW HT_.out HW_.out (by kernel_rfl)) (fun _ _ _ h => h) (Or.inl ⟨by rfl, ?_⟩) hHeld ?_ ?_
    rotate_left
    · rintro w' ⟨s0, s1, s2, s3⟩
      go_simp
      with_reducible rfl
    rotate_left
    · simp only [Act.put, qa_, qb_, qc_, i64_w, i32_w]
      rfl
    refine take_ (i := 6) (N := some 14) (v := ?_) (a' := ?_) #[true, true, true, true, false, true, true, true, false, false, false, false, false] rfl rfl (take_ofW HT_.out HW_.out (by kernel_rfl)) (fun _ _ _ h => h) (Or.inl ⟨by rfl, ?_⟩) hHeld ?_ ?_
    rotate_left
    · rintro w' ⟨s0, s1, s2, s3⟩
      go_simp
      with_reducible rfl
    rotate_left
    · simp only [Act.put, qa_, qb_, qc_, i64_w, i32_w]
      rfl
    refine take_ (i := 8) (N := some 16) (v := ?_) (a' := ?_) #[true, true, true, true, false, true, true, true, true, false, false, false, false] rfl rfl (take_ofW HT_.out HW_.out (by kernel_rfl)) (fun _ _ _ h => h) (Or.inl ⟨by rfl, ?_⟩) hHeld ?_ ?_
    rotate_left
    · rintro w' ⟨s0, s1, s2, s3⟩
      go_simp
      with_reducible rfl
    rotate_left
    · simp only [Act.put, qa_, qb_, qc_, i64_w, i32_w]
      rfl
    refine one_ (i := 4) (N := some 12) #[true, true, true, true, true, true, true, true, true, false, false, false, false] rfl rfl (one_of HT_.out (by kernel_rfl)) (by decide) (fun K hK => ?_)
    refine goes_ Tryd.func73 (by kernel_rfl) rfl #[.int .u64 a0_0, .int .u64 a1_0] (by rfl) rfl rfl (by (try simp only [List.map_toArray, List.map_cons, List.map_nil]); first | done | rfl | (simp only [List.length_drop, List.length_take]; rfl)) ?_
    with_reducible refine (cmp_Compare_uint64.calls a0_0 a1_0 t141 _ A9.out).mono ?_
    rintro e w' ⟨rfl, ⟨nd, rfl⟩⟩
    refine ⟨_, rfl, ?_⟩
    refine hK.out _ _ ⟨(blk_cell BK139.out 0).trans rfl, (blk_cell BK139.out 1).trans rfl, (blk_cell BK140.out 0).trans rfl, (blk_cell BK140.out 1).trans rfl⟩ (fun hHeld => ?_)
    clear hK K
    refine norm_ (a' := ?_) ?_ ?_
    rotate_left
    · show Act.put _ (some 12) _ = _
      simp only [Act.put, qa_, qb_, qc_, i64_w, i32_w]
      rfl
    refine one_ (i := 9) (N := some 17) #[true, true, true, true, true, true, true, true, true, true, false, false, false] rfl rfl (one_of HT_.out (by kernel_rfl)) (by decide) (fun K hK => ?_)
    refine goes_ Tryd.func73 (by kernel_rfl) rfl #[.int .u64 a0_1, .int .u64 a1_1] (by rfl) rfl rfl (by (try simp only [List.map_toArray, List.map_cons, List.map_nil]); first | done | rfl | (simp only [List.length_drop, List.length_take]; rfl)) ?_
    with_reducible refine (cmp_Compare_uint64.calls a0_1 a1_1 t142 _ A10.out).mono ?_
    rintro e w' ⟨rfl, ⟨nd, rfl⟩⟩
    refine ⟨_, rfl, ?_⟩
    refine hK.out _ _ ⟨(blk_cell BK139.out 0).trans rfl, (blk_cell BK139.out 1).trans rfl, (blk_cell BK140.out 0).trans rfl, (blk_cell BK140.out 1).trans rfl⟩ (fun hHeld => ?_)
    clear hK K
    refine norm_ (a' := ?_) ?_ ?_
    rotate_left
    · show Act.put _ (some 17) _ = _
      simp only [Act.put, qa_, qb_, qc_, i64_w, i32_w]
      rfl
    refine one_ (i := 10) (N := some 18) #[true, true, true, true, true, true, true, true, true, true, true, false, false] rfl rfl (one_of HT_.out (by kernel_rfl)) (by decide) (fun K hK => ?_)
    refine Kd.R_lit_step (Kd.int .i64) _ 3 ?hg (N := 18) ?hd (xs := ([t141, t142] : List Int)) (inner := [.int .i64 t141, .int .i64 t142]) (ok := fun _ => True) (okp := fun _ => True) ?hr ?hp (fun _ hk => hk) trivial (Below.refl _ _) (Nat.le_refl _) (by simp) ?_; (case hd => rfl); (case hg => rfl); (case hr => first | (go_simp; done) | (go_simp; rfl)); (case hp => exact (Reps.one (show Kd.M (Kd.int .i64) _ _ _ t141 [.int .i64 t141] from rfl) (Reps.one (show Kd.M (Kd.int .i64) _ _ _ t142 [.int .i64 t142] from rfl) (Reps.none _ _))))
    intro v144 w18 ho19 hb hg_ hnew_
    clear hg_ hnew_
    (first | rw [← Ny143.out] at ho19 | (simp only [Int.reduceToNat] at ho19; rw [← Ny143.out] at ho19))
    have n0_ := Aside0.mk (Kd.R_lower ho19 (below_size (by repeat (first | (with_reducible first | exact HB.out | apply below_alloc | apply pw_below_drewN | apply below_drew1 | refine below_set ?_ GE139.out | refine below_set ?_ GE140.out) | exact HB.out))))
    have n1_ := Aside0.mk (blk_below (g := gb139) (o := .cells #[.int .u64 a0_0, .int .u64 a0_1] 53 (0, 0)) (by (with_reducible repeat (first | refine blk_drewN ?_ _ | refine blk_drew ?_ | refine blk_alloc ?_ _)); exact BK139.out) hb)
    have n2_ := Aside0.mk (blk_below (g := gb140) (o := .cells #[.int .u64 a1_0, .int .u64 a1_1] 53 (0, 0)) (by (with_reducible repeat (first | refine blk_drewN ?_ _ | refine blk_drew ?_ | refine blk_alloc ?_ _)); exact BK140.out) hb)
    have n3_ := Aside0.mk (below_step (by repeat (first | (with_reducible first | exact HB.out | apply below_alloc | apply pw_below_drewN | apply below_drew1 | refine below_set ?_ GE139.out | refine below_set ?_ GE140.out) | exact HB.out)) hb)
    clear BK139
    clear BK140
    clear HB
    have HO145 := n0_
    have BK139 := n1_
    have BK140 := n2_
    have HB := n3_
    clear n0_ n1_ n2_ n3_
    clear hb ho19
    obtain ⟨Ao20, co20, eo20⟩ := Kd.R_slice HO145.out
    (first | subst eo20 | (injection eo20 with f1_ f2_ f3_; have f4_ := f1_.symm; have f5_ := f3_.symm; clear f1_ f2_ f3_; subst f4_; subst f5_))
    refine hK.out _ _ ⟨(blk_cell BK139.out 0).trans rfl, (blk_cell BK139.out 1).trans rfl, (blk_cell BK140.out 0).trans rfl, (blk_cell BK140.out 1).trans rfl⟩ (fun hHeld => ?_)
    clear hK K
    refine norm_ (a' := ?_) ?_ ?_
    rotate_left
    · show Act.put _ (some 18) _ = _
      simp only [Act.put, qa_, qb_, qc_, i64_w, i32_w]
      rfl
    refine one_ (i := 11) (N := some 19) #[true, true, true, true, true, true, true, true, true, true, true, true, false] rfl rfl (one_of HT_.out (by kernel_rfl)) (by decide) (fun K hK => ?_)
    refine goes_ Tryd.func72 (by kernel_rfl) rfl #[.slice Ao20 y143.length co20] (by rfl) rfl rfl (by (try simp only [List.map_toArray, List.map_cons, List.map_nil]); first | done | rfl | (simp only [List.length_drop, List.length_take]; rfl)) ?_
    with_reducible refine (cmp_Or_int.calls k _ _ y143 t146 _ ?side1 ?side2 A11.out).mono ?_
    (case side1 => repeat (first | exact (Kd.R_reads' HO145.out).2.2 | (with_reducible refine Kd.C_alloc ?_ _) | (with_reducible refine Kd.C_drewN ?_ _) | (with_reducible refine Kd.C_drew ?_)))
    (case side2 => exact (Kd.R_reads' HO145.out).2.1)
    rintro e w' ⟨rfl, ⟨nd, rfl⟩⟩
    refine ⟨_, rfl, ?_⟩
    refine hK.out _ _ ⟨(blk_cell BK139.out 0).trans rfl, (blk_cell BK139.out 1).trans rfl, (blk_cell BK140.out 0).trans rfl, (blk_cell BK140.out 1).trans rfl⟩ (fun hHeld => ?_)
    clear hK K
    refine norm_ (a' := ?_) ?_ ?_
    rotate_left
    · show Act.put _ (some 19) _ = _
      simp only [Act.put, qa_, qb_, qc_, i64_w, i32_w]
      rfl
    refine pure_ (i := 12) (N := some 4) (v := ?_) (a' := ?_) #[true, true, true, true, true, true, true, true, true, true, true, true, true] rfl rfl (any_of HT_.out (by kernel_rfl)) (fun _ _ _ h => h) (Or.inl ⟨by rfl, ?_⟩) ?_ ?_
    rotate_left
    · intro w'
      go_simp
      with_reducible rfl
    rotate_left
    · simp only [Act.put, qa_, qb_, qc_, i64_w, i32_w]
      rfl
    refine done_ (done_of HT_.out (by kernel_rfl)) ?_
    try go_wp2
    go_ret
    exact ⟨by first | rfl | (simp [errW_none, errW_some] <;> rfl) | (simp [*, errW_none, errW_some] <;> rfl), by repeat (first | (with_reducible first | exact HB.out | apply below_alloc | apply pw_below_drewN | apply below_drew1 | refine below_set ?_ GE139.out | refine below_set ?_ GE140.out) | exact HB.out)⟩
end Go.Proofs.YtdepmbnoecpccaaDoor.PQ


/- Pairs and tokens (chapter 5), in plain Lean. -/
namespace Go.Proofs.YtdepmbnoecpccaaDoor
open Go.RowKit Go.Proofs.YtdepmbnoecpccaaDoorW.PrintWords Go.Proofs.YtdepmbnoecpccaaDoorW.PrintLast Go.Proofs.YtdepmbnoecpccaaDoorW.PrintMore
open Go.Proofs.YtdepmbnoecpccaaDoor.PQ

theorem infoU64 : (Tryd.prog.info? 22).map (fun i => (i.zero, i.size, i.bytes)) = some (some (.int .u64 0), 1, 8) := by kernel_rfl
abbrev Pr := S53
abbrev kP : Kd Pr := k53
abbrev rdP (l : List Pr) (i : Int) : Pr := rd_T53 l i
theorem rdP_eq {l : List Pr} {i : Nat} (h : i < l.length) : rdP l (i : Int) = l[i] := by
  unfold rdP rd_T53
  rw [Int.toNat_natCast, List.getD_eq_getElem?_getD, List.getElem?_eq_getElem h]
  rfl
theorem at_P {w : World} {A : Option Addr} {n : Nat} {xs : List Pr} (h : kP.C w A n xs) (i : Int) (h0 : 0 ≤ i) (h1 : i < n) : ∃ ad, A = some ad ∧ w.cell? (ad.add (i.toNat * 2)) = some (.int .u64 (rdP xs i).f0) ∧ w.cell? ⟨(ad.add (i.toNat * 2)).block, (ad.add (i.toNat * 2)).off + 1, none⟩ = some (.int .u64 (rdP xs i).f1) := at_T53 h i h0 h1
theorem pr_ext {a b : Pr} (h0 : a.f0 = b.f0) (h1 : a.f1 = b.f1) : a = b := by
  cases a; cases b
  simp at h0 h1
  subst h0 h1
  rfl
instance : DecidableEq Pr := fun a b => if h : a.f0 = b.f0 ∧ a.f1 = b.f1 then .isTrue (pr_ext h.1 h.2) else .isFalse (fun e => h (by subst e; exact ⟨rfl, rfl⟩))
def ltP (a b : Pr) : Bool := decide (a.f0 < b.f0 ∨ (a.f0 = b.f0 ∧ a.f1 < b.f1))
theorem ltP_iff {a b : Pr} : ltP a b = true ↔ (a.f0 < b.f0 ∨ (a.f0 = b.f0 ∧ a.f1 < b.f1)) := by
  unfold ltP
  exact decide_eq_true_iff
theorem ltP_trans {a b c : Pr} (h1 : ltP a b = true) (h2 : ltP b c = true) : ltP a c = true := by
  rw [ltP_iff] at *
  omega
theorem ltP_irr (a : Pr) : ltP a a = false := by
  rw [← Bool.not_eq_true, ltP_iff]
  omega
theorem ltP_tri (a b : Pr) (h1 : ltP a b = false) (h2 : ltP b a = false) : a = b := by
  rw [← Bool.not_eq_true, ltP_iff] at h1 h2
  exact pr_ext (by omega) (by omega)
theorem ltP_asymm {a b : Pr} (h : ltP a b = true) : ltP b a = false := by
  rw [← Bool.not_eq_true]
  intro h2
  have := ltP_trans h h2
  rw [ltP_irr] at this
  cases this
/-- How two pairs stand to each other. -/
def ordP (a b : Pr) : Int := if ltP a b = true then -1 else if ltP b a = true then 1 else 0
theorem cmpu_f (a b : Int) : cmp_Compare_uint64.f a b = some (if a < b then -1 else if b < a then 1 else 0) := by
  unfold cmp_Compare_uint64.f cmp_isNaN_uint64.f
  simp
  split
  · rfl
  · split <;> rfl
theorem or_two (x y : Int) (k : Nat) (h : 3 ≤ k) : cmp_Or_int.f k [x, y] = some (if x = 0 then y else x) := by
  obtain ⟨k, rfl⟩ : ∃ q, k = q + 3 := ⟨k - 3, by omega⟩
  have e0 : rd [x, y] 0 = x := rfl
  have e1 : rd [x, y] 1 = y := rfl
  have w1 : wrap64 (0 + 1) = 1 := by unfold wrap64; rfl
  have w2 : wrap64 (1 + 1) = 2 := by unfold wrap64; rfl
  unfold cmp_Or_int.f
  simp only [List.length_cons, List.length_nil]
  rw [cmp_Or_int.l0, if_pos (by simp), if_pos (by decide), if_pos (by simp), e0]
  by_cases hx : x = 0
  · rw [if_pos hx, if_pos hx, w1, cmp_Or_int.l0, if_pos (by simp), if_pos (by decide), if_pos (by simp), e1]
    by_cases hy : y = 0
    · rw [if_pos hy, w2, cmp_Or_int.l0, if_neg (by simp), hy]
    · rw [if_neg hy]
  · rw [if_neg hx, if_neg hx]
theorem tord_f (a b : Pr) (k : Nat) (h : 3 ≤ k) : token_order.f k a.f0 a.f1 b.f0 b.f1 = some (ordP a b) := by
  unfold token_order.f
  split
  · rename_i e
    simp at e
    have : a = b := pr_ext e.1 e.2
    subst this
    unfold ordP
    rw [ltP_irr]
    rfl
  · rw [cmpu_f, Option.bind_some, cmpu_f, Option.bind_some, or_two _ _ k h, Option.bind_some]
    congr 1
    unfold ordP
    simp only [ltP_iff]
    (repeat' split) <;> omega
theorem ordP_lt (a b : Pr) : (ordP a b < 0) = (ltP a b = true) := by
  unfold ordP
  split
  · simp [*]
  · split <;> simp [*]
theorem ordP_gt (a b : Pr) : (0 < ordP a b) = (ltP b a = true) := by
  unfold ordP
  split
  · rename_i h
    rw [ltP_asymm h]
    simp
  · split <;> simp [*]
theorem ordP_zero (a b : Pr) : ordP a b = 0 ↔ a = b := by
  constructor
  · intro h
    have h1 : ¬ ordP a b < 0 := by omega
    have h2 : ¬ 0 < ordP a b := by omega
    rw [ordP_lt] at h1
    rw [ordP_gt] at h2
    exact ltP_tri a b (by simpa using h1) (by simpa using h2)
  · rintro rfl
    unfold ordP
    rw [ltP_irr]
    rfl
/-- Are pairs in their order? -/
def sortB (l : List Pr) : Bool := (List.range (l.length - 1)).all fun (j : Nat) => !ltP (rdP l ((j + 1 : Nat) : Int)) (rdP l (j : Int))
theorem sortB_iff {l : List Pr} : sortB l = true ↔ ∀ j : Nat, j + 1 < l.length → ltP (rdP l ((j + 1 : Nat) : Int)) (rdP l (j : Int)) = false := by
  unfold sortB
  rw [List.all_eq_true]
  constructor
  · intro h j hj
    have := h j (List.mem_range.2 (by omega))
    simpa using this
  · intro h j hj
    have := h j (by have := List.mem_range.1 hj; omega)
    rw [this]
    rfl
def rightT (l : List Pr) : Bool := decide (l.length ≤ 2048) && sortB l
/-- Are pairs a table? -/
def tabB (l : List Pr) : Bool := decide (l.length ≤ 4096) && (List.range (l.length - 1)).all fun (j : Nat) => ltP (rdP l (j : Int)) (rdP l ((j + 1 : Nat) : Int))
theorem tabB_iff {l : List Pr} : tabB l = true ↔ l.length ≤ 4096 ∧ ∀ j : Nat, j + 1 < l.length → ltP (rdP l (j : Int)) (rdP l ((j + 1 : Nat) : Int)) = true := by
  unfold tabB
  rw [Bool.and_eq_true, decide_eq_true_iff, List.all_eq_true]
  constructor
  · rintro ⟨h0, h⟩
    exact ⟨h0, fun j hj => h j (List.mem_range.2 (by omega))⟩
  · rintro ⟨h0, h⟩
    exact ⟨h0, fun j hj => h j (by have := List.mem_range.1 hj; omega)⟩
/-- Whose keys a token's pairs have, for one root: none, if there is a pair twice or of another root. -/
def keysF (l : List Pr) (root : Int) : Option (List Int) :=
  if rightT l = true ∧ (l.all fun x => decide (x.f1 = root)) = true ∧ ((List.range (l.length - 1)).all fun (j : Nat) => decide (rdP l (j : Int) ≠ rdP l ((j + 1 : Nat) : Int))) = true then some (l.map (·.f0)) else none
end Go.Proofs.YtdepmbnoecpccaaDoor


/- Tokens (chapter 5): Right, Keys. -/
namespace Go.Proofs.YtdepmbnoecpccaaDoor
open Go.RowKit Go.Proofs.YtdepmbnoecpccaaDoorW.PrintWords Go.Proofs.YtdepmbnoecpccaaDoorW.PrintLast Go.Proofs.YtdepmbnoecpccaaDoorW.PrintMore

open Go.Proofs.YtdepmbnoecpccaaDoor.PQ

theorem tOrder (a b : Pr) (w : World) : Calls Tryd.prog 70 #[.agg #[.int .u64 a.f0, .int .u64 a.f1], .agg #[.int .u64 b.f0, .int .u64 b.f1]] w fun e w' => e = .returned (.int .i64 (ordP a b)) ∧ Below w.heap.size w w' :=
  token_order.calls 3 a.f0 a.f1 b.f0 b.f1 _ w (tord_f a b 3 (by omega))
theorem tOrderE (a b : Pr) (z : Int) (w : World) (h : ordP a b = z) : Calls Tryd.prog 70 #[.agg #[.int .u64 a.f0, .int .u64 a.f1], .agg #[.int .u64 b.f0, .int .u64 b.f1]] w fun e w' => e = .returned (.int .i64 z) ∧ Below w.heap.size w w' := h ▸ tOrder a b w
set_option maxRecDepth 100000 in
set_option maxHeartbeats 4000000 in
theorem IsSorted_calls (A : Option Addr) (n c : Nat) (l : List Pr) (w : World) (hA : kP.C w A n l) (hc : n ≤ c) : Calls Tryd.prog 69 #[.slice A n c, .func (.func 70) #[] #[]] w
    fun e w' => e = .returned (.bool (sortB l)) ∧ Below w.heap.size w w' := by
  have HN := Aside0.mk (show n = l.length from (Kd.C_len hA).symm)
  have hn63 : n ≤ 9223372036854775807 := by rw [HN.out]; exact Kd.C_len hA ▸ Kd.C_max hA
  have HX := Aside0.mk hA
  clear hA
  have HB := Aside0.mk (Below.refl w.heap.size w)
  have hn1 : IntKind.i64.wrap ((n : Int) - 1) = (n : Int) - 1 := by rw [IntKind.wrap_i64]; omega
  go_enter Tryd.func69, Tryd.ntmps69
  go_wp2
  go_loopw [5] (fun v5 wx => ∃ i : Int, -1 ≤ i ∧ i < n ∧ v5 = .int .i64 i ∧ (∀ j : Nat, i ≤ j → j + 1 < n → ltP (rdP l ((j + 1 : Nat) : Int)) (rdP l (j : Int)) = false) ∧ Below w.heap.size w wx) (fun v5 _ => (intOf v5).toNat)
  case atStart => exact ⟨(n : Int) - 1, by omega, by omega, rfl, fun j h1 h2 => absurd h2 (by omega), HB.out⟩
  case round =>
    obtain ⟨i, hi0, hi, rfl, hso, hb⟩ := hrel
    have HS := Aside0.mk hso
    clear HB hso hn1
    have HB := Aside0.mk hb
    clear hb
    by_cases hlt : i ≤ 0
    · have hd : decide ((0 : Int) < i) = false := decide_eq_false (by omega)
      go_wp2
      go_ret
      refine ⟨ret_bool (Eq.symm (sortB_iff.2 fun j hj => HS.out j (by omega) (by rw [HN.out]; exact hj))), HB.out⟩
    · have hd : decide ((0 : Int) < i) = true := decide_eq_true (by omega)
      obtain ⟨i0, hi0e⟩ : ∃ i0, i - 1 = i0 := ⟨_, rfl⟩
      have e2 : IntKind.i64.wrap (i - 1) = i0 := by rw [IntKind.wrap_i64]; omega
      have hj3 : 0 ≤ i := by omega
      have hj4 : 0 ≤ i0 := by omega
      have hj2 : i0 < (n : Int) := by omega
      obtain ⟨ad, rfl, rC, rD⟩ := at_P (Kd.C_below HX.out HB.out) i (by omega) (by omega)
      obtain ⟨ad', ee, rE, rF⟩ := at_P (Kd.C_below HX.out HB.out) i0 (by omega) (by omega)
      cases ee
      obtain ⟨x, hx⟩ : ∃ x, rdP l i = x := ⟨_, rfl⟩
      obtain ⟨y, hy⟩ : ∃ y, rdP l i0 = y := ⟨_, rfl⟩
      obtain ⟨z, hz⟩ : ∃ z, ordP x y = z := ⟨_, rfl⟩
      rw [hx] at rC rD
      rw [hy] at rE rF
      have HXY := Aside0.mk (And.intro hx (And.intro hy (And.intro hz hi0e)))
      have HZ := Aside0.mk hz
      clear hx hy hz hi0e
      have kC := cell_lt rC
      have kD := cell_lt rD
      have kE := cell_lt rE
      have kF := cell_lt rF
      go_upto_region 4 with (fail)
      refine wp_region_held_drew (S := (fun w' => Below wr.heap.size wr w' ∧ (w'.cell? ((ad.add (i.toNat * 2))) = some (.int .u64 x.f0)) ∧ (w'.cell? ((⟨(ad.add (i.toNat * 2)).block, (ad.add (i.toNat * 2)).off + 1, none⟩ : Addr)) = some (.int .u64 x.f1)) ∧ (w'.cell? ((ad.add (i0.toNat * 2))) = some (.int .u64 y.f0)) ∧ (w'.cell? ((⟨(ad.add (i0.toNat * 2)).block, (ad.add (i0.toNat * 2)).off + 1, none⟩ : Addr)) = some (.int .u64 y.f1)))) (by kernel_rfl) ?hS1x0 (fun hHeld => ?hR1x0)
      case hS1x0 => ((try dsimp only); (first | exact ⟨below_drew1 (Below.refl _ _), rC, rD, rE, rF⟩ | exact ⟨below_drew1 b0_, rC, rD, rE, rF⟩ | exact ⟨j0, jC, jD, jE, jF⟩ | exact ⟨below_alloc j0 _, (cell_alloc_oldp (Nat.lt_of_lt_of_le kC j0.size)).trans jC, (cell_alloc_oldp (Nat.lt_of_lt_of_le kD j0.size)).trans jD, (cell_alloc_oldp (Nat.lt_of_lt_of_le kE j0.size)).trans jE, (cell_alloc_oldp (Nat.lt_of_lt_of_le kF j0.size)).trans jF⟩ | exact ⟨below_alloc (below_drew1 (Below.refl _ _)) _, (cell_alloc_oldp kC).trans rC, (cell_alloc_oldp kD).trans rD, (cell_alloc_oldp kE).trans rE, (cell_alloc_oldp kF).trans rF⟩ | assumption))
      refine wpAnyH_take (i := 0) (oi := ⟨some 13, _, _, _, _, _⟩) (v := ?_) rfl (by kernel_rfl) (by kernel_rfl) (by kernel_rfl) (fun _ _ _ h => h) (Or.inl ⟨by rfl, ?hY1x2⟩) (by assumption) ?hR1x2
      case hY1x2 => (intro w hSw; (try dsimp only at hSw); go_simp; try with_reducible rfl)
      (try simp only [Act.put, qa_, qb_, qc_])
      refine wpAnyH_take (i := 1) (oi := ⟨some 14, _, _, _, _, _⟩) (v := ?_) rfl (by kernel_rfl) (by kernel_rfl) (by kernel_rfl) (fun _ _ _ h => h) (Or.inl ⟨by rfl, ?hY1x3⟩) (by assumption) ?hR1x3
      case hY1x3 => (intro w hSw; (try dsimp only at hSw); go_simp; try with_reducible rfl)
      (try simp only [Act.put, qa_, qb_, qc_])
      refine wpAnyH_take (i := 2) (oi := ⟨some 15, _, _, _, _, _⟩) (v := ?_) rfl (by kernel_rfl) (by kernel_rfl) (by kernel_rfl) (fun _ _ _ h => h) (Or.inl ⟨by rfl, ?hY1x4⟩) (by assumption) ?hR1x4
      case hY1x4 => (intro w hSw; (try dsimp only at hSw); go_simp; try with_reducible rfl)
      (try simp only [Act.put, qa_, qb_, qc_])
      refine wpAnyH_take (i := 3) (oi := ⟨some 16, _, _, _, _, _⟩) (v := ?_) rfl (by kernel_rfl) (by kernel_rfl) (by kernel_rfl) (fun _ _ _ h => h) (Or.inl ⟨by rfl, ?hY1x5⟩) (by assumption) ?hR1x5
      case hY1x5 => (intro w hSw; (try dsimp only at hSw); go_simp; try with_reducible rfl)
      (try simp only [Act.put, qa_, qb_, qc_])
      refine wpAnyH_take (i := 4) (oi := ⟨some 17, _, _, _, _, _⟩) (v := ?_) rfl (by kernel_rfl) (by kernel_rfl) (by kernel_rfl) (fun _ _ _ h => h) (Or.inl ⟨by rfl, ?hY1x6⟩) (by assumption) ?hR1x6
      case hY1x6 => (intro w hSw; (try dsimp only at hSw); go_simp; try with_reducible rfl)
      (try simp only [Act.put, qa_, qb_, qc_])
      refine wpAnyH_take (i := 5) (oi := ⟨some 18, _, _, _, _, _⟩) (v := ?_) rfl (by kernel_rfl) (by kernel_rfl) (by kernel_rfl) (fun _ _ _ h => h) (Or.inl ⟨by rfl, ?hY1x7⟩) (by assumption) ?hR1x7
      case hY1x7 => (intro w hSw; (try dsimp only at hSw); go_simp; try with_reducible rfl)
      (try simp only [Act.put, qa_, qb_, qc_])
      refine wpAnyH_take (i := 6) (oi := ⟨some 19, _, _, _, _, _⟩) (v := ?_) rfl (by kernel_rfl) (by kernel_rfl) (by kernel_rfl) (fun _ _ _ h => h) (Or.inl ⟨by rfl, ?hY1x8⟩) (by assumption) ?hR1x8
      case hY1x8 => (intro w hSw; (try dsimp only at hSw); go_simp; try with_reducible rfl)
      (try simp only [Act.put, qa_, qb_, qc_])
      refine wpAnyH_take (i := 7) (oi := ⟨some 20, _, _, _, _, _⟩) (v := ?_) rfl (by kernel_rfl) (by kernel_rfl) (by kernel_rfl) (fun _ _ _ h => h) (Or.inl ⟨by rfl, ?hY1x9⟩) (by assumption) ?hR1x9
      case hY1x9 => (intro w hSw; (try dsimp only at hSw); go_simp; try with_reducible rfl)
      (try simp only [Act.put, qa_, qb_, qc_])
      refine wpAnyH_take (i := 8) (oi := ⟨some 21, _, _, _, _, _⟩) (v := ?_) rfl (by kernel_rfl) (by kernel_rfl) (by kernel_rfl) (fun _ _ _ h => h) (Or.inl ⟨by rfl, ?hY1x10⟩) (by assumption) ?hR1x10
      case hY1x10 => (intro w hSw; (try dsimp only at hSw); go_simp; try with_reducible rfl)
      (try simp only [Act.put, qa_, qb_, qc_])
      refine wpAnyH_take (i := 9) (oi := ⟨some 22, _, _, _, _, _⟩) (v := ?_) rfl (by kernel_rfl) (by kernel_rfl) (by kernel_rfl) (fun _ _ _ h => h) (Or.inl ⟨by rfl, ?hY1x11⟩) (by assumption) ?hR1x11
      case hY1x11 => (intro w hSw; (try dsimp only at hSw); go_simp; try with_reducible rfl)
      (try simp only [Act.put, qa_, qb_, qc_])
      refine wpAnyH_ready (rs := [10]) (by kernel_rfl) (by simp) ?_
      refine AllReadyH.cons (o := ⟨some 23, _, _, _, _, _⟩) rfl (fun K hK => ?hT1x12) ?hM1x12
      case hM1x12 => exact AllReadyH.nil
      go_simp
      (first | (go_at_call 70; obtain ⟨g0, gC, gD, gE, gF⟩ := ‹Below wr.heap.size wr _ ∧ _›; ((with_reducible refine (tOrderE x y z _ HZ.out).mono ?_));  rintro e w5 ⟨rfl, hb_⟩; have j0 := below_step g0 hb_; have s5 := j0.size; have jC := (j0.cell (p := (ad.add (i.toNat * 2))) kC).trans rC; have jD := (j0.cell (p := (⟨(ad.add (i.toNat * 2)).block, (ad.add (i.toNat * 2)).off + 1, none⟩ : Addr)) kD).trans rD; have jE := (j0.cell (p := (ad.add (i0.toNat * 2))) kE).trans rE; have jF := (j0.cell (p := (⟨(ad.add (i0.toNat * 2)).block, (ad.add (i0.toNat * 2)).off + 1, none⟩ : Addr)) kF).trans rF))
      (try go_wp2_with fail)
      refine hK.out _ _ ?hS1x12 (fun hHeld => ?hR1x12)
      case hS1x12 => ((try dsimp only); (first | exact ⟨below_drew1 (Below.refl _ _), rC, rD, rE, rF⟩ | exact ⟨below_drew1 b0_, rC, rD, rE, rF⟩ | exact ⟨j0, jC, jD, jE, jF⟩ | exact ⟨below_alloc j0 _, (cell_alloc_oldp (Nat.lt_of_lt_of_le kC j0.size)).trans jC, (cell_alloc_oldp (Nat.lt_of_lt_of_le kD j0.size)).trans jD, (cell_alloc_oldp (Nat.lt_of_lt_of_le kE j0.size)).trans jE, (cell_alloc_oldp (Nat.lt_of_lt_of_le kF j0.size)).trans jF⟩ | exact ⟨below_alloc (below_drew1 (Below.refl _ _)) _, (cell_alloc_oldp kC).trans rC, (cell_alloc_oldp kD).trans rD, (cell_alloc_oldp kE).trans rE, (cell_alloc_oldp kF).trans rF⟩ | assumption))
      clear hK K
      (try simp only [Act.put, qa_, qb_, qc_])
      refine wpAnyH_take (i := 11) (oi := ⟨some 24, _, _, _, _, _⟩) (v := ?_) rfl (by kernel_rfl) (by kernel_rfl) (by kernel_rfl) (fun _ _ _ h => h) (Or.inl ⟨by rfl, ?hY1x13⟩) (by assumption) ?hR1x13
      case hY1x13 => (intro w hSw; (try dsimp only at hSw); go_simp; try with_reducible rfl)
      (try simp only [Act.put, qa_, qb_, qc_])
      refine wpAnyH_done (by kernel_rfl) ?_ _
      by_cases hz : z < 0
      · have hd2 : decide (z < 0) = true := decide_eq_true hz
        go_wp2
        go_ret
        refine ⟨ret_bool (Eq.symm (Bool.eq_false_iff.2 fun hs => ?_)), below_step HB.out j0⟩
        have hq := HXY.out.2.2.2
        have hl := sortB_iff.1 hs i0.toNat (by rw [← HN.out]; omega)
        have ea : ((i0.toNat + 1 : Nat) : Int) = i := by have := HXY.out.2.2.2; omega
        have eb : (i0.toNat : Int) = i0 := by omega
        rw [ea, eb, HXY.out.1, HXY.out.2.1] at hl
        have hz2 := hz
        rw [← HZ.out, ordP_lt] at hz2
        rw [hz2] at hl
        cases hl
      · have hd2 : decide (z < 0) = false := decide_eq_false hz
        go_wp2
        go_roundw
        case rel =>
          refine ⟨i0, by omega, hj2, by first | rfl | (rw [e2]), fun j h1 h2 => ?_, below_step HB.out j0⟩
          have hxy := HXY.out
          by_cases hj : i ≤ (j : Int)
          · exact HS.out j hj h2
          · have ea : ((j + 1 : Nat) : Int) = i := by omega
            have eb : (j : Int) = i0 := by omega
            rw [ea, eb, hxy.1, hxy.2.1]
            have hz2 := hz
            rw [← HZ.out, ordP_lt] at hz2
            simpa using hz2
        case measure =>
          have hq := HXY.out.2.2.2
          simp [intOf]; omega
theorem tRightT (f : Bool) (A : Option Addr) (n c : Nat) (l : List Pr) (w : World) (hA : kP.C w A n l) (hc : n ≤ c) : Calls Tryd.prog 59 #[.agg #[.bool f, .slice A n c]] w
    fun e w' => e = .returned (.bool (rightT l)) ∧ Below w.heap.size w w' := by
  have hn := (Kd.C_len hA).symm
  obtain ⟨r, hr⟩ : ∃ r, sortB l = r := ⟨_, rfl⟩
  have hI := fun w h => (IsSorted_calls A n c l w h hc)
  unfold rightT
  rw [← hn]
  rw [hr] at hI ⊢
  have HI := Aside0.mk hI
  have HX := Aside0.mk hA
  have HB := Aside0.mk (Below.refl w.heap.size w)
  clear hA hI hr hn
  by_cases h : n ≤ 2048
  · have hd : decide (n ≤ 2048) = true := decide_eq_true h
    have hdi : decide ((n : Int) ≤ 2048) = true := decide_eq_true (by omega)
    rw [hd]
    go_enter Tryd.func59, Tryd.ntmps59
    go_wp2_with fail
    refine (HI.out _ ?hX).mono ?_
    case hX => (repeat (with_reducible first | exact HX.out | apply C_alloc))
    rintro e w5 ⟨rfl, hb_⟩
    have n_ := Aside0.mk (below_step (by repeat (first | exact HB.out | apply below_alloc | apply pw_below_drewN | apply below_drew1 | refine below_set ?_ (by first | omega | (simp; omega)))) hb_); clear HB hb_; have HB := n_; clear n_
    go_wp2
    go_ret
    exact ⟨ret_bool (by simp), HB.out⟩
  · have hd : decide (n ≤ 2048) = false := decide_eq_false h
    have hdi : decide ((n : Int) ≤ 2048) = false := decide_eq_false (by omega)
    rw [hd]
    go_enter Tryd.func59, Tryd.ntmps59
    go_wp2
    go_ret
    exact ⟨ret_bool (by simp), (by repeat (first | exact HB.out | apply below_alloc | apply pw_below_drewN | apply below_drew1 | refine below_set ?_ (by first | omega | (simp; omega))))⟩
end Go.Proofs.YtdepmbnoecpccaaDoor


/- A token's bytes (chapter 5): Encode. -/
namespace Go.Proofs.YtdepmbnoecpccaaDoor
open Go.RowKit Go.Proofs.YtdepmbnoecpccaaDoorW.PrintWords Go.Proofs.YtdepmbnoecpccaaDoorW.PrintLast Go.Proofs.YtdepmbnoecpccaaDoorW.PrintMore

open Go.Proofs.YtdepmbnoecpccaaDoor.PQ

/-- append(row, string...) in a region that draws its order. -/
theorem append_str_step {P : Program} {ops : Array Oper} {o : Oper} {a : Act} {Q : Exit → Act → World → Prop} {Kc : Act → World → Prop} {w0 W : World} (base : Nat) (hw : Region.wanted o (yielded ops a.tmps) = true) (s x : Operand) (t u e : TypeId)
    (ho : o.op = .call { callee := .builtin .append, args := #[s, x], argTypes := #[t, u] })
    (ht : P.underlying t = some (.slice e)) (hu : P.underlying u = some .string) (hinfo : (P.info? e).map (fun i => (i.zero, i.size, i.bytes)) = some (some (.int .u8 0), 1, 1))
    (v : Value) (xs : List Int) (y : ByteArray) (hs : a.eval s = v) (hx : a.eval x = .string y)
    (HO : W.ownsRow base e 1 v xs.length (nums .u8 xs)) (HB : Below base w0 W) (hbase : base ≤ W.heap.size) (hl : xs.length + y.size ≤ 140737488355328)
    (h : ∀ v1 w1, w1.ownsRow base e 1 v1 (xs ++ bytesOf y).length (nums .u8 (xs ++ bytesOf y)) → Below base w0 w1 → W.grownBy w1 v.ownBlock → Kc (a.put o.dst v1) w1) :
    if Region.wanted o (yielded ops a.tmps) = true then Oper.wp P o a W Kc Q else Kc (a.put o.dst undef) W := by
  obtain ⟨i0, hi, hzz⟩ := Option.map_eq_some_iff.1 hinfo
  simp only [Prod.mk.injEq] at hzz
  obtain ⟨hz0, hz1, hz2⟩ := hzz
  obtain ⟨v1, w1, hr, hown, hg, _⟩ := Lib.run_append_own_string (P := P) (w := W) base t u o.type e i0 ht hu hi hz0 hz1 hz2 v xs.length (nums .u8 xs) HO y (by simp only [maxLen]; omega) hl hbase
  have hl2 : (xs ++ bytesOf y).length = xs.length + y.size := by rw [List.length_append, bytesOf_length]
  have hc : nums .u8 (xs ++ bytesOf y) = nums .u8 xs ++ Lib.strCells y := by
    rw [nums_append]
    congr 1
    simp [nums, bytesOf, Lib.strCells]
  rw [if_pos hw]
  unfold Oper.wp execOp
  simp only [ho, resolve, invoke, builtin, Sem.run_bind, Sem.run_pure, Result.andThen_ok, List.map_toArray, List.map_cons, List.map_nil, hs, hx, hr]
  exact h v1 w1 (by rw [hl2, hc]; exact hown) (HB.grown hg hbase (own_base HO)) hg
def encF (f : Bool) (l : List Pr) : List UInt8 := (if f = true then 1 else 0) :: l.flatMap fun p => putF p.f0 8 ++ putF p.f1 8
def encI (f : Bool) (l : List Pr) : List Int := (encF f l).map fun b => (b.toNat : Int)
theorem bytes_put (x : Int) : bytesOf ⟨(putF x 8).toArray⟩ = (putF x 8).map fun b => (b.toNat : Int) := rfl
theorem encI_snoc (f : Bool) (l : List Pr) (p : Pr) : encI f (l ++ [p]) = (encI f l ++ bytesOf ⟨(putF p.f0 8).toArray⟩) ++ bytesOf ⟨(putF p.f1 8).toArray⟩ := by
  unfold encI encF
  rw [bytes_put, bytes_put, List.flatMap_append, List.append_assoc]
  simp only [List.map_cons, List.map_append, List.flatMap_cons, List.flatMap_nil, List.append_nil, List.cons_append]
theorem encF_len (f : Bool) : ∀ l : List Pr, (encF f l).length = 1 + 16 * l.length := by
  intro l
  unfold encF
  rw [List.length_cons]
  induction l with
  | nil => rfl
  | cons p r ih =>
    rw [List.flatMap_cons, List.length_append, List.length_append, putF_len _ 8 (by omega) (by omega), putF_len _ 8 (by omega) (by omega), List.length_cons]
    omega
theorem encI_len (f : Bool) (l : List Pr) : (encI f l).length = 1 + 16 * l.length := by
  unfold encI
  rw [List.length_map, encF_len]
theorem encI_str (f : Bool) (l : List Pr) : strOfNums (encI f l) = ⟨(encF f l).toArray⟩ := by
  unfold strOfNums encI
  rw [List.map_map]
  congr 2
  conv => rhs; rw [← List.map_id (encF f l)]
  apply List.map_congr_left
  intro b _
  simp
theorem enc_size (f : Bool) (l : List Pr) : (⟨(encF f l).toArray⟩ : ByteArray).size = 1 + 16 * l.length := by
  rw [strsize, encF_len]
theorem tRightTE (f : Bool) (A : Option Addr) (n c : Nat) (l : List Pr) (r : Bool) (w : World) (hA : kP.C w A n l) (hc : n ≤ c) (h : rightT l = r) : Calls Tryd.prog 59 #[.agg #[.bool f, .slice A n c]] w
    fun e w' => e = .returned (.bool r) ∧ Below w.heap.size w w' := h ▸ tRightT f A n c l w hA hc
theorem Put8E (x : Int) (y : ByteArray) (w : World) (hx : 0 ≤ x) (h : (⟨(putF x 8).toArray⟩ : ByteArray) = y) : Calls Tryd.prog 52 #[.int .u64 x, .int .i64 8] w fun e w' => e = .returned (.string y) ∧ Below w.heap.size w w' := h ▸ Put8_calls x w hx
theorem put_size (x : Int) : (⟨(putF x 8).toArray⟩ : ByteArray).size = 8 := by rw [strsize, putF_len _ 8 (by omega) (by omega)]
set_option maxRecDepth 100000 in
set_option maxHeartbeats 2000000 in
theorem Encode_no (f : Bool) (A : Option Addr) (n c : Nat) (l : List Pr) (w : World) (hA : kP.C w A n l) (hc : n ≤ c) (h : rightT l = false) : Calls Tryd.prog 44 #[.agg #[.bool f, .slice A n c]] w
    fun e w' => e = .returned (.tuple #[.string ⟨#[]⟩, .int .i64 1]) ∧ Below w.heap.size w w' := by
  have HX := Aside0.mk hA
  have HB := Aside0.mk (Below.refl w.heap.size w)
  clear hA
  go_enter Tryd.func44, Tryd.ntmps44
  go_wp2_with fail
  refine (tRightTE f A n c l false _ ?hX hc h).mono ?_
  case hX => (repeat (with_reducible first | exact HX.out | apply C_alloc))
  rintro e w1 ⟨rfl, hb_⟩
  have n_ := Aside0.mk (below_step (by repeat (first | exact HB.out | apply below_alloc | apply pw_below_drewN | apply below_drew1 | refine below_set ?_ (by first | omega | (simp; omega)))) hb_); clear HB hb_; have HB := n_; clear n_
  go_wp2
  go_ret2
  exact ⟨rfl, HB.out⟩
set_option maxRecDepth 100000 in
set_option maxHeartbeats 4000000 in
theorem Encode_yes (f : Bool) (A : Option Addr) (n c : Nat) (l : List Pr) (w : World) (hA : kP.C w A n l) (hc : n ≤ c) (h : rightT l = true) (hp : ∀ p ∈ l, 0 ≤ p.f0 ∧ 0 ≤ p.f1) : Calls Tryd.prog 44 #[.agg #[.bool f, .slice A n c]] w
    fun e w' => e = .returned (.tuple #[.string ⟨(encF f l).toArray⟩, .int .i64 0]) ∧ Below w.heap.size w w' := by
  have HN := Aside0.mk (show l.length = n from Kd.C_len hA)
  have hn : n ≤ 2048 := by
    unfold rightT at h
    rw [Bool.and_eq_true, decide_eq_true_iff, HN.out] at h
    exact h.1
  have HX := Aside0.mk hA
  have HP := Aside0.mk hp
  have HB := Aside0.mk (Below.refl w.heap.size w)
  clear hA hp
  go_enter Tryd.func44, Tryd.ntmps44
  go_wp2_with fail
  refine (tRightTE f A n c l true _ ?hX hc h).mono ?_
  case hX => (repeat (with_reducible first | exact HX.out | apply C_alloc))
  rintro e w1 ⟨rfl, hb_⟩
  have YT : Box w1 (w.heap.size) _ _ := Box.below (by repeat (with_reducible first | exact XT.out | exact Box.new | exact Box.new1 | exact Box.new2 | exact Box.new3 | apply Box.alloc | apply Box.drew | apply Box.drewN | apply Box.set)) hb_
  (try clear XT rT kT fT); have XT := Aside0.mk YT; have rT := YT.cell; have fT := YT.frozen; have kT := YT.lt; clear YT
  have n_ := Aside0.mk (below_step (by repeat (first | exact HB.out | apply below_alloc | apply pw_below_drewN | apply below_drew1 | refine below_set ?_ (by first | omega | (simp; omega)))) hb_); clear HB hb_; have HB := n_; clear n_
  have hw1 : w.heap.size ≤ w1.heap.size := below_size HB.out
  have hn0 : (0 : Int) ≤ (n : Int) := by omega
  have HXC := Aside0.mk (Kd.C_below HX.out HB.out)
  by_cases hf : f = true
  · (try simp only [Bool.not_eq_true] at hf)
    go_wp2_with fail
    generalize hW : World.alloc _ _ = W at *
    have HO := Aside0.mk (show W.ownsRow w.heap.size 5 1 (.slice (some ⟨w1.heap.size, 0, none⟩) 1 1) (encI f []).length (nums .u8 (encI f [])) by
      rw [← hW, hf]
      exact own_lit w1 w.heap.size 5 .u8 _ hw1 (by decide))
    have XW := Aside0.mk (show Box W w.heap.size _ _ by
      rw [← hW]
      exact Box.alloc XT.out)
    have HBW := Aside0.mk (show Below w.heap.size w W by
      rw [← hW]
      exact below_alloc HB.out _)
    clear hW hf HB XT rT kT fT
    go_loopw [4, 18, 6] (fun v4 v18 v6 wx => ∃ (i : Nat) (v : Value), i ≤ n ∧ v18 = .int .i64 (i : Int) ∧ v = v4 ∧ wx.ownsRow w.heap.size 5 1 v (encI f (l.take i)).length (nums .u8 (encI f (l.take i))) ∧ Below w.heap.size w wx) (fun _ v18 _ _ => n - (intOf v18).toNat)
    case atStart => exact ⟨0, _, by omega, rfl, rfl, HO.out, HBW.out⟩
    case round =>
      obtain ⟨i, v, hiN, rfl, rfl, ho, hb⟩ := hrel
      clear HBW HO
      have HB := Aside0.mk hb
      have HO := Aside0.mk ho
      clear ho hb
      by_cases hlt : i < n
      · have hil : i < l.length := by rw [HN.out]; exact hlt
        obtain ⟨p, hpe⟩ : ∃ p, l[i] = p := ⟨_, rfl⟩
        have HSU := Aside0.mk (show encI f (l.take (i + 1)) = (encI f (l.take i) ++ bytesOf ⟨(putF p.f0 8).toArray⟩) ++ bytesOf ⟨(putF p.f1 8).toArray⟩ by rw [List.take_succ_eq_append_getElem hil, hpe, encI_snoc])
        have hxl : (encI f (l.take i)).length ≤ 40000 := by
          rw [encI_len, List.length_take]
          omega
        have hpm := HP.out p (hpe ▸ List.getElem_mem hil)
        obtain ⟨z, hz⟩ : ∃ z : Int, (i : Int) = z := ⟨_, rfl⟩
        obtain ⟨ad, rfl, rC, rD⟩ := at_P (Kd.C_below HX.out HB.out) z (by omega) (by omega)
        rw [show rdP l z = p by rw [← hz, rdP_eq hil, hpe]] at rC rD
        generalize encI f (l.take i) = xs at *
        generalize p.f0 = p0 at *
        generalize p.f1 = p1 at *
        obtain ⟨y0, hy0⟩ : ∃ y, (⟨(putF p0 8).toArray⟩ : ByteArray) = y := ⟨_, rfl⟩
        obtain ⟨y1, hy1⟩ : ∃ y, (⟨(putF p1 8).toArray⟩ : ByteArray) = y := ⟨_, rfl⟩
        have hs0 : y0.size = 8 := by rw [← hy0]; exact put_size p0
        have hs1 : y1.size = 8 := by rw [← hy1]; exact put_size p1
        have HPp0 := Aside0.mk (And.intro hpm.1 hy0)
        have HPp1 := Aside0.mk (And.intro hpm.2 hy1)
        rw [hy0, hy1] at HSU
        rw [hz]
        have hz0 : 0 ≤ z := by omega
        have hz1 : z < (n : Int) := by omega
        have hdz : decide (z < (n : Int)) = true := decide_eq_true hz1
        have HZ := Aside0.mk (And.intro hz hlt)
        clear hz hlt hpm hpe hy0 hy1 hil
        go_upto_region 9 with (fail)
        obtain ⟨eb, heb⟩ : ∃ b, wr.heap.size = b := ⟨_, rfl⟩
        generalize hV : World.alloc _ _ = V at *
        have bE : Box V eb #[.int .u64 p0, .int .u64 p1] 53 := by
          rw [← hV, ← heb]
          exact Box.new
        have hBV : Below w.heap.size w V := by
          rw [← hV]
          exact below_alloc HB.out _
        have HOV := Aside0.mk (show V.drew.ownsRow _ _ _ _ _ _ by
          rw [← hV]
          exact pw_own_below HO.out (below_drew1 (below_alloc (Below.refl _ _) _)))
        have k_ : (fun w' => Below w.heap.size w w' ∧ Box w' eb #[.int .u64 p0, .int .u64 p1] 53 ∧ (∀ j, w'.cell? ⟨eb, j, none⟩ = (#[.int .u64 p0, .int .u64 p1] : Array Value)[j]?)) V.drew := ⟨below_drew1 hBV, bE.drew, bE.drew.cell⟩
        (try rw [heb])
        clear hV heb HB HO bE hBV rC rD
        refine wp_region_held_drew (S := (fun w' => Below w.heap.size w w' ∧ Box w' eb #[.int .u64 p0, .int .u64 p1] 53 ∧ (∀ j, w'.cell? ⟨eb, j, none⟩ = (#[.int .u64 p0, .int .u64 p1] : Array Value)[j]?))) (by kernel_rfl) ?hS1x0 (fun hHeld => ?hR1x0)
        case hS1x0 => ((try dsimp only); (exact k_))
        refine wpAnyH_take (i := 0) (oi := ⟨some 22, _, _, _, _, _⟩) (v := ?_) rfl (by kernel_rfl) (by kernel_rfl) (by kernel_rfl) (fun _ _ _ h => h) (Or.inl ⟨by rfl, ?hY1x2⟩) (by assumption) ?hR1x2
        case hY1x2 => (intro w hSw; (try dsimp only at hSw); go_simp; try with_reducible rfl)
        (try simp only [Act.put, qa_, qb_, qc_])
        refine wpAnyH_take (i := 1) (oi := ⟨some 23, _, _, _, _, _⟩) (v := ?_) rfl (by kernel_rfl) (by kernel_rfl) (by kernel_rfl) (fun _ _ _ h => h) (Or.inl ⟨by rfl, ?hY1x3⟩) (by assumption) ?hR1x3
        case hY1x3 => (intro w hSw; (try dsimp only at hSw); go_simp; try with_reducible rfl)
        (try simp only [Act.put, qa_, qb_, qc_])
        refine wpAnyH_take (i := 2) (oi := ⟨some 24, _, _, _, _, _⟩) (v := ?_) rfl (by kernel_rfl) (by kernel_rfl) (by kernel_rfl) (fun _ _ _ h => h) (Or.inl ⟨by rfl, ?hY1x4⟩) (by assumption) ?hR1x4
        case hY1x4 => (intro w hSw; (try dsimp only at hSw); go_simp; try with_reducible rfl)
        (try simp only [Act.put, qa_, qb_, qc_])
        refine wpAnyH_take (i := 5) (oi := ⟨some 27, _, _, _, _, _⟩) (v := ?_) rfl (by kernel_rfl) (by kernel_rfl) (by kernel_rfl) (fun _ _ _ h => h) (Or.inl ⟨by rfl, ?hY1x5⟩) (by assumption) ?hR1x5
        case hY1x5 => (intro w hSw; (try dsimp only at hSw); go_simp; try with_reducible rfl)
        (try simp only [Act.put, qa_, qb_, qc_])
        refine wpAnyH_take (i := 6) (oi := ⟨some 28, _, _, _, _, _⟩) (v := ?_) rfl (by kernel_rfl) (by kernel_rfl) (by kernel_rfl) (fun _ _ _ h => h) (Or.inl ⟨by rfl, ?hY1x6⟩) (by assumption) ?hR1x6
        case hY1x6 => (intro w hSw; (try dsimp only at hSw); go_simp; try with_reducible rfl)
        (try simp only [Act.put, qa_, qb_, qc_])
        refine wpAnyH_ready (rs := [3]) (by kernel_rfl) (by simp) ?_
        refine AllReadyH.cons (o := ⟨some 25, _, _, _, _, _⟩) rfl (fun K hK => ?hT1x7) ?hM1x7
        case hM1x7 => exact AllReadyH.nil
        (go_simp; go_at_call 52; obtain ⟨g0, gX, gC⟩ := ‹Below w.heap.size w _ ∧ _›; (with_reducible refine (Put8E p0 y0 _ HPp0.out.1 HPp0.out.2).mono ?_); rintro e w25 ⟨rfl, hb_⟩; have k_ : (fun w' => Below w.heap.size w w' ∧ Box w' eb #[.int .u64 p0, .int .u64 p1] 53 ∧ (∀ j, w'.cell? ⟨eb, j, none⟩ = (#[.int .u64 p0, .int .u64 p1] : Array Value)[j]?)) w25 := ⟨below_step g0 hb_, gX.below hb_, (gX.below hb_).cell⟩; have HR3 := Aside0.mk (pw_own_below HOV.out hb_); clear hb_; (try go_wp2_with fail))
        refine hK.out _ _ ?hS1x7 (fun hHeld => ?hR1x7)
        case hS1x7 => ((try dsimp only); (exact k_))
        clear hK K
        (try simp only [Act.put, qa_, qb_, qc_])
        refine wpAnyH_ready (rs := [4]) (by kernel_rfl) (by simp) ?_
        refine AllReadyH.cons (o := ⟨some 26, _, _, _, _, _⟩) rfl (fun K hK => ?hT1x8) ?hM1x8
        case hM1x8 => exact AllReadyH.nil
        (obtain ⟨g0, gX, gC⟩ := ‹Below w.heap.size w _ ∧ _›; refine append_str_step (w0 := w) w.heap.size (by rfl) (.tmp 22) (.tmp 25) 90 9 5 rfl Tryd.underlying90 Tryd.underlying9 info_u8 _ (xs) y0 rfl rfl HR3.out g0 g0.size (by first | omega | (simp only [List.length_append, bytesOf_length]; omega)) ?_; (intro v26 w26 ho_ hb_ hg_; have gX2 := (hg_.block eb gX.lt (own_ne HR3.out gX (by decide))).trans gX; have k_ : (fun w' => Below w.heap.size w w' ∧ Box w' eb #[.int .u64 p0, .int .u64 p1] 53 ∧ (∀ j, w'.cell? ⟨eb, j, none⟩ = (#[.int .u64 p0, .int .u64 p1] : Array Value)[j]?)) w26 := ⟨hb_, gX2, Box.cell gX2⟩; have HR4 := Aside0.mk ho_; clear ho_ hb_ hg_))
        refine hK.out _ _ ?hS1x8 (fun hHeld => ?hR1x8)
        case hS1x8 => ((try dsimp only); (exact k_))
        clear hK K
        (try simp only [Act.put, qa_, qb_, qc_])
        refine wpAnyH_ready (rs := [7]) (by kernel_rfl) (by simp) ?_
        refine AllReadyH.cons (o := ⟨some 29, _, _, _, _, _⟩) rfl (fun K hK => ?hT1x9) ?hM1x9
        case hM1x9 => exact AllReadyH.nil
        (go_simp; go_at_call 52; obtain ⟨g0, gX, gC⟩ := ‹Below w.heap.size w _ ∧ _›; (with_reducible refine (Put8E p1 y1 _ HPp1.out.1 HPp1.out.2).mono ?_); rintro e w29 ⟨rfl, hb_⟩; have k_ : (fun w' => Below w.heap.size w w' ∧ Box w' eb #[.int .u64 p0, .int .u64 p1] 53 ∧ (∀ j, w'.cell? ⟨eb, j, none⟩ = (#[.int .u64 p0, .int .u64 p1] : Array Value)[j]?)) w29 := ⟨below_step g0 hb_, gX.below hb_, (gX.below hb_).cell⟩; have HR7 := Aside0.mk (pw_own_below HR4.out hb_); clear hb_; (try go_wp2_with fail))
        refine hK.out _ _ ?hS1x9 (fun hHeld => ?hR1x9)
        case hS1x9 => ((try dsimp only); (exact k_))
        clear hK K
        (try simp only [Act.put, qa_, qb_, qc_])
        refine wpAnyH_ready (rs := [8]) (by kernel_rfl) (by simp) ?_
        refine AllReadyH.cons (o := ⟨some 30, _, _, _, _, _⟩) rfl (fun K hK => ?hT1x10) ?hM1x10
        case hM1x10 => exact AllReadyH.nil
        (obtain ⟨g0, gX, gC⟩ := ‹Below w.heap.size w _ ∧ _›; refine append_str_step (w0 := w) w.heap.size (by rfl) (.tmp 26) (.tmp 29) 90 9 5 rfl Tryd.underlying90 Tryd.underlying9 info_u8 _ (xs ++ bytesOf y0) y1 rfl rfl HR7.out g0 g0.size (by first | omega | (simp only [List.length_append, bytesOf_length]; omega)) ?_; (intro v30 w30 ho_ hb_ hg_; have gX2 := (hg_.block eb gX.lt (own_ne HR7.out gX (by decide))).trans gX; have k_ : (fun w' => Below w.heap.size w w' ∧ Box w' eb #[.int .u64 p0, .int .u64 p1] 53 ∧ (∀ j, w'.cell? ⟨eb, j, none⟩ = (#[.int .u64 p0, .int .u64 p1] : Array Value)[j]?)) w30 := ⟨hb_, gX2, Box.cell gX2⟩; have HR8 := Aside0.mk ho_; clear ho_ hb_ hg_))
        refine hK.out _ _ ?hS1x10 (fun hHeld => ?hR1x10)
        case hS1x10 => ((try dsimp only); (exact k_))
        clear hK K
        (try simp only [Act.put, qa_, qb_, qc_])
        refine wpAnyH_take (i := 9) (oi := ⟨some 4, _, _, _, _, _⟩) (v := ?_) rfl (by kernel_rfl) (by kernel_rfl) (by kernel_rfl) (fun _ _ _ h => h) (Or.inl ⟨by rfl, ?hY1x11⟩) (by assumption) ?hR1x11
        case hY1x11 => (intro w hSw; (try dsimp only at hSw); go_simp; try with_reducible rfl)
        (try simp only [Act.put, qa_, qb_, qc_])
        refine wpAnyH_done (by kernel_rfl) ?_ _
        go_wp2
        go_roundw
        case rel => exact ⟨i + 1, _, by have := HZ.out; omega, by have := HZ.out.1; subst this; go_num, rfl, by rw [HSU.out]; exact HR8.out, k_.1⟩
        case measure =>
          have := HZ.out
          simp [intOf]
          omega
      · have hdf : decide ((i : Int) < (n : Int)) = false := decide_eq_false (by omega)
        have hdg : decide (i < n) = false := decide_eq_false hlt
        obtain rfl : n = i := by omega
        have ht : l.take n = l := List.take_of_length_le (by rw [HN.out]; exact Nat.le_refl _)
        rw [ht] at HO
        have hcv := own_string (P := Tryd.prog) Tryd.underlying90 Tryd.underlying5 Tryd.underlying9 HO.out
        clear HO ht
        go_wp2
        go_ret2
        exact ⟨by rw [encI_str]; rfl, HB.out⟩
  · (try simp only [Bool.not_eq_true] at hf)
    go_wp2_with fail
    generalize hW : World.alloc _ _ = W at *
    have HO := Aside0.mk (show W.ownsRow w.heap.size 5 1 (.slice (some ⟨w1.heap.size, 0, none⟩) 1 1) (encI f []).length (nums .u8 (encI f [])) by
      rw [← hW, hf]
      exact own_lit w1 w.heap.size 5 .u8 _ hw1 (by decide))
    have XW := Aside0.mk (show Box W w.heap.size _ _ by
      rw [← hW]
      exact Box.alloc XT.out)
    have HBW := Aside0.mk (show Below w.heap.size w W by
      rw [← hW]
      exact below_alloc HB.out _)
    clear hW hf HB XT rT kT fT
    go_loopw [4, 18, 6] (fun v4 v18 v6 wx => ∃ (i : Nat) (v : Value), i ≤ n ∧ v18 = .int .i64 (i : Int) ∧ v = v4 ∧ wx.ownsRow w.heap.size 5 1 v (encI f (l.take i)).length (nums .u8 (encI f (l.take i))) ∧ Below w.heap.size w wx) (fun _ v18 _ _ => n - (intOf v18).toNat)
    case atStart => exact ⟨0, _, by omega, rfl, rfl, HO.out, HBW.out⟩
    case round =>
      obtain ⟨i, v, hiN, rfl, rfl, ho, hb⟩ := hrel
      clear HBW HO
      have HB := Aside0.mk hb
      have HO := Aside0.mk ho
      clear ho hb
      by_cases hlt : i < n
      · have hil : i < l.length := by rw [HN.out]; exact hlt
        obtain ⟨p, hpe⟩ : ∃ p, l[i] = p := ⟨_, rfl⟩
        have HSU := Aside0.mk (show encI f (l.take (i + 1)) = (encI f (l.take i) ++ bytesOf ⟨(putF p.f0 8).toArray⟩) ++ bytesOf ⟨(putF p.f1 8).toArray⟩ by rw [List.take_succ_eq_append_getElem hil, hpe, encI_snoc])
        have hxl : (encI f (l.take i)).length ≤ 40000 := by
          rw [encI_len, List.length_take]
          omega
        have hpm := HP.out p (hpe ▸ List.getElem_mem hil)
        obtain ⟨z, hz⟩ : ∃ z : Int, (i : Int) = z := ⟨_, rfl⟩
        obtain ⟨ad, rfl, rC, rD⟩ := at_P (Kd.C_below HX.out HB.out) z (by omega) (by omega)
        rw [show rdP l z = p by rw [← hz, rdP_eq hil, hpe]] at rC rD
        generalize encI f (l.take i) = xs at *
        generalize p.f0 = p0 at *
        generalize p.f1 = p1 at *
        obtain ⟨y0, hy0⟩ : ∃ y, (⟨(putF p0 8).toArray⟩ : ByteArray) = y := ⟨_, rfl⟩
        obtain ⟨y1, hy1⟩ : ∃ y, (⟨(putF p1 8).toArray⟩ : ByteArray) = y := ⟨_, rfl⟩
        have hs0 : y0.size = 8 := by rw [← hy0]; exact put_size p0
        have hs1 : y1.size = 8 := by rw [← hy1]; exact put_size p1
        have HPp0 := Aside0.mk (And.intro hpm.1 hy0)
        have HPp1 := Aside0.mk (And.intro hpm.2 hy1)
        rw [hy0, hy1] at HSU
        rw [hz]
        have hz0 : 0 ≤ z := by omega
        have hz1 : z < (n : Int) := by omega
        have hdz : decide (z < (n : Int)) = true := decide_eq_true hz1
        have HZ := Aside0.mk (And.intro hz hlt)
        clear hz hlt hpm hpe hy0 hy1 hil
        go_upto_region 9 with (fail)
        obtain ⟨eb, heb⟩ : ∃ b, wr.heap.size = b := ⟨_, rfl⟩
        generalize hV : World.alloc _ _ = V at *
        have bE : Box V eb #[.int .u64 p0, .int .u64 p1] 53 := by
          rw [← hV, ← heb]
          exact Box.new
        have hBV : Below w.heap.size w V := by
          rw [← hV]
          exact below_alloc HB.out _
        have HOV := Aside0.mk (show V.drew.ownsRow _ _ _ _ _ _ by
          rw [← hV]
          exact pw_own_below HO.out (below_drew1 (below_alloc (Below.refl _ _) _)))
        have k_ : (fun w' => Below w.heap.size w w' ∧ Box w' eb #[.int .u64 p0, .int .u64 p1] 53 ∧ (∀ j, w'.cell? ⟨eb, j, none⟩ = (#[.int .u64 p0, .int .u64 p1] : Array Value)[j]?)) V.drew := ⟨below_drew1 hBV, bE.drew, bE.drew.cell⟩
        (try rw [heb])
        clear hV heb HB HO bE hBV rC rD
        refine wp_region_held_drew (S := (fun w' => Below w.heap.size w w' ∧ Box w' eb #[.int .u64 p0, .int .u64 p1] 53 ∧ (∀ j, w'.cell? ⟨eb, j, none⟩ = (#[.int .u64 p0, .int .u64 p1] : Array Value)[j]?))) (by kernel_rfl) ?hS2x0 (fun hHeld => ?hR2x0)
        case hS2x0 => ((try dsimp only); (exact k_))
        refine wpAnyH_take (i := 0) (oi := ⟨some 22, _, _, _, _, _⟩) (v := ?_) rfl (by kernel_rfl) (by kernel_rfl) (by kernel_rfl) (fun _ _ _ h => h) (Or.inl ⟨by rfl, ?hY2x2⟩) (by assumption) ?hR2x2
        case hY2x2 => (intro w hSw; (try dsimp only at hSw); go_simp; try with_reducible rfl)
        (try simp only [Act.put, qa_, qb_, qc_])
        refine wpAnyH_take (i := 1) (oi := ⟨some 23, _, _, _, _, _⟩) (v := ?_) rfl (by kernel_rfl) (by kernel_rfl) (by kernel_rfl) (fun _ _ _ h => h) (Or.inl ⟨by rfl, ?hY2x3⟩) (by assumption) ?hR2x3
        case hY2x3 => (intro w hSw; (try dsimp only at hSw); go_simp; try with_reducible rfl)
        (try simp only [Act.put, qa_, qb_, qc_])
        refine wpAnyH_take (i := 2) (oi := ⟨some 24, _, _, _, _, _⟩) (v := ?_) rfl (by kernel_rfl) (by kernel_rfl) (by kernel_rfl) (fun _ _ _ h => h) (Or.inl ⟨by rfl, ?hY2x4⟩) (by assumption) ?hR2x4
        case hY2x4 => (intro w hSw; (try dsimp only at hSw); go_simp; try with_reducible rfl)
        (try simp only [Act.put, qa_, qb_, qc_])
        refine wpAnyH_take (i := 5) (oi := ⟨some 27, _, _, _, _, _⟩) (v := ?_) rfl (by kernel_rfl) (by kernel_rfl) (by kernel_rfl) (fun _ _ _ h => h) (Or.inl ⟨by rfl, ?hY2x5⟩) (by assumption) ?hR2x5
        case hY2x5 => (intro w hSw; (try dsimp only at hSw); go_simp; try with_reducible rfl)
        (try simp only [Act.put, qa_, qb_, qc_])
        refine wpAnyH_take (i := 6) (oi := ⟨some 28, _, _, _, _, _⟩) (v := ?_) rfl (by kernel_rfl) (by kernel_rfl) (by kernel_rfl) (fun _ _ _ h => h) (Or.inl ⟨by rfl, ?hY2x6⟩) (by assumption) ?hR2x6
        case hY2x6 => (intro w hSw; (try dsimp only at hSw); go_simp; try with_reducible rfl)
        (try simp only [Act.put, qa_, qb_, qc_])
        refine wpAnyH_ready (rs := [3]) (by kernel_rfl) (by simp) ?_
        refine AllReadyH.cons (o := ⟨some 25, _, _, _, _, _⟩) rfl (fun K hK => ?hT2x7) ?hM2x7
        case hM2x7 => exact AllReadyH.nil
        (go_simp; go_at_call 52; obtain ⟨g0, gX, gC⟩ := ‹Below w.heap.size w _ ∧ _›; (with_reducible refine (Put8E p0 y0 _ HPp0.out.1 HPp0.out.2).mono ?_); rintro e w25 ⟨rfl, hb_⟩; have k_ : (fun w' => Below w.heap.size w w' ∧ Box w' eb #[.int .u64 p0, .int .u64 p1] 53 ∧ (∀ j, w'.cell? ⟨eb, j, none⟩ = (#[.int .u64 p0, .int .u64 p1] : Array Value)[j]?)) w25 := ⟨below_step g0 hb_, gX.below hb_, (gX.below hb_).cell⟩; have HR3 := Aside0.mk (pw_own_below HOV.out hb_); clear hb_; (try go_wp2_with fail))
        refine hK.out _ _ ?hS2x7 (fun hHeld => ?hR2x7)
        case hS2x7 => ((try dsimp only); (exact k_))
        clear hK K
        (try simp only [Act.put, qa_, qb_, qc_])
        refine wpAnyH_ready (rs := [4]) (by kernel_rfl) (by simp) ?_
        refine AllReadyH.cons (o := ⟨some 26, _, _, _, _, _⟩) rfl (fun K hK => ?hT2x8) ?hM2x8
        case hM2x8 => exact AllReadyH.nil
        (obtain ⟨g0, gX, gC⟩ := ‹Below w.heap.size w _ ∧ _›; refine append_str_step (w0 := w) w.heap.size (by rfl) (.tmp 22) (.tmp 25) 90 9 5 rfl Tryd.underlying90 Tryd.underlying9 info_u8 _ (xs) y0 rfl rfl HR3.out g0 g0.size (by first | omega | (simp only [List.length_append, bytesOf_length]; omega)) ?_; (intro v26 w26 ho_ hb_ hg_; have gX2 := (hg_.block eb gX.lt (own_ne HR3.out gX (by decide))).trans gX; have k_ : (fun w' => Below w.heap.size w w' ∧ Box w' eb #[.int .u64 p0, .int .u64 p1] 53 ∧ (∀ j, w'.cell? ⟨eb, j, none⟩ = (#[.int .u64 p0, .int .u64 p1] : Array Value)[j]?)) w26 := ⟨hb_, gX2, Box.cell gX2⟩; have HR4 := Aside0.mk ho_; clear ho_ hb_ hg_))
        refine hK.out _ _ ?hS2x8 (fun hHeld => ?hR2x8)
        case hS2x8 => ((try dsimp only); (exact k_))
        clear hK K
        (try simp only [Act.put, qa_, qb_, qc_])
        refine wpAnyH_ready (rs := [7]) (by kernel_rfl) (by simp) ?_
        refine AllReadyH.cons (o := ⟨some 29, _, _, _, _, _⟩) rfl (fun K hK => ?hT2x9) ?hM2x9
        case hM2x9 => exact AllReadyH.nil
        (go_simp; go_at_call 52; obtain ⟨g0, gX, gC⟩ := ‹Below w.heap.size w _ ∧ _›; (with_reducible refine (Put8E p1 y1 _ HPp1.out.1 HPp1.out.2).mono ?_); rintro e w29 ⟨rfl, hb_⟩; have k_ : (fun w' => Below w.heap.size w w' ∧ Box w' eb #[.int .u64 p0, .int .u64 p1] 53 ∧ (∀ j, w'.cell? ⟨eb, j, none⟩ = (#[.int .u64 p0, .int .u64 p1] : Array Value)[j]?)) w29 := ⟨below_step g0 hb_, gX.below hb_, (gX.below hb_).cell⟩; have HR7 := Aside0.mk (pw_own_below HR4.out hb_); clear hb_; (try go_wp2_with fail))
        refine hK.out _ _ ?hS2x9 (fun hHeld => ?hR2x9)
        case hS2x9 => ((try dsimp only); (exact k_))
        clear hK K
        (try simp only [Act.put, qa_, qb_, qc_])
        refine wpAnyH_ready (rs := [8]) (by kernel_rfl) (by simp) ?_
        refine AllReadyH.cons (o := ⟨some 30, _, _, _, _, _⟩) rfl (fun K hK => ?hT2x10) ?hM2x10
        case hM2x10 => exact AllReadyH.nil
        (obtain ⟨g0, gX, gC⟩ := ‹Below w.heap.size w _ ∧ _›; refine append_str_step (w0 := w) w.heap.size (by rfl) (.tmp 26) (.tmp 29) 90 9 5 rfl Tryd.underlying90 Tryd.underlying9 info_u8 _ (xs ++ bytesOf y0) y1 rfl rfl HR7.out g0 g0.size (by first | omega | (simp only [List.length_append, bytesOf_length]; omega)) ?_; (intro v30 w30 ho_ hb_ hg_; have gX2 := (hg_.block eb gX.lt (own_ne HR7.out gX (by decide))).trans gX; have k_ : (fun w' => Below w.heap.size w w' ∧ Box w' eb #[.int .u64 p0, .int .u64 p1] 53 ∧ (∀ j, w'.cell? ⟨eb, j, none⟩ = (#[.int .u64 p0, .int .u64 p1] : Array Value)[j]?)) w30 := ⟨hb_, gX2, Box.cell gX2⟩; have HR8 := Aside0.mk ho_; clear ho_ hb_ hg_))
        refine hK.out _ _ ?hS2x10 (fun hHeld => ?hR2x10)
        case hS2x10 => ((try dsimp only); (exact k_))
        clear hK K
        (try simp only [Act.put, qa_, qb_, qc_])
        refine wpAnyH_take (i := 9) (oi := ⟨some 4, _, _, _, _, _⟩) (v := ?_) rfl (by kernel_rfl) (by kernel_rfl) (by kernel_rfl) (fun _ _ _ h => h) (Or.inl ⟨by rfl, ?hY2x11⟩) (by assumption) ?hR2x11
        case hY2x11 => (intro w hSw; (try dsimp only at hSw); go_simp; try with_reducible rfl)
        (try simp only [Act.put, qa_, qb_, qc_])
        refine wpAnyH_done (by kernel_rfl) ?_ _
        go_wp2
        go_roundw
        case rel => exact ⟨i + 1, _, by have := HZ.out; omega, by have := HZ.out.1; subst this; go_num, rfl, by rw [HSU.out]; exact HR8.out, k_.1⟩
        case measure =>
          have := HZ.out
          simp [intOf]
          omega
      · have hdf : decide ((i : Int) < (n : Int)) = false := decide_eq_false (by omega)
        have hdg : decide (i < n) = false := decide_eq_false hlt
        obtain rfl : n = i := by omega
        have ht : l.take n = l := List.take_of_length_le (by rw [HN.out]; exact Nat.le_refl _)
        rw [ht] at HO
        have hcv := own_string (P := Tryd.prog) Tryd.underlying90 Tryd.underlying5 Tryd.underlying9 HO.out
        clear HO ht
        go_wp2
        go_ret2
        exact ⟨by rw [encI_str]; rfl, HB.out⟩
end Go.Proofs.YtdepmbnoecpccaaDoor


/- Who is selected (chapter 10). -/
namespace Go.Proofs.YtdepmbnoecpccaaDoor
open Go.RowKit Go.Proofs.YtdepmbnoecpccaaDoorW.PrintWords Go.Proofs.YtdepmbnoecpccaaDoorW.PrintLast Go.Proofs.YtdepmbnoecpccaaDoorW.PrintMore
open Go.Proofs.YtdepmbnoecpccaaDoor.PQ

def byF (c : ChainV) (size : Int) : Int := if size / c.ag < 1 then 1 else size / c.ag
def selF (c : ChainV) (size : Int) (f : Bool) (l : List Pr) : Bool := fitsC c && (decide (1 ≤ size) && (rightT l && decide (sumF (encF f l) % byF c size = 0)))
theorem EncodeE (f : Bool) (A : Option Addr) (n c : Nat) (l : List Pr) (s : ByteArray) (w : World) (hA : kP.C w A n l) (hc : n ≤ c) (h : rightT l = true) (hp : ∀ p ∈ l, 0 ≤ p.f0 ∧ 0 ≤ p.f1) (hs : (⟨(encF f l).toArray⟩ : ByteArray) = s) : Calls Tryd.prog 44 #[.agg #[.bool f, .slice A n c]] w
    fun e w' => e = .returned (.tuple #[.string s, .int .i64 0]) ∧ Below w.heap.size w w' := hs ▸ Encode_yes f A n c l w hA hc h hp
theorem FitsE (c : ChainV) (b : Bool) (w : World) (hG : DutyLaid w) (h : fitsC c = b) : Calls Tryd.prog 36 #[.agg #[.int .i64 c.va, .int .i64 c.sl, .int .i64 c.co, .int .i64 c.su, .int .i64 c.ti, .int .i64 c.di, .int .i64 c.ra, .int .i64 c.ro, .int .i64 c.ag, .int .u64 c.se]] w fun e w' => e = .returned (.bool b) ∧ Below w.heap.size w w' := h ▸ Fits_d c w hG
theorem SumQ (s : ByteArray) (x : Int) (hx : sumF s.data.toList = x) (hs : s.size ≤ maxLen) (w : World) (hG : ChurnLaid w) : Calls Tryd.prog 45 #[.string s] w fun e w' => e = .returned (.int .u64 x) ∧ ∃ n, w' = w.drewN n := hx ▸ Sum_calls s w hs hG
attribute [local go_sem] max2_int min2_int max_two min_two
set_option maxRecDepth 100000 in
set_option maxHeartbeats 4000000 in
theorem Selected_calls (c : ChainV) (size : Int) (f : Bool) (A : Option Addr) (n cap : Nat) (l : List Pr) (r : Bool) (w : World) (hA : kP.C w A n l) (hc : n ≤ cap) (hp : ∀ p ∈ l, 0 ≤ p.f0 ∧ 0 ≤ p.f1) (hsz : -9223372036854775808 ≤ size ∧ size ≤ 9223372036854775807) (h : selF c size f l = r) (hG : DutyLaid w) :
    Calls Tryd.prog 22 #[.agg #[.int .i64 c.va, .int .i64 c.sl, .int .i64 c.co, .int .i64 c.su, .int .i64 c.ti, .int .i64 c.di, .int .i64 c.ra, .int .i64 c.ro, .int .i64 c.ag, .int .u64 c.se], .int .i64 size, .agg #[.bool f, .slice A n cap]] w fun e w' => e = .returned (.bool r) ∧ Below w.heap.size w w' := by
  have HB := Aside0.mk (Below.refl w.heap.size w)
  have HG := Aside0.mk hG
  have HX := Aside0.mk hA
  have HP := Aside0.mk hp
  have HR := Aside0.mk h
  clear hG hA hp h
  by_cases hr : rightT l = true
  · obtain ⟨s, hs⟩ : ∃ s, (⟨(encF f l).toArray⟩ : ByteArray) = s := ⟨_, rfl⟩
    obtain ⟨x, hx⟩ : ∃ x, sumF (encF f l) = x := ⟨_, rfl⟩
    have HSX := Aside0.mk (show sumF s.data.toList = x by rw [← hs]; exact hx)
    have HSZ := Aside0.mk (show s.size ≤ maxLen by
      unfold rightT at hr
      rw [Bool.and_eq_true, decide_eq_true_iff] at hr
      rw [← hs, enc_size]
      unfold maxLen
      omega)
    have hx0 : 0 ≤ x ∧ x < 18446744073709551616 := by rw [← hx]; exact sumF_ok _
    have HS := Aside0.mk hs
    have HRT := Aside0.mk hr
    unfold selF at HR
    rw [hr, hx, Bool.true_and] at HR
    clear hs hx hr
    by_cases hf : fitsC c = true
    · rw [hf, Bool.true_and] at HR
      by_cases h1 : 1 ≤ size
      · obtain ⟨g1, g2, g3, g4, g5, g6, g7, g8, g9⟩ := (fitsC_iff c).1 hf
        have ha0 : ¬ c.ag = 0 := by omega
        obtain ⟨q, hq⟩ : ∃ q, size / c.ag = q := ⟨_, rfl⟩
        have hq0 : size.tdiv c.ag = q := by rw [Int.tdiv_eq_ediv_of_nonneg (by omega), hq]
        have hq1 : 0 ≤ q := by rw [← hq]; exact Int.ediv_nonneg (by omega) (by omega)
        have hq2 : q ≤ 9223372036854775807 := by
          rw [← hq]
          exact Int.le_trans (Int.ediv_le_self _ (by omega)) hsz.2
        obtain ⟨m, hm⟩ : ∃ m : Int, (if q < 1 then 1 else q) = m := ⟨_, rfl⟩
        have hm1 : 1 ≤ m ∧ m ≤ 9223372036854775807 := by rw [← hm]; split <;> omega
        have hw : IntKind.u64.wrap m = m := by rw [IntKind.wrap_u64]; omega
        have hm0 : ¬ m = 0 := by omega
        unfold byF at HR
        rw [hq, hm, decide_eq_true h1, Bool.true_and] at HR
        obtain ⟨y, hy⟩ : ∃ y, x % m = y := ⟨_, rfl⟩
        have hy0 : x.tmod m = y := by rw [Int.tmod_eq_emod_of_nonneg hx0.1, hy]
        have hyr : (y == 0) = r := by
          rw [← HR.out, hy, Bool.eq_iff_iff, beq_iff_eq, decide_eq_true_iff]
        have hdl : decide (size < 1) = false := decide_eq_false (by omega)
        have hnl : ¬ size < 1 := by omega
        clear hq hy g1 g2 g3 g4 g5 g6 g7 g9
        go_enter Tryd.func22, Tryd.ntmps22
        go_wp2_with fail
        refine (EncodeE f A n cap l s _ (by repeat (with_reducible first | exact HX.out | apply C_alloc)) hc HRT.out HP.out HS.out).mono ?_
        rintro e w1 ⟨rfl, hb_⟩
        have YA : Box w1 (w.heap.size) _ _ := Box.below (by repeat (with_reducible first | exact XA.out | exact Box.new | exact Box.new1 | exact Box.new2 | exact Box.new3 | apply Box.alloc | apply Box.drew | apply Box.drewN | apply Box.set)) hb_
        (try clear XA rA kA fA); have XA := Aside0.mk YA; have rA := YA.cell; have fA := YA.frozen; have kA := YA.lt; clear YA
        have n_ := Aside0.mk (below_step (by repeat (first | exact HB.out | apply below_alloc | apply pw_below_drewN | apply below_drew1 | refine below_set ?_ (by first | omega | (simp; omega)))) hb_); clear HB hb_; have HB := n_; clear n_
        go_wp2_with fail
        refine (FitsE c true _ ?hG hf).mono ?_
        case hG => exact HG.out.below (by repeat (first | exact HB.out | apply below_alloc | apply pw_below_drewN | apply below_drew1 | refine below_set ?_ (by first | omega | (simp; omega))))
        rintro e w2 ⟨rfl, hb_⟩
        have YA : Box w2 (w.heap.size) _ _ := Box.below (by repeat (with_reducible first | exact XA.out | exact Box.new | exact Box.new1 | exact Box.new2 | exact Box.new3 | apply Box.alloc | apply Box.drew | apply Box.drewN | apply Box.set)) hb_
        (try clear XA rA kA fA); have XA := Aside0.mk YA; have rA := YA.cell; have fA := YA.frozen; have kA := YA.lt; clear YA
        have n_ := Aside0.mk (below_step (by repeat (first | exact HB.out | apply below_alloc | apply pw_below_drewN | apply below_drew1 | refine below_set ?_ (by first | omega | (simp; omega)))) hb_); clear HB hb_; have HB := n_; clear n_
        go_upto_region 4 with (fail)
        have HGW := Aside0.mk (HG.out.below HB.out)
        go_quiet ((go_at_call 45; exact Calls.quiet_of (SumQ s x HSX.out HSZ.out _ (HGW.out.ch.drewN _))))
        go_wp2
        go_ret
        exact ⟨rfl, pw_below_drewN HB.out _⟩
      · have hd : decide (size < 1) = true := decide_eq_true (by omega)
        have hl : size < 1 := by omega
        rw [decide_eq_false h1, Bool.false_and] at HR
        obtain rfl := HR.out
        go_enter Tryd.func22, Tryd.ntmps22
        go_wp2_with fail
        refine (EncodeE f A n cap l s _ (by repeat (with_reducible first | exact HX.out | apply C_alloc)) hc HRT.out HP.out HS.out).mono ?_
        rintro e w1 ⟨rfl, hb_⟩
        have YA : Box w1 (w.heap.size) _ _ := Box.below (by repeat (with_reducible first | exact XA.out | exact Box.new | exact Box.new1 | exact Box.new2 | exact Box.new3 | apply Box.alloc | apply Box.drew | apply Box.drewN | apply Box.set)) hb_
        (try clear XA rA kA fA); have XA := Aside0.mk YA; have rA := YA.cell; have fA := YA.frozen; have kA := YA.lt; clear YA
        have n_ := Aside0.mk (below_step (by repeat (first | exact HB.out | apply below_alloc | apply pw_below_drewN | apply below_drew1 | refine below_set ?_ (by first | omega | (simp; omega)))) hb_); clear HB hb_; have HB := n_; clear n_
        go_wp2_with fail
        refine (FitsE c true _ ?hG hf).mono ?_
        case hG => exact HG.out.below (by repeat (first | exact HB.out | apply below_alloc | apply pw_below_drewN | apply below_drew1 | refine below_set ?_ (by first | omega | (simp; omega))))
        rintro e w2 ⟨rfl, hb_⟩
        have YA : Box w2 (w.heap.size) _ _ := Box.below (by repeat (with_reducible first | exact XA.out | exact Box.new | exact Box.new1 | exact Box.new2 | exact Box.new3 | apply Box.alloc | apply Box.drew | apply Box.drewN | apply Box.set)) hb_
        (try clear XA rA kA fA); have XA := Aside0.mk YA; have rA := YA.cell; have fA := YA.frozen; have kA := YA.lt; clear YA
        have n_ := Aside0.mk (below_step (by repeat (first | exact HB.out | apply below_alloc | apply pw_below_drewN | apply below_drew1 | refine below_set ?_ (by first | omega | (simp; omega)))) hb_); clear HB hb_; have HB := n_; clear n_
        go_wp2
        go_ret
        exact ⟨rfl, HB.out⟩
    · rw [Bool.not_eq_true] at hf
      rw [hf, Bool.false_and] at HR
      obtain rfl := HR.out
      have HF := Aside0.mk hf
      clear hf
      go_enter Tryd.func22, Tryd.ntmps22
      go_wp2_with fail
      refine (EncodeE f A n cap l s _ (by repeat (with_reducible first | exact HX.out | apply C_alloc)) hc HRT.out HP.out HS.out).mono ?_
      rintro e w1 ⟨rfl, hb_⟩
      have YA : Box w1 (w.heap.size) _ _ := Box.below (by repeat (with_reducible first | exact XA.out | exact Box.new | exact Box.new1 | exact Box.new2 | exact Box.new3 | apply Box.alloc | apply Box.drew | apply Box.drewN | apply Box.set)) hb_
      (try clear XA rA kA fA); have XA := Aside0.mk YA; have rA := YA.cell; have fA := YA.frozen; have kA := YA.lt; clear YA
      have n_ := Aside0.mk (below_step (by repeat (first | exact HB.out | apply below_alloc | apply pw_below_drewN | apply below_drew1 | refine below_set ?_ (by first | omega | (simp; omega)))) hb_); clear HB hb_; have HB := n_; clear n_
      go_wp2_with fail
      refine (FitsE c false _ ?hG HF.out).mono ?_
      case hG => exact HG.out.below (by repeat (first | exact HB.out | apply below_alloc | apply pw_below_drewN | apply below_drew1 | refine below_set ?_ (by first | omega | (simp; omega))))
      rintro e w2 ⟨rfl, hb_⟩
      have YA : Box w2 (w.heap.size) _ _ := Box.below (by repeat (with_reducible first | exact XA.out | exact Box.new | exact Box.new1 | exact Box.new2 | exact Box.new3 | apply Box.alloc | apply Box.drew | apply Box.drewN | apply Box.set)) hb_
      (try clear XA rA kA fA); have XA := Aside0.mk YA; have rA := YA.cell; have fA := YA.frozen; have kA := YA.lt; clear YA
      have n_ := Aside0.mk (below_step (by repeat (first | exact HB.out | apply below_alloc | apply pw_below_drewN | apply below_drew1 | refine below_set ?_ (by first | omega | (simp; omega)))) hb_); clear HB hb_; have HB := n_; clear n_
      go_wp2
      go_ret
      exact ⟨rfl, HB.out⟩
  · rw [Bool.not_eq_true] at hr
    have HRT := Aside0.mk hr
    obtain rfl : false = r := by
      rw [← HR.out]
      unfold selF
      rw [hr, Bool.false_and, Bool.and_false, Bool.and_false]
    clear hr HR
    obtain ⟨b, hb⟩ : ∃ b, fitsC c = b := ⟨_, rfl⟩
    have HF := Aside0.mk hb
    clear hb
    cases b with
    | false =>
      go_enter Tryd.func22, Tryd.ntmps22
      go_wp2_with fail
      refine (Encode_no f A n cap l _ (by repeat (with_reducible first | exact HX.out | apply C_alloc)) hc HRT.out).mono ?_
      rintro e w1 ⟨rfl, hb_⟩
      have YA : Box w1 (w.heap.size) _ _ := Box.below (by repeat (with_reducible first | exact XA.out | exact Box.new | exact Box.new1 | exact Box.new2 | exact Box.new3 | apply Box.alloc | apply Box.drew | apply Box.drewN | apply Box.set)) hb_
      (try clear XA rA kA fA); have XA := Aside0.mk YA; have rA := YA.cell; have fA := YA.frozen; have kA := YA.lt; clear YA
      have n_ := Aside0.mk (below_step (by repeat (first | exact HB.out | apply below_alloc | apply pw_below_drewN | apply below_drew1 | refine below_set ?_ (by first | omega | (simp; omega)))) hb_); clear HB hb_; have HB := n_; clear n_
      go_wp2_with fail
      refine (FitsE c false _ ?hG HF.out).mono ?_
      case hG => exact HG.out.below (by repeat (first | exact HB.out | apply below_alloc | apply pw_below_drewN | apply below_drew1 | refine below_set ?_ (by first | omega | (simp; omega))))
      rintro e w2 ⟨rfl, hb_⟩
      have YA : Box w2 (w.heap.size) _ _ := Box.below (by repeat (with_reducible first | exact XA.out | exact Box.new | exact Box.new1 | exact Box.new2 | exact Box.new3 | apply Box.alloc | apply Box.drew | apply Box.drewN | apply Box.set)) hb_
      (try clear XA rA kA fA); have XA := Aside0.mk YA; have rA := YA.cell; have fA := YA.frozen; have kA := YA.lt; clear YA
      have n_ := Aside0.mk (below_step (by repeat (first | exact HB.out | apply below_alloc | apply pw_below_drewN | apply below_drew1 | refine below_set ?_ (by first | omega | (simp; omega)))) hb_); clear HB hb_; have HB := n_; clear n_
      go_wp2
      go_ret
      exact ⟨rfl, HB.out⟩
    | true =>
      by_cases h1 : size < 1
      · have hd : decide (size < 1) = true := decide_eq_true h1
        go_enter Tryd.func22, Tryd.ntmps22
        go_wp2_with fail
        refine (Encode_no f A n cap l _ (by repeat (with_reducible first | exact HX.out | apply C_alloc)) hc HRT.out).mono ?_
        rintro e w1 ⟨rfl, hb_⟩
        have YA : Box w1 (w.heap.size) _ _ := Box.below (by repeat (with_reducible first | exact XA.out | exact Box.new | exact Box.new1 | exact Box.new2 | exact Box.new3 | apply Box.alloc | apply Box.drew | apply Box.drewN | apply Box.set)) hb_
        (try clear XA rA kA fA); have XA := Aside0.mk YA; have rA := YA.cell; have fA := YA.frozen; have kA := YA.lt; clear YA
        have n_ := Aside0.mk (below_step (by repeat (first | exact HB.out | apply below_alloc | apply pw_below_drewN | apply below_drew1 | refine below_set ?_ (by first | omega | (simp; omega)))) hb_); clear HB hb_; have HB := n_; clear n_
        go_wp2_with fail
        refine (FitsE c true _ ?hG HF.out).mono ?_
        case hG => exact HG.out.below (by repeat (first | exact HB.out | apply below_alloc | apply pw_below_drewN | apply below_drew1 | refine below_set ?_ (by first | omega | (simp; omega))))
        rintro e w2 ⟨rfl, hb_⟩
        have YA : Box w2 (w.heap.size) _ _ := Box.below (by repeat (with_reducible first | exact XA.out | exact Box.new | exact Box.new1 | exact Box.new2 | exact Box.new3 | apply Box.alloc | apply Box.drew | apply Box.drewN | apply Box.set)) hb_
        (try clear XA rA kA fA); have XA := Aside0.mk YA; have rA := YA.cell; have fA := YA.frozen; have kA := YA.lt; clear YA
        have n_ := Aside0.mk (below_step (by repeat (first | exact HB.out | apply below_alloc | apply pw_below_drewN | apply below_drew1 | refine below_set ?_ (by first | omega | (simp; omega)))) hb_); clear HB hb_; have HB := n_; clear n_
        go_wp2
        go_ret
        exact ⟨rfl, HB.out⟩
      · have hd : decide (size < 1) = false := decide_eq_false h1
        go_enter Tryd.func22, Tryd.ntmps22
        go_wp2_with fail
        refine (Encode_no f A n cap l _ (by repeat (with_reducible first | exact HX.out | apply C_alloc)) hc HRT.out).mono ?_
        rintro e w1 ⟨rfl, hb_⟩
        have YA : Box w1 (w.heap.size) _ _ := Box.below (by repeat (with_reducible first | exact XA.out | exact Box.new | exact Box.new1 | exact Box.new2 | exact Box.new3 | apply Box.alloc | apply Box.drew | apply Box.drewN | apply Box.set)) hb_
        (try clear XA rA kA fA); have XA := Aside0.mk YA; have rA := YA.cell; have fA := YA.frozen; have kA := YA.lt; clear YA
        have n_ := Aside0.mk (below_step (by repeat (first | exact HB.out | apply below_alloc | apply pw_below_drewN | apply below_drew1 | refine below_set ?_ (by first | omega | (simp; omega)))) hb_); clear HB hb_; have HB := n_; clear n_
        go_wp2_with fail
        refine (FitsE c true _ ?hG HF.out).mono ?_
        case hG => exact HG.out.below (by repeat (first | exact HB.out | apply below_alloc | apply pw_below_drewN | apply below_drew1 | refine below_set ?_ (by first | omega | (simp; omega))))
        rintro e w2 ⟨rfl, hb_⟩
        have YA : Box w2 (w.heap.size) _ _ := Box.below (by repeat (with_reducible first | exact XA.out | exact Box.new | exact Box.new1 | exact Box.new2 | exact Box.new3 | apply Box.alloc | apply Box.drew | apply Box.drewN | apply Box.set)) hb_
        (try clear XA rA kA fA); have XA := Aside0.mk YA; have rA := YA.cell; have fA := YA.frozen; have kA := YA.lt; clear YA
        have n_ := Aside0.mk (below_step (by repeat (first | exact HB.out | apply below_alloc | apply pw_below_drewN | apply below_drew1 | refine below_set ?_ (by first | omega | (simp; omega)))) hb_); clear HB hb_; have HB := n_; clear n_
        go_wp2
        go_ret
        exact ⟨rfl, HB.out⟩
end Go.Proofs.YtdepmbnoecpccaaDoor

namespace Go.Proofs.YtdepmbnoecpccaaDoor.PQ
open Go.RowKit Go.Proofs.YtdepmbnoecpccaaDoorW.PrintWords Go.Proofs.YtdepmbnoecpccaaDoorW.PrintLast Go.Proofs.YtdepmbnoecpccaaDoorW.PrintMore
attribute [local go_sem] max2_int min2_int max_two min_two max_three min_three max_four min_four   -- for this text's walks alone

/-! ### mootbellref05_Ahead: function 43 -/
def mootbellref05_Ahead.f (a0_0 : Int) (a0_1 : Int) (a1_0 : Int) (a1_1 : Int) : Option (Bool) := if a0_0 < a1_0 then (some true) else (if a0_0 = a1_0 then (some (decide (a0_1 < a1_1))) else (some false))
set_option maxHeartbeats 8000000 in
set_option maxRecDepth 100000 in
theorem mootbellref05_Ahead.calls (a0_0 : Int) (a0_1 : Int) (a1_0 : Int) (a1_1 : Int) (r : Bool) (w : World) (h : mootbellref05_Ahead.f a0_0 a0_1 a1_0 a1_1 = some r) :
    Calls Tryd.prog 43 #[.agg #[.int .u64 a0_0, .int .u64 a0_1], .agg #[.int .u64 a1_0, .int .u64 a1_1]] w fun e w' => e = .returned (.bool r) ∧ Below w.heap.size w w' := by
  have hu53 := Tryd.underlying53
  have HB := Aside0.mk (Below.refl w.heap.size w)
  have H : (if a0_0 < a1_0 then (some true) else (if a0_0 = a1_0 then (some (decide (a0_1 < a1_1))) else (some false))) = some r := h
  clear h
  by_cases c3 : a0_0 < a1_0
  · rw [if_pos c3] at H
    have c3b0 : decide (a0_0 < a1_0) = true := decide_eq_true c3
    clear c3
    obtain rfl := Option.some.inj H
    go_enter Tryd.func43, Tryd.ntmps43
    go_wp2_with (first | ((with_reducible refine gate_dst (N := 2) rfl ?_); refine box_event ?hg (N := 2) ?hd (cs := #[.int .u64 a0_0, .int .u64 a0_1]) (t := 53) ?hr ?_; (case hd => rfl); (case hg => rfl); (case hr => first | (go_simp; done) | (go_simp; rfl)); intro gb201 hg w4 hbox hb; have n0_ := Aside0.mk (below_step (by repeat (first | (with_reducible first | exact HB.out | apply below_alloc | apply pw_below_drewN | apply below_drew1) | exact HB.out)) hb); have n1_ := Aside0.mk (hbox); have n2_ := Aside0.mk ((by rw [hg]; exact (below_size (by repeat (first | (with_reducible first | exact HB.out | apply below_alloc | apply pw_below_drewN | apply below_drew1) | exact HB.out))) : w.heap.size ≤ gb201)); have n3_ := Aside0.mk ((by rw [hg]; exact (below_size (by repeat (first | (with_reducible first | exact HB.out | apply below_alloc | apply pw_below_drewN | apply below_drew1) | exact HB.out))) : w.heap.size ≤ gb201)); clear HB; have HB := n0_; have BK201 := n1_; have GW201 := n2_; have GE201 := n3_; clear n0_ n1_ n2_ n3_; clear hb hbox hg) | ((with_reducible refine gate_dst (N := 3) rfl ?_); refine box_event ?hg (N := 3) ?hd (cs := #[.int .u64 a1_0, .int .u64 a1_1]) (t := 53) ?hr ?_; (case hd => rfl); (case hg => rfl); (case hr => first | (go_simp; done) | (go_simp; rfl)); intro gb202 hg w5 hbox hb; have n0_ := Aside0.mk (blk_below (g := gb201) (o := .cells #[.int .u64 a0_0, .int .u64 a0_1] 53 (0, 0)) (by (with_reducible repeat (first | refine blk_drewN ?_ _ | refine blk_drew ?_ | refine blk_alloc ?_ _)); exact BK201.out) hb); have n1_ := Aside0.mk (below_step (by repeat (first | (with_reducible first | exact HB.out | apply below_alloc | apply pw_below_drewN | apply below_drew1 | refine below_set ?_ GE201.out) | exact HB.out)) hb); have n2_ := Aside0.mk (hbox); have n3_ := Aside0.mk ((by rw [hg]; exact (below_size (by repeat (first | (with_reducible first | exact HB.out | apply below_alloc | apply pw_below_drewN | apply below_drew1 | refine below_set ?_ GE201.out) | exact HB.out))) : w.heap.size ≤ gb202)); have n4_ := Aside0.mk ((by rw [hg]; exact (below_size (by repeat (first | (with_reducible first | exact HB.out | apply below_alloc | apply pw_below_drewN | apply below_drew1 | refine below_set ?_ GE201.out) | exact HB.out))) : w.heap.size ≤ gb202)); have n5_ := Aside0.mk ((by rw [hg]; exact Nat.ne_of_lt (blk_lt (g := gb201) (o := .cells #[.int .u64 a0_0, .int .u64 a0_1] 53 (0, 0)) (by (with_reducible repeat (first | refine blk_drewN ?_ _ | refine blk_drew ?_ | refine blk_alloc ?_ _)); exact BK201.out)) : gb201 ≠ gb202)); have n6_ := Aside0.mk ((by rw [hg]; exact Nat.ne_of_gt (blk_lt (g := gb201) (o := .cells #[.int .u64 a0_0, .int .u64 a0_1] 53 (0, 0)) (by (with_reducible repeat (first | refine blk_drewN ?_ _ | refine blk_drew ?_ | refine blk_alloc ?_ _)); exact BK201.out)) : gb202 ≠ gb201)); clear BK201; clear HB; have BK201 := n0_; have HB := n1_; have BK202 := n2_; have GW202 := n3_; have GE202 := n4_; have NB201_202 := n5_; have NB202_201 := n6_; clear n0_ n1_ n2_ n3_ n4_ n5_ n6_; clear hb hbox hg; have hnb6 := NB201_202.out; have hnc6 := NB202_201.out; have hcz7_0 : w5.cell? ⟨gb201, 0, none⟩ = some (.int .u64 a0_0) := (blk_cell BK201.out 0).trans rfl; have hcz7_1 : w5.cell? ⟨gb201, 1, none⟩ = some (.int .u64 a0_1) := (blk_cell BK201.out 1).trans rfl; have hfz7_0 := blk_frozen BK201.out 0; have hfz7_1 := blk_frozen BK201.out 1; have hcz8_0 : w5.cell? ⟨gb202, 0, none⟩ = some (.int .u64 a1_0) := (blk_cell BK202.out 0).trans rfl; have hcz8_1 : w5.cell? ⟨gb202, 1, none⟩ = some (.int .u64 a1_1) := (blk_cell BK202.out 1).trans rfl; have hfz8_0 := blk_frozen BK202.out 0; have hfz8_1 := blk_frozen BK202.out 1))
    go_ret
    exact ⟨by first | rfl | (simp [errW_none, errW_some] <;> rfl) | (simp [*, errW_none, errW_some] <;> rfl), by repeat (first | (with_reducible first | exact HB.out | apply below_alloc | apply pw_below_drewN | apply below_drew1 | refine below_set ?_ GE201.out | refine below_set ?_ GE202.out) | exact HB.out)⟩
  · rw [if_neg c3] at H
    have c3b0 : decide (a0_0 < a1_0) = false := decide_eq_false c3
    clear c3
    by_cases c9 : a0_0 = a1_0
    · rw [if_pos c9] at H
      have c9b0 : (a0_0 == a1_0) = true := beq_iff_eq.mpr c9
      have c9b1 : (a0_0 != a1_0) = false := bne_eq_false_iff_eq.mpr c9
      clear c9
      obtain rfl := Option.some.inj H
      go_enter Tryd.func43, Tryd.ntmps43
      go_wp2_with (first | ((with_reducible refine gate_dst (N := 2) rfl ?_); refine box_event ?hg (N := 2) ?hd (cs := #[.int .u64 a0_0, .int .u64 a0_1]) (t := 53) ?hr ?_; (case hd => rfl); (case hg => rfl); (case hr => first | (go_simp; done) | (go_simp; rfl)); intro gb201 hg w10 hbox hb; have n0_ := Aside0.mk (below_step (by repeat (first | (with_reducible first | exact HB.out | apply below_alloc | apply pw_below_drewN | apply below_drew1) | exact HB.out)) hb); have n1_ := Aside0.mk (hbox); have n2_ := Aside0.mk ((by rw [hg]; exact (below_size (by repeat (first | (with_reducible first | exact HB.out | apply below_alloc | apply pw_below_drewN | apply below_drew1) | exact HB.out))) : w.heap.size ≤ gb201)); have n3_ := Aside0.mk ((by rw [hg]; exact (below_size (by repeat (first | (with_reducible first | exact HB.out | apply below_alloc | apply pw_below_drewN | apply below_drew1) | exact HB.out))) : w.heap.size ≤ gb201)); clear HB; have HB := n0_; have BK201 := n1_; have GW201 := n2_; have GE201 := n3_; clear n0_ n1_ n2_ n3_; clear hb hbox hg) | ((with_reducible refine gate_dst (N := 3) rfl ?_); refine box_event ?hg (N := 3) ?hd (cs := #[.int .u64 a1_0, .int .u64 a1_1]) (t := 53) ?hr ?_; (case hd => rfl); (case hg => rfl); (case hr => first | (go_simp; done) | (go_simp; rfl)); intro gb202 hg w11 hbox hb; have n0_ := Aside0.mk (blk_below (g := gb201) (o := .cells #[.int .u64 a0_0, .int .u64 a0_1] 53 (0, 0)) (by (with_reducible repeat (first | refine blk_drewN ?_ _ | refine blk_drew ?_ | refine blk_alloc ?_ _)); exact BK201.out) hb); have n1_ := Aside0.mk (below_step (by repeat (first | (with_reducible first | exact HB.out | apply below_alloc | apply pw_below_drewN | apply below_drew1 | refine below_set ?_ GE201.out) | exact HB.out)) hb); have n2_ := Aside0.mk (hbox); have n3_ := Aside0.mk ((by rw [hg]; exact (below_size (by repeat (first | (with_reducible first | exact HB.out | apply below_alloc | apply pw_below_drewN | apply below_drew1 | refine below_set ?_ GE201.out) | exact HB.out))) : w.heap.size ≤ gb202)); have n4_ := Aside0.mk ((by rw [hg]; exact (below_size (by repeat (first | (with_reducible first | exact HB.out | apply below_alloc | apply pw_below_drewN | apply below_drew1 | refine below_set ?_ GE201.out) | exact HB.out))) : w.heap.size ≤ gb202)); have n5_ := Aside0.mk ((by rw [hg]; exact Nat.ne_of_lt (blk_lt (g := gb201) (o := .cells #[.int .u64 a0_0, .int .u64 a0_1] 53 (0, 0)) (by (with_reducible repeat (first | refine blk_drewN ?_ _ | refine blk_drew ?_ | refine blk_alloc ?_ _)); exact BK201.out)) : gb201 ≠ gb202)); have n6_ := Aside0.mk ((by rw [hg]; exact Nat.ne_of_gt (blk_lt (g := gb201) (o := .cells #[.int .u64 a0_0, .int .u64 a0_1] 53 (0, 0)) (by (with_reducible repeat (first | refine blk_drewN ?_ _ | refine blk_drew ?_ | refine blk_alloc ?_ _)); exact BK201.out)) : gb202 ≠ gb201)); clear BK201; clear HB; have BK201 := n0_; have HB := n1_; have BK202 := n2_; have GW202 := n3_; have GE202 := n4_; have NB201_202 := n5_; have NB202_201 := n6_; clear n0_ n1_ n2_ n3_ n4_ n5_ n6_; clear hb hbox hg; have hnb12 := NB201_202.out; have hnc12 := NB202_201.out; have hcz13_0 : w11.cell? ⟨gb201, 0, none⟩ = some (.int .u64 a0_0) := (blk_cell BK201.out 0).trans rfl; have hcz13_1 : w11.cell? ⟨gb201, 1, none⟩ = some (.int .u64 a0_1) := (blk_cell BK201.out 1).trans rfl; have hfz13_0 := blk_frozen BK201.out 0; have hfz13_1 := blk_frozen BK201.out 1; have hcz14_0 : w11.cell? ⟨gb202, 0, none⟩ = some (.int .u64 a1_0) := (blk_cell BK202.out 0).trans rfl; have hcz14_1 : w11.cell? ⟨gb202, 1, none⟩ = some (.int .u64 a1_1) := (blk_cell BK202.out 1).trans rfl; have hfz14_0 := blk_frozen BK202.out 0; have hfz14_1 := blk_frozen BK202.out 1))
      go_ret
      exact ⟨by first | rfl | (simp [errW_none, errW_some] <;> rfl) | (simp [*, errW_none, errW_some] <;> rfl), by repeat (first | (with_reducible first | exact HB.out | apply below_alloc | apply pw_below_drewN | apply below_drew1 | refine below_set ?_ GE201.out | refine below_set ?_ GE202.out) | exact HB.out)⟩
    · rw [if_neg c9] at H
      have c9b0 : (a0_0 == a1_0) = false := beq_eq_false_iff_ne.mpr c9
      have c9b1 : (a0_0 != a1_0) = true := bne_iff_ne.mpr c9
      obtain rfl := Option.some.inj H
      go_enter Tryd.func43, Tryd.ntmps43
      go_wp2_with (first | ((with_reducible refine gate_dst (N := 2) rfl ?_); refine box_event ?hg (N := 2) ?hd (cs := #[.int .u64 a0_0, .int .u64 a0_1]) (t := 53) ?hr ?_; (case hd => rfl); (case hg => rfl); (case hr => first | (go_simp; done) | (go_simp; rfl)); intro gb201 hg w15 hbox hb; have n0_ := Aside0.mk (below_step (by repeat (first | (with_reducible first | exact HB.out | apply below_alloc | apply pw_below_drewN | apply below_drew1) | exact HB.out)) hb); have n1_ := Aside0.mk (hbox); have n2_ := Aside0.mk ((by rw [hg]; exact (below_size (by repeat (first | (with_reducible first | exact HB.out | apply below_alloc | apply pw_below_drewN | apply below_drew1) | exact HB.out))) : w.heap.size ≤ gb201)); have n3_ := Aside0.mk ((by rw [hg]; exact (below_size (by repeat (first | (with_reducible first | exact HB.out | apply below_alloc | apply pw_below_drewN | apply below_drew1) | exact HB.out))) : w.heap.size ≤ gb201)); clear HB; have HB := n0_; have BK201 := n1_; have GW201 := n2_; have GE201 := n3_; clear n0_ n1_ n2_ n3_; clear hb hbox hg) | ((with_reducible refine gate_dst (N := 3) rfl ?_); refine box_event ?hg (N := 3) ?hd (cs := #[.int .u64 a1_0, .int .u64 a1_1]) (t := 53) ?hr ?_; (case hd => rfl); (case hg => rfl); (case hr => first | (go_simp; done) | (go_simp; rfl)); intro gb202 hg w16 hbox hb; have n0_ := Aside0.mk (blk_below (g := gb201) (o := .cells #[.int .u64 a0_0, .int .u64 a0_1] 53 (0, 0)) (by (with_reducible repeat (first | refine blk_drewN ?_ _ | refine blk_drew ?_ | refine blk_alloc ?_ _)); exact BK201.out) hb); have n1_ := Aside0.mk (below_step (by repeat (first | (with_reducible first | exact HB.out | apply below_alloc | apply pw_below_drewN | apply below_drew1 | refine below_set ?_ GE201.out) | exact HB.out)) hb); have n2_ := Aside0.mk (hbox); have n3_ := Aside0.mk ((by rw [hg]; exact (below_size (by repeat (first | (with_reducible first | exact HB.out | apply below_alloc | apply pw_below_drewN | apply below_drew1 | refine below_set ?_ GE201.out) | exact HB.out))) : w.heap.size ≤ gb202)); have n4_ := Aside0.mk ((by rw [hg]; exact (below_size (by repeat (first | (with_reducible first | exact HB.out | apply below_alloc | apply pw_below_drewN | apply below_drew1 | refine below_set ?_ GE201.out) | exact HB.out))) : w.heap.size ≤ gb202)); have n5_ := Aside0.mk ((by rw [hg]; exact Nat.ne_of_lt (blk_lt (g := gb201) (o := .cells #[.int .u64 a0_0, .int .u64 a0_1] 53 (0, 0)) (by (with_reducible repeat (first | refine blk_drewN ?_ _ | refine blk_drew ?_ | refine blk_alloc ?_ _)); exact BK201.out)) : gb201 ≠ gb202)); have n6_ := Aside0.mk ((by rw [hg]; exact Nat.ne_of_gt (blk_lt (g := gb201) (o := .cells #[.int .u64 a0_0, .int .u64 a0_1] 53 (0, 0)) (by (with_reducible repeat (first | refine blk_drewN ?_ _ | refine blk_drew ?_ | refine blk_alloc ?_ _)); exact BK201.out)) : gb202 ≠ gb201)); clear BK201; clear HB; have BK201 := n0_; have HB := n1_; have BK202 := n2_; have GW202 := n3_; have GE202 := n4_; have NB201_202 := n5_; have NB202_201 := n6_; clear n0_ n1_ n2_ n3_ n4_ n5_ n6_; clear hb hbox hg; have hnb17 := NB201_202.out; have hnc17 := NB202_201.out; have hcz18_0 : w16.cell? ⟨gb201, 0, none⟩ = some (.int .u64 a0_0) := (blk_cell BK201.out 0).trans rfl; have hcz18_1 : w16.cell? ⟨gb201, 1, none⟩ = some (.int .u64 a0_1) := (blk_cell BK201.out 1).trans rfl; have hfz18_0 := blk_frozen BK201.out 0; have hfz18_1 := blk_frozen BK201.out 1; have hcz19_0 : w16.cell? ⟨gb202, 0, none⟩ = some (.int .u64 a1_0) := (blk_cell BK202.out 0).trans rfl; have hcz19_1 : w16.cell? ⟨gb202, 1, none⟩ = some (.int .u64 a1_1) := (blk_cell BK202.out 1).trans rfl; have hfz19_0 := blk_frozen BK202.out 0; have hfz19_1 := blk_frozen BK202.out 1))
      go_ret
      exact ⟨by first | rfl | (simp [errW_none, errW_some] <;> rfl) | (simp [*, errW_none, errW_some] <;> rfl), by repeat (first | (with_reducible first | exact HB.out | apply below_alloc | apply pw_below_drewN | apply below_drew1 | refine below_set ?_ GE201.out | refine below_set ?_ GE202.out) | exact HB.out)⟩
end Go.Proofs.YtdepmbnoecpccaaDoor.PQ

namespace Go.Proofs.YtdepmbnoecpccaaDoor.PQ
open Go.RowKit Go.Proofs.YtdepmbnoecpccaaDoorW.PrintWords Go.Proofs.YtdepmbnoecpccaaDoorW.PrintLast Go.Proofs.YtdepmbnoecpccaaDoorW.PrintMore
attribute [local go_sem] max2_int min2_int max_two min_two max_three min_three max_four min_four   -- for this text's walks alone

/-! ### mootbelllaw05_pick: function 42 -/
def mootbelllaw05_pick.f (a0 : Int) (a1 : Int) : Option (Int) := if a0 < 0 then (if a1 = 0 then (none) else (some (Int.tmod (wrap64 (-(wrap64 (a0 + 1)))) a1))) else (if a1 = 0 then (none) else (some (Int.tmod a0 a1)))
set_option maxHeartbeats 8000000 in
set_option maxRecDepth 100000 in
theorem mootbelllaw05_pick.calls (a0 : Int) (a1 : Int) (r : Int) (w : World) (h : mootbelllaw05_pick.f a0 a1 = some r) :
    Calls Tryd.prog 42 #[.int .i64 a0, .int .i64 a1] w fun e w' => e = .returned (.int .i64 r) ∧ Drawn0 w w' := by
  have H : (if a0 < 0 then (if a1 = 0 then (none) else (some (Int.tmod (wrap64 (-(wrap64 (a0 + 1)))) a1))) else (if a1 = 0 then (none) else (some (Int.tmod a0 a1)))) = some r := h
  clear h
  by_cases c3 : a0 < 0
  · rw [if_pos c3] at H
    have c3b0 : decide (a0 < 0) = true := decide_eq_true c3
    clear c3
    by_cases c4 : a1 = 0
    · rw [if_pos c4] at H
      exact absurd H (by simp)
    · rw [if_neg c4] at H
      have c4b0 : (a1 == 0) = false := beq_eq_false_iff_ne.mpr c4
      have c4b1 : (a1 != 0) = true := bne_iff_ne.mpr c4
      obtain rfl := Option.some.inj H
      go_enter Tryd.func42, Tryd.ntmps42
      go_wp2
      go_ret
      exact ⟨by first | rfl | (simp; done) | (simp [*]; done), by repeat (first | exact Drawn0.refl _ | apply Drawn0.step)⟩
  · rw [if_neg c3] at H
    have c3b0 : decide (a0 < 0) = false := decide_eq_false c3
    clear c3
    by_cases c5 : a1 = 0
    · rw [if_pos c5] at H
      exact absurd H (by simp)
    · rw [if_neg c5] at H
      have c5b0 : (a1 == 0) = false := beq_eq_false_iff_ne.mpr c5
      have c5b1 : (a1 != 0) = true := bne_iff_ne.mpr c5
      obtain rfl := Option.some.inj H
      go_enter Tryd.func42, Tryd.ntmps42
      go_wp2
      go_ret
      exact ⟨by first | rfl | (simp; done) | (simp [*]; done), by repeat (first | exact Drawn0.refl _ | apply Drawn0.step)⟩
end Go.Proofs.YtdepmbnoecpccaaDoor.PQ

