import Derived.Laws.IdiomArrays
import Derived.Deep.Slices
import Derived.Test.YtnfglkgkdechlaaShellG
import Derived.Test.YtnfglkgkdechlaaQx0
import Derived.Test.YtnfglkgkdechlaaQx1
import Derived.Test.YtnfglkgkdechlaaBase
import Derived.Deep.MidRow
import Derived.Deep.RegionHeld3
import Derived.WalkMore
import Derived.ScopeJumps
import Derived.Maps.OwnSet
set_option linter.unusedVariables false
set_option linter.unusedSimpArgs false
namespace Go.Proofs.Ytnfglkgkdechlaa
theorem qa_ {α : Type _} (l : List α) (i : Nat) (a : α) : l.toArray.setIfInBounds i a = (l.set i a).toArray := List.setIfInBounds_toArray ..
theorem qb_ {α : Type _} (x a : α) (xs : List α) : (x :: xs).set 0 a = a :: xs := rfl
theorem qc_ {α : Type _} (x a : α) (xs : List α) (n : Nat) : (x :: xs).set (n + 1) a = x :: xs.set n a := rfl
end Go.Proofs.Ytnfglkgkdechlaa

/- Slices that came in, their elements told by a kind: in general. -/
namespace Go.Proofs.Ytnfglkgkdechlaa
open Go.RowKit Go.Proofs.YtnfglkgkdechlaaW.PrintWords Go.Proofs.YtnfglkgkdechlaaW.PrintLast Go.Proofs.YtnfglkgkdechlaaW.PrintMore
open Go.ChangeShapes Go.WideShapes Go.ChangeAt
open Go.ChangeMaps (open_string shut_string)
open Go.Deep

theorem wf64 {n : Int} (h : (Lit.int .i64 n).wf = true) : -9223372036854775808 ≤ n ∧ n ≤ 9223372036854775807 := bounds_i64 h
/-- A slice inside another value: el tells an element's cells. -/
theorem slice_in {H α : Type} {enc : TypeId × Value → H} {W : World} (d : Kd α) (z : α) (Q : α → Prop) {T E : TypeId} (hT : Try.prog.underlying T = some (.slice E)) (hC : Try.prog.cellsOf E = d.sz)
    (el : ∀ (cs : List Value) (fu : Nat) (y : DataW H × List MemPlace), cs.length = d.sz → DataW.trod enc Try.prog W 0 (fun _ => true) true fu E cs = some y → ∃ x, Q x ∧ d.K W x cs)
    {fuel : Nat} {cv : List Value} {y : DataW H × List MemPlace} (h : DataW.trod enc Try.prog W 0 (fun _ => true) true fuel T cv = some y) :
    ∃ (A : Option Addr) (k : Nat) (l : List α), cv = [.slice A l.length k] ∧ l.length ≤ k ∧ d.C W A l.length l ∧ ∀ x ∈ l, Q x := by
  rcases open_slice hT h with ⟨hcs, hx⟩ | ⟨a, len, cap, m, k, D, Pl, hcs, _, hl, hm, hmm, hx, hi⟩
  · exact ⟨none, 0, [], hcs, Nat.le_refl _, Kd.C_nil _ _, fun x hx => by cases hx⟩
  · have hrow : ∀ i, i < len → ∃ x : α, Q x ∧ ∃ row : List Value, row.length = d.sz ∧ d.K W x row ∧ ∀ j u, row[j]? = some u → W.cell? (a.add (i * d.sz + j)) = some u := by
      intro i hin
      obtain ⟨cs, hc, ht⟩ := hi i (by rw [hmm]; simp; omega)
      rw [hC] at hc
      obtain ⟨_, hcl, hat⟩ := World.cells?_some hc
      obtain ⟨x, hq, hk⟩ := el cs k _ hcl ht
      refine ⟨x, hq, cs, hcl, hk, fun j u hu => ?_⟩
      have hj : j < d.sz := by
        rcases Nat.lt_or_ge j d.sz with h | h
        · exact h
        · rw [List.getElem?_eq_none (by omega)] at hu
          cases hu
      have := hat j hj
      rw [hu] at this
      rw [← this]
      congr 1
      exact (Go.Deep.add_add _ _ _).symm
    have hlen : ((List.range len).map (fun i => if h : i < len then (hrow i h).choose else z)).length = len := by simp
    refine ⟨some a, cap, (List.range len).map (fun i => if h : i < len then (hrow i h).choose else z), by rw [hlen]; exact hcs, by omega, ?_, fun x hx => ?_⟩
    · rw [hlen]
      refine ⟨hlen, by unfold maxLen at hm; omega, fun _ => ⟨a, rfl, fun j p hj => ?_⟩⟩
      rw [List.getElem?_map] at hj
      obtain ⟨i, hi1, rfl⟩ := Option.map_eq_some_iff.1 hj
      have hi2 : i = j ∧ j < len := by
        rw [List.getElem?_eq_some_iff] at hi1
        obtain ⟨h1, h2⟩ := hi1
        rw [List.getElem_range] at h2
        rw [List.length_range] at h1
        exact ⟨h2.symm, h1⟩
      obtain ⟨rfl, hjn⟩ := hi2
      rw [dif_pos hjn]
      obtain ⟨_, row, hrl, hk, hc⟩ := (hrow i hjn).choose_spec
      exact ⟨row, hrl, hk, fun q u hu => hc q u hu⟩
    · obtain ⟨i, hi1, rfl⟩ := List.mem_map.1 hx
      have hin := List.mem_range.1 hi1
      rw [dif_pos hin]
      exact (hrow i hin).choose_spec.1
/-- A slice by itself. -/
theorem slice_came {H α : Type} {enc : TypeId × Value → H} {W : World} (d : Kd α) (z : α) (Q : α → Prop) {T E : TypeId} (hT : Try.prog.underlying T = some (.slice E)) (hC : Try.prog.cellsOf E = d.sz)
    (el : ∀ (cs : List Value) (fu : Nat) (y : DataW H × List MemPlace), cs.length = d.sz → DataW.trod enc Try.prog W 0 (fun _ => true) true fu E cs = some y → ∃ x, Q x ∧ d.K W x cs)
    {b0 : Nat} {v : Value} {dd : DataW H} {ps : List MemPlace} (hval : Value.okWide Try.prog W .any b0 T v) (hd : DataW.Trod enc Try.prog W 0 (fun _ => true) true T v dd ps) :
    ∃ A n c l, v = .slice A n c ∧ n ≤ c ∧ d.C W A n l ∧ ∀ x ∈ l, Q x := by
  obtain ⟨A, n, c, rfl⟩ := okWide_slice hT hval
  obtain ⟨fuel, hf⟩ := hd
  obtain ⟨B, k, l, e, h1, h2, h3⟩ := slice_in d z Q hT hC el hf
  have e2 : (Value.slice A n c) = .slice B l.length k := by
    have : (Value.slice A n c).cells.toList = [Value.slice A n c] := by simp [Value.cells]
    rw [this] at e
    simpa using e
  exact ⟨B, l.length, k, l, e2, h1, h2, h3⟩
/-- An integer cell. -/
theorem int_in {H : Type} {enc : TypeId × Value → H} {W : World} {T : TypeId} {k : IntKind} (hT : Try.prog.underlying T = some (.int k)) {fuel : Nat} {c : Value} {y : DataW H × List MemPlace} (h : DataW.trod enc Try.prog W 0 (fun _ => true) true fuel T [c] = some y) :
    ∃ n, c = .int k n ∧ (Lit.int k n).wf = true := by
  obtain ⟨n, e, _, w⟩ := DataW.trod_int hT h
  exact ⟨n, by simpa using e, w⟩
theorem bool_in {H : Type} {enc : TypeId × Value → H} {W : World} {T : TypeId} (hT : Try.prog.underlying T = some .bool) {fuel : Nat} {c : Value} {y : DataW H × List MemPlace} (h : DataW.trod enc Try.prog W 0 (fun _ => true) true fuel T [c] = some y) :
    ∃ b, c = .bool b := by
  obtain ⟨b, e, _⟩ := DataW.trod_bool hT h
  exact ⟨b, by simpa using e⟩
theorem some_of {α : Type} {xs : List α} {n i : Nat} (h : xs.length = n) (hi : i < n) : ∃ y, xs[i]? = some y := ⟨_, List.getElem?_eq_getElem (by omega)⟩
end Go.Proofs.Ytnfglkgkdechlaa

namespace Go.Proofs.Ytnfglkgkdechlaa.PQ
open Go.RowKit Go.Proofs.YtnfglkgkdechlaaW.PrintWords Go.Proofs.YtnfglkgkdechlaaW.PrintLast Go.Proofs.YtnfglkgkdechlaaW.PrintMore
attribute [local go_sem] max2_int min2_int max_two min_two max_three min_three max_four min_four   -- for this text's walks alone

attribute [local go_sem high] eqA52

/-! ### cmp_Or_int: function 45 -/
def cmp_Or_int.l0 : Nat → Int → List Int → Int → Int → Option (Int)
  | 0, _, _, _, _ => none
  | k + 1, x3, x6, x7, x8 => if x8 < x7 then (if 0 ≤ x8 then (if x8 < (x6.length : Int) then (if (rd x6 x8) = x3 then (cmp_Or_int.l0 k x3 x6 x7 (wrap64 (x8 + 1))) else (some (rd x6 x8))) else (none)) else (none)) else (some x3)
def cmp_Or_int.f (k : Nat) (l0 : List Int) : Option (Int) := cmp_Or_int.l0 k 0 l0 (l0.length : Int) 0
theorem cmp_Or_int.mono_l : ∀ k, (∀ y0 y1 y2 y3, LeO (cmp_Or_int.l0 k y0 y1 y2 y3) (cmp_Or_int.l0 (k + 1) y0 y1 y2 y3))
  | 0 => fun _ _ _ _ r h => by simp [cmp_Or_int.l0] at h
  | k + 1 => by
    have ih0 := cmp_Or_int.mono_l k
    · intro y0 y1 y2 y3
      unfold cmp_Or_int.l0
      repeat' first
      | (with_reducible exact ih0 _ _ _ _)
      | (with_reducible exact LeO.refl _)
      | (with_reducible exact LeO.none _)
      | (with_reducible refine LeO.ite ?_ ?_)
      | (with_reducible refine LeO.bind ?_ (fun _ => ?_))
      | exact ih0 _ _ _ _
      | exact LeO.none _
      | refine LeO.ite ?_ ?_
      | refine LeO.bind ?_ (fun _ => ?_)
theorem cmp_Or_int.mono : ∀ a0 k, LeO (cmp_Or_int.f k a0) (cmp_Or_int.f (k + 1) a0) := by
  intro a0 k
  have ih0 := cmp_Or_int.mono_l k
  unfold cmp_Or_int.f
  repeat' first
      | (with_reducible exact ih0 _ _ _ _)
      | (with_reducible exact LeO.refl _)
      | (with_reducible exact LeO.none _)
      | (with_reducible refine LeO.ite ?_ ?_)
      | (with_reducible refine LeO.bind ?_ (fun _ => ?_))
      | exact ih0 _ _ _ _
      | exact LeO.none _
      | refine LeO.ite ?_ ?_
      | refine LeO.bind ?_ (fun _ => ?_)
set_option maxHeartbeats 8000000 in
set_option maxRecDepth 100000 in
theorem cmp_Or_int.calls (k : Nat) (A0 : Option Addr) (c0 : Nat) (l0 : List Int) (r : Int) (w : World) (hr0 : Kd.C (Kd.int .i64) w A0 l0.length l0) (hc0 : l0.length ≤ c0) (h : cmp_Or_int.f k l0 = some r) :
    Calls Try.prog 45 #[.slice A0 l0.length c0] w fun e w' => e = .returned (.int .i64 r) ∧ Drawn0 w w' := by
  have HR0 := Aside0.mk hr0
  have HC0 := Aside0.mk hc0
  clear hr0 hc0
  have H : (cmp_Or_int.l0 k 0 l0 (l0.length : Int) 0) = some r := h
  clear h
  have H' := Aside0.mk H
  clear H
  go_enter Try.func45, Try.ntmps45
  go_wp2
  go_loopg [8] k (fun kq v8 w' => ∃ (x8_1 : Int), v8 = .int .i64 x8_1 ∧ Aside0 (cmp_Or_int.l0 kq 0 l0 (l0.length : Int) x8_1 = some r) ∧ Aside0 (kq ≤ k) ∧ Drawn0 w w')
  case atStart => exact ⟨(0), (by first | rfl | (simp; done) | (simp [*]; done)), H', ⟨Nat.le_refl _⟩, by repeat (first | exact Drawn0.refl _ | apply Drawn0.step)⟩
  case round =>
    clear H'
    obtain ⟨x8_1, rfl, HA, HK1, ⟨m1, rfl⟩⟩ := hrel
    cases gk with
    | zero => exact absurd HA.out (by simp [cmp_Or_int.l0])
    | succ k1 =>
      have H := HA.out
      clear HA
      simp only [cmp_Or_int.l0] at H
      by_cases c2 : x8_1 < (l0.length : Int)
      · rw [if_pos c2] at H
        have c2b0 : decide (x8_1 < (l0.length : Int)) = true := decide_eq_true c2
        clear c2
        by_cases c3 : 0 ≤ x8_1
        · rw [if_pos c3] at H
          have c3b0 : decide (0 ≤ x8_1) = true := decide_eq_true c3
          clear c3
          by_cases c4 : x8_1 < (l0.length : Int)
          · rw [if_pos c4] at H
            have c4b0 : decide (x8_1 < (l0.length : Int)) = true := decide_eq_true c4
            clear c4
            by_cases c5 : (rd l0 x8_1) = 0
            · rw [if_pos c5] at H
              have c5b0 : ((rd l0 x8_1) == 0) = true := beq_iff_eq.mpr c5
              have c5b1 : ((rd l0 x8_1) != 0) = false := bne_eq_false_iff_eq.mpr c5
              clear c5
              have H' := Aside0.mk H
              clear H
              have p147 : 0 ≤ (x8_1 : Int) := of_decide_eq_true (by first | (with_reducible assumption) | assumption)
              have q147 : x8_1 < (l0.length : Int) := of_decide_eq_true (by first | (with_reducible assumption) | assumption)
              obtain ⟨ad147, e147, hx147_0⟩ := Kd.at_int HR0.out x8_1 p147 q147
              cases e147
              replace p147 := eq_true p147
              replace q147 := eq_true q147
              go_wp2
              go_roundg k1
              case measure => have := HK1.out; omega
              case rel => exact ⟨(wrap64 (x8_1 + 1)), (by first | rfl | (simp; done) | (simp [*]; done)), H', ⟨by have := HK1.out; omega⟩, by repeat (first | exact Drawn0.refl _ | apply Drawn0.step)⟩
            · rw [if_neg c5] at H
              have c5b0 : ((rd l0 x8_1) == 0) = false := beq_eq_false_iff_ne.mpr c5
              have c5b1 : ((rd l0 x8_1) != 0) = true := bne_iff_ne.mpr c5
              obtain rfl := Option.some.inj H
              have p147 : 0 ≤ (x8_1 : Int) := of_decide_eq_true (by first | (with_reducible assumption) | assumption)
              have q147 : x8_1 < (l0.length : Int) := of_decide_eq_true (by first | (with_reducible assumption) | assumption)
              obtain ⟨ad147, e147, hx147_0⟩ := Kd.at_int HR0.out x8_1 p147 q147
              cases e147
              replace p147 := eq_true p147
              replace q147 := eq_true q147
              go_wp2
              go_ret
              exact ⟨by first | rfl | (simp; done) | (simp [*]; done), by repeat (first | exact Drawn0.refl _ | apply Drawn0.step)⟩
          · rw [if_neg c4] at H
            exact absurd H (by simp)
        · rw [if_neg c3] at H
          exact absurd H (by simp)
      · rw [if_neg c2] at H
        have c2b0 : decide (x8_1 < (l0.length : Int)) = false := decide_eq_false c2
        clear c2
        obtain rfl := Option.some.inj H
        go_wp2
        go_ret
        exact ⟨by first | rfl | (simp; done) | (simp [*]; done), by repeat (first | exact Drawn0.refl _ | apply Drawn0.step)⟩
end Go.Proofs.Ytnfglkgkdechlaa.PQ

namespace Go.Proofs.Ytnfglkgkdechlaa.PQ
open Go.RowKit Go.Proofs.YtnfglkgkdechlaaW.PrintWords Go.Proofs.YtnfglkgkdechlaaW.PrintLast Go.Proofs.YtnfglkgkdechlaaW.PrintMore
attribute [local go_sem] max2_int min2_int max_two min_two max_three min_three max_four min_four   -- for this text's walks alone

attribute [local go_sem high] eqA52

/-! ### cmp_isNaN_uint64: function 47 -/
def cmp_isNaN_uint64.f (a0 : Int) : Option (Bool) := some (a0 != a0)
set_option maxHeartbeats 8000000 in
set_option maxRecDepth 100000 in
theorem cmp_isNaN_uint64.calls (a0 : Int) (r : Bool) (w : World) (h : cmp_isNaN_uint64.f a0 = some r) :
    Calls Try.prog 47 #[.int .u64 a0] w fun e w' => e = .returned (.bool r) ∧ Drawn0 w w' := by
  have H : (some (a0 != a0)) = some r := h
  clear h
  obtain rfl := Option.some.inj H
  go_enter Try.func47, Try.ntmps47
  go_wp2
  go_ret
  exact ⟨by first | rfl | (simp; done) | (simp [*]; done), by repeat (first | exact Drawn0.refl _ | apply Drawn0.step)⟩
end Go.Proofs.Ytnfglkgkdechlaa.PQ

namespace Go.Proofs.Ytnfglkgkdechlaa.PQ
open Go.RowKit Go.Proofs.YtnfglkgkdechlaaW.PrintWords Go.Proofs.YtnfglkgkdechlaaW.PrintLast Go.Proofs.YtnfglkgkdechlaaW.PrintMore
attribute [local go_sem] max2_int min2_int max_two min_two max_three min_three max_four min_four   -- for this text's walks alone

attribute [local go_sem high] eqA52

/-! ### cmp_Compare_uint64: function 46 -/
def cmp_Compare_uint64.f (a0 : Int) (a1 : Int) : Option (Int) := (cmp_isNaN_uint64.f a0).bind fun t148 => ((cmp_isNaN_uint64.f a1).bind fun t149 => (if t148 = true then (if t149 = true then (some 0) else (some (-1))) else (if t149 = true then (some 1) else (if a0 < a1 then (some (-1)) else (if a0 > a1 then (some 1) else (some 0))))))
set_option maxHeartbeats 8000000 in
set_option maxRecDepth 100000 in
theorem cmp_Compare_uint64.calls (a0 : Int) (a1 : Int) (r : Int) (w : World) (h : cmp_Compare_uint64.f a0 a1 = some r) :
    Calls Try.prog 46 #[.int .u64 a0, .int .u64 a1] w fun e w' => e = .returned (.int .i64 r) ∧ Drawn0 w w' := by
  have H : ((cmp_isNaN_uint64.f a0).bind fun t148 => ((cmp_isNaN_uint64.f a1).bind fun t149 => (if t148 = true then (if t149 = true then (some 0) else (some (-1))) else (if t149 = true then (some 1) else (if a0 < a1 then (some (-1)) else (if a0 > a1 then (some 1) else (some 0))))))) = some r := h
  clear h
  replace H := Option.bind_eq_some_iff.mp H
  obtain ⟨t148, A30, H⟩ := H
  replace H : ((cmp_isNaN_uint64.f a1).bind fun t149 => (if t148 = true then (if t149 = true then (some 0) else (some (-1))) else (if t149 = true then (some 1) else (if a0 < a1 then (some (-1)) else (if a0 > a1 then (some 1) else (some 0)))))) = some r := H
  have A3 := Aside0.mk A30
  clear A30
  replace H := Option.bind_eq_some_iff.mp H
  obtain ⟨t149, A40, H⟩ := H
  replace H : (if t148 = true then (if t149 = true then (some 0) else (some (-1))) else (if t149 = true then (some 1) else (if a0 < a1 then (some (-1)) else (if a0 > a1 then (some 1) else (some 0))))) = some r := H
  have A4 := Aside0.mk A40
  clear A40
  by_cases c5 : t148 = true
  · subst c5
    have H1 : (if t149 = true then (some 0) else (some (-1))) = some r := by rw [if_pos rfl] at H; exact H
    clear H
    have H := H1
    clear H1
    by_cases c6 : t149 = true
    · subst c6
      have H1 : (some 0) = some r := by rw [if_pos rfl] at H; exact H
      clear H
      have H := H1
      clear H1
      obtain rfl := Option.some.inj H
      go_enter Try.func46, Try.ntmps46
      go_wp2_with (first | ((with_reducible refine gate_callee (f := 47) rfl ?_); refine goesL_ (some 8) rfl rfl Try.func47 (by kernel_rfl) rfl #[.int .u64 a0] rfl (by (try simp only [List.map_toArray, List.map_cons, List.map_nil]); first | done | rfl | (simp only [List.length_drop, List.length_take]; rfl)) ?_; (with_reducible refine (cmp_isNaN_uint64.calls a0 true _ A3.out).mono ?_); rintro e w' ⟨rfl, ⟨nd, rfl⟩⟩; refine ⟨_, rfl, ?_⟩) | ((with_reducible refine gate_callee (f := 47) rfl ?_); refine goesL_ (some 10) rfl rfl Try.func47 (by kernel_rfl) rfl #[.int .u64 a1] rfl (by (try simp only [List.map_toArray, List.map_cons, List.map_nil]); first | done | rfl | (simp only [List.length_drop, List.length_take]; rfl)) ?_; (with_reducible refine (cmp_isNaN_uint64.calls a1 true _ A4.out).mono ?_); rintro e w' ⟨rfl, ⟨nd, rfl⟩⟩; refine ⟨_, rfl, ?_⟩))
      go_ret
      exact ⟨by first | rfl | (simp; done) | (simp [*]; done), by repeat (first | exact Drawn0.refl _ | apply Drawn0.step)⟩
    · replace c6 := Bool.eq_false_iff.mpr c6
      subst c6
      have H1 : (some (-1)) = some r := by rw [if_neg (show ¬ (false = true) by decide)] at H; exact H
      clear H
      have H := H1
      clear H1
      obtain rfl := Option.some.inj H
      go_enter Try.func46, Try.ntmps46
      go_wp2_with (first | ((with_reducible refine gate_callee (f := 47) rfl ?_); refine goesL_ (some 8) rfl rfl Try.func47 (by kernel_rfl) rfl #[.int .u64 a0] rfl (by (try simp only [List.map_toArray, List.map_cons, List.map_nil]); first | done | rfl | (simp only [List.length_drop, List.length_take]; rfl)) ?_; (with_reducible refine (cmp_isNaN_uint64.calls a0 true _ A3.out).mono ?_); rintro e w' ⟨rfl, ⟨nd, rfl⟩⟩; refine ⟨_, rfl, ?_⟩) | ((with_reducible refine gate_callee (f := 47) rfl ?_); refine goesL_ (some 10) rfl rfl Try.func47 (by kernel_rfl) rfl #[.int .u64 a1] rfl (by (try simp only [List.map_toArray, List.map_cons, List.map_nil]); first | done | rfl | (simp only [List.length_drop, List.length_take]; rfl)) ?_; (with_reducible refine (cmp_isNaN_uint64.calls a1 false _ A4.out).mono ?_); rintro e w' ⟨rfl, ⟨nd, rfl⟩⟩; refine ⟨_, rfl, ?_⟩))
      go_ret
      exact ⟨by first | rfl | (simp; done) | (simp [*]; done), by repeat (first | exact Drawn0.refl _ | apply Drawn0.step)⟩
  · replace c5 := Bool.eq_false_iff.mpr c5
    subst c5
    have H1 : (if t149 = true then (some 1) else (if a0 < a1 then (some (-1)) else (if a0 > a1 then (some 1) else (some 0)))) = some r := by rw [if_neg (show ¬ (false = true) by decide)] at H; exact H
    clear H
    have H := H1
    clear H1
    by_cases c7 : t149 = true
    · subst c7
      have H1 : (some 1) = some r := by rw [if_pos rfl] at H; exact H
      clear H
      have H := H1
      clear H1
      obtain rfl := Option.some.inj H
      go_enter Try.func46, Try.ntmps46
      go_wp2_with (first | ((with_reducible refine gate_callee (f := 47) rfl ?_); refine goesL_ (some 8) rfl rfl Try.func47 (by kernel_rfl) rfl #[.int .u64 a0] rfl (by (try simp only [List.map_toArray, List.map_cons, List.map_nil]); first | done | rfl | (simp only [List.length_drop, List.length_take]; rfl)) ?_; (with_reducible refine (cmp_isNaN_uint64.calls a0 false _ A3.out).mono ?_); rintro e w' ⟨rfl, ⟨nd, rfl⟩⟩; refine ⟨_, rfl, ?_⟩) | ((with_reducible refine gate_callee (f := 47) rfl ?_); refine goesL_ (some 10) rfl rfl Try.func47 (by kernel_rfl) rfl #[.int .u64 a1] rfl (by (try simp only [List.map_toArray, List.map_cons, List.map_nil]); first | done | rfl | (simp only [List.length_drop, List.length_take]; rfl)) ?_; (with_reducible refine (cmp_isNaN_uint64.calls a1 true _ A4.out).mono ?_); rintro e w' ⟨rfl, ⟨nd, rfl⟩⟩; refine ⟨_, rfl, ?_⟩))
      go_ret
      exact ⟨by first | rfl | (simp; done) | (simp [*]; done), by repeat (first | exact Drawn0.refl _ | apply Drawn0.step)⟩
    · replace c7 := Bool.eq_false_iff.mpr c7
      subst c7
      have H1 : (if a0 < a1 then (some (-1)) else (if a0 > a1 then (some 1) else (some 0))) = some r := by rw [if_neg (show ¬ (false = true) by decide)] at H; exact H
      clear H
      have H := H1
      clear H1
      by_cases c8 : a0 < a1
      · rw [if_pos c8] at H
        have c8b0 : decide (a0 < a1) = true := decide_eq_true c8
        clear c8
        obtain rfl := Option.some.inj H
        go_enter Try.func46, Try.ntmps46
        go_wp2_with (first | ((with_reducible refine gate_callee (f := 47) rfl ?_); refine goesL_ (some 8) rfl rfl Try.func47 (by kernel_rfl) rfl #[.int .u64 a0] rfl (by (try simp only [List.map_toArray, List.map_cons, List.map_nil]); first | done | rfl | (simp only [List.length_drop, List.length_take]; rfl)) ?_; (with_reducible refine (cmp_isNaN_uint64.calls a0 false _ A3.out).mono ?_); rintro e w' ⟨rfl, ⟨nd, rfl⟩⟩; refine ⟨_, rfl, ?_⟩) | ((with_reducible refine gate_callee (f := 47) rfl ?_); refine goesL_ (some 10) rfl rfl Try.func47 (by kernel_rfl) rfl #[.int .u64 a1] rfl (by (try simp only [List.map_toArray, List.map_cons, List.map_nil]); first | done | rfl | (simp only [List.length_drop, List.length_take]; rfl)) ?_; (with_reducible refine (cmp_isNaN_uint64.calls a1 false _ A4.out).mono ?_); rintro e w' ⟨rfl, ⟨nd, rfl⟩⟩; refine ⟨_, rfl, ?_⟩))
        go_ret
        exact ⟨by first | rfl | (simp; done) | (simp [*]; done), by repeat (first | exact Drawn0.refl _ | apply Drawn0.step)⟩
      · rw [if_neg c8] at H
        have c8b0 : decide (a0 < a1) = false := decide_eq_false c8
        clear c8
        by_cases c9 : a0 > a1
        · rw [if_pos c9] at H
          have c9b0 : decide (a1 < a0) = true := decide_eq_true c9
          clear c9
          obtain rfl := Option.some.inj H
          go_enter Try.func46, Try.ntmps46
          go_wp2_with (first | ((with_reducible refine gate_callee (f := 47) rfl ?_); refine goesL_ (some 8) rfl rfl Try.func47 (by kernel_rfl) rfl #[.int .u64 a0] rfl (by (try simp only [List.map_toArray, List.map_cons, List.map_nil]); first | done | rfl | (simp only [List.length_drop, List.length_take]; rfl)) ?_; (with_reducible refine (cmp_isNaN_uint64.calls a0 false _ A3.out).mono ?_); rintro e w' ⟨rfl, ⟨nd, rfl⟩⟩; refine ⟨_, rfl, ?_⟩) | ((with_reducible refine gate_callee (f := 47) rfl ?_); refine goesL_ (some 10) rfl rfl Try.func47 (by kernel_rfl) rfl #[.int .u64 a1] rfl (by (try simp only [List.map_toArray, List.map_cons, List.map_nil]); first | done | rfl | (simp only [List.length_drop, List.length_take]; rfl)) ?_; (with_reducible refine (cmp_isNaN_uint64.calls a1 false _ A4.out).mono ?_); rintro e w' ⟨rfl, ⟨nd, rfl⟩⟩; refine ⟨_, rfl, ?_⟩))
          go_ret
          exact ⟨by first | rfl | (simp; done) | (simp [*]; done), by repeat (first | exact Drawn0.refl _ | apply Drawn0.step)⟩
        · rw [if_neg c9] at H
          have c9b0 : decide (a1 < a0) = false := decide_eq_false c9
          clear c9
          obtain rfl := Option.some.inj H
          go_enter Try.func46, Try.ntmps46
          go_wp2_with (first | ((with_reducible refine gate_callee (f := 47) rfl ?_); refine goesL_ (some 8) rfl rfl Try.func47 (by kernel_rfl) rfl #[.int .u64 a0] rfl (by (try simp only [List.map_toArray, List.map_cons, List.map_nil]); first | done | rfl | (simp only [List.length_drop, List.length_take]; rfl)) ?_; (with_reducible refine (cmp_isNaN_uint64.calls a0 false _ A3.out).mono ?_); rintro e w' ⟨rfl, ⟨nd, rfl⟩⟩; refine ⟨_, rfl, ?_⟩) | ((with_reducible refine gate_callee (f := 47) rfl ?_); refine goesL_ (some 10) rfl rfl Try.func47 (by kernel_rfl) rfl #[.int .u64 a1] rfl (by (try simp only [List.map_toArray, List.map_cons, List.map_nil]); first | done | rfl | (simp only [List.length_drop, List.length_take]; rfl)) ?_; (with_reducible refine (cmp_isNaN_uint64.calls a1 false _ A4.out).mono ?_); rintro e w' ⟨rfl, ⟨nd, rfl⟩⟩; refine ⟨_, rfl, ?_⟩))
          go_ret
          exact ⟨by first | rfl | (simp; done) | (simp [*]; done), by repeat (first | exact Drawn0.refl _ | apply Drawn0.step)⟩
end Go.Proofs.Ytnfglkgkdechlaa.PQ

namespace Go.Proofs.Ytnfglkgkdechlaa.PQ
open Go.RowKit Go.Proofs.YtnfglkgkdechlaaW.PrintWords Go.Proofs.YtnfglkgkdechlaaW.PrintLast Go.Proofs.YtnfglkgkdechlaaW.PrintMore
attribute [local go_sem] max2_int min2_int max_two min_two max_three min_three max_four min_four   -- for this text's walks alone

attribute [local go_sem high] eqA52

/-! ### token_order: function 44 -/
def token_order.f (k : Nat) (a0_0 : Int) (a0_1 : Int) (a1_0 : Int) (a1_1 : Int) : Option (Int) := if (a0_0 == a1_0 && (a0_1 == a1_1)) = true then (some 0) else ((cmp_Compare_uint64.f a0_0 a1_0).bind fun t152 => ((cmp_Compare_uint64.f a0_1 a1_1).bind fun t153 => ((cmp_Or_int.f k (([t152, t153] : List Int))).bind fun t157 => (some t157))))
theorem token_order.mono : ∀ a0 a1 a2 a3 k, LeO (token_order.f k a0 a1 a2 a3) (token_order.f (k + 1) a0 a1 a2 a3) := by
  intro a0 a1 a2 a3 k
  unfold token_order.f
  repeat' first
      | (with_reducible exact cmp_Or_int.mono _ _)
      | (with_reducible exact LeO.refl _)
      | (with_reducible exact LeO.none _)
      | (with_reducible refine LeO.ite ?_ ?_)
      | (with_reducible refine LeO.bind ?_ (fun _ => ?_))
      | exact cmp_Or_int.mono _ _
      | exact LeO.none _
      | refine LeO.ite ?_ ?_
      | refine LeO.bind ?_ (fun _ => ?_)
def token_order.T3 : Bool × List (List Nat × List Nat) := (true, [([], []), ([0], [0]), ([], []), ([2], [2]), ([1, 3], [1, 3]), ([], []), ([5], [5]), ([], []), ([7], [7]), ([6, 8, 4], [6, 8]), ([4, 9], [4, 9]), ([10, 9], [10]), ([11, 11, 0, 1, 2, 3, 4, 5, 6, 7, 8, 9, 10, 11], [11])])
def token_order.B3 : List Nat := [0, 1, 0, 4, 15, 0, 32, 0, 128, 511, 1023, 2047, 4095]
theorem token_order.tab3 : rtab .any (opsOf Try.f44 3) = token_order.T3 := by kernel_rfl
theorem token_order.bits3 : waitsOk token_order.T3.2 token_order.B3 = true := by kernel_rfl
set_option maxHeartbeats 8000000 in
set_option maxRecDepth 100000 in
theorem token_order.calls (k : Nat) (a0_0 : Int) (a0_1 : Int) (a1_0 : Int) (a1_1 : Int) (r : Int) (w : World) (h : token_order.f k a0_0 a0_1 a1_0 a1_1 = some r) :
    Calls Try.prog 44 #[.agg #[.int .u64 a0_0, .int .u64 a0_1], .agg #[.int .u64 a1_0, .int .u64 a1_1]] w fun e w' => e = .returned (.int .i64 r) ∧ Below w.heap.size w w' := by
  have hu52 := Try.underlying52
  have HB := Aside0.mk (Below.refl w.heap.size w)
  have H : (if (a0_0 == a1_0 && (a0_1 == a1_1)) = true then (some 0) else ((cmp_Compare_uint64.f a0_0 a1_0).bind fun t152 => ((cmp_Compare_uint64.f a0_1 a1_1).bind fun t153 => ((cmp_Or_int.f k (([t152, t153] : List Int))).bind fun t157 => (some t157))))) = some r := h
  clear h
  by_cases c3 : (a0_0 == a1_0 && (a0_1 == a1_1)) = true
  · rw [if_pos c3] at H
    have c3b0 : (a0_0 == a1_0 && (a0_1 == a1_1)) = true := c3
    (try (have c3b1 : decide (a0_0 = a1_0 && (a0_1 == a1_1)) = true := by simpa using c3))
    (try (have c3b2 : (a0_0 == a1_0 && (a0_1 == a1_1)) = true := by simpa using c3))
    clear c3
    obtain rfl := Option.some.inj H
    go_enter Try.func44, Try.ntmps44
    go_wp2_with (first | ((with_reducible refine gate_dst (N := 2) rfl ?_); refine box_event ?hg (N := 2) ?hd (cs := #[.int .u64 a0_0, .int .u64 a0_1]) (t := 52) ?hr ?_; (case hd => rfl); (case hg => rfl); (case hr => first | (go_simp; done) | (go_simp; rfl)); intro gb150 hg w4 hbox hb; have n0_ := Aside0.mk (below_step (by repeat (first | (with_reducible first | exact HB.out | apply below_alloc | apply pw_below_drewN | apply below_drew1) | exact HB.out)) hb); have n1_ := Aside0.mk (hbox); have n2_ := Aside0.mk ((by rw [hg]; exact (below_size (by repeat (first | (with_reducible first | exact HB.out | apply below_alloc | apply pw_below_drewN | apply below_drew1) | exact HB.out))) : w.heap.size ≤ gb150)); have n3_ := Aside0.mk ((by rw [hg]; exact (below_size (by repeat (first | (with_reducible first | exact HB.out | apply below_alloc | apply pw_below_drewN | apply below_drew1) | exact HB.out))) : w.heap.size ≤ gb150)); clear HB; have HB := n0_; have BK150 := n1_; have GW150 := n2_; have GE150 := n3_; clear n0_ n1_ n2_ n3_; clear hb hbox hg) | ((with_reducible refine gate_dst (N := 3) rfl ?_); refine box_event ?hg (N := 3) ?hd (cs := #[.int .u64 a1_0, .int .u64 a1_1]) (t := 52) ?hr ?_; (case hd => rfl); (case hg => rfl); (case hr => first | (go_simp; done) | (go_simp; rfl)); intro gb151 hg w5 hbox hb; have n0_ := Aside0.mk (blk_below (g := gb150) (o := .cells #[.int .u64 a0_0, .int .u64 a0_1] 52 (0, 0)) (by (with_reducible repeat (first | refine blk_drewN ?_ _ | refine blk_drew ?_ | refine blk_alloc ?_ _)); exact BK150.out) hb); have n1_ := Aside0.mk (below_step (by repeat (first | (with_reducible first | exact HB.out | apply below_alloc | apply pw_below_drewN | apply below_drew1 | refine below_set ?_ GE150.out) | exact HB.out)) hb); have n2_ := Aside0.mk (hbox); have n3_ := Aside0.mk ((by rw [hg]; exact (below_size (by repeat (first | (with_reducible first | exact HB.out | apply below_alloc | apply pw_below_drewN | apply below_drew1 | refine below_set ?_ GE150.out) | exact HB.out))) : w.heap.size ≤ gb151)); have n4_ := Aside0.mk ((by rw [hg]; exact (below_size (by repeat (first | (with_reducible first | exact HB.out | apply below_alloc | apply pw_below_drewN | apply below_drew1 | refine below_set ?_ GE150.out) | exact HB.out))) : w.heap.size ≤ gb151)); have n5_ := Aside0.mk ((by rw [hg]; exact Nat.ne_of_lt (blk_lt (g := gb150) (o := .cells #[.int .u64 a0_0, .int .u64 a0_1] 52 (0, 0)) (by (with_reducible repeat (first | refine blk_drewN ?_ _ | refine blk_drew ?_ | refine blk_alloc ?_ _)); exact BK150.out)) : gb150 ≠ gb151)); have n6_ := Aside0.mk ((by rw [hg]; exact Nat.ne_of_gt (blk_lt (g := gb150) (o := .cells #[.int .u64 a0_0, .int .u64 a0_1] 52 (0, 0)) (by (with_reducible repeat (first | refine blk_drewN ?_ _ | refine blk_drew ?_ | refine blk_alloc ?_ _)); exact BK150.out)) : gb151 ≠ gb150)); clear BK150; clear HB; have BK150 := n0_; have HB := n1_; have BK151 := n2_; have GW151 := n3_; have GE151 := n4_; have NB150_151 := n5_; have NB151_150 := n6_; clear n0_ n1_ n2_ n3_ n4_ n5_ n6_; clear hb hbox hg; have hnb6 := NB150_151.out; have hnc6 := NB151_150.out; have hcz7_0 : w5.cell? ⟨gb150, 0, none⟩ = some (.int .u64 a0_0) := (blk_cell BK150.out 0).trans rfl; have hcz7_1 : w5.cell? ⟨gb150, 1, none⟩ = some (.int .u64 a0_1) := (blk_cell BK150.out 1).trans rfl; have hfz7_0 := blk_frozen BK150.out 0; have hfz7_1 := blk_frozen BK150.out 1; have hcz8_0 : w5.cell? ⟨gb151, 0, none⟩ = some (.int .u64 a1_0) := (blk_cell BK151.out 0).trans rfl; have hcz8_1 : w5.cell? ⟨gb151, 1, none⟩ = some (.int .u64 a1_1) := (blk_cell BK151.out 1).trans rfl; have hfz8_0 := blk_frozen BK151.out 0; have hfz8_1 := blk_frozen BK151.out 1))
    go_ret
    exact ⟨by first | rfl | (simp [errW_none, errW_some] <;> rfl) | (simp [*, errW_none, errW_some] <;> rfl), by repeat (first | (with_reducible first | exact HB.out | apply below_alloc | apply pw_below_drewN | apply below_drew1 | refine below_set ?_ GE150.out | refine below_set ?_ GE151.out) | exact HB.out)⟩
  · rw [if_neg c3] at H
    have c3b0 : (a0_0 == a1_0 && (a0_1 == a1_1)) = false := by simpa using c3
    (try (have c3b1 : decide (a0_0 = a1_0 && (a0_1 == a1_1)) = false := by simpa using c3))
    (try (have c3b2 : (a0_0 == a1_0 && (a0_1 == a1_1)) = false := by simpa using c3))
    (try (have c3b3 : ¬ (a0_0 = a1_0 && (a0_1 == a1_1)) := by simpa using c3))
    clear c3
    replace H := Option.bind_eq_some_iff.mp H
    obtain ⟨t152, A90, H⟩ := H
    replace H : ((cmp_Compare_uint64.f a0_1 a1_1).bind fun t153 => ((cmp_Or_int.f k (([t152, t153] : List Int))).bind fun t157 => (some t157))) = some r := H
    have A9 := Aside0.mk A90
    clear A90
    replace H := Option.bind_eq_some_iff.mp H
    obtain ⟨t153, A100, H⟩ := H
    replace H : ((cmp_Or_int.f k (([t152, t153] : List Int))).bind fun t157 => (some t157)) = some r := H
    have A10 := Aside0.mk A100
    clear A100
    obtain ⟨y154, hy154⟩ : ∃ y_ : List Int, y_ = (([t152, t153] : List Int)) := ⟨_, rfl⟩
    replace H : ((cmp_Or_int.f k y154).bind fun t157 => (some t157)) = some r := by first | (rw [hy154]; with_reducible exact H) | (have H2_ := (Option.bind_some _ _).symm.trans H; rw [hy154]; with_reducible exact H2_) | (have H2_ := (Option.bind_some _ _).symm.trans H; with_reducible exact H2_) | with_reducible exact H | (rw [hy154]; exact H) | exact H
    have Ny154 := Aside0.mk hy154
    clear hy154
    replace H := Option.bind_eq_some_iff.mp H
    obtain ⟨t157, A110, H⟩ := H
    replace H : (some t157) = some r := H
    have A11 := Aside0.mk A110
    clear A110
    obtain rfl := Option.some.inj H
    go_enter Try.func44, Try.ntmps44
    try go_wp2_with (first | ((with_reducible refine gate_dst (N := 2) rfl ?_); refine box_event ?hg (N := 2) ?hd (cs := #[.int .u64 a0_0, .int .u64 a0_1]) (t := 52) ?hr ?_; (case hd => rfl); (case hg => rfl); (case hr => first | (go_simp; done) | (go_simp; rfl)); intro gb150 hg w12 hbox hb; have n0_ := Aside0.mk (below_step (by repeat (first | (with_reducible first | exact HB.out | apply below_alloc | apply pw_below_drewN | apply below_drew1) | exact HB.out)) hb); have n1_ := Aside0.mk (hbox); have n2_ := Aside0.mk ((by rw [hg]; exact (below_size (by repeat (first | (with_reducible first | exact HB.out | apply below_alloc | apply pw_below_drewN | apply below_drew1) | exact HB.out))) : w.heap.size ≤ gb150)); have n3_ := Aside0.mk ((by rw [hg]; exact (below_size (by repeat (first | (with_reducible first | exact HB.out | apply below_alloc | apply pw_below_drewN | apply below_drew1) | exact HB.out))) : w.heap.size ≤ gb150)); clear HB; have HB := n0_; have BK150 := n1_; have GW150 := n2_; have GE150 := n3_; clear n0_ n1_ n2_ n3_; clear hb hbox hg) | ((with_reducible refine gate_dst (N := 3) rfl ?_); refine box_event ?hg (N := 3) ?hd (cs := #[.int .u64 a1_0, .int .u64 a1_1]) (t := 52) ?hr ?_; (case hd => rfl); (case hg => rfl); (case hr => first | (go_simp; done) | (go_simp; rfl)); intro gb151 hg w13 hbox hb; have n0_ := Aside0.mk (blk_below (g := gb150) (o := .cells #[.int .u64 a0_0, .int .u64 a0_1] 52 (0, 0)) (by (with_reducible repeat (first | refine blk_drewN ?_ _ | refine blk_drew ?_ | refine blk_alloc ?_ _)); exact BK150.out) hb); have n1_ := Aside0.mk (below_step (by repeat (first | (with_reducible first | exact HB.out | apply below_alloc | apply pw_below_drewN | apply below_drew1 | refine below_set ?_ GE150.out) | exact HB.out)) hb); have n2_ := Aside0.mk (hbox); have n3_ := Aside0.mk ((by rw [hg]; exact (below_size (by repeat (first | (with_reducible first | exact HB.out | apply below_alloc | apply pw_below_drewN | apply below_drew1 | refine below_set ?_ GE150.out) | exact HB.out))) : w.heap.size ≤ gb151)); have n4_ := Aside0.mk ((by rw [hg]; exact (below_size (by repeat (first | (with_reducible first | exact HB.out | apply below_alloc | apply pw_below_drewN | apply below_drew1 | refine below_set ?_ GE150.out) | exact HB.out))) : w.heap.size ≤ gb151)); have n5_ := Aside0.mk ((by rw [hg]; exact Nat.ne_of_lt (blk_lt (g := gb150) (o := .cells #[.int .u64 a0_0, .int .u64 a0_1] 52 (0, 0)) (by (with_reducible repeat (first | refine blk_drewN ?_ _ | refine blk_drew ?_ | refine blk_alloc ?_ _)); exact BK150.out)) : gb150 ≠ gb151)); have n6_ := Aside0.mk ((by rw [hg]; exact Nat.ne_of_gt (blk_lt (g := gb150) (o := .cells #[.int .u64 a0_0, .int .u64 a0_1] 52 (0, 0)) (by (with_reducible repeat (first | refine blk_drewN ?_ _ | refine blk_drew ?_ | refine blk_alloc ?_ _)); exact BK150.out)) : gb151 ≠ gb150)); clear BK150; clear HB; have BK150 := n0_; have HB := n1_; have BK151 := n2_; have GW151 := n3_; have GE151 := n4_; have NB150_151 := n5_; have NB151_150 := n6_; clear n0_ n1_ n2_ n3_ n4_ n5_ n6_; clear hb hbox hg; have hnb14 := NB150_151.out; have hnc14 := NB151_150.out; have hcz15_0 : w13.cell? ⟨gb150, 0, none⟩ = some (.int .u64 a0_0) := (blk_cell BK150.out 0).trans rfl; have hcz15_1 : w13.cell? ⟨gb150, 1, none⟩ = some (.int .u64 a0_1) := (blk_cell BK150.out 1).trans rfl; have hfz15_0 := blk_frozen BK150.out 0; have hfz15_1 := blk_frozen BK150.out 1; have hcz16_0 : w13.cell? ⟨gb151, 0, none⟩ = some (.int .u64 a1_0) := (blk_cell BK151.out 0).trans rfl; have hcz16_1 : w13.cell? ⟨gb151, 1, none⟩ = some (.int .u64 a1_1) := (blk_cell BK151.out 1).trans rfl; have hfz16_0 := blk_frozen BK151.out 0; have hfz16_1 := blk_frozen BK151.out 1))
    have n0_ := Aside0.mk (blk_drew BK150.out)
    have n1_ := Aside0.mk (blk_drew BK151.out)
    have n2_ := Aside0.mk (below_drew1 HB.out)
    clear BK150
    clear BK151
    clear HB
    have BK150 := n0_
    have BK151 := n1_
    have HB := n2_
    clear n0_ n1_ n2_
    refine start_ (n := 13) (S := fun w' => w'.cell? ⟨gb150, 0, none⟩ = some (.int .u64 a0_0) ∧ w'.cell? ⟨gb150, 1, none⟩ = some (.int .u64 a0_1) ∧ w'.cell? ⟨gb151, 0, none⟩ = some (.int .u64 a1_0) ∧ w'.cell? ⟨gb151, 1, none⟩ = some (.int .u64 a1_1)) (ds := []) #[false, false, false, false, false, false, false, false, false, false, false, false, false] (by kernel_rfl) rfl rfl ⟨(blk_cell BK150.out 0).trans rfl, (blk_cell BK150.out 1).trans rfl, (blk_cell BK151.out 0).trans rfl, (blk_cell BK151.out 1).trans rfl⟩ (fun hHeld => ?_); refine with_tabW token_order.tab3 token_order.bits3 (fun HT_ HW_ => ?_)
    generalize w13.drew = w17 at BK150 BK151 HB hHeld ⊢
    refine pure_ (i := 0) (N := some 8) (v := ?_) (a' := ?_) #[true, false, false, false, false, false, false, false, false, false, false, false, false] rfl rfl (any_of HT_.out (by kernel_rfl)) (fun _ _ _ h => h) (Or.inl ⟨by rfl, ?_⟩) ?_ ?_
    rotate_left
    · intro w'
      go_simp
      with_reducible rfl
    rotate_left
    · simp only [Act.put, qa_, qb_, qc_, i64_w, i32_w]
      rfl
    refine pure_ (i := 2) (N := some 10) (v := ?_) (a' := ?_) #[true, false, true, false, false, false, false, false, false, false, false, false, false] rfl rfl (any_of HT_.out (by kernel_rfl)) (fun _ _ _ h => h) (Or.inl ⟨by rfl, ?_⟩) ?_ ?_
    rotate_left
    · intro w'
      go_simp
      with_reducible rfl
    rotate_left
    · simp only [Act.put, qa_, qb_, qc_, i64_w, i32_w]
      rfl
    refine pure_ (i := 5) (N := some 13) (v := ?_) (a' := ?_) #[true, false, true, false, false, true, false, false, false, false, false, false, false] rfl rfl (any_of HT_.out (by kernel_rfl)) (fun _ _ _ h => h) (Or.inl ⟨by rfl, ?_⟩) ?_ ?_
    rotate_left
    · intro w'
      go_simp
      with_reducible rfl
    rotate_left
    · simp only [Act.put, qa_, qb_, qc_, i64_w, i32_w]
      rfl
    refine pure_ (i := 7) (N := some 15) (v := ?_) (a' := ?_) #[true, false, true, false, false, true, false, true, false, false, false, false, false] rfl rfl (any_of HT_.out (by kernel_rfl)) (fun _ _ _ h => h) (Or.inl ⟨by rfl, ?_⟩) ?_ ?_
    rotate_left
    · intro w'
      go_simp
      with_reducible rfl
    rotate_left
    · simp only [Act.put, qa_, qb_, qc_, i64_w, i32_w]
      rfl
    refine take_ (i := 1) (N := some 9) (v := ?_) (a' := ?_) #[true, true, true, false, false, true, false, true, false, false, false, false, false] rfl rfl (take_ofW HT_.out HW_.out (by kernel_rfl)) (fun _ _ _ h => h) (Or.inl ⟨by rfl, ?_⟩) hHeld ?_ ?_
    rotate_left
    · rintro w' ⟨s0, s1, s2, s3⟩
      go_simp
      with_reducible rfl
    rotate_left
    · simp only [Act.put, qa_, qb_, qc_, i64_w, i32_w]
      rfl
    refine take_ (i := 3) (N := some 11) (v := ?_) (a' := ?_) #[true, true, true, true, false, true, false, true, false, false, false, false, false] rfl rfl (take_ofW HT_.out HW_.out (by kernel_rfl)) (fun _ _ _ h => h) (Or.inl ⟨by rfl, ?_⟩) hHeld ?_ ?_
    rotate_left
    · rintro w' ⟨s0, s1, s2, s3⟩
      go_simp
      with_reducible rfl
    rotate_left
    · simp only [Act.put, qa_, qb_, qc_, i64_w, i32_w]
      rfl
    refine take_ (i := 6) (N := some 14) (v := ?_) (a' := ?_) #[true, true, true, true, false, true, true, true, false, false, false, false, false] rfl rfl (take_ofW HT_.out HW_.out (by kernel_rfl)) (fun _ _ _ h => h) (Or.inl ⟨by rfl, ?_⟩) hHeld ?_ ?_
    rotate_left
    · rintro w' ⟨s0, s1, s2, s3⟩
      go_simp
      with_reducible rfl
    rotate_left
    · simp only [Act.put, qa_, qb_, qc_, i64_w, i32_w]
      rfl
    refine take_ (i := 8) (N := some 16) (v := ?_) (a' := ?_) #[true, true, true, true, false, true, true, true, true, false, false, false, false] rfl rfl (take_ofW HT_.out HW_.out (by kernel_rfl)) (fun _ _ _ h => h) (Or.inl ⟨by rfl, ?_⟩) hHeld ?_ ?_
    rotate_left
    · rintro w' ⟨s0, s1, s2, s3⟩
      go_simp
      with_reducible rfl
    rotate_left
    · simp only [Act.put, qa_, qb_, qc_, i64_w, i32_w]
      rfl
    refine one_ (i := 4) (N := some 12) #[true, true, true, true, true, true, true, true, true, false, false, false, false] rfl rfl (one_of HT_.out (by kernel_rfl)) (by decide) (fun K hK => ?_)
    refine goes_ Try.func46 (by kernel_rfl) rfl #[.int .u64 a0_0, .int .u64 a1_0] (by rfl) rfl rfl (by (try simp only [List.map_toArray, List.map_cons, List.map_nil]); first | done | rfl | (simp only [List.length_drop, List.length_take]; rfl)) ?_
    with_reducible refine (cmp_Compare_uint64.calls a0_0 a1_0 t152 _ A9.out).mono ?_
    rintro e w' ⟨rfl, ⟨nd, rfl⟩⟩
    refine ⟨_, rfl, ?_⟩
    refine hK.out _ _ ⟨(blk_cell BK150.out 0).trans rfl, (blk_cell BK150.out 1).trans rfl, (blk_cell BK151.out 0).trans rfl, (blk_cell BK151.out 1).trans rfl⟩ (fun hHeld => ?_)
    clear hK K
    refine norm_ (a' := ?_) ?_ ?_
    rotate_left
    · show Act.put _ (some 12) _ = _
      simp only [Act.put, qa_, qb_, qc_, i64_w, i32_w]
      rfl
    refine one_ (i := 9) (N := some 17) #[true, true, true, true, true, true, true, true, true, true, false, false, false] rfl rfl (one_of HT_.out (by kernel_rfl)) (by decide) (fun K hK => ?_)
    refine goes_ Try.func46 (by kernel_rfl) rfl #[.int .u64 a0_1, .int .u64 a1_1] (by rfl) rfl rfl (by (try simp only [List.map_toArray, List.map_cons, List.map_nil]); first | done | rfl | (simp only [List.length_drop, List.length_take]; rfl)) ?_
    with_reducible refine (cmp_Compare_uint64.calls a0_1 a1_1 t153 _ A10.out).mono ?_
    rintro e w' ⟨rfl, ⟨nd, rfl⟩⟩
    refine ⟨_, rfl, ?_⟩
    refine hK.out _ _ ⟨(blk_cell BK150.out 0).trans rfl, (blk_cell BK150.out 1).trans rfl, (blk_cell BK151.out 0).trans rfl, (blk_cell BK151.out 1).trans rfl⟩ (fun hHeld => ?_)
    clear hK K
    refine norm_ (a' := ?_) ?_ ?_
    rotate_left
    · show Act.put _ (some 17) _ = _
      simp only [Act.put, qa_, qb_, qc_, i64_w, i32_w]
      rfl
    refine one_ (i := 10) (N := some 18) #[true, true, true, true, true, true, true, true, true, true, true, false, false] rfl rfl (one_of HT_.out (by kernel_rfl)) (by decide) (fun K hK => ?_)
    refine Kd.R_lit_step (Kd.int .i64) _ 3 ?hg (N := 18) ?hd (xs := ([t152, t153] : List Int)) (inner := [.int .i64 t152, .int .i64 t153]) (ok := fun _ => True) (okp := fun _ => True) ?hr ?hp (fun _ hk => hk) trivial (Below.refl _ _) (Nat.le_refl _) (by simp) ?_; (case hd => rfl); (case hg => rfl); (case hr => first | (go_simp; done) | (go_simp; rfl)); (case hp => exact (Reps.one (show Kd.M (Kd.int .i64) _ _ _ t152 [.int .i64 t152] from rfl) (Reps.one (show Kd.M (Kd.int .i64) _ _ _ t153 [.int .i64 t153] from rfl) (Reps.none _ _))))
    intro v155 w18 ho19 hb hg_ hnew_
    clear hg_ hnew_
    (first | rw [← Ny154.out] at ho19 | (simp only [Int.reduceToNat] at ho19; rw [← Ny154.out] at ho19))
    have n0_ := Aside0.mk (Kd.R_lower ho19 (below_size (by repeat (first | (with_reducible first | exact HB.out | apply below_alloc | apply pw_below_drewN | apply below_drew1 | refine below_set ?_ GE150.out | refine below_set ?_ GE151.out) | exact HB.out))))
    have n1_ := Aside0.mk (blk_below (g := gb150) (o := .cells #[.int .u64 a0_0, .int .u64 a0_1] 52 (0, 0)) (by (with_reducible repeat (first | refine blk_drewN ?_ _ | refine blk_drew ?_ | refine blk_alloc ?_ _)); exact BK150.out) hb)
    have n2_ := Aside0.mk (blk_below (g := gb151) (o := .cells #[.int .u64 a1_0, .int .u64 a1_1] 52 (0, 0)) (by (with_reducible repeat (first | refine blk_drewN ?_ _ | refine blk_drew ?_ | refine blk_alloc ?_ _)); exact BK151.out) hb)
    have n3_ := Aside0.mk (below_step (by repeat (first | (with_reducible first | exact HB.out | apply below_alloc | apply pw_below_drewN | apply below_drew1 | refine below_set ?_ GE150.out | refine below_set ?_ GE151.out) | exact HB.out)) hb)
    clear BK150
    clear BK151
    clear HB
    have HO156 := n0_
    have BK150 := n1_
    have BK151 := n2_
    have HB := n3_
    clear n0_ n1_ n2_ n3_
    clear hb ho19
    obtain ⟨Ao20, co20, eo20⟩ := Kd.R_slice HO156.out
    (first | subst eo20 | (injection eo20 with f1_ f2_ f3_; have f4_ := f1_.symm; have f5_ := f3_.symm; clear f1_ f2_ f3_; subst f4_; subst f5_))
    refine hK.out _ _ ⟨(blk_cell BK150.out 0).trans rfl, (blk_cell BK150.out 1).trans rfl, (blk_cell BK151.out 0).trans rfl, (blk_cell BK151.out 1).trans rfl⟩ (fun hHeld => ?_)
    clear hK K
    refine norm_ (a' := ?_) ?_ ?_
    rotate_left
    · show Act.put _ (some 18) _ = _
      simp only [Act.put, qa_, qb_, qc_, i64_w, i32_w]
      rfl
    refine one_ (i := 11) (N := some 19) #[true, true, true, true, true, true, true, true, true, true, true, true, false] rfl rfl (one_of HT_.out (by kernel_rfl)) (by decide) (fun K hK => ?_)
    refine goes_ Try.func45 (by kernel_rfl) rfl #[.slice Ao20 y154.length co20] (by rfl) rfl rfl (by (try simp only [List.map_toArray, List.map_cons, List.map_nil]); first | done | rfl | (simp only [List.length_drop, List.length_take]; rfl)) ?_
    with_reducible refine (cmp_Or_int.calls k _ _ y154 t157 _ ?side1 ?side2 A11.out).mono ?_
    (case side1 => repeat (first | exact (Kd.R_reads' HO156.out).2.2 | (with_reducible refine Kd.C_alloc ?_ _) | (with_reducible refine Kd.C_drewN ?_ _) | (with_reducible refine Kd.C_drew ?_)))
    (case side2 => exact (Kd.R_reads' HO156.out).2.1)
    rintro e w' ⟨rfl, ⟨nd, rfl⟩⟩
    refine ⟨_, rfl, ?_⟩
    refine hK.out _ _ ⟨(blk_cell BK150.out 0).trans rfl, (blk_cell BK150.out 1).trans rfl, (blk_cell BK151.out 0).trans rfl, (blk_cell BK151.out 1).trans rfl⟩ (fun hHeld => ?_)
    clear hK K
    refine norm_ (a' := ?_) ?_ ?_
    rotate_left
    · show Act.put _ (some 19) _ = _
      simp only [Act.put, qa_, qb_, qc_, i64_w, i32_w]
      rfl
    refine pure_ (i := 12) (N := some 4) (v := ?_) (a' := ?_) #[true, true, true, true, true, true, true, true, true, true, true, true, true] rfl rfl (any_of HT_.out (by kernel_rfl)) (fun _ _ _ h => h) (Or.inl ⟨by rfl, ?_⟩) ?_ ?_
    rotate_left
    · intro w'
      go_simp
      with_reducible rfl
    rotate_left
    · simp only [Act.put, qa_, qb_, qc_, i64_w, i32_w]
      rfl
    refine done_ (done_of HT_.out (by kernel_rfl)) ?_
    try go_wp2
    go_ret
    exact ⟨by first | rfl | (simp [errW_none, errW_some] <;> rfl) | (simp [*, errW_none, errW_some] <;> rfl), by repeat (first | (with_reducible first | exact HB.out | apply below_alloc | apply pw_below_drewN | apply below_drew1 | refine below_set ?_ GE150.out | refine below_set ?_ GE151.out) | exact HB.out)⟩
end Go.Proofs.Ytnfglkgkdechlaa.PQ

namespace Go.Proofs.Ytnfglkgkdechlaa.PQ
open Go.RowKit Go.Proofs.YtnfglkgkdechlaaW.PrintWords Go.Proofs.YtnfglkgkdechlaaW.PrintLast Go.Proofs.YtnfglkgkdechlaaW.PrintMore
attribute [local go_sem] max2_int min2_int max_two min_two max_three min_three max_four min_four   -- for this text's walks alone

/-! ### oracle_order: function 37 -/
def oracle_order.f (k : Nat) (a0_0 : Int) (a0_1 : Int) (a1_0 : Int) (a1_1 : Int) : Option (Int) := (cmp_Compare_uint64.f a0_0 a1_0).bind fun t162 => ((cmp_Compare_uint64.f a0_1 a1_1).bind fun t163 => ((cmp_Or_int.f k (([t162, t163] : List Int))).bind fun t167 => (some t167)))
theorem oracle_order.mono : ∀ a0 a1 a2 a3 k, LeO (oracle_order.f k a0 a1 a2 a3) (oracle_order.f (k + 1) a0 a1 a2 a3) := by
  intro a0 a1 a2 a3 k
  unfold oracle_order.f
  repeat' first
      | (with_reducible exact cmp_Or_int.mono _ _)
      | (with_reducible exact LeO.refl _)
      | (with_reducible exact LeO.none _)
      | (with_reducible refine LeO.ite ?_ ?_)
      | (with_reducible refine LeO.bind ?_ (fun _ => ?_))
      | exact cmp_Or_int.mono _ _
      | exact LeO.none _
      | refine LeO.ite ?_ ?_
      | refine LeO.bind ?_ (fun _ => ?_)
def oracle_order.T1 : Bool × List (List Nat × List Nat) := (true, [([], []), ([0], [0]), ([], []), ([2], [2]), ([1, 3], [1, 3]), ([], []), ([5], [5]), ([], []), ([7], [7]), ([6, 8, 4], [6, 8]), ([4, 9], [4, 9]), ([10, 9], [10]), ([11, 11, 0, 1, 2, 3, 4, 5, 6, 7, 8, 9, 10, 11], [11])])
def oracle_order.B1 : List Nat := [0, 1, 0, 4, 15, 0, 32, 0, 128, 511, 1023, 2047, 4095]
theorem oracle_order.tab1 : rtab .any (opsOf Try.f37 1) = oracle_order.T1 := by kernel_rfl
theorem oracle_order.bits1 : waitsOk oracle_order.T1.2 oracle_order.B1 = true := by kernel_rfl
set_option maxHeartbeats 8000000 in
set_option maxRecDepth 100000 in
theorem oracle_order.calls (k : Nat) (a0_0 : Int) (a0_1 : Int) (a1_0 : Int) (a1_1 : Int) (r : Int) (w : World) (h : oracle_order.f k a0_0 a0_1 a1_0 a1_1 = some r) :
    Calls Try.prog 37 #[.agg #[.int .u64 a0_0, .int .u64 a0_1], .agg #[.int .u64 a1_0, .int .u64 a1_1]] w fun e w' => e = .returned (.int .i64 r) ∧ Below w.heap.size w w' := by
  have hu52 := Try.underlying52
  have HB := Aside0.mk (Below.refl w.heap.size w)
  have H : ((cmp_Compare_uint64.f a0_0 a1_0).bind fun t162 => ((cmp_Compare_uint64.f a0_1 a1_1).bind fun t163 => ((cmp_Or_int.f k (([t162, t163] : List Int))).bind fun t167 => (some t167)))) = some r := h
  clear h
  replace H := Option.bind_eq_some_iff.mp H
  obtain ⟨t162, A30, H⟩ := H
  replace H : ((cmp_Compare_uint64.f a0_1 a1_1).bind fun t163 => ((cmp_Or_int.f k (([t162, t163] : List Int))).bind fun t167 => (some t167))) = some r := H
  have A3 := Aside0.mk A30
  clear A30
  replace H := Option.bind_eq_some_iff.mp H
  obtain ⟨t163, A40, H⟩ := H
  replace H : ((cmp_Or_int.f k (([t162, t163] : List Int))).bind fun t167 => (some t167)) = some r := H
  have A4 := Aside0.mk A40
  clear A40
  obtain ⟨y164, hy164⟩ : ∃ y_ : List Int, y_ = (([t162, t163] : List Int)) := ⟨_, rfl⟩
  replace H : ((cmp_Or_int.f k y164).bind fun t167 => (some t167)) = some r := by first | (rw [hy164]; with_reducible exact H) | (have H2_ := (Option.bind_some _ _).symm.trans H; rw [hy164]; with_reducible exact H2_) | (have H2_ := (Option.bind_some _ _).symm.trans H; with_reducible exact H2_) | with_reducible exact H | (rw [hy164]; exact H) | exact H
  have Ny164 := Aside0.mk hy164
  clear hy164
  replace H := Option.bind_eq_some_iff.mp H
  obtain ⟨t167, A50, H⟩ := H
  replace H : (some t167) = some r := H
  have A5 := Aside0.mk A50
  clear A50
  obtain rfl := Option.some.inj H
  go_enter Try.func37, Try.ntmps37
  try go_wp2_with (first | ((with_reducible refine gate_dst (N := 2) rfl ?_); refine box_event ?hg (N := 2) ?hd (cs := #[.int .u64 a0_0, .int .u64 a0_1]) (t := 52) ?hr ?_; (case hd => rfl); (case hg => rfl); (case hr => first | (go_simp; done) | (go_simp; rfl)); intro gb160 hg w6 hbox hb; have n0_ := Aside0.mk (below_step (by repeat (first | (with_reducible first | exact HB.out | apply below_alloc | apply pw_below_drewN | apply below_drew1) | exact HB.out)) hb); have n1_ := Aside0.mk (hbox); have n2_ := Aside0.mk ((by rw [hg]; exact (below_size (by repeat (first | (with_reducible first | exact HB.out | apply below_alloc | apply pw_below_drewN | apply below_drew1) | exact HB.out))) : w.heap.size ≤ gb160)); have n3_ := Aside0.mk ((by rw [hg]; exact (below_size (by repeat (first | (with_reducible first | exact HB.out | apply below_alloc | apply pw_below_drewN | apply below_drew1) | exact HB.out))) : w.heap.size ≤ gb160)); clear HB; have HB := n0_; have BK160 := n1_; have GW160 := n2_; have GE160 := n3_; clear n0_ n1_ n2_ n3_; clear hb hbox hg) | ((with_reducible refine gate_dst (N := 3) rfl ?_); refine box_event ?hg (N := 3) ?hd (cs := #[.int .u64 a1_0, .int .u64 a1_1]) (t := 52) ?hr ?_; (case hd => rfl); (case hg => rfl); (case hr => first | (go_simp; done) | (go_simp; rfl)); intro gb161 hg w7 hbox hb; have n0_ := Aside0.mk (blk_below (g := gb160) (o := .cells #[.int .u64 a0_0, .int .u64 a0_1] 52 (0, 0)) (by (with_reducible repeat (first | refine blk_drewN ?_ _ | refine blk_drew ?_ | refine blk_alloc ?_ _)); exact BK160.out) hb); have n1_ := Aside0.mk (below_step (by repeat (first | (with_reducible first | exact HB.out | apply below_alloc | apply pw_below_drewN | apply below_drew1 | refine below_set ?_ GE160.out) | exact HB.out)) hb); have n2_ := Aside0.mk (hbox); have n3_ := Aside0.mk ((by rw [hg]; exact (below_size (by repeat (first | (with_reducible first | exact HB.out | apply below_alloc | apply pw_below_drewN | apply below_drew1 | refine below_set ?_ GE160.out) | exact HB.out))) : w.heap.size ≤ gb161)); have n4_ := Aside0.mk ((by rw [hg]; exact (below_size (by repeat (first | (with_reducible first | exact HB.out | apply below_alloc | apply pw_below_drewN | apply below_drew1 | refine below_set ?_ GE160.out) | exact HB.out))) : w.heap.size ≤ gb161)); have n5_ := Aside0.mk ((by rw [hg]; exact Nat.ne_of_lt (blk_lt (g := gb160) (o := .cells #[.int .u64 a0_0, .int .u64 a0_1] 52 (0, 0)) (by (with_reducible repeat (first | refine blk_drewN ?_ _ | refine blk_drew ?_ | refine blk_alloc ?_ _)); exact BK160.out)) : gb160 ≠ gb161)); have n6_ := Aside0.mk ((by rw [hg]; exact Nat.ne_of_gt (blk_lt (g := gb160) (o := .cells #[.int .u64 a0_0, .int .u64 a0_1] 52 (0, 0)) (by (with_reducible repeat (first | refine blk_drewN ?_ _ | refine blk_drew ?_ | refine blk_alloc ?_ _)); exact BK160.out)) : gb161 ≠ gb160)); clear BK160; clear HB; have BK160 := n0_; have HB := n1_; have BK161 := n2_; have GW161 := n3_; have GE161 := n4_; have NB160_161 := n5_; have NB161_160 := n6_; clear n0_ n1_ n2_ n3_ n4_ n5_ n6_; clear hb hbox hg))
  have n0_ := Aside0.mk (blk_drew BK160.out)
  have n1_ := Aside0.mk (blk_drew BK161.out)
  have n2_ := Aside0.mk (below_drew1 HB.out)
  clear BK160
  clear BK161
  clear HB
  have BK160 := n0_
  have BK161 := n1_
  have HB := n2_
  clear n0_ n1_ n2_
  refine start_ (n := 13) (S := fun w' => w'.cell? ⟨gb160, 0, none⟩ = some (.int .u64 a0_0) ∧ w'.cell? ⟨gb160, 1, none⟩ = some (.int .u64 a0_1) ∧ w'.cell? ⟨gb161, 0, none⟩ = some (.int .u64 a1_0) ∧ w'.cell? ⟨gb161, 1, none⟩ = some (.int .u64 a1_1)) (ds := []) #[false, false, false, false, false, false, false, false, false, false, false, false, false] (by kernel_rfl) rfl rfl ⟨(blk_cell BK160.out 0).trans rfl, (blk_cell BK160.out 1).trans rfl, (blk_cell BK161.out 0).trans rfl, (blk_cell BK161.out 1).trans rfl⟩ (fun hHeld => ?_); refine with_tabW oracle_order.tab1 oracle_order.bits1 (fun HT_ HW_ => ?_)
  generalize w7.drew = w8 at BK160 BK161 HB hHeld ⊢
  refine pure_ (i := 0) (N := some 5) (v := ?_) (a' := ?_) #[true, false, false, false, false, false, false, false, false, false, false, false, false] rfl rfl (any_of HT_.out (by kernel_rfl)) (fun _ _ _ h => h) (Or.inl ⟨by rfl, ?_⟩) ?_ ?_
  rotate_left
  · intro w'
    go_simp
    with_reducible rfl
  rotate_left
  · simp only [Act.put, qa_, qb_, qc_, i64_w, i32_w]
    rfl
  refine pure_ (i := 2) (N := some 7) (v := ?_) (a' := ?_) #[true, false, true, false, false, false, false, false, false, false, false, false, false] rfl rfl (any_of HT_.out (by kernel_rfl)) (fun _ _ _ h => h) (Or.inl ⟨by rfl, ?_⟩) ?_ ?_
  rotate_left
  · intro w'
    go_simp
    with_reducible rfl
  rotate_left
  · simp only [Act.put, qa_, qb_, qc_, i64_w, i32_w]
    rfl
  refine pure_ (i := 5) (N := some 10) (v := ?_) (a' := ?_) #[true, false, true, false, false, true, false, false, false, false, false, false, false] rfl rfl (any_of HT_.out (by kernel_rfl)) (fun _ _ _ h => h) (Or.inl ⟨by rfl, ?_⟩) ?_ ?_
  rotate_left
  · intro w'
    go_simp
    with_reducible rfl
  rotate_left
  · simp only [Act.put, qa_, qb_, qc_, i64_w, i32_w]
    rfl
  refine pure_ (i := 7) (N := some 12) (v := ?_) (a' := ?_) #[true, false, true, false, false, true, false, true, false, false, false, false, false] rfl rfl (any_of HT_.out (by kernel_rfl)) (fun _ _ _ h => h) (Or.inl ⟨by rfl, ?_⟩) ?_ ?_
  rotate_left
  · intro w'
    go_simp
    with_reducible rfl
  rotate_left
  · simp only [Act.put, qa_, qb_, qc_, i64_w, i32_w]
    rfl
  refine take_ (i := 1) (N := some 6) (v := ?_) (a' := ?_) #[true, true, true, false, false, true, false, true, false, false, false, false, false] rfl rfl (take_ofW HT_.out HW_.out (by kernel_rfl)) (fun _ _ _ h => h) (Or.inl ⟨by rfl, ?_⟩) hHeld ?_ ?_
  rotate_left
  · rintro w' ⟨s0, s1, s2, s3⟩
    go_simp
    with_reducible rfl
  rotate_left
  · simp only [Act.put, qa_, qb_, qc_, i64_w, i32_w]
    rfl
  refine take_ (i := 3) (N := some 8) (v := ?_) (a' := ?_) #[true, true, true, true, false, true, false, true, false, false, false, false, false] rfl rfl (take_ofW HT_.out HW_.out (by kernel_rfl)) (fun _ _ _ h => h) (Or.inl ⟨by rfl, ?_⟩) hHeld ?_ ?_
  rotate_left
  · rintro w' ⟨s0, s1, s2, s3⟩
    go_simp
    with_reducible rfl
  rotate_left
  · simp only [Act.put, qa_, qb_, qc_, i64_w, i32_w]
    rfl
  refine take_ (i := 6) (N := some 11) (v := ?_) (a' := ?_) #[true, true, true, true, false, true, true, true, false, false, false, false, false] rfl rfl (take_ofW HT_.out HW_.out (by kernel_rfl)) (fun _ _ _ h => h) (Or.inl ⟨by rfl, ?_⟩) hHeld ?_ ?_
  rotate_left
  · rintro w' ⟨s0, s1, s2, s3⟩
    go_simp
    with_reducible rfl
  rotate_left
  · simp only [Act.put, qa_, qb_, qc_, i64_w, i32_w]
    rfl
  refine take_ (i := 8) (N := some 13) (v := ?_) (a' := ?_) #[true, true, true, true, false, true, true, true, true, false, false, false, false] rfl rfl (take_ofW HT_.out HW_.out (by kernel_rfl)) (fun _ _ _ h => h) (Or.inl ⟨by rfl, ?_⟩) hHeld ?_ ?_
  rotate_left
  · rintro w' ⟨s0, s1, s2, s3⟩
    go_simp
    with_reducible rfl
  rotate_left
  · simp only [Act.put, qa_, qb_, qc_, i64_w, i32_w]
    rfl
  refine one_ (i := 4) (N := some 9) #[true, true, true, true, true, true, true, true, true, false, false, false, false] rfl rfl (one_of HT_.out (by kernel_rfl)) (by decide) (fun K hK => ?_)
  refine goes_ Try.func46 (by kernel_rfl) rfl #[.int .u64 a0_0, .int .u64 a1_0] (by rfl) rfl rfl (by (try simp only [List.map_toArray, List.map_cons, List.map_nil]); first | done | rfl | (simp only [List.length_drop, List.length_take]; rfl)) ?_
  with_reducible refine (cmp_Compare_uint64.calls a0_0 a1_0 t162 _ A3.out).mono ?_
  rintro e w' ⟨rfl, ⟨nd, rfl⟩⟩
  refine ⟨_, rfl, ?_⟩
  refine hK.out _ _ ⟨(blk_cell BK160.out 0).trans rfl, (blk_cell BK160.out 1).trans rfl, (blk_cell BK161.out 0).trans rfl, (blk_cell BK161.out 1).trans rfl⟩ (fun hHeld => ?_)
  clear hK K
  refine norm_ (a' := ?_) ?_ ?_
  rotate_left
  · show Act.put _ (some 9) _ = _
    simp only [Act.put, qa_, qb_, qc_, i64_w, i32_w]
    rfl
  refine one_ (i := 9) (N := some 14) #[true, true, true, true, true, true, true, true, true, true, false, false, false] rfl rfl (one_of HT_.out (by kernel_rfl)) (by decide) (fun K hK => ?_)
  refine goes_ Try.func46 (by kernel_rfl) rfl #[.int .u64 a0_1, .int .u64 a1_1] (by rfl) rfl rfl (by (try simp only [List.map_toArray, List.map_cons, List.map_nil]); first | done | rfl | (simp only [List.length_drop, List.length_take]; rfl)) ?_
  with_reducible refine (cmp_Compare_uint64.calls a0_1 a1_1 t163 _ A4.out).mono ?_
  rintro e w' ⟨rfl, ⟨nd, rfl⟩⟩
  refine ⟨_, rfl, ?_⟩
  refine hK.out _ _ ⟨(blk_cell BK160.out 0).trans rfl, (blk_cell BK160.out 1).trans rfl, (blk_cell BK161.out 0).trans rfl, (blk_cell BK161.out 1).trans rfl⟩ (fun hHeld => ?_)
  clear hK K
  refine norm_ (a' := ?_) ?_ ?_
  rotate_left
  · show Act.put _ (some 14) _ = _
    simp only [Act.put, qa_, qb_, qc_, i64_w, i32_w]
    rfl
  refine one_ (i := 10) (N := some 15) #[true, true, true, true, true, true, true, true, true, true, true, false, false] rfl rfl (one_of HT_.out (by kernel_rfl)) (by decide) (fun K hK => ?_)
  refine Kd.R_lit_step (Kd.int .i64) _ 3 ?hg (N := 15) ?hd (xs := ([t162, t163] : List Int)) (inner := [.int .i64 t162, .int .i64 t163]) (ok := fun _ => True) (okp := fun _ => True) ?hr ?hp (fun _ hk => hk) trivial (Below.refl _ _) (Nat.le_refl _) (by simp) ?_; (case hd => rfl); (case hg => rfl); (case hr => first | (go_simp; done) | (go_simp; rfl)); (case hp => exact (Reps.one (show Kd.M (Kd.int .i64) _ _ _ t162 [.int .i64 t162] from rfl) (Reps.one (show Kd.M (Kd.int .i64) _ _ _ t163 [.int .i64 t163] from rfl) (Reps.none _ _))))
  intro v165 w9 ho10 hb hg_ hnew_
  clear hg_ hnew_
  (first | rw [← Ny164.out] at ho10 | (simp only [Int.reduceToNat] at ho10; rw [← Ny164.out] at ho10))
  have n0_ := Aside0.mk (Kd.R_lower ho10 (below_size (by repeat (first | (with_reducible first | exact HB.out | apply below_alloc | apply pw_below_drewN | apply below_drew1 | refine below_set ?_ GE160.out | refine below_set ?_ GE161.out) | exact HB.out))))
  have n1_ := Aside0.mk (blk_below (g := gb160) (o := .cells #[.int .u64 a0_0, .int .u64 a0_1] 52 (0, 0)) (by (with_reducible repeat (first | refine blk_drewN ?_ _ | refine blk_drew ?_ | refine blk_alloc ?_ _)); exact BK160.out) hb)
  have n2_ := Aside0.mk (blk_below (g := gb161) (o := .cells #[.int .u64 a1_0, .int .u64 a1_1] 52 (0, 0)) (by (with_reducible repeat (first | refine blk_drewN ?_ _ | refine blk_drew ?_ | refine blk_alloc ?_ _)); exact BK161.out) hb)
  have n3_ := Aside0.mk (below_step (by repeat (first | (with_reducible first | exact HB.out | apply below_alloc | apply pw_below_drewN | apply below_drew1 | refine below_set ?_ GE160.out | refine below_set ?_ GE161.out) | exact HB.out)) hb)
  clear BK160
  clear BK161
  clear HB
  have HO166 := n0_
  have BK160 := n1_
  have BK161 := n2_
  have HB := n3_
  clear n0_ n1_ n2_ n3_
  clear hb ho10
  obtain ⟨Ao11, co11, eo11⟩ := Kd.R_slice HO166.out
  (first | subst eo11 | (injection eo11 with f1_ f2_ f3_; have f4_ := f1_.symm; have f5_ := f3_.symm; clear f1_ f2_ f3_; subst f4_; subst f5_))
  refine hK.out _ _ ⟨(blk_cell BK160.out 0).trans rfl, (blk_cell BK160.out 1).trans rfl, (blk_cell BK161.out 0).trans rfl, (blk_cell BK161.out 1).trans rfl⟩ (fun hHeld => ?_)
  clear hK K
  refine norm_ (a' := ?_) ?_ ?_
  rotate_left
  · show Act.put _ (some 15) _ = _
    simp only [Act.put, qa_, qb_, qc_, i64_w, i32_w]
    rfl
  refine one_ (i := 11) (N := some 16) #[true, true, true, true, true, true, true, true, true, true, true, true, false] rfl rfl (one_of HT_.out (by kernel_rfl)) (by decide) (fun K hK => ?_)
  refine goes_ Try.func45 (by kernel_rfl) rfl #[.slice Ao11 y164.length co11] (by rfl) rfl rfl (by (try simp only [List.map_toArray, List.map_cons, List.map_nil]); first | done | rfl | (simp only [List.length_drop, List.length_take]; rfl)) ?_
  with_reducible refine (cmp_Or_int.calls k _ _ y164 t167 _ ?side1 ?side2 A5.out).mono ?_
  (case side1 => repeat (first | exact (Kd.R_reads' HO166.out).2.2 | (with_reducible refine Kd.C_alloc ?_ _) | (with_reducible refine Kd.C_drewN ?_ _) | (with_reducible refine Kd.C_drew ?_)))
  (case side2 => exact (Kd.R_reads' HO166.out).2.1)
  rintro e w' ⟨rfl, ⟨nd, rfl⟩⟩
  refine ⟨_, rfl, ?_⟩
  refine hK.out _ _ ⟨(blk_cell BK160.out 0).trans rfl, (blk_cell BK160.out 1).trans rfl, (blk_cell BK161.out 0).trans rfl, (blk_cell BK161.out 1).trans rfl⟩ (fun hHeld => ?_)
  clear hK K
  refine norm_ (a' := ?_) ?_ ?_
  rotate_left
  · show Act.put _ (some 16) _ = _
    simp only [Act.put, qa_, qb_, qc_, i64_w, i32_w]
    rfl
  refine pure_ (i := 12) (N := some 4) (v := ?_) (a' := ?_) #[true, true, true, true, true, true, true, true, true, true, true, true, true] rfl rfl (any_of HT_.out (by kernel_rfl)) (fun _ _ _ h => h) (Or.inl ⟨by rfl, ?_⟩) ?_ ?_
  rotate_left
  · intro w'
    go_simp
    with_reducible rfl
  rotate_left
  · simp only [Act.put, qa_, qb_, qc_, i64_w, i32_w]
    rfl
  refine done_ (done_of HT_.out (by kernel_rfl)) ?_
  try go_wp2
  go_ret
  exact ⟨by first | rfl | (simp [errW_none, errW_some] <;> rfl) | (simp [*, errW_none, errW_some] <;> rfl), by repeat (first | (with_reducible first | exact HB.out | apply below_alloc | apply pw_below_drewN | apply below_drew1 | refine below_set ?_ GE160.out | refine below_set ?_ GE161.out) | exact HB.out)⟩
end Go.Proofs.Ytnfglkgkdechlaa.PQ

namespace Go.Proofs.Ytnfglkgkdechlaa.PQ
open Go.RowKit Go.Proofs.YtnfglkgkdechlaaW.PrintWords Go.Proofs.YtnfglkgkdechlaaW.PrintLast Go.Proofs.YtnfglkgkdechlaaW.PrintMore
attribute [local go_sem] max2_int min2_int max_two min_two max_three min_three max_four min_four   -- for this text's walks alone

/-! ### oracle_Right: function 25 -/
def oracle_Right.l0 : Nat → List (S52) → Int → Int → Option (Bool)
  | 0, _, _, _ => none
  | k + 1, x0, x5, x6 => if x6 < x5 then (if x6 > 0 then (if 0 ≤ (wrap64 (x6 - 1)) then (if (wrap64 (x6 - 1)) < (x0.length : Int) then (if 0 ≤ x6 then (if x6 < (x0.length : Int) then ((oracle_order.f k ((rd_T52 x0 (wrap64 (x6 - 1))).f0) ((rd_T52 x0 (wrap64 (x6 - 1))).f1) ((rd_T52 x0 x6).f0) ((rd_T52 x0 x6).f1)).bind fun t170 => (if t170 ≥ 0 then (some false) else (oracle_Right.l0 k x0 x5 (wrap64 (x6 + 1))))) else (none)) else (none)) else (none)) else (none)) else (oracle_Right.l0 k x0 x5 (wrap64 (x6 + 1)))) else (some (decide ((x0.length : Int) ≤ 4096)))
def oracle_Right.f (k : Nat) (l0 : List (S52)) : Option (Bool) := oracle_Right.l0 k l0 (l0.length : Int) 0
theorem oracle_Right.mono_l : ∀ k, (∀ y0 y1 y2, LeO (oracle_Right.l0 k y0 y1 y2) (oracle_Right.l0 (k + 1) y0 y1 y2))
  | 0 => fun _ _ _ r h => by simp [oracle_Right.l0] at h
  | k + 1 => by
    have ih0 := oracle_Right.mono_l k
    · intro y0 y1 y2
      unfold oracle_Right.l0
      repeat' first
      | (with_reducible exact ih0 _ _ _)
      | (with_reducible exact oracle_order.mono _ _ _ _ _)
      | (with_reducible exact LeO.refl _)
      | (with_reducible exact LeO.none _)
      | (with_reducible refine LeO.ite ?_ ?_)
      | (with_reducible refine LeO.bind ?_ (fun _ => ?_))
      | exact ih0 _ _ _
      | exact oracle_order.mono _ _ _ _ _
      | exact LeO.none _
      | refine LeO.ite ?_ ?_
      | refine LeO.bind ?_ (fun _ => ?_)
theorem oracle_Right.mono : ∀ a0 k, LeO (oracle_Right.f k a0) (oracle_Right.f (k + 1) a0) := by
  intro a0 k
  have ih0 := oracle_Right.mono_l k
  unfold oracle_Right.f
  repeat' first
      | (with_reducible exact ih0 _ _ _)
      | (with_reducible exact oracle_order.mono _ _ _ _ _)
      | (with_reducible exact LeO.refl _)
      | (with_reducible exact LeO.none _)
      | (with_reducible refine LeO.ite ?_ ?_)
      | (with_reducible refine LeO.bind ?_ (fun _ => ?_))
      | exact ih0 _ _ _
      | exact oracle_order.mono _ _ _ _ _
      | exact LeO.none _
      | refine LeO.ite ?_ ?_
      | refine LeO.bind ?_ (fun _ => ?_)
def oracle_Right.T4 : Bool × List (List Nat × List Nat) := (true, [([], []), ([0], [0]), ([1], [1]), ([2], [2]), ([2], [2]), ([4, 2], [2, 4]), ([3, 5, 2], [2, 3, 5]), ([6, 2], [2, 6]), ([2], [2]), ([2], [2]), ([8, 9, 2], [2, 8, 9]), ([10, 2], [2, 10]), ([7, 11, 2, 2], [2, 7, 11]), ([12, 2], [2, 12]), ([2, 13], [2, 13])])
def oracle_Right.B4 : List Nat := [0, 1, 3, 7, 7, 23, 63, 127, 7, 7, 775, 1799, 4095, 8191, 16383]
theorem oracle_Right.tab4 : rtab .any (opsOf Try.f25 4) = oracle_Right.T4 := by kernel_rfl
theorem oracle_Right.bits4 : waitsOk oracle_Right.T4.2 oracle_Right.B4 = true := by kernel_rfl
set_option maxHeartbeats 8000000 in
set_option maxRecDepth 100000 in
theorem oracle_Right.calls (k : Nat) (A0 : Option Addr) (c0 : Nat) (l0 : List (S52)) (r : Bool) (w : World) (hr0 : Kd.C k52 w A0 l0.length l0) (hc0 : l0.length ≤ c0) (h : oracle_Right.f k l0 = some r) :
    Calls Try.prog 25 #[.slice A0 l0.length c0] w fun e w' => e = .returned (.bool r) ∧ Below w.heap.size w w' := by
  have hu52 := Try.underlying52
  have HR0 := Aside0.mk hr0
  have HC0 := Aside0.mk hc0
  clear hr0 hc0
  have HB := Aside0.mk (Below.refl w.heap.size w)
  have H : (oracle_Right.l0 k l0 (l0.length : Int) 0) = some r := h
  clear h
  have H' := Aside0.mk H
  clear H
  go_enter Try.func25, Try.ntmps25
  go_wp2
  go_loopg [6] k (fun kq v6 w' => ∃ (x6_1 : Int), v6 = .int .i64 x6_1 ∧ Aside0 (oracle_Right.l0 kq l0 (l0.length : Int) x6_1 = some r) ∧ Aside0 (kq ≤ k) ∧ Aside0 (Below w.heap.size w w'))
  case atStart => exact ⟨(0), (by first | rfl | (simp; done) | (simp [*]; done)), H', ⟨Nat.le_refl _⟩, ⟨by repeat (first | (with_reducible first | exact HB.out | apply below_alloc | apply pw_below_drewN | apply below_drew1) | exact HB.out)⟩⟩
  case round =>
    clear H'
    obtain ⟨x6_1, rfl, HA, HK1, HB⟩ := hrel
    cases gk with
    | zero => exact absurd HA.out (by simp [oracle_Right.l0])
    | succ k1 =>
      have H := HA.out
      clear HA
      simp only [oracle_Right.l0] at H
      by_cases c2 : x6_1 < (l0.length : Int)
      · rw [if_pos c2] at H
        have c2b0 : decide (x6_1 < (l0.length : Int)) = true := decide_eq_true c2
        clear c2
        by_cases c3 : x6_1 > 0
        · rw [if_pos c3] at H
          have c3b0 : decide (0 < x6_1) = true := decide_eq_true c3
          clear c3
          obtain ⟨ji4, hji4⟩ : ∃ j_ : Int, (wrap64 (x6_1 - 1)) = j_ := ⟨_, rfl⟩
          replace H : (if 0 ≤ (ji4) then (if (ji4) < (l0.length : Int) then (if 0 ≤ x6_1 then (if x6_1 < (l0.length : Int) then ((oracle_order.f k1 ((rd_T52 l0 (ji4)).f0) ((rd_T52 l0 (ji4)).f1) ((rd_T52 l0 x6_1).f0) ((rd_T52 l0 x6_1).f1)).bind fun t170 => (if t170 ≥ 0 then (some false) else (oracle_Right.l0 k1 l0 (l0.length : Int) (wrap64 (x6_1 + 1))))) else (none)) else (none)) else (none)) else (none)) = some r := by first | (rw [hji4] at H; exact H) | (simp only [hji4] at H ⊢; exact H)
          have hji4w : (IntKind.i64.wrap (x6_1 - 1)) = ji4 := (i64_w _).trans hji4
          by_cases c5 : 0 ≤ (ji4)
          · rw [if_pos c5] at H
            have c5b0 : decide (0 ≤ (ji4)) = true := decide_eq_true c5
            clear c5
            by_cases c6 : (ji4) < (l0.length : Int)
            · rw [if_pos c6] at H
              have c6b0 : decide ((ji4) < (l0.length : Int)) = true := decide_eq_true c6
              clear c6
              by_cases c7 : 0 ≤ x6_1
              · rw [if_pos c7] at H
                have c7b0 : decide (0 ≤ x6_1) = true := decide_eq_true c7
                clear c7
                by_cases c8 : x6_1 < (l0.length : Int)
                · rw [if_pos c8] at H
                  have c8b0 : decide (x6_1 < (l0.length : Int)) = true := decide_eq_true c8
                  clear c8
                  replace H := Option.bind_eq_some_iff.mp H
                  obtain ⟨t170, A90, H⟩ := H
                  replace H : (if t170 ≥ 0 then (some false) else (oracle_Right.l0 k1 l0 (l0.length : Int) (wrap64 (x6_1 + 1)))) = some r := H
                  have A9 := Aside0.mk A90
                  clear A90
                  by_cases c10 : t170 ≥ 0
                  · rw [if_pos c10] at H
                    have c10b0 : decide (0 ≤ t170) = true := decide_eq_true c10
                    clear c10
                    obtain rfl := Option.some.inj H
                    try go_wp2
                    have n0_ := Aside0.mk (below_drew1 HB.out)
                    clear HB
                    have HB := n0_
                    clear n0_
                    have p168 : 0 ≤ ((ji4) : Int) := of_decide_eq_true (by first | (with_reducible assumption) | assumption)
                    have q168 : (ji4) < (l0.length : Int) := of_decide_eq_true (by first | (with_reducible assumption) | assumption)
                    obtain ⟨ad168, e168, hx168_0, hx168_1⟩ := at_T52 HR0.out (ji4) p168 q168
                    have hw168_1 := hx168_1
                    have hw168_0 := hx168_0
                    cases e168
                    replace hx168_0 := (HB.out.cell (World.block_lt_of_cell? w _ hx168_0)).trans hx168_0
                    replace hx168_1 := (HB.out.cell (World.block_lt_of_cell? w _ hx168_1)).trans hx168_1
                    replace p168 := eq_true p168
                    replace q168 := eq_true q168
                    have p169 : 0 ≤ (x6_1 : Int) := of_decide_eq_true (by first | (with_reducible assumption) | assumption)
                    have q169 : x6_1 < (l0.length : Int) := of_decide_eq_true (by first | (with_reducible assumption) | assumption)
                    obtain ⟨ad169, e169, hx169_0, hx169_1⟩ := at_T52 HR0.out x6_1 p169 q169
                    have hw169_1 := hx169_1
                    have hw169_0 := hx169_0
                    obtain rfl : ad168 = ad169 := (by injection e169)
                    replace hx169_0 := (HB.out.cell (World.block_lt_of_cell? w _ hx169_0)).trans hx169_0
                    replace hx169_1 := (HB.out.cell (World.block_lt_of_cell? w _ hx169_1)).trans hx169_1
                    replace p169 := eq_true p169
                    replace q169 := eq_true q169
                    refine start_ (n := 15) (S := fun w' => w'.cell? (ad168.add (((ji4)).toNat * 2)) = some (.int .u64 ((rd_T52 l0 (ji4)).f0)) ∧ w'.cell? ⟨(ad168.add (((ji4)).toNat * 2)).block, (ad168.add (((ji4)).toNat * 2)).off + 1, none⟩ = some (.int .u64 ((rd_T52 l0 (ji4)).f1)) ∧ w'.cell? (ad168.add ((x6_1).toNat * 2)) = some (.int .u64 ((rd_T52 l0 x6_1).f0)) ∧ w'.cell? ⟨(ad168.add ((x6_1).toNat * 2)).block, (ad168.add ((x6_1).toNat * 2)).off + 1, none⟩ = some (.int .u64 ((rd_T52 l0 x6_1).f1))) (ds := []) #[false, false, false, false, false, false, false, false, false, false, false, false, false, false, false] (by kernel_rfl) rfl rfl ⟨((HB.out.cell (World.block_lt_of_cell? w _ hw168_0)).trans hw168_0), ((HB.out.cell (World.block_lt_of_cell? w _ hw168_1)).trans hw168_1), ((HB.out.cell (World.block_lt_of_cell? w _ hw169_0)).trans hw169_0), ((HB.out.cell (World.block_lt_of_cell? w _ hw169_1)).trans hw169_1)⟩ (fun hHeld => ?_); refine with_tabW oracle_Right.tab4 oracle_Right.bits4 (fun HT_ HW_ => ?_)
                    generalize wr.drew = w11 at HB hx168_0 hx168_1 hx169_0 hx169_1 hHeld ⊢
                    refine pure_ (i := 0) (N := some 9) (v := ?_) (a' := ?_) #[true, false, false, false, false, false, false, false, false, false, false, false, false, false, false] rfl rfl (any_of HT_.out (by kernel_rfl)) (fun _ _ _ h => h) (Or.inl ⟨by rfl, ?_⟩) ?_ ?_
                    rotate_left
                    · intro w'
                      go_simp
                      with_reducible rfl
                    rotate_left
                    · simp only [Act.put, qa_, qb_, qc_, i64_w, i32_w]
                      rfl
                    refine pure_ (i := 1) (N := some 10) (v := ?_) (a' := ?_) #[true, true, false, false, false, false, false, false, false, false, false, false, false, false, false] rfl rfl (any_of HT_.out (by kernel_rfl)) (fun _ _ _ h => h) (Or.inl ⟨by rfl, ?_⟩) ?_ ?_
                    rotate_left
                    · intro w'
                      go_simp
                      with_reducible rfl
                    rotate_left
                    · simp only [Act.put, qa_, qb_, qc_, i64_w, i32_w]
                      rfl
                    refine pure_ (i := 2) (N := some 11) (v := ?_) (a' := ?_) #[true, true, true, false, false, false, false, false, false, false, false, false, false, false, false] rfl rfl (any_of HT_.out (by kernel_rfl)) (fun _ _ _ h => h) (Or.inl ⟨by rfl, ?_⟩) ?_ ?_
                    rotate_left
                    · intro w'
                      go_simp
                      with_reducible rfl
                    rotate_left
                    · simp only [Act.put, qa_, qb_, qc_, i64_w, i32_w]
                      rfl
                    refine pure_ (i := 3) (N := some 12) (v := ?_) (a' := ?_) #[true, true, true, true, false, false, false, false, false, false, false, false, false, false, false] rfl rfl (any_of HT_.out (by kernel_rfl)) (fun _ _ _ h => h) (Or.inl ⟨by rfl, ?_⟩) ?_ ?_
                    rotate_left
                    · intro w'
                      go_simp
                      with_reducible rfl
                    rotate_left
                    · simp only [Act.put, qa_, qb_, qc_, i64_w, i32_w]
                      rfl
                    refine pure_ (i := 4) (N := some 13) (v := ?_) (a' := ?_) #[true, true, true, true, true, false, false, false, false, false, false, false, false, false, false] rfl rfl (any_of HT_.out (by kernel_rfl)) (fun _ _ _ h => h) (Or.inl ⟨by rfl, ?_⟩) ?_ ?_
                    rotate_left
                    · intro w'
                      go_simp
                      with_reducible rfl
                    rotate_left
                    · simp only [Act.put, qa_, qb_, qc_, i64_w, i32_w]
                      rfl
                    refine pure_ (i := 5) (N := some 14) (v := ?_) (a' := ?_) #[true, true, true, true, true, true, false, false, false, false, false, false, false, false, false] rfl rfl (any_of HT_.out (by kernel_rfl)) (fun _ _ _ h => h) (Or.inl ⟨by rfl, ?_⟩) ?_ ?_
                    rotate_left
                    · intro w'
                      go_simp
                      with_reducible rfl
                    rotate_left
                    · simp only [Act.put, qa_, qb_, qc_, i64_w, i32_w]
                      rfl
                    refine pure_ (i := 6) (N := some 15) (v := ?_) (a' := ?_) #[true, true, true, true, true, true, true, false, false, false, false, false, false, false, false] rfl rfl (any_of HT_.out (by kernel_rfl)) (fun _ _ _ h => h) (Or.inl ⟨by rfl, ?_⟩) ?_ ?_
                    rotate_left
                    · intro w'
                      go_simp
                      with_reducible rfl
                    rotate_left
                    · simp only [Act.put, qa_, qb_, qc_, i64_w, i32_w]
                      rfl
                    refine pure_ (i := 8) (N := some 17) (v := ?_) (a' := ?_) #[true, true, true, true, true, true, true, false, true, false, false, false, false, false, false] rfl rfl (any_of HT_.out (by kernel_rfl)) (fun _ _ _ h => h) (Or.inl ⟨by rfl, ?_⟩) ?_ ?_
                    rotate_left
                    · intro w'
                      go_simp
                      with_reducible rfl
                    rotate_left
                    · simp only [Act.put, qa_, qb_, qc_, i64_w, i32_w]
                      rfl
                    refine pure_ (i := 9) (N := some 18) (v := ?_) (a' := ?_) #[true, true, true, true, true, true, true, false, true, true, false, false, false, false, false] rfl rfl (any_of HT_.out (by kernel_rfl)) (fun _ _ _ h => h) (Or.inl ⟨by rfl, ?_⟩) ?_ ?_
                    rotate_left
                    · intro w'
                      go_simp
                      with_reducible rfl
                    rotate_left
                    · simp only [Act.put, qa_, qb_, qc_, i64_w, i32_w]
                      rfl
                    refine pure_ (i := 10) (N := some 19) (v := ?_) (a' := ?_) #[true, true, true, true, true, true, true, false, true, true, true, false, false, false, false] rfl rfl (any_of HT_.out (by kernel_rfl)) (fun _ _ _ h => h) (Or.inl ⟨by rfl, ?_⟩) ?_ ?_
                    rotate_left
                    · intro w'
                      go_simp
                      with_reducible rfl
                    rotate_left
                    · simp only [Act.put, qa_, qb_, qc_, i64_w, i32_w]
                      rfl
                    refine take_ (i := 7) (N := some 16) (v := ?_) (a' := ?_) #[true, true, true, true, true, true, true, true, true, true, true, false, false, false, false] rfl rfl (take_ofW HT_.out HW_.out (by kernel_rfl)) (fun _ _ _ h => h) (Or.inl ⟨by rfl, ?_⟩) hHeld ?_ ?_
                    rotate_left
                    · rintro w' ⟨s0, s1, s2, s3⟩
                      go_simp
                      with_reducible rfl
                    rotate_left
                    · simp only [Act.put, qa_, qb_, qc_, i64_w, i32_w]
                      rfl
                    refine take_ (i := 11) (N := some 20) (v := ?_) (a' := ?_) #[true, true, true, true, true, true, true, true, true, true, true, true, false, false, false] rfl rfl (take_ofW HT_.out HW_.out (by kernel_rfl)) (fun _ _ _ h => h) (Or.inl ⟨by rfl, ?_⟩) hHeld ?_ ?_
                    rotate_left
                    · rintro w' ⟨s0, s1, s2, s3⟩
                      go_simp
                      with_reducible rfl
                    rotate_left
                    · simp only [Act.put, qa_, qb_, qc_, i64_w, i32_w]
                      rfl
                    refine one_ (i := 12) (N := some 21) #[true, true, true, true, true, true, true, true, true, true, true, true, true, false, false] rfl rfl (one_of HT_.out (by kernel_rfl)) (by decide) (fun K hK => ?_)
                    refine goes_ Try.func37 (by kernel_rfl) rfl #[.agg #[.int .u64 ((rd_T52 l0 (ji4)).f0), .int .u64 ((rd_T52 l0 (ji4)).f1)], .agg #[.int .u64 ((rd_T52 l0 x6_1).f0), .int .u64 ((rd_T52 l0 x6_1).f1)]] (by rfl) rfl rfl (by (try simp only [List.map_toArray, List.map_cons, List.map_nil]); first | done | (simp only [hji4]; rfl) | rfl | (simp only [List.length_drop, List.length_take]; rfl)) ?_
                    with_reducible refine (oracle_order.calls k1 ((rd_T52 l0 (ji4)).f0) ((rd_T52 l0 (ji4)).f1) ((rd_T52 l0 x6_1).f0) ((rd_T52 l0 x6_1).f1) t170 _ A9.out).mono ?_
                    rintro e w12 ⟨rfl, hb⟩
                    refine ⟨_, rfl, ?_⟩
                    have n0_ := Aside0.mk (below_step (by repeat (first | (with_reducible first | exact HB.out | apply below_alloc | apply pw_below_drewN | apply below_drew1) | exact HB.out)) hb)
                    clear HB
                    have HB := n0_
                    clear n0_
                    (try clear hb)
                    (try clear hb2)
                    (try clear hk)
                    (try clear hi)
                    refine hK.out _ _ ⟨((HB.out.cell (World.block_lt_of_cell? w _ hw168_0)).trans hw168_0), ((HB.out.cell (World.block_lt_of_cell? w _ hw168_1)).trans hw168_1), ((HB.out.cell (World.block_lt_of_cell? w _ hw169_0)).trans hw169_0), ((HB.out.cell (World.block_lt_of_cell? w _ hw169_1)).trans hw169_1)⟩ (fun hHeld => ?_)
                    clear hK K
                    refine norm_ (a' := ?_) ?_ ?_
                    rotate_left
                    · show Act.put _ (some 21) _ = _
                      simp only [Act.put, qa_, qb_, qc_, i64_w, i32_w]
                      rfl
                    refine pure_ (i := 13) (N := some 22) (v := ?_) (a' := ?_) #[true, true, true, true, true, true, true, true, true, true, true, true, true, true, false] rfl rfl (any_of HT_.out (by kernel_rfl)) (fun _ _ _ h => h) (Or.inl ⟨by rfl, ?_⟩) ?_ ?_
                    rotate_left
                    · intro w'
                      go_simp
                      with_reducible rfl
                    rotate_left
                    · simp only [Act.put, qa_, qb_, qc_, i64_w, i32_w]
                      rfl
                    refine pure_ (i := 14) (N := some 23) (v := ?_) (a' := ?_) #[true, true, true, true, true, true, true, true, true, true, true, true, true, true, true] rfl rfl (any_of HT_.out (by kernel_rfl)) (fun _ _ _ h => h) (Or.inl ⟨by rfl, ?_⟩) ?_ ?_
                    rotate_left
                    · intro w'
                      go_simp
                      with_reducible rfl
                    rotate_left
                    · simp only [Act.put, qa_, qb_, qc_, i64_w, i32_w]
                      rfl
                    refine done_ (done_of HT_.out (by kernel_rfl)) ?_
                    try go_wp2
                    go_ret
                    exact ⟨by first | rfl | (simp [errW_none, errW_some] <;> rfl) | (simp only [← hji4]; first | rfl | (simp [errW_none, errW_some] <;> rfl)) | (simp [*, errW_none, errW_some] <;> rfl), by repeat (first | (with_reducible first | exact HB.out | apply below_alloc | apply pw_below_drewN | apply below_drew1) | exact HB.out)⟩
                  · rw [if_neg c10] at H
                    have c10b0 : decide (0 ≤ t170) = false := decide_eq_false c10
                    clear c10
                    have H' := Aside0.mk H
                    clear H
                    try go_wp2
                    have n0_ := Aside0.mk (below_drew1 HB.out)
                    clear HB
                    have HB := n0_
                    clear n0_
                    have p168 : 0 ≤ ((ji4) : Int) := of_decide_eq_true (by first | (with_reducible assumption) | assumption)
                    have q168 : (ji4) < (l0.length : Int) := of_decide_eq_true (by first | (with_reducible assumption) | assumption)
                    obtain ⟨ad168, e168, hx168_0, hx168_1⟩ := at_T52 HR0.out (ji4) p168 q168
                    have hw168_1 := hx168_1
                    have hw168_0 := hx168_0
                    cases e168
                    replace hx168_0 := (HB.out.cell (World.block_lt_of_cell? w _ hx168_0)).trans hx168_0
                    replace hx168_1 := (HB.out.cell (World.block_lt_of_cell? w _ hx168_1)).trans hx168_1
                    replace p168 := eq_true p168
                    replace q168 := eq_true q168
                    have p169 : 0 ≤ (x6_1 : Int) := of_decide_eq_true (by first | (with_reducible assumption) | assumption)
                    have q169 : x6_1 < (l0.length : Int) := of_decide_eq_true (by first | (with_reducible assumption) | assumption)
                    obtain ⟨ad169, e169, hx169_0, hx169_1⟩ := at_T52 HR0.out x6_1 p169 q169
                    have hw169_1 := hx169_1
                    have hw169_0 := hx169_0
                    obtain rfl : ad168 = ad169 := (by injection e169)
                    replace hx169_0 := (HB.out.cell (World.block_lt_of_cell? w _ hx169_0)).trans hx169_0
                    replace hx169_1 := (HB.out.cell (World.block_lt_of_cell? w _ hx169_1)).trans hx169_1
                    replace p169 := eq_true p169
                    replace q169 := eq_true q169
                    refine start_ (n := 15) (S := fun w' => w'.cell? (ad168.add (((ji4)).toNat * 2)) = some (.int .u64 ((rd_T52 l0 (ji4)).f0)) ∧ w'.cell? ⟨(ad168.add (((ji4)).toNat * 2)).block, (ad168.add (((ji4)).toNat * 2)).off + 1, none⟩ = some (.int .u64 ((rd_T52 l0 (ji4)).f1)) ∧ w'.cell? (ad168.add ((x6_1).toNat * 2)) = some (.int .u64 ((rd_T52 l0 x6_1).f0)) ∧ w'.cell? ⟨(ad168.add ((x6_1).toNat * 2)).block, (ad168.add ((x6_1).toNat * 2)).off + 1, none⟩ = some (.int .u64 ((rd_T52 l0 x6_1).f1))) (ds := []) #[false, false, false, false, false, false, false, false, false, false, false, false, false, false, false] (by kernel_rfl) rfl rfl ⟨((HB.out.cell (World.block_lt_of_cell? w _ hw168_0)).trans hw168_0), ((HB.out.cell (World.block_lt_of_cell? w _ hw168_1)).trans hw168_1), ((HB.out.cell (World.block_lt_of_cell? w _ hw169_0)).trans hw169_0), ((HB.out.cell (World.block_lt_of_cell? w _ hw169_1)).trans hw169_1)⟩ (fun hHeld => ?_); refine with_tabW oracle_Right.tab4 oracle_Right.bits4 (fun HT_ HW_ => ?_)
                    generalize wr.drew = w13 at HB hx168_0 hx168_1 hx169_0 hx169_1 hHeld ⊢
                    refine pure_ (i := 0) (N := some 9) (v := ?_) (a' := ?_) #[true, false, false, false, false, false, false, false, false, false, false, false, false, false, false] rfl rfl (any_of HT_.out (by kernel_rfl)) (fun _ _ _ h => h) (Or.inl ⟨by rfl, ?_⟩) ?_ ?_
                    rotate_left
                    · intro w'
                      go_simp
                      with_reducible rfl
                    rotate_left
                    · simp only [Act.put, qa_, qb_, qc_, i64_w, i32_w]
                      rfl
                    refine pure_ (i := 1) (N := some 10) (v := ?_) (a' := ?_) #[true, true, false, false, false, false, false, false, false, false, false, false, false, false, false] rfl rfl (any_of HT_.out (by kernel_rfl)) (fun _ _ _ h => h) (Or.inl ⟨by rfl, ?_⟩) ?_ ?_
                    rotate_left
                    · intro w'
                      go_simp
                      with_reducible rfl
                    rotate_left
                    · simp only [Act.put, qa_, qb_, qc_, i64_w, i32_w]
                      rfl
                    refine pure_ (i := 2) (N := some 11) (v := ?_) (a' := ?_) #[true, true, true, false, false, false, false, false, false, false, false, false, false, false, false] rfl rfl (any_of HT_.out (by kernel_rfl)) (fun _ _ _ h => h) (Or.inl ⟨by rfl, ?_⟩) ?_ ?_
                    rotate_left
                    · intro w'
                      go_simp
                      with_reducible rfl
                    rotate_left
                    · simp only [Act.put, qa_, qb_, qc_, i64_w, i32_w]
                      rfl
                    refine pure_ (i := 3) (N := some 12) (v := ?_) (a' := ?_) #[true, true, true, true, false, false, false, false, false, false, false, false, false, false, false] rfl rfl (any_of HT_.out (by kernel_rfl)) (fun _ _ _ h => h) (Or.inl ⟨by rfl, ?_⟩) ?_ ?_
                    rotate_left
                    · intro w'
                      go_simp
                      with_reducible rfl
                    rotate_left
                    · simp only [Act.put, qa_, qb_, qc_, i64_w, i32_w]
                      rfl
                    refine pure_ (i := 4) (N := some 13) (v := ?_) (a' := ?_) #[true, true, true, true, true, false, false, false, false, false, false, false, false, false, false] rfl rfl (any_of HT_.out (by kernel_rfl)) (fun _ _ _ h => h) (Or.inl ⟨by rfl, ?_⟩) ?_ ?_
                    rotate_left
                    · intro w'
                      go_simp
                      with_reducible rfl
                    rotate_left
                    · simp only [Act.put, qa_, qb_, qc_, i64_w, i32_w]
                      rfl
                    refine pure_ (i := 5) (N := some 14) (v := ?_) (a' := ?_) #[true, true, true, true, true, true, false, false, false, false, false, false, false, false, false] rfl rfl (any_of HT_.out (by kernel_rfl)) (fun _ _ _ h => h) (Or.inl ⟨by rfl, ?_⟩) ?_ ?_
                    rotate_left
                    · intro w'
                      go_simp
                      with_reducible rfl
                    rotate_left
                    · simp only [Act.put, qa_, qb_, qc_, i64_w, i32_w]
                      rfl
                    refine pure_ (i := 6) (N := some 15) (v := ?_) (a' := ?_) #[true, true, true, true, true, true, true, false, false, false, false, false, false, false, false] rfl rfl (any_of HT_.out (by kernel_rfl)) (fun _ _ _ h => h) (Or.inl ⟨by rfl, ?_⟩) ?_ ?_
                    rotate_left
                    · intro w'
                      go_simp
                      with_reducible rfl
                    rotate_left
                    · simp only [Act.put, qa_, qb_, qc_, i64_w, i32_w]
                      rfl
                    refine pure_ (i := 8) (N := some 17) (v := ?_) (a' := ?_) #[true, true, true, true, true, true, true, false, true, false, false, false, false, false, false] rfl rfl (any_of HT_.out (by kernel_rfl)) (fun _ _ _ h => h) (Or.inl ⟨by rfl, ?_⟩) ?_ ?_
                    rotate_left
                    · intro w'
                      go_simp
                      with_reducible rfl
                    rotate_left
                    · simp only [Act.put, qa_, qb_, qc_, i64_w, i32_w]
                      rfl
                    refine pure_ (i := 9) (N := some 18) (v := ?_) (a' := ?_) #[true, true, true, true, true, true, true, false, true, true, false, false, false, false, false] rfl rfl (any_of HT_.out (by kernel_rfl)) (fun _ _ _ h => h) (Or.inl ⟨by rfl, ?_⟩) ?_ ?_
                    rotate_left
                    · intro w'
                      go_simp
                      with_reducible rfl
                    rotate_left
                    · simp only [Act.put, qa_, qb_, qc_, i64_w, i32_w]
                      rfl
                    refine pure_ (i := 10) (N := some 19) (v := ?_) (a' := ?_) #[true, true, true, true, true, true, true, false, true, true, true, false, false, false, false] rfl rfl (any_of HT_.out (by kernel_rfl)) (fun _ _ _ h => h) (Or.inl ⟨by rfl, ?_⟩) ?_ ?_
                    rotate_left
                    · intro w'
                      go_simp
                      with_reducible rfl
                    rotate_left
                    · simp only [Act.put, qa_, qb_, qc_, i64_w, i32_w]
                      rfl
                    refine take_ (i := 7) (N := some 16) (v := ?_) (a' := ?_) #[true, true, true, true, true, true, true, true, true, true, true, false, false, false, false] rfl rfl (take_ofW HT_.out HW_.out (by kernel_rfl)) (fun _ _ _ h => h) (Or.inl ⟨by rfl, ?_⟩) hHeld ?_ ?_
                    rotate_left
                    · rintro w' ⟨s0, s1, s2, s3⟩
                      go_simp
                      with_reducible rfl
                    rotate_left
                    · simp only [Act.put, qa_, qb_, qc_, i64_w, i32_w]
                      rfl
                    refine take_ (i := 11) (N := some 20) (v := ?_) (a' := ?_) #[true, true, true, true, true, true, true, true, true, true, true, true, false, false, false] rfl rfl (take_ofW HT_.out HW_.out (by kernel_rfl)) (fun _ _ _ h => h) (Or.inl ⟨by rfl, ?_⟩) hHeld ?_ ?_
                    rotate_left
                    · rintro w' ⟨s0, s1, s2, s3⟩
                      go_simp
                      with_reducible rfl
                    rotate_left
                    · simp only [Act.put, qa_, qb_, qc_, i64_w, i32_w]
                      rfl
                    refine one_ (i := 12) (N := some 21) #[true, true, true, true, true, true, true, true, true, true, true, true, true, false, false] rfl rfl (one_of HT_.out (by kernel_rfl)) (by decide) (fun K hK => ?_)
                    refine goes_ Try.func37 (by kernel_rfl) rfl #[.agg #[.int .u64 ((rd_T52 l0 (ji4)).f0), .int .u64 ((rd_T52 l0 (ji4)).f1)], .agg #[.int .u64 ((rd_T52 l0 x6_1).f0), .int .u64 ((rd_T52 l0 x6_1).f1)]] (by rfl) rfl rfl (by (try simp only [List.map_toArray, List.map_cons, List.map_nil]); first | done | (simp only [hji4]; rfl) | rfl | (simp only [List.length_drop, List.length_take]; rfl)) ?_
                    with_reducible refine (oracle_order.calls k1 ((rd_T52 l0 (ji4)).f0) ((rd_T52 l0 (ji4)).f1) ((rd_T52 l0 x6_1).f0) ((rd_T52 l0 x6_1).f1) t170 _ A9.out).mono ?_
                    rintro e w14 ⟨rfl, hb⟩
                    refine ⟨_, rfl, ?_⟩
                    have n0_ := Aside0.mk (below_step (by repeat (first | (with_reducible first | exact HB.out | apply below_alloc | apply pw_below_drewN | apply below_drew1) | exact HB.out)) hb)
                    clear HB
                    have HB := n0_
                    clear n0_
                    (try clear hb)
                    (try clear hb2)
                    (try clear hk)
                    (try clear hi)
                    refine hK.out _ _ ⟨((HB.out.cell (World.block_lt_of_cell? w _ hw168_0)).trans hw168_0), ((HB.out.cell (World.block_lt_of_cell? w _ hw168_1)).trans hw168_1), ((HB.out.cell (World.block_lt_of_cell? w _ hw169_0)).trans hw169_0), ((HB.out.cell (World.block_lt_of_cell? w _ hw169_1)).trans hw169_1)⟩ (fun hHeld => ?_)
                    clear hK K
                    refine norm_ (a' := ?_) ?_ ?_
                    rotate_left
                    · show Act.put _ (some 21) _ = _
                      simp only [Act.put, qa_, qb_, qc_, i64_w, i32_w]
                      rfl
                    refine pure_ (i := 13) (N := some 22) (v := ?_) (a' := ?_) #[true, true, true, true, true, true, true, true, true, true, true, true, true, true, false] rfl rfl (any_of HT_.out (by kernel_rfl)) (fun _ _ _ h => h) (Or.inl ⟨by rfl, ?_⟩) ?_ ?_
                    rotate_left
                    · intro w'
                      go_simp
                      with_reducible rfl
                    rotate_left
                    · simp only [Act.put, qa_, qb_, qc_, i64_w, i32_w]
                      rfl
                    refine pure_ (i := 14) (N := some 23) (v := ?_) (a' := ?_) #[true, true, true, true, true, true, true, true, true, true, true, true, true, true, true] rfl rfl (any_of HT_.out (by kernel_rfl)) (fun _ _ _ h => h) (Or.inl ⟨by rfl, ?_⟩) ?_ ?_
                    rotate_left
                    · intro w'
                      go_simp
                      with_reducible rfl
                    rotate_left
                    · simp only [Act.put, qa_, qb_, qc_, i64_w, i32_w]
                      rfl
                    refine done_ (done_of HT_.out (by kernel_rfl)) ?_
                    try go_wp2
                    go_roundg k1
                    case measure => have := HK1.out; omega
                    case rel => exact ⟨(wrap64 (x6_1 + 1)), (by first | rfl | (simp; done) | (simp [*]; done)), H', ⟨by have := HK1.out; omega⟩, ⟨by repeat (first | (with_reducible first | exact HB.out | apply below_alloc | apply pw_below_drewN | apply below_drew1) | exact HB.out)⟩⟩
                · rw [if_neg c8] at H
                  exact absurd H (by simp)
              · rw [if_neg c7] at H
                exact absurd H (by simp)
            · rw [if_neg c6] at H
              exact absurd H (by simp)
          · rw [if_neg c5] at H
            exact absurd H (by simp)
        · rw [if_neg c3] at H
          have c3b0 : decide (0 < x6_1) = false := decide_eq_false c3
          clear c3
          have H' := Aside0.mk H
          clear H
          try go_wp2
          have n0_ := Aside0.mk (below_drew1 HB.out)
          clear HB
          have HB := n0_
          clear n0_
          refine start_ (n := 15) (S := fun w' => True) (ds := []) #[false, false, false, false, false, false, false, false, false, false, false, false, false, false, false] (by kernel_rfl) rfl rfl trivial (fun hHeld => ?_); refine with_tabW oracle_Right.tab4 oracle_Right.bits4 (fun HT_ HW_ => ?_)
          generalize wr.drew = w15 at HB hHeld ⊢
          refine pure_ (i := 0) (N := some 9) (v := ?_) (a' := ?_) #[true, false, false, false, false, false, false, false, false, false, false, false, false, false, false] rfl rfl (any_of HT_.out (by kernel_rfl)) (fun _ _ _ h => h) (Or.inl ⟨by rfl, ?_⟩) ?_ ?_
          rotate_left
          · intro w'
            go_simp
            with_reducible rfl
          rotate_left
          · simp only [Act.put, qa_, qb_, qc_, i64_w, i32_w]
            rfl
          refine pure_ (i := 1) (N := some 10) (v := ?_) (a' := ?_) #[true, true, false, false, false, false, false, false, false, false, false, false, false, false, false] rfl rfl (any_of HT_.out (by kernel_rfl)) (fun _ _ _ h => h) (Or.inl ⟨by rfl, ?_⟩) ?_ ?_
          rotate_left
          · intro w'
            go_simp
            with_reducible rfl
          rotate_left
          · simp only [Act.put, qa_, qb_, qc_, i64_w, i32_w]
            rfl
          refine pure_ (i := 2) (N := some 11) (v := ?_) (a' := ?_) #[true, true, true, false, false, false, false, false, false, false, false, false, false, false, false] rfl rfl (any_of HT_.out (by kernel_rfl)) (fun _ _ _ h => h) (Or.inl ⟨by rfl, ?_⟩) ?_ ?_
          rotate_left
          · intro w'
            go_simp
            with_reducible rfl
          rotate_left
          · simp only [Act.put, qa_, qb_, qc_, i64_w, i32_w]
            rfl
          refine pure_ (i := 3) (N := some 12) (v := undef) (a' := ?_) #[true, true, true, true, false, false, false, false, false, false, false, false, false, false, false] rfl rfl (any_of HT_.out (by kernel_rfl)) (fun _ _ _ h => h) (Or.inr ⟨by rfl, rfl⟩) ?_ ?_
          rotate_left
          · simp only [Act.put, qa_, qb_, qc_, i64_w, i32_w]
            rfl
          refine pure_ (i := 4) (N := some 13) (v := undef) (a' := ?_) #[true, true, true, true, true, false, false, false, false, false, false, false, false, false, false] rfl rfl (any_of HT_.out (by kernel_rfl)) (fun _ _ _ h => h) (Or.inr ⟨by rfl, rfl⟩) ?_ ?_
          rotate_left
          · simp only [Act.put, qa_, qb_, qc_, i64_w, i32_w]
            rfl
          refine pure_ (i := 5) (N := some 14) (v := undef) (a' := ?_) #[true, true, true, true, true, true, false, false, false, false, false, false, false, false, false] rfl rfl (any_of HT_.out (by kernel_rfl)) (fun _ _ _ h => h) (Or.inr ⟨by rfl, rfl⟩) ?_ ?_
          rotate_left
          · simp only [Act.put, qa_, qb_, qc_, i64_w, i32_w]
            rfl
          refine pure_ (i := 6) (N := some 15) (v := undef) (a' := ?_) #[true, true, true, true, true, true, true, false, false, false, false, false, false, false, false] rfl rfl (any_of HT_.out (by kernel_rfl)) (fun _ _ _ h => h) (Or.inr ⟨by rfl, rfl⟩) ?_ ?_
          rotate_left
          · simp only [Act.put, qa_, qb_, qc_, i64_w, i32_w]
            rfl
          refine pure_ (i := 7) (N := some 16) (v := undef) (a' := ?_) #[true, true, true, true, true, true, true, true, false, false, false, false, false, false, false] rfl rfl (any_of HT_.out (by kernel_rfl)) (fun _ _ _ h => h) (Or.inr ⟨by rfl, rfl⟩) ?_ ?_
          rotate_left
          · simp only [Act.put, qa_, qb_, qc_, i64_w, i32_w]
            rfl
          refine pure_ (i := 8) (N := some 17) (v := undef) (a' := ?_) #[true, true, true, true, true, true, true, true, true, false, false, false, false, false, false] rfl rfl (any_of HT_.out (by kernel_rfl)) (fun _ _ _ h => h) (Or.inr ⟨by rfl, rfl⟩) ?_ ?_
          rotate_left
          · simp only [Act.put, qa_, qb_, qc_, i64_w, i32_w]
            rfl
          refine pure_ (i := 9) (N := some 18) (v := undef) (a' := ?_) #[true, true, true, true, true, true, true, true, true, true, false, false, false, false, false] rfl rfl (any_of HT_.out (by kernel_rfl)) (fun _ _ _ h => h) (Or.inr ⟨by rfl, rfl⟩) ?_ ?_
          rotate_left
          · simp only [Act.put, qa_, qb_, qc_, i64_w, i32_w]
            rfl
          refine pure_ (i := 10) (N := some 19) (v := undef) (a' := ?_) #[true, true, true, true, true, true, true, true, true, true, true, false, false, false, false] rfl rfl (any_of HT_.out (by kernel_rfl)) (fun _ _ _ h => h) (Or.inr ⟨by rfl, rfl⟩) ?_ ?_
          rotate_left
          · simp only [Act.put, qa_, qb_, qc_, i64_w, i32_w]
            rfl
          refine pure_ (i := 11) (N := some 20) (v := undef) (a' := ?_) #[true, true, true, true, true, true, true, true, true, true, true, true, false, false, false] rfl rfl (any_of HT_.out (by kernel_rfl)) (fun _ _ _ h => h) (Or.inr ⟨by rfl, rfl⟩) ?_ ?_
          rotate_left
          · simp only [Act.put, qa_, qb_, qc_, i64_w, i32_w]
            rfl
          refine pure_ (i := 12) (N := some 21) (v := undef) (a' := ?_) #[true, true, true, true, true, true, true, true, true, true, true, true, true, false, false] rfl rfl (any_of HT_.out (by kernel_rfl)) (fun _ _ _ h => h) (Or.inr ⟨by rfl, rfl⟩) ?_ ?_
          rotate_left
          · simp only [Act.put, qa_, qb_, qc_, i64_w, i32_w]
            rfl
          refine pure_ (i := 13) (N := some 22) (v := undef) (a' := ?_) #[true, true, true, true, true, true, true, true, true, true, true, true, true, true, false] rfl rfl (any_of HT_.out (by kernel_rfl)) (fun _ _ _ h => h) (Or.inr ⟨by rfl, rfl⟩) ?_ ?_
          rotate_left
          · simp only [Act.put, qa_, qb_, qc_, i64_w, i32_w]
            rfl
          refine pure_ (i := 14) (N := some 23) (v := ?_) (a' := ?_) #[true, true, true, true, true, true, true, true, true, true, true, true, true, true, true] rfl rfl (any_of HT_.out (by kernel_rfl)) (fun _ _ _ h => h) (Or.inl ⟨by rfl, ?_⟩) ?_ ?_
          rotate_left
          · intro w'
            go_simp
            with_reducible rfl
          rotate_left
          · simp only [Act.put, qa_, qb_, qc_, i64_w, i32_w]
            rfl
          refine done_ (done_of HT_.out (by kernel_rfl)) ?_
          try go_wp2
          go_roundg k1
          case measure => have := HK1.out; omega
          case rel => exact ⟨(wrap64 (x6_1 + 1)), (by first | rfl | (simp; done) | (simp [*]; done)), H', ⟨by have := HK1.out; omega⟩, ⟨by repeat (first | (with_reducible first | exact HB.out | apply below_alloc | apply pw_below_drewN | apply below_drew1) | exact HB.out)⟩⟩
      · rw [if_neg c2] at H
        have c2b0 : decide (x6_1 < (l0.length : Int)) = false := decide_eq_false c2
        clear c2
        obtain rfl := Option.some.inj H
        go_wp2
        go_ret
        exact ⟨by first | rfl | (simp [errW_none, errW_some] <;> rfl) | (simp [*, errW_none, errW_some] <;> rfl), by repeat (first | (with_reducible first | exact HB.out | apply below_alloc | apply pw_below_drewN | apply below_drew1) | exact HB.out)⟩
end Go.Proofs.Ytnfglkgkdechlaa.PQ


/- Pairs, tokens and items (chapters 5, 7, 15), in plain Lean. -/
namespace Go.Proofs.Ytnfglkgkdechlaa
open Go.RowKit Go.Proofs.YtnfglkgkdechlaaW.PrintWords Go.Proofs.YtnfglkgkdechlaaW.PrintLast Go.Proofs.YtnfglkgkdechlaaW.PrintMore
open Go.Proofs.Ytnfglkgkdechlaa.PQ

theorem infoU64 : (Try.prog.info? 28).map (fun i => (i.zero, i.size, i.bytes)) = some (some (.int .u64 0), 1, 8) := by kernel_rfl
abbrev Pr := S52
abbrev kP : Kd Pr := k52
abbrev It := S32
abbrev kI : Kd It := k32
abbrev rdP (l : List Pr) (i : Int) : Pr := rd_T52 l i
abbrev rdI (l : List It) (i : Int) : It := rd_T32 l i
theorem rdP_eq {l : List Pr} {i : Nat} (h : i < l.length) : rdP l (i : Int) = l[i] := by
  unfold rdP rd_T52
  rw [Int.toNat_natCast, List.getD_eq_getElem?_getD, List.getElem?_eq_getElem h]
  rfl
theorem rdI_eq {l : List It} {i : Nat} (h : i < l.length) : rdI l (i : Int) = l[i] := by
  unfold rdI rd_T32
  rw [Int.toNat_natCast, List.getD_eq_getElem?_getD, List.getElem?_eq_getElem h]
  rfl
theorem at_P {w : World} {A : Option Addr} {n : Nat} {xs : List Pr} (h : kP.C w A n xs) (i : Int) (h0 : 0 ≤ i) (h1 : i < n) : ∃ ad, A = some ad ∧ w.cell? (ad.add (i.toNat * 2)) = some (.int .u64 (rdP xs i).f0) ∧ w.cell? ⟨(ad.add (i.toNat * 2)).block, (ad.add (i.toNat * 2)).off + 1, none⟩ = some (.int .u64 (rdP xs i).f1) := at_T52 h i h0 h1
theorem at_I {w : World} {A : Option Addr} {n : Nat} {xs : List It} (h : kI.C w A n xs) (i : Int) (h0 : 0 ≤ i) (h1 : i < n) : ∃ ad A0 c0 A3 c3, A = some ad ∧ w.cell? (ad.add (i.toNat * 4)) = some (.slice A0 (rdI xs i).f0.length c0) ∧ w.cell? ⟨(ad.add (i.toNat * 4)).block, (ad.add (i.toNat * 4)).off + 1, none⟩ = some (.int .u64 (rdI xs i).f1) ∧ w.cell? ⟨(ad.add (i.toNat * 4)).block, (ad.add (i.toNat * 4)).off + 2, none⟩ = some (.bool (rdI xs i).f2.f0) ∧ w.cell? ⟨(ad.add (i.toNat * 4)).block, (ad.add (i.toNat * 4)).off + 3, none⟩ = some (.slice A3 (rdI xs i).f2.f1.length c3) ∧ (rdI xs i).f0.length ≤ c0 ∧ (Kd.int .u64).C w A0 (rdI xs i).f0.length (rdI xs i).f0 ∧ (rdI xs i).f2.f1.length ≤ c3 ∧ kP.C w A3 (rdI xs i).f2.f1.length (rdI xs i).f2.f1 := at_T32 h i h0 h1
theorem pr_ext {a b : Pr} (h0 : a.f0 = b.f0) (h1 : a.f1 = b.f1) : a = b := by
  cases a; cases b
  simp at h0 h1
  subst h0 h1
  rfl
instance : DecidableEq Pr := fun a b => if h : a.f0 = b.f0 ∧ a.f1 = b.f1 then .isTrue (pr_ext h.1 h.2) else .isFalse (fun e => h (by subst e; exact ⟨rfl, rfl⟩))
def ltP (a b : Pr) : Bool := decide (a.f0 < b.f0 ∨ (a.f0 = b.f0 ∧ a.f1 < b.f1))
theorem ltP_iff {a b : Pr} : ltP a b = true ↔ (a.f0 < b.f0 ∨ (a.f0 = b.f0 ∧ a.f1 < b.f1)) := by
  unfold ltP
  exact decide_eq_true_iff
theorem ltP_trans {a b c : Pr} (h1 : ltP a b = true) (h2 : ltP b c = true) : ltP a c = true := by
  rw [ltP_iff] at *
  omega
theorem ltP_irr (a : Pr) : ltP a a = false := by
  rw [← Bool.not_eq_true, ltP_iff]
  omega
theorem ltP_tri (a b : Pr) (h1 : ltP a b = false) (h2 : ltP b a = false) : a = b := by
  rw [← Bool.not_eq_true, ltP_iff] at h1 h2
  exact pr_ext (by omega) (by omega)
theorem ltP_asymm {a b : Pr} (h : ltP a b = true) : ltP b a = false := by
  rw [← Bool.not_eq_true]
  intro h2
  have := ltP_trans h h2
  rw [ltP_irr] at this
  cases this
/-- How two pairs stand to each other. -/
def ordP (a b : Pr) : Int := if ltP a b = true then -1 else if ltP b a = true then 1 else 0
theorem cmpu_f (a b : Int) : cmp_Compare_uint64.f a b = some (if a < b then -1 else if b < a then 1 else 0) := by
  unfold cmp_Compare_uint64.f cmp_isNaN_uint64.f
  simp
  split
  · rfl
  · split <;> rfl
theorem or_two (x y : Int) (k : Nat) (h : 3 ≤ k) : cmp_Or_int.f k [x, y] = some (if x = 0 then y else x) := by
  obtain ⟨k, rfl⟩ : ∃ q, k = q + 3 := ⟨k - 3, by omega⟩
  have e0 : rd [x, y] 0 = x := rfl
  have e1 : rd [x, y] 1 = y := rfl
  have w1 : wrap64 (0 + 1) = 1 := by unfold wrap64; rfl
  have w2 : wrap64 (1 + 1) = 2 := by unfold wrap64; rfl
  unfold cmp_Or_int.f
  simp only [List.length_cons, List.length_nil]
  rw [cmp_Or_int.l0, if_pos (by simp), if_pos (by decide), if_pos (by simp), e0]
  by_cases hx : x = 0
  · rw [if_pos hx, if_pos hx, w1, cmp_Or_int.l0, if_pos (by simp), if_pos (by decide), if_pos (by simp), e1]
    by_cases hy : y = 0
    · rw [if_pos hy, w2, cmp_Or_int.l0, if_neg (by simp), hy]
    · rw [if_neg hy]
  · rw [if_neg hx, if_neg hx]
theorem oord_f (a b : Pr) (k : Nat) (h : 3 ≤ k) : oracle_order.f k a.f0 a.f1 b.f0 b.f1 = some (ordP a b) := by
  unfold oracle_order.f
  rw [cmpu_f, Option.bind_some, cmpu_f, Option.bind_some, or_two _ _ k h, Option.bind_some]
  congr 1
  unfold ordP
  simp only [ltP_iff]
  (repeat' split) <;> omega
theorem tord_f (a b : Pr) (k : Nat) (h : 3 ≤ k) : token_order.f k a.f0 a.f1 b.f0 b.f1 = some (ordP a b) := by
  unfold token_order.f
  split
  · rename_i e
    simp at e
    have : a = b := pr_ext e.1 e.2
    subst this
    unfold ordP
    rw [ltP_irr]
    rfl
  · rw [cmpu_f, Option.bind_some, cmpu_f, Option.bind_some, or_two _ _ k h, Option.bind_some]
    congr 1
    unfold ordP
    simp only [ltP_iff]
    (repeat' split) <;> omega
theorem ordP_lt (a b : Pr) : (ordP a b < 0) = (ltP a b = true) := by
  unfold ordP
  split
  · simp [*]
  · split <;> simp [*]
theorem ordP_gt (a b : Pr) : (0 < ordP a b) = (ltP b a = true) := by
  unfold ordP
  split
  · rename_i h
    rw [ltP_asymm h]
    simp
  · split <;> simp [*]
theorem ordP_zero (a b : Pr) : ordP a b = 0 ↔ a = b := by
  constructor
  · intro h
    have h1 : ¬ ordP a b < 0 := by omega
    have h2 : ¬ 0 < ordP a b := by omega
    rw [ordP_lt] at h1
    rw [ordP_gt] at h2
    exact ltP_tri a b (by simpa using h1) (by simpa using h2)
  · rintro rfl
    unfold ordP
    rw [ltP_irr]
    rfl
/-- Are pairs in their order? -/
def sortB (l : List Pr) : Bool := (List.range (l.length - 1)).all fun (j : Nat) => !ltP (rdP l ((j + 1 : Nat) : Int)) (rdP l (j : Int))
theorem sortB_iff {l : List Pr} : sortB l = true ↔ ∀ j : Nat, j + 1 < l.length → ltP (rdP l ((j + 1 : Nat) : Int)) (rdP l (j : Int)) = false := by
  unfold sortB
  rw [List.all_eq_true]
  constructor
  · intro h j hj
    have := h j (List.mem_range.2 (by omega))
    simpa using this
  · intro h j hj
    have := h j (by have := List.mem_range.1 hj; omega)
    rw [this]
    rfl
def rightT (l : List Pr) : Bool := decide (l.length ≤ 2048) && sortB l
/-- Are pairs a table? -/
def tabB (l : List Pr) : Bool := decide (l.length ≤ 4096) && (List.range (l.length - 1)).all fun (j : Nat) => ltP (rdP l (j : Int)) (rdP l ((j + 1 : Nat) : Int))
theorem tabB_iff {l : List Pr} : tabB l = true ↔ l.length ≤ 4096 ∧ ∀ j : Nat, j + 1 < l.length → ltP (rdP l (j : Int)) (rdP l ((j + 1 : Nat) : Int)) = true := by
  unfold tabB
  rw [Bool.and_eq_true, decide_eq_true_iff, List.all_eq_true]
  constructor
  · rintro ⟨h0, h⟩
    exact ⟨h0, fun j hj => h j (List.mem_range.2 (by omega))⟩
  · rintro ⟨h0, h⟩
    exact ⟨h0, fun j hj => h j (by have := List.mem_range.1 hj; omega)⟩
/-- Whose keys a token's pairs have, for one root: none, if there is a pair twice or of another root. -/
def keysF (l : List Pr) (root : Int) : Option (List Int) :=
  if rightT l = true ∧ (l.all fun x => decide (x.f1 = root)) = true ∧ ((List.range (l.length - 1)).all fun (j : Nat) => decide (rdP l (j : Int) ≠ rdP l ((j + 1 : Nat) : Int))) = true then some (l.map (·.f0)) else none
end Go.Proofs.Ytnfglkgkdechlaa


/- More on boxes: stores elsewhere; long arrays. -/
namespace Go.Proofs.Ytnfglkgkdechlaa
open Go.RowKit Go.Proofs.YtnfglkgkdechlaaW.PrintWords Go.Proofs.YtnfglkgkdechlaaW.PrintLast Go.Proofs.YtnfglkgkdechlaaW.PrintMore

theorem cell_far {w : World} {p : Addr} {u : Value} {b j : Nat} (h : b ≠ p.block) : (w.setCell p u).cell? ⟨b, j, none⟩ = w.cell? ⟨b, j, none⟩ := by
  simp only [World.cell?, Below.heap_setCell w p u b h]
theorem Box.far {w : World} {p : Addr} {u : Value} {b : Nat} {cs : Array Value} {T : TypeId} (h : Box w b cs T) (hne : b ≠ p.block) : Box (w.setCell p u) b cs T := (Below.heap_setCell w p u b hne).trans h
theorem range_of_box {w : World} {b : Nat} {cs : Array Value} {T : TypeId} (h : Box w b cs T) : w.rangeAt b 0 cs.toList := fun j v hv => by
  rw [Nat.zero_add, h.cell j]
  simpa using hv
theorem there_of_box {w : World} {b : Nat} {cs : Array Value} {T : TypeId} (h : Box w b cs T) : w.there b 0 cs.size := fun j hj => by
  rw [Nat.zero_add, h.cell j]
  exact ⟨by simp [hj], h.frozen j⟩
theorem setCell_heapB (w : World) (b j : Nat) (v : Value) (cs : Array Value) (T : TypeId) (h : w.heap[b]? = some (.cells cs T (0, 0))) : (w.setCell ⟨b, j, none⟩ v).heap[b]? = some (.cells (cs.setIfInBounds j v) T (0, 0)) := by
  have hlt : b < w.heap.size := (Array.getElem?_eq_some_iff.1 h).1
  have h' : w.heap[b] = .cells cs T (0, 0) := (Array.getElem?_eq_some_iff.1 h).2
  simp [World.setCell, h, hlt, Array.getElem_modify, h']
theorem Box.put {w : World} {b j : Nat} {cs : Array Value} {T : TypeId} {v : Value} (h : Box w b cs T) : Box (w.setCell ⟨b, j, none⟩ v) b (cs.setIfInBounds j v) T := setCell_heapB w b j v cs T h
theorem Box.two {w : World} {b : Nat} {T : TypeId} {x y a c : Value} (h : Box w b #[x, y] T) : Box ((w.setCell ⟨b, 0, none⟩ a).setCell ⟨b, 1, none⟩ c) b #[a, c] T := by
  have := Box.put (j := 1) (v := c) (Box.put (j := 0) (v := a) h)
  simpa using this
theorem Box.three {w : World} {b : Nat} {T : TypeId} {x y z a c d : Value} (h : Box w b #[x, y, z] T) : Box (((w.setCell ⟨b, 0, none⟩ a).setCell ⟨b, 1, none⟩ c).setCell ⟨b, 2, none⟩ d) b #[a, c, d] T := by
  have := Box.put (j := 2) (v := d) (Box.put (j := 1) (v := c) (Box.put (j := 0) (v := a) h))
  simpa using this
theorem Box.setCells {b : Nat} {T : TypeId} : ∀ (ys : List Value) (k : Nat) (w : World) (pre post : List Value), pre.length = k → post.length = ys.length → Box w b (pre ++ post).toArray T → Box (w.setCells b k ys) b (pre ++ ys).toArray T
  | [], k, w, pre, post, _, hp, h => by
    obtain rfl : post = [] := List.length_eq_zero_iff.1 hp
    exact h
  | y :: ys, k, w, pre, [], _, hp, h => by cases hp
  | y :: ys, k, w, pre, p :: post, hk, hp, h => by
    have h1 := Box.put (j := k) (v := y) h
    have e : ((pre ++ p :: post).toArray).setIfInBounds k y = ((pre ++ [y]) ++ post).toArray := by
      subst hk
      simp
    rw [e] at h1
    have := Box.setCells ys (k + 1) (w.setCell ⟨b, k, none⟩ y) (pre ++ [y]) post (by simp [hk]) (by simpa using hp) h1
    rw [List.append_assoc] at this
    exact this
theorem Box.over {w : World} {b : Nat} {T : TypeId} {cs ds : Array Value} (h : Box w b cs T) (hs : cs.size = ds.size) : Box (w.setCells b 0 ds.toList) b ds T := by
  have := Box.setCells ds.toList 0 w [] cs.toList rfl (by simpa using hs) (by simpa using h)
  simpa using this
theorem below_cells {W : World} {b : Nat} (hb : W.heap.size ≤ b) : ∀ (vs : List Value) (o : Nat) (w : World), Below W.heap.size W w → Below W.heap.size W (w.setCells b o vs)
  | [], _, _, h => h
  | v :: vs, o, w, h => below_cells hb vs (o + 1) _ (below_set h hb)
theorem C_alloc {α : Type} {d : Kd α} {w : World} {A : Option Addr} {n : Nat} {xs : List α} {o : Obj} (h : d.C w A n xs) : d.C (w.alloc o) A n xs := Kd.C_below h (below_alloc (Below.refl _ _) _)
end Go.Proofs.Ytnfglkgkdechlaa


/- Tokens (chapter 5): Right, Keys. -/
namespace Go.Proofs.Ytnfglkgkdechlaa
open Go.RowKit Go.Proofs.YtnfglkgkdechlaaW.PrintWords Go.Proofs.YtnfglkgkdechlaaW.PrintLast Go.Proofs.YtnfglkgkdechlaaW.PrintMore

open Go.Proofs.Ytnfglkgkdechlaa.PQ

theorem tOrder (a b : Pr) (w : World) : Calls Try.prog 44 #[.agg #[.int .u64 a.f0, .int .u64 a.f1], .agg #[.int .u64 b.f0, .int .u64 b.f1]] w fun e w' => e = .returned (.int .i64 (ordP a b)) ∧ Below w.heap.size w w' :=
  token_order.calls 3 a.f0 a.f1 b.f0 b.f1 _ w (tord_f a b 3 (by omega))
theorem tOrderE (a b : Pr) (z : Int) (w : World) (h : ordP a b = z) : Calls Try.prog 44 #[.agg #[.int .u64 a.f0, .int .u64 a.f1], .agg #[.int .u64 b.f0, .int .u64 b.f1]] w fun e w' => e = .returned (.int .i64 z) ∧ Below w.heap.size w w' := h ▸ tOrder a b w
set_option maxRecDepth 100000 in
set_option maxHeartbeats 4000000 in
theorem IsSorted_calls (A : Option Addr) (n c : Nat) (l : List Pr) (w : World) (hA : kP.C w A n l) (hc : n ≤ c) : Calls Try.prog 43 #[.slice A n c, .func (.func 44) #[] #[]] w
    fun e w' => e = .returned (.bool (sortB l)) ∧ Below w.heap.size w w' := by
  have HN := Aside0.mk (show n = l.length from (Kd.C_len hA).symm)
  have hn63 : n ≤ 9223372036854775807 := by rw [HN.out]; exact Kd.C_len hA ▸ Kd.C_max hA
  have HX := Aside0.mk hA
  clear hA
  have HB := Aside0.mk (Below.refl w.heap.size w)
  have hn1 : IntKind.i64.wrap ((n : Int) - 1) = (n : Int) - 1 := by rw [IntKind.wrap_i64]; omega
  go_enter Try.func43, Try.ntmps43
  go_wp2
  go_loopw [5] (fun v5 wx => ∃ i : Int, -1 ≤ i ∧ i < n ∧ v5 = .int .i64 i ∧ (∀ j : Nat, i ≤ j → j + 1 < n → ltP (rdP l ((j + 1 : Nat) : Int)) (rdP l (j : Int)) = false) ∧ Below w.heap.size w wx) (fun v5 _ => (intOf v5).toNat)
  case atStart => exact ⟨(n : Int) - 1, by omega, by omega, rfl, fun j h1 h2 => absurd h2 (by omega), HB.out⟩
  case round =>
    obtain ⟨i, hi0, hi, rfl, hso, hb⟩ := hrel
    have HS := Aside0.mk hso
    clear HB hso hn1
    have HB := Aside0.mk hb
    clear hb
    by_cases hlt : i ≤ 0
    · have hd : decide ((0 : Int) < i) = false := decide_eq_false (by omega)
      go_wp2
      go_ret
      refine ⟨ret_bool (Eq.symm (sortB_iff.2 fun j hj => HS.out j (by omega) (by rw [HN.out]; exact hj))), HB.out⟩
    · have hd : decide ((0 : Int) < i) = true := decide_eq_true (by omega)
      obtain ⟨i0, hi0e⟩ : ∃ i0, i - 1 = i0 := ⟨_, rfl⟩
      have e2 : IntKind.i64.wrap (i - 1) = i0 := by rw [IntKind.wrap_i64]; omega
      have hj3 : 0 ≤ i := by omega
      have hj4 : 0 ≤ i0 := by omega
      have hj2 : i0 < (n : Int) := by omega
      obtain ⟨ad, rfl, rC, rD⟩ := at_P (Kd.C_below HX.out HB.out) i (by omega) (by omega)
      obtain ⟨ad', ee, rE, rF⟩ := at_P (Kd.C_below HX.out HB.out) i0 (by omega) (by omega)
      cases ee
      obtain ⟨x, hx⟩ : ∃ x, rdP l i = x := ⟨_, rfl⟩
      obtain ⟨y, hy⟩ : ∃ y, rdP l i0 = y := ⟨_, rfl⟩
      obtain ⟨z, hz⟩ : ∃ z, ordP x y = z := ⟨_, rfl⟩
      rw [hx] at rC rD
      rw [hy] at rE rF
      have HXY := Aside0.mk (And.intro hx (And.intro hy (And.intro hz hi0e)))
      have HZ := Aside0.mk hz
      clear hx hy hz hi0e
      have kC := cell_lt rC
      have kD := cell_lt rD
      have kE := cell_lt rE
      have kF := cell_lt rF
      go_upto_region 4 with (fail)
      refine wp_region_held_drew (S := (fun w' => Below wr.heap.size wr w' ∧ (w'.cell? ((ad.add (i.toNat * 2))) = some (.int .u64 x.f0)) ∧ (w'.cell? ((⟨(ad.add (i.toNat * 2)).block, (ad.add (i.toNat * 2)).off + 1, none⟩ : Addr)) = some (.int .u64 x.f1)) ∧ (w'.cell? ((ad.add (i0.toNat * 2))) = some (.int .u64 y.f0)) ∧ (w'.cell? ((⟨(ad.add (i0.toNat * 2)).block, (ad.add (i0.toNat * 2)).off + 1, none⟩ : Addr)) = some (.int .u64 y.f1)))) (by kernel_rfl) ?hS1x0 (fun hHeld => ?hR1x0)
      case hS1x0 => ((try dsimp only); (first | exact ⟨below_drew1 (Below.refl _ _), rC, rD, rE, rF⟩ | exact ⟨below_drew1 b0_, rC, rD, rE, rF⟩ | exact ⟨j0, jC, jD, jE, jF⟩ | exact ⟨below_alloc j0 _, (cell_alloc_oldp (Nat.lt_of_lt_of_le kC j0.size)).trans jC, (cell_alloc_oldp (Nat.lt_of_lt_of_le kD j0.size)).trans jD, (cell_alloc_oldp (Nat.lt_of_lt_of_le kE j0.size)).trans jE, (cell_alloc_oldp (Nat.lt_of_lt_of_le kF j0.size)).trans jF⟩ | exact ⟨below_alloc (below_drew1 (Below.refl _ _)) _, (cell_alloc_oldp kC).trans rC, (cell_alloc_oldp kD).trans rD, (cell_alloc_oldp kE).trans rE, (cell_alloc_oldp kF).trans rF⟩ | assumption))
      refine wpAnyH_take (i := 0) (oi := ⟨some 13, _, _, _, _, _⟩) (v := ?_) rfl (by kernel_rfl) (by kernel_rfl) (by kernel_rfl) (fun _ _ _ h => h) (Or.inl ⟨by rfl, ?hY1x2⟩) (by assumption) ?hR1x2
      case hY1x2 => (intro w hSw; (try dsimp only at hSw); go_simp; try with_reducible rfl)
      (try simp only [Act.put, qa_, qb_, qc_])
      refine wpAnyH_take (i := 1) (oi := ⟨some 14, _, _, _, _, _⟩) (v := ?_) rfl (by kernel_rfl) (by kernel_rfl) (by kernel_rfl) (fun _ _ _ h => h) (Or.inl ⟨by rfl, ?hY1x3⟩) (by assumption) ?hR1x3
      case hY1x3 => (intro w hSw; (try dsimp only at hSw); go_simp; try with_reducible rfl)
      (try simp only [Act.put, qa_, qb_, qc_])
      refine wpAnyH_take (i := 2) (oi := ⟨some 15, _, _, _, _, _⟩) (v := ?_) rfl (by kernel_rfl) (by kernel_rfl) (by kernel_rfl) (fun _ _ _ h => h) (Or.inl ⟨by rfl, ?hY1x4⟩) (by assumption) ?hR1x4
      case hY1x4 => (intro w hSw; (try dsimp only at hSw); go_simp; try with_reducible rfl)
      (try simp only [Act.put, qa_, qb_, qc_])
      refine wpAnyH_take (i := 3) (oi := ⟨some 16, _, _, _, _, _⟩) (v := ?_) rfl (by kernel_rfl) (by kernel_rfl) (by kernel_rfl) (fun _ _ _ h => h) (Or.inl ⟨by rfl, ?hY1x5⟩) (by assumption) ?hR1x5
      case hY1x5 => (intro w hSw; (try dsimp only at hSw); go_simp; try with_reducible rfl)
      (try simp only [Act.put, qa_, qb_, qc_])
      refine wpAnyH_take (i := 4) (oi := ⟨some 17, _, _, _, _, _⟩) (v := ?_) rfl (by kernel_rfl) (by kernel_rfl) (by kernel_rfl) (fun _ _ _ h => h) (Or.inl ⟨by rfl, ?hY1x6⟩) (by assumption) ?hR1x6
      case hY1x6 => (intro w hSw; (try dsimp only at hSw); go_simp; try with_reducible rfl)
      (try simp only [Act.put, qa_, qb_, qc_])
      refine wpAnyH_take (i := 5) (oi := ⟨some 18, _, _, _, _, _⟩) (v := ?_) rfl (by kernel_rfl) (by kernel_rfl) (by kernel_rfl) (fun _ _ _ h => h) (Or.inl ⟨by rfl, ?hY1x7⟩) (by assumption) ?hR1x7
      case hY1x7 => (intro w hSw; (try dsimp only at hSw); go_simp; try with_reducible rfl)
      (try simp only [Act.put, qa_, qb_, qc_])
      refine wpAnyH_take (i := 6) (oi := ⟨some 19, _, _, _, _, _⟩) (v := ?_) rfl (by kernel_rfl) (by kernel_rfl) (by kernel_rfl) (fun _ _ _ h => h) (Or.inl ⟨by rfl, ?hY1x8⟩) (by assumption) ?hR1x8
      case hY1x8 => (intro w hSw; (try dsimp only at hSw); go_simp; try with_reducible rfl)
      (try simp only [Act.put, qa_, qb_, qc_])
      refine wpAnyH_take (i := 7) (oi := ⟨some 20, _, _, _, _, _⟩) (v := ?_) rfl (by kernel_rfl) (by kernel_rfl) (by kernel_rfl) (fun _ _ _ h => h) (Or.inl ⟨by rfl, ?hY1x9⟩) (by assumption) ?hR1x9
      case hY1x9 => (intro w hSw; (try dsimp only at hSw); go_simp; try with_reducible rfl)
      (try simp only [Act.put, qa_, qb_, qc_])
      refine wpAnyH_take (i := 8) (oi := ⟨some 21, _, _, _, _, _⟩) (v := ?_) rfl (by kernel_rfl) (by kernel_rfl) (by kernel_rfl) (fun _ _ _ h => h) (Or.inl ⟨by rfl, ?hY1x10⟩) (by assumption) ?hR1x10
      case hY1x10 => (intro w hSw; (try dsimp only at hSw); go_simp; try with_reducible rfl)
      (try simp only [Act.put, qa_, qb_, qc_])
      refine wpAnyH_take (i := 9) (oi := ⟨some 22, _, _, _, _, _⟩) (v := ?_) rfl (by kernel_rfl) (by kernel_rfl) (by kernel_rfl) (fun _ _ _ h => h) (Or.inl ⟨by rfl, ?hY1x11⟩) (by assumption) ?hR1x11
      case hY1x11 => (intro w hSw; (try dsimp only at hSw); go_simp; try with_reducible rfl)
      (try simp only [Act.put, qa_, qb_, qc_])
      refine wpAnyH_ready (rs := [10]) (by kernel_rfl) (by simp) ?_
      refine AllReadyH.cons (o := ⟨some 23, _, _, _, _, _⟩) rfl (fun K hK => ?hT1x12) ?hM1x12
      case hM1x12 => exact AllReadyH.nil
      go_simp
      (first | (go_at_call 44; obtain ⟨g0, gC, gD, gE, gF⟩ := ‹Below wr.heap.size wr _ ∧ _›; ((with_reducible refine (tOrderE x y z _ HZ.out).mono ?_));  rintro e w5 ⟨rfl, hb_⟩; have j0 := below_step g0 hb_; have s5 := j0.size; have jC := (j0.cell (p := (ad.add (i.toNat * 2))) kC).trans rC; have jD := (j0.cell (p := (⟨(ad.add (i.toNat * 2)).block, (ad.add (i.toNat * 2)).off + 1, none⟩ : Addr)) kD).trans rD; have jE := (j0.cell (p := (ad.add (i0.toNat * 2))) kE).trans rE; have jF := (j0.cell (p := (⟨(ad.add (i0.toNat * 2)).block, (ad.add (i0.toNat * 2)).off + 1, none⟩ : Addr)) kF).trans rF))
      (try go_wp2_with fail)
      refine hK.out _ _ ?hS1x12 (fun hHeld => ?hR1x12)
      case hS1x12 => ((try dsimp only); (first | exact ⟨below_drew1 (Below.refl _ _), rC, rD, rE, rF⟩ | exact ⟨below_drew1 b0_, rC, rD, rE, rF⟩ | exact ⟨j0, jC, jD, jE, jF⟩ | exact ⟨below_alloc j0 _, (cell_alloc_oldp (Nat.lt_of_lt_of_le kC j0.size)).trans jC, (cell_alloc_oldp (Nat.lt_of_lt_of_le kD j0.size)).trans jD, (cell_alloc_oldp (Nat.lt_of_lt_of_le kE j0.size)).trans jE, (cell_alloc_oldp (Nat.lt_of_lt_of_le kF j0.size)).trans jF⟩ | exact ⟨below_alloc (below_drew1 (Below.refl _ _)) _, (cell_alloc_oldp kC).trans rC, (cell_alloc_oldp kD).trans rD, (cell_alloc_oldp kE).trans rE, (cell_alloc_oldp kF).trans rF⟩ | assumption))
      clear hK K
      (try simp only [Act.put, qa_, qb_, qc_])
      refine wpAnyH_take (i := 11) (oi := ⟨some 24, _, _, _, _, _⟩) (v := ?_) rfl (by kernel_rfl) (by kernel_rfl) (by kernel_rfl) (fun _ _ _ h => h) (Or.inl ⟨by rfl, ?hY1x13⟩) (by assumption) ?hR1x13
      case hY1x13 => (intro w hSw; (try dsimp only at hSw); go_simp; try with_reducible rfl)
      (try simp only [Act.put, qa_, qb_, qc_])
      refine wpAnyH_done (by kernel_rfl) ?_ _
      by_cases hz : z < 0
      · have hd2 : decide (z < 0) = true := decide_eq_true hz
        go_wp2
        go_ret
        refine ⟨ret_bool (Eq.symm (Bool.eq_false_iff.2 fun hs => ?_)), below_step HB.out j0⟩
        have hq := HXY.out.2.2.2
        have hl := sortB_iff.1 hs i0.toNat (by rw [← HN.out]; omega)
        have ea : ((i0.toNat + 1 : Nat) : Int) = i := by have := HXY.out.2.2.2; omega
        have eb : (i0.toNat : Int) = i0 := by omega
        rw [ea, eb, HXY.out.1, HXY.out.2.1] at hl
        have hz2 := hz
        rw [← HZ.out, ordP_lt] at hz2
        rw [hz2] at hl
        cases hl
      · have hd2 : decide (z < 0) = false := decide_eq_false hz
        go_wp2
        go_roundw
        case rel =>
          refine ⟨i0, by omega, hj2, by first | rfl | (rw [e2]), fun j h1 h2 => ?_, below_step HB.out j0⟩
          have hxy := HXY.out
          by_cases hj : i ≤ (j : Int)
          · exact HS.out j hj h2
          · have ea : ((j + 1 : Nat) : Int) = i := by omega
            have eb : (j : Int) = i0 := by omega
            rw [ea, eb, hxy.1, hxy.2.1]
            have hz2 := hz
            rw [← HZ.out, ordP_lt] at hz2
            simpa using hz2
        case measure =>
          have hq := HXY.out.2.2.2
          simp [intOf]; omega
theorem tRightT (f : Bool) (A : Option Addr) (n c : Nat) (l : List Pr) (w : World) (hA : kP.C w A n l) (hc : n ≤ c) : Calls Try.prog 36 #[.agg #[.bool f, .slice A n c]] w
    fun e w' => e = .returned (.bool (rightT l)) ∧ Below w.heap.size w w' := by
  have hn := (Kd.C_len hA).symm
  obtain ⟨r, hr⟩ : ∃ r, sortB l = r := ⟨_, rfl⟩
  have hI := fun w h => (IsSorted_calls A n c l w h hc)
  unfold rightT
  rw [← hn]
  rw [hr] at hI ⊢
  have HI := Aside0.mk hI
  have HX := Aside0.mk hA
  have HB := Aside0.mk (Below.refl w.heap.size w)
  clear hA hI hr hn
  by_cases h : n ≤ 2048
  · have hd : decide (n ≤ 2048) = true := decide_eq_true h
    have hdi : decide ((n : Int) ≤ 2048) = true := decide_eq_true (by omega)
    rw [hd]
    go_enter Try.func36, Try.ntmps36
    go_wp2_with fail
    refine (HI.out _ ?hX).mono ?_
    case hX => (repeat (with_reducible first | exact HX.out | apply C_alloc))
    rintro e w5 ⟨rfl, hb_⟩
    have n_ := Aside0.mk (below_step (by repeat (first | exact HB.out | apply below_alloc | apply pw_below_drewN | apply below_drew1 | refine below_set ?_ (by first | omega | (simp; omega)))) hb_); clear HB hb_; have HB := n_; clear n_
    go_wp2
    go_ret
    exact ⟨ret_bool (by simp), HB.out⟩
  · have hd : decide (n ≤ 2048) = false := decide_eq_false h
    have hdi : decide ((n : Int) ≤ 2048) = false := decide_eq_false (by omega)
    rw [hd]
    go_enter Try.func36, Try.ntmps36
    go_wp2
    go_ret
    exact ⟨ret_bool (by simp), (by repeat (first | exact HB.out | apply below_alloc | apply pw_below_drewN | apply below_drew1 | refine below_set ?_ (by first | omega | (simp; omega))))⟩
def PQ.token_Right.f (a0_0 : Bool) (l0_1 : List Pr) : Option Bool := some (rightT l0_1)
theorem PQ.token_Right.calls (a0_0 : Bool) (A0_1 : Option Addr) (c0_1 : Nat) (l0_1 : List Pr) (r : Bool) (w : World) (hr0_1 : Kd.C kP w A0_1 l0_1.length l0_1) (hc0_1 : l0_1.length ≤ c0_1) (h : PQ.token_Right.f a0_0 l0_1 = some r) :
    Calls Try.prog 36 #[.agg #[.bool a0_0, .slice A0_1 l0_1.length c0_1]] w fun e w' => e = .returned (.bool r) ∧ Below w.heap.size w w' := by
  obtain rfl := Option.some.inj h
  exact tRightT a0_0 A0_1 _ c0_1 l0_1 w hr0_1 hc0_1
end Go.Proofs.Ytnfglkgkdechlaa


/- Tokens (chapter 5): Keys. -/
namespace Go.Proofs.Ytnfglkgkdechlaa
open Go.RowKit Go.Proofs.YtnfglkgkdechlaaW.PrintWords Go.Proofs.YtnfglkgkdechlaaW.PrintLast Go.Proofs.YtnfglkgkdechlaaW.PrintMore

open Go.Proofs.Ytnfglkgkdechlaa.PQ

theorem keysF_some {l : List Pr} {root : Int} (hr : rightT l = true) (h : ∀ j : Nat, j < l.length → (rdP l (j : Int)).f1 = root ∧ (∀ q : Nat, q + 1 = j → rdP l (q : Int) ≠ rdP l (j : Int))) : keysF l root = some (l.map (·.f0)) := by
  unfold keysF
  rw [if_pos]
  refine ⟨hr, List.all_eq_true.2 fun x hx => ?_, List.all_eq_true.2 fun j hj => ?_⟩
  · obtain ⟨j, hj, rfl⟩ := List.getElem_of_mem hx
    have := (h j hj).1
    rw [rdP_eq hj] at this
    exact decide_eq_true this
  · have := List.mem_range.1 hj
    exact decide_eq_true ((h (j + 1) (by omega)).2 j rfl)
theorem keysF_none {l : List Pr} {root : Int} (h : rightT l = false ∨ (∃ j : Nat, j < l.length ∧ (rdP l (j : Int)).f1 ≠ root) ∨ (∃ j : Nat, j + 1 < l.length ∧ rdP l (j : Int) = rdP l ((j + 1 : Nat) : Int))) : keysF l root = none := by
  unfold keysF
  rw [if_neg]
  rintro ⟨h1, h2, h3⟩
  rcases h with h | ⟨j, hj, h⟩ | ⟨j, hj, h⟩
  · rw [h1] at h
    cases h
  · have := List.all_eq_true.1 h2 l[j] (List.getElem_mem hj)
    rw [rdP_eq hj] at h
    exact h (of_decide_eq_true this)
  · have := List.all_eq_true.1 h3 j (List.mem_range.2 (by omega))
    exact (of_decide_eq_true this) h
theorem tRightE2 (f : Bool) (A : Option Addr) (n c : Nat) (l : List Pr) (r : Bool) (w : World) (hA : kP.C w A n l) (hc : n ≤ c) (h : rightT l = r) : Calls Try.prog 36 #[.agg #[.bool f, .slice A n c]] w
    fun e w' => e = .returned (.bool r) ∧ Below w.heap.size w w' := h ▸ tRightT f A n c l w hA hc
set_option maxRecDepth 100000 in
set_option maxHeartbeats 8000000 in
theorem tKeys (f : Bool) (A : Option Addr) (n c : Nat) (l : List Pr) (root : Int) (w : World) (hA : kP.C w A n l) (hc : n ≤ c) : Calls Try.prog 24 #[.agg #[.bool f, .slice A n c], .int .u64 root] w
    fun e w' => ∃ A' m c', e = .returned (.tuple #[.slice A' m c', .bool (keysF l root).isSome]) ∧ m = ((keysF l root).getD []).length ∧ (Kd.int .u64).C w' A' m ((keysF l root).getD []) ∧ m ≤ c' ∧ Below w.heap.size w w' := by
  have HN := Aside0.mk (show n = l.length from (Kd.C_len hA).symm)
  have hn63 : n ≤ 9223372036854775807 := by rw [HN.out]; exact Kd.C_len hA ▸ Kd.C_max hA
  have HX := Aside0.mk hA
  clear hA
  have HB := Aside0.mk (Below.refl w.heap.size w)
  obtain ⟨r, hr⟩ : ∃ r, rightT l = r := ⟨_, rfl⟩
  have HR := Aside0.mk hr
  clear hr
  cases r with
  | false =>
    go_enter Try.func24, Try.ntmps24
    go_wp2_with fail
    refine (tRightE2 f A n c l false _ ?hX hc HR.out).mono ?_
    case hX => (repeat (with_reducible first | exact HX.out | apply C_alloc))
    rintro e w3 ⟨rfl, hb_⟩
    have n_ := Aside0.mk (below_step (by repeat (first | exact HB.out | apply below_alloc | apply pw_below_drewN | apply below_drew1 | refine below_set ?_ (by first | omega | (simp; omega)))) hb_); clear HB hb_; have HB := n_; clear n_
    go_wp2
    go_ret2
    rw [keysF_none (Or.inl HR.out)]
    exact ⟨none, 0, 0, rfl, rfl, Kd.C_nil _ _, by omega, HB.out⟩
  | true =>
    have hn2048 : n ≤ 2048 := by
      have h := HR.out
      unfold rightT at h
      rw [Bool.and_eq_true, decide_eq_true_iff] at h
      rw [HN.out]
      exact h.1
    go_enter Try.func24, Try.ntmps24
    go_wp2_with fail
    refine (tRightE2 f A n c l true _ ?hX hc HR.out).mono ?_
    case hX => (repeat (with_reducible first | exact HX.out | apply C_alloc))
    rintro e w3 ⟨rfl, hb_⟩
    have YT : Box w3 (w.heap.size) _ _ := Box.below (by repeat (with_reducible first | exact XT.out | exact Box.new | exact Box.new1 | exact Box.new2 | exact Box.new3 | apply Box.alloc | apply Box.drew | apply Box.drewN | apply Box.set)) hb_
    (try clear XT rT kT fT); have XT := Aside0.mk YT; have rT := YT.cell; have fT := YT.frozen; have kT := YT.lt; clear YT
    have n_ := Aside0.mk (below_step (by repeat (first | exact HB.out | apply below_alloc | apply pw_below_drewN | apply below_drew1 | refine below_set ?_ (by first | omega | (simp; omega)))) hb_); clear HB hb_; have HB := n_; clear n_
    have HB3 := HB
    have bT := XT
    have HX3 := Aside0.mk (Kd.C_below HX.out HB.out)
    go_wp2
    clear HB XT rT kT fT
    go_loopw [4, 14] (fun v4 v14 wx => ∃ i : Nat, i ≤ n ∧ v14 = .int .i64 i ∧ (Kd.int .u64).R 28 wx w3.heap.size (fun _ => True) v4 ((l.take i).map (·.f0)) ∧ (∀ j : Nat, j < i → (rdP l (j : Int)).f1 = root ∧ (∀ q : Nat, q + 1 = j → rdP l (q : Int) ≠ rdP l (j : Int))) ∧ Below w3.heap.size w3 wx) (fun _ v14 _ => n - (intOf v14).toNat)
    case atStart => exact ⟨0, by omega, rfl, Kd.R_nil _ _ _ _ _, fun j hj => absurd hj (by omega), Below.refl _ _⟩
    case round =>
      obtain ⟨i, hi, rfl, hO, hP, hb⟩ := hrel
      have HP := Aside0.mk hP
      rcases Nat.lt_or_ge i n with hlt | hge
      · obtain ⟨z, hz⟩ : ∃ z : Int, (i : Int) = z := ⟨_, rfl⟩
        have hx : l[i]'(by rw [← HN.out]; exact hlt) = rdP l z := by rw [← hz]; exact (rdP_eq _).symm
        have HT := Aside0.mk (show (l.take (i + 1)).map (·.f0) = (l.take i).map (·.f0) ++ [(rdP l z).f0] by rw [List.take_succ_eq_append_getElem (by rw [← HN.out]; exact hlt), List.map_append, hx]; rfl)
        clear hx
        rw [hz]
        have hz0 : 0 ≤ z := by omega
        have hz1 : z < (n : Int) := by omega
        have hdz : decide (z < (n : Int)) = true := decide_eq_true hz1
        have HZ := Aside0.mk hz
        obtain ⟨ad, rfl, c0, c1⟩ := at_P (Kd.C_below HX3.out hb) z hz0 hz1
        obtain ⟨x, hx⟩ : ∃ x, rdP l z = x := ⟨_, rfl⟩
        rw [hx] at c0 c1 HT
        have HXE := Aside0.mk hx
        clear hx hz hP
        go_upto_region 6 with (fail)
        obtain ⟨V, hV⟩ : ∃ V, wr.alloc (.cells #[.int .u64 x.f0, .int .u64 x.f1] 52) = V := ⟨_, rfl⟩
        rw [hV]
        have XN := Aside0.mk (hV ▸ Box.new : Box V wr.heap.size #[.int .u64 x.f0, .int .u64 x.f1] 52)
        have HO := Aside0.mk (hV ▸ (Kd.R_alloc hO _) : (Kd.int .u64).R 28 V w3.heap.size (fun _ => True) u4 ((l.take i).map (·.f0)))
        have HB := Aside0.mk (hV ▸ below_alloc hb _ : Below w3.heap.size w3 V)
        clear hO hb c0 c1 hV
        have rT := (bT.out.below HB.out).cell
        have n0 : V.cell? ⟨wr.heap.size, 0, none⟩ = some (.int .u64 x.f0) := XN.out.cell 0
        have n1 : V.cell? ⟨wr.heap.size, 1, none⟩ = some (.int .u64 x.f1) := XN.out.cell 1
        have t1 : V.cell? ⟨w.heap.size, 1, none⟩ = some (.slice (some ad) n c) := rT 1
        clear rT
        generalize wr.heap.size = nb at *
        have hu52 := Try.underlying52
        by_cases hx1 : x.f1 = root
        · have hf1 : (x.f1 == root) = true := beq_iff_eq.mpr hx1
          have hf2 : (x.f1 != root) = false := bne_eq_false_iff_eq.mpr hx1
          have HX1 := Aside0.mk hx1
          clear hx1
          by_cases hz2 : 0 < z
          · have hd2 : decide ((0 : Int) < z) = true := decide_eq_true hz2
            obtain ⟨z0, hz0e⟩ : ∃ z0, z - 1 = z0 := ⟨_, rfl⟩
            have e2 : IntKind.i64.wrap (z - 1) = z0 := by rw [IntKind.wrap_i64]; omega
            have hj4 : 0 ≤ z0 := by omega
            have hj2 : z0 < (n : Int) := by omega
            obtain ⟨ad', ee, c2, c3⟩ := at_P (Kd.C_below HX3.out HB.out) z0 hj4 hj2
            cases ee
            obtain ⟨y, hy⟩ : ∃ y, rdP l z0 = y := ⟨_, rfl⟩
            rw [hy] at c2 c3
            have HY := Aside0.mk (And.intro hy hz0e)
            clear hy hz0e
            by_cases hyx : y = x
            · subst hyx
              go_quiet (fail)
              go_wp2
              go_ret2
              rw [keysF_none (Or.inr (Or.inr ⟨z0.toNat, by rw [← HN.out]; have := HY.out.2; omega, by
                have ea : ((z0.toNat + 1 : Nat) : Int) = z := by have := HY.out.2; omega
                have eb : (z0.toNat : Int) = z0 := by omega
                rw [ea, eb, HXE.out, HY.out.1]⟩))]
              exact ⟨none, 0, 0, rfl, rfl, Kd.C_nil _ _, by omega, below_step HB3.out (by repeat (first | exact HB.out | apply below_alloc | apply pw_below_drewN | apply below_drew1 | refine below_set ?_ (by first | omega | (simp; omega))))⟩
            · have HQ := Aside0.mk hyx
              have HNE := Aside0.mk (show ∀ q : Nat, q + 1 = i → rdP l (q : Int) ≠ x from fun q hq => by
                have : (q : Int) = z0 := by have := HY.out.2; have := HZ.out; omega
                rw [this, HY.out.1]
                exact hyx)
              clear hyx
              by_cases h0 : y.f0 = x.f0
              · have h1 : ¬ y.f1 = x.f1 := fun h1 => HQ.out (pr_ext h0 h1)
                have h0t := eq_true h0
                have h1f := eq_false h1
                clear h0 h1
                go_quiet (fail)
                go_wp2_with (first | ((with_reducible refine gate_builtin (b := .append) (xs := #[.tmp 37, .tmp 40]) rfl ?_); at_builtin; refine Kd.R_append (Kd.int .u64) (w0 := w3) w3.heap.size rfl (.tmp 37) (.tmp 40) 27 28 (.int .u64 0) 8 rfl Try.underlying27 infoU64 rfl (by decide) (by omega) (_) ((l.take i).map (·.f0)) (x.f0) [.int .u64 x.f0] (fun _ => True) (fun _ => False) rfl rfl ?aP (fun _ hk => hk.elim) ?aF ?aO ?aB ?aS ?aL ?_; (case aP => exact rfl); (case aB => exact (by repeat (first | exact HB.out | apply below_alloc | apply pw_below_drewN | apply below_drew1 | refine below_set ?_ (by first | omega | (simp; omega))))); (case aF => exact (fun _ _ => trivial)); (case aO => exact (by (with_reducible repeat (first | apply Kd.R_alloc | apply Kd.R_drewN | apply Kd.R_drew)); exact HO.out)); (case aS => exact below_size (by repeat (first | exact HB.out | apply below_alloc | apply pw_below_drewN | apply below_drew1 | refine below_set ?_ (by first | omega | (simp; omega))))); (case aL => first | omega | (simp; omega)); intro v1 w1 ho_ hb_ hg_ hat_; clear HB; clear HO; have HB := Aside0.mk hb_; have HO := Aside0.mk ho_; clear ho_ hb_ hg_ hat_; ))
                go_roundw
                case rel =>
                  refine ⟨i + 1, by omega, by have := HZ.out; subst this; go_num, by rw [HT.out]; exact HO.out, fun j hj => ?_, HB.out⟩
                  by_cases hji : j < i
                  · exact HP.out j hji
                  · obtain rfl : j = i := by omega
                    rw [HZ.out, HXE.out]
                    exact ⟨HX1.out, fun q hq => HNE.out q hq⟩
                case measure =>
                  have := HZ.out
                  simp [intOf]
                  omega
              · have h0f := eq_false h0
                clear h0
                go_quiet (fail)
                go_wp2_with (first | ((with_reducible refine gate_builtin (b := .append) (xs := #[.tmp 37, .tmp 40]) rfl ?_); at_builtin; refine Kd.R_append (Kd.int .u64) (w0 := w3) w3.heap.size rfl (.tmp 37) (.tmp 40) 27 28 (.int .u64 0) 8 rfl Try.underlying27 infoU64 rfl (by decide) (by omega) (_) ((l.take i).map (·.f0)) (x.f0) [.int .u64 x.f0] (fun _ => True) (fun _ => False) rfl rfl ?aP (fun _ hk => hk.elim) ?aF ?aO ?aB ?aS ?aL ?_; (case aP => exact rfl); (case aB => exact (by repeat (first | exact HB.out | apply below_alloc | apply pw_below_drewN | apply below_drew1 | refine below_set ?_ (by first | omega | (simp; omega))))); (case aF => exact (fun _ _ => trivial)); (case aO => exact (by (with_reducible repeat (first | apply Kd.R_alloc | apply Kd.R_drewN | apply Kd.R_drew)); exact HO.out)); (case aS => exact below_size (by repeat (first | exact HB.out | apply below_alloc | apply pw_below_drewN | apply below_drew1 | refine below_set ?_ (by first | omega | (simp; omega))))); (case aL => first | omega | (simp; omega)); intro v1 w1 ho_ hb_ hg_ hat_; clear HB; clear HO; have HB := Aside0.mk hb_; have HO := Aside0.mk ho_; clear ho_ hb_ hg_ hat_; ))
                go_roundw
                case rel =>
                  refine ⟨i + 1, by omega, by have := HZ.out; subst this; go_num, by rw [HT.out]; exact HO.out, fun j hj => ?_, HB.out⟩
                  by_cases hji : j < i
                  · exact HP.out j hji
                  · obtain rfl : j = i := by omega
                    rw [HZ.out, HXE.out]
                    exact ⟨HX1.out, fun q hq => HNE.out q hq⟩
                case measure =>
                  have := HZ.out
                  simp [intOf]
                  omega
          · have hd2 : decide ((0 : Int) < z) = false := decide_eq_false hz2
            have HNE := Aside0.mk (show ∀ q : Nat, q + 1 = i → rdP l (q : Int) ≠ x from fun q hq => absurd HZ.out (by omega))
            go_quiet (fail)
            go_wp2_with (first | ((with_reducible refine gate_builtin (b := .append) (xs := #[.tmp 37, .tmp 40]) rfl ?_); at_builtin; refine Kd.R_append (Kd.int .u64) (w0 := w3) w3.heap.size rfl (.tmp 37) (.tmp 40) 27 28 (.int .u64 0) 8 rfl Try.underlying27 infoU64 rfl (by decide) (by omega) (_) ((l.take i).map (·.f0)) (x.f0) [.int .u64 x.f0] (fun _ => True) (fun _ => False) rfl rfl ?aP (fun _ hk => hk.elim) ?aF ?aO ?aB ?aS ?aL ?_; (case aP => exact rfl); (case aB => exact (by repeat (first | exact HB.out | apply below_alloc | apply pw_below_drewN | apply below_drew1 | refine below_set ?_ (by first | omega | (simp; omega))))); (case aF => exact (fun _ _ => trivial)); (case aO => exact (by (with_reducible repeat (first | apply Kd.R_alloc | apply Kd.R_drewN | apply Kd.R_drew)); exact HO.out)); (case aS => exact below_size (by repeat (first | exact HB.out | apply below_alloc | apply pw_below_drewN | apply below_drew1 | refine below_set ?_ (by first | omega | (simp; omega))))); (case aL => first | omega | (simp; omega)); intro v1 w1 ho_ hb_ hg_ hat_; clear HB; clear HO; have HB := Aside0.mk hb_; have HO := Aside0.mk ho_; clear ho_ hb_ hg_ hat_; ))
            go_roundw
            case rel =>
              refine ⟨i + 1, by omega, by have := HZ.out; subst this; go_num, by rw [HT.out]; exact HO.out, fun j hj => ?_, HB.out⟩
              by_cases hji : j < i
              · exact HP.out j hji
              · obtain rfl : j = i := by omega
                rw [HZ.out, HXE.out]
                exact ⟨HX1.out, fun q hq => HNE.out q hq⟩
            case measure =>
              have := HZ.out
              simp [intOf]
              omega
        · have hf1 : (x.f1 == root) = false := beq_eq_false_iff_ne.mpr hx1
          have hf2 : (x.f1 != root) = true := bne_iff_ne.mpr hx1
          have HX1 := Aside0.mk hx1
          clear hx1
          go_quiet (fail)
          go_wp2
          go_ret2
          rw [keysF_none (Or.inr (Or.inl ⟨i, by rw [← HN.out]; exact hlt, by rw [HZ.out, HXE.out]; exact HX1.out⟩))]
          exact ⟨none, 0, 0, rfl, rfl, Kd.C_nil _ _, by omega, below_step HB3.out (by repeat (first | exact HB.out | apply below_alloc | apply pw_below_drewN | apply below_drew1 | refine below_set ?_ (by first | omega | (simp; omega))))⟩
      · obtain rfl : i = n := by omega
        go_wp2
        go_ret2
        have e1 : (l.take i).map (·.f0) = l.map (·.f0) := by rw [HN.out, List.take_length]
        have e2 := keysF_some HR.out (fun j hj => HP.out j (by rw [HN.out]; exact hj))
        rw [e2]
        rw [e1] at hO
        obtain ⟨A', c', rfl, hc', hC'⟩ := Kd.R_reads hO
        exact ⟨A', _, c', rfl, rfl, hC', hc', below_step HB3.out hb⟩
end Go.Proofs.Ytnfglkgkdechlaa


/- A table (chapter 7): has. -/
namespace Go.Proofs.Ytnfglkgkdechlaa
open Go.RowKit Go.Proofs.YtnfglkgkdechlaaW.PrintWords Go.Proofs.YtnfglkgkdechlaaW.PrintLast Go.Proofs.YtnfglkgkdechlaaW.PrintMore

open Go.Proofs.Ytnfglkgkdechlaa.PQ

theorem oOrderE (a b : Pr) (z : Int) (w : World) (h : ordP a b = z) : Calls Try.prog 37 #[.agg #[.int .u64 a.f0, .int .u64 a.f1], .agg #[.int .u64 b.f0, .int .u64 b.f1]] w fun e w' => e = .returned (.int .i64 z) ∧ Below w.heap.size w w' :=
  oracle_order.calls 3 a.f0 a.f1 b.f0 b.f1 _ w (h ▸ oord_f a b 3 (by omega))
theorem tab_step {l : List Pr} (ht : tabB l = true) (i : Nat) : ∀ d : Nat, i + d + 1 < l.length → ltP (rdP l (i : Int)) (rdP l ((i + d + 1 : Nat) : Int)) = true
  | 0, h => (tabB_iff.1 ht).2 i h
  | d + 1, h => ltP_trans (tab_step ht i d (by omega)) ((tabB_iff.1 ht).2 (i + d + 1) h)
theorem tab_lt {l : List Pr} {n : Nat} {m : Int} {x p : Pr} (ht : tabB l = true) (hn : n = l.length) (hx : rdP l m = x) (h : ltP x p = true) (j : Nat) (hj : (j : Int) ≤ m) (hm : m < n) : ltP (rdP l (j : Int)) p = true := by
  by_cases e : (j : Int) = m
  · rw [e, hx]
    exact h
  · obtain ⟨d, hd⟩ : ∃ d : Nat, m = ((j + d + 1 : Nat) : Int) := ⟨(m - j - 1).toNat, by omega⟩
    have := tab_step ht j d (by omega)
    rw [← hd, hx] at this
    exact ltP_trans this h
theorem tab_gt {l : List Pr} {n : Nat} {m : Int} {x p : Pr} (ht : tabB l = true) (hn : n = l.length) (hx : rdP l m = x) (h : ltP p x = true) (j : Nat) (hj : 0 ≤ m ∧ m ≤ (j : Int)) (hm : j < n) : ltP p (rdP l (j : Int)) = true := by
  by_cases e : (j : Int) = m
  · rw [e, hx]
    exact h
  · obtain ⟨i, hi⟩ : ∃ i : Nat, m = (i : Int) := ⟨m.toNat, by omega⟩
    obtain ⟨d, hd⟩ : ∃ d : Nat, j = i + d + 1 := ⟨j - i - 1, by omega⟩
    have := tab_step ht i d (by omega)
    rw [← hi, hx, ← hd] at this
    exact ltP_trans h this
set_option maxRecDepth 100000 in
set_option maxHeartbeats 8000000 in
theorem oHas (A : Option Addr) (n c : Nat) (l : List Pr) (p : Pr) (w : World) (hA : kP.C w A n l) (hc : n ≤ c) (ht : tabB l = true) : Calls Try.prog 26 #[.slice A n c, .agg #[.int .u64 p.f0, .int .u64 p.f1]] w
    fun e w' => e = .returned (.bool (decide (p ∈ l))) ∧ Below w.heap.size w w' := by
  have HN := Aside0.mk (show n = l.length from (Kd.C_len hA).symm)
  have HT := Aside0.mk ht
  have HX := Aside0.mk hA
  have hn63 : n ≤ 4096 := by rw [HN.out]; exact (tabB_iff.1 HT.out).1
  clear hA ht
  have HB := Aside0.mk (Below.refl w.heap.size w)
  go_enter Try.func26, Try.ntmps26
  go_wp2
  refine wp_scope_jumps 0 (fun a' w' => ∃ (lo hi : Int) (u7 u8 u9 u10 u11 u12 u13 u14 u15 u16 u17 u18 u19 u20 u21 u22 u23 u24 u25 u26 u27 u28 u29 u30 u31 u32 : Value), a' = { tmps := #[.slice A n c, .agg #[.int .u64 p.f0, .int .u64 p.f1], undef, .pointer (some ⟨w.heap.size, 0, none⟩), .bool false, .int .i64 lo, .int .i64 hi, u7, u8, u9, u10, u11, u12, u13, u14, u15, u16, u17, u18, u19, u20, u21, u22, u23, u24, u25, u26, u27, u28, u29, u30, u31, u32], defers := [] } ∧ 0 ≤ lo ∧ lo ≤ hi ∧ hi ≤ n ∧ (∀ j : Nat, (j : Int) < lo → ltP (rdP l (j : Int)) p = true) ∧ (∀ j : Nat, hi ≤ (j : Int) → j < n → ltP p (rdP l (j : Int)) = true) ∧ Box w' w.heap.size #[.int .u64 p.f0, .int .u64 p.f1] 52 ∧ Below w.heap.size w w') (fun a' _ => (intOf (a'.tmps.getD 6 undef) - intOf (a'.tmps.getD 5 undef)).toNat) rfl ?_ ?_
  · go_wp2
    go_step3
    obtain ⟨wr, hwr⟩ : ∃ W, w.alloc (.cells #[.int .u64 p.f0, .int .u64 p.f1] 52) = W := ⟨_, rfl⟩
    rw [hwr]
    have hbx : Box wr w.heap.size #[.int .u64 p.f0, .int .u64 p.f1] 52 := hwr ▸ Box.new
    have hb : Below w.heap.size w wr := hwr ▸ below_alloc HB.out _
    clear hwr
    obtain ⟨hi, hhi0⟩ : ∃ hi : Int, (n : Int) = hi := ⟨_, rfl⟩
    rw [hhi0]
    have h0 : 0 ≤ (0 : Int) := by omega
    have h1 : (0 : Int) ≤ hi := by omega
    have h2 : hi ≤ n := by omega
    have hlo : ∀ j : Nat, (j : Int) < (0 : Int) → ltP (rdP l (j : Int)) p = true := fun j hj => absurd hj (by omega)
    have hhi : ∀ j : Nat, hi ≤ (j : Int) → j < n → ltP p (rdP l (j : Int)) = true := fun j hj hjn => absurd hj (by omega)
    have HLO := Aside0.mk (And.intro hlo hhi)
    clear HB hlo hhi
    have HB := Aside0.mk hb
    have hW0 := Aside0.mk hbx
    have rQ := hbx.cell
    have kQ := hbx.lt
    clear hb hbx
    by_cases hl : (0 : Int) = hi
    · subst hl
      go_wp2
      simp only [Exit.jump]
      go_ret
      refine ⟨ret_bool (Eq.symm (decide_eq_false fun hm => ?_)), HB.out⟩
      obtain ⟨j, hj, e⟩ := List.getElem_of_mem hm
      rw [← rdP_eq hj] at e
      by_cases hjl : (j : Int) < (0 : Int)
      · have := HLO.out.1 j hjl
        rw [e, ltP_irr] at this
        cases this
      · have := HLO.out.2 j (by omega) (by rw [HN.out]; exact hj)
        rw [e, ltP_irr] at this
        cases this
    · have hd : ((0 : Int) == hi) = false := beq_eq_false_iff_ne.mpr hl
      obtain ⟨m, hm⟩ : ∃ m : Int, hi / 2 = m := ⟨_, rfl⟩
      have hw : IntKind.i64.wrap hi = hi := by rw [IntKind.wrap_i64]; omega
      go_upto_region 5 with (fail)
      rw [hm]
      have hm0 : 0 ≤ m := by omega
      have hm1 : m < hi := by omega
      have hm3 : (0 : Int) ≤ m := by omega
      have hm2 : m < (n : Int) := by omega
      obtain ⟨ad, rfl, rC, rD⟩ := at_P (Kd.C_below HX.out HB.out) m hm0 hm2
      obtain ⟨x, hx⟩ : ∃ x, rdP l m = x := ⟨_, rfl⟩
      obtain ⟨z, hz⟩ : ∃ z, ordP x p = z := ⟨_, rfl⟩
      rw [hx] at rC rD
      have HXY := Aside0.mk hx
      have HZ := Aside0.mk hz
      have HM := Aside0.mk (And.intro hm (And.intro h0 (And.intro h1 h2)))
      clear hx hz hm hd hw
      have kC := cell_lt rC
      have kD := cell_lt rD
      refine wp_region_held_drew (S := (fun w' => Below wr.heap.size wr w' ∧ (∀ j, w'.cell? ⟨w.heap.size, j, none⟩ = (#[.int .u64 p.f0, .int .u64 p.f1] : Array Value)[j]?) ∧ (w'.cell? ((ad.add (m.toNat * 2))) = some (.int .u64 x.f0)) ∧ (w'.cell? ((⟨(ad.add (m.toNat * 2)).block, (ad.add (m.toNat * 2)).off + 1, none⟩ : Addr)) = some (.int .u64 x.f1)))) (by kernel_rfl) ?hS2x0 (fun hHeld => ?hR2x0)
      case hS2x0 => ((try dsimp only); (first | exact ⟨below_drew1 (Below.refl _ _), rQ, rC, rD⟩ | exact ⟨below_drew1 b0_, rQ, rC, rD⟩ | exact ⟨j0, jQ, jC, jD⟩ | exact ⟨below_alloc j0 _, fun j => (cell_alloc_old (Nat.lt_of_lt_of_le kQ j0.size)).trans (jQ j), (cell_alloc_oldp (Nat.lt_of_lt_of_le kC j0.size)).trans jC, (cell_alloc_oldp (Nat.lt_of_lt_of_le kD j0.size)).trans jD⟩ | exact ⟨below_alloc (below_drew1 (Below.refl _ _)) _, fun j => (cell_alloc_old kQ).trans (rQ j), (cell_alloc_oldp kC).trans rC, (cell_alloc_oldp kD).trans rD⟩ | assumption))
      refine wpAnyH_take (i := 0) (oi := ⟨some 18, _, _, _, _, _⟩) (v := ?_) rfl (by kernel_rfl) (by kernel_rfl) (by kernel_rfl) (fun _ _ _ h => h) (Or.inl ⟨by rfl, ?hY2x2⟩) (by assumption) ?hR2x2
      case hY2x2 => (intro w hSw; (try dsimp only at hSw); go_simp; try with_reducible rfl)
      (try simp only [Act.put, qa_, qb_, qc_])
      refine wpAnyH_take (i := 1) (oi := ⟨some 19, _, _, _, _, _⟩) (v := ?_) rfl (by kernel_rfl) (by kernel_rfl) (by kernel_rfl) (fun _ _ _ h => h) (Or.inl ⟨by rfl, ?hY2x3⟩) (by assumption) ?hR2x3
      case hY2x3 => (intro w hSw; (try dsimp only at hSw); go_simp; try with_reducible rfl)
      (try simp only [Act.put, qa_, qb_, qc_])
      refine wpAnyH_take (i := 2) (oi := ⟨some 20, _, _, _, _, _⟩) (v := ?_) rfl (by kernel_rfl) (by kernel_rfl) (by kernel_rfl) (fun _ _ _ h => h) (Or.inl ⟨by rfl, ?hY2x4⟩) (by assumption) ?hR2x4
      case hY2x4 => (intro w hSw; (try dsimp only at hSw); go_simp; try with_reducible rfl)
      (try simp only [Act.put, qa_, qb_, qc_])
      refine wpAnyH_take (i := 3) (oi := ⟨some 21, _, _, _, _, _⟩) (v := ?_) rfl (by kernel_rfl) (by kernel_rfl) (by kernel_rfl) (fun _ _ _ h => h) (Or.inl ⟨by rfl, ?hY2x5⟩) (by assumption) ?hR2x5
      case hY2x5 => (intro w hSw; (try dsimp only at hSw); go_simp; try with_reducible rfl)
      (try simp only [Act.put, qa_, qb_, qc_])
      refine wpAnyH_take (i := 4) (oi := ⟨some 22, _, _, _, _, _⟩) (v := ?_) rfl (by kernel_rfl) (by kernel_rfl) (by kernel_rfl) (fun _ _ _ h => h) (Or.inl ⟨by rfl, ?hY2x6⟩) (by assumption) ?hR2x6
      case hY2x6 => (intro w hSw; (try dsimp only at hSw); go_simp; try with_reducible rfl)
      (try simp only [Act.put, qa_, qb_, qc_])
      refine wpAnyH_ready (rs := [5]) (by kernel_rfl) (by simp) ?_
      refine AllReadyH.cons (o := ⟨some 23, _, _, _, _, _⟩) rfl (fun K hK => ?hT2x7) ?hM2x7
      case hM2x7 => exact AllReadyH.nil
      go_simp
      (first | (go_at_call 37; obtain ⟨g0, gQ, gC, gD⟩ := ‹Below wr.heap.size wr _ ∧ _›; ((with_reducible refine (oOrderE x p z _ HZ.out).mono ?_));  rintro e w5 ⟨rfl, hb_⟩; have j0 := below_step g0 hb_; have s5 := j0.size; have jQ := fun j => (j0.cell (p := ⟨w.heap.size, j, none⟩) kQ).trans (rQ j); have jC := (j0.cell (p := (ad.add (m.toNat * 2))) kC).trans rC; have jD := (j0.cell (p := (⟨(ad.add (m.toNat * 2)).block, (ad.add (m.toNat * 2)).off + 1, none⟩ : Addr)) kD).trans rD))
      (try go_wp2_with fail)
      refine hK.out _ _ ?hS2x7 (fun hHeld => ?hR2x7)
      case hS2x7 => ((try dsimp only); (first | exact ⟨below_drew1 (Below.refl _ _), rQ, rC, rD⟩ | exact ⟨below_drew1 b0_, rQ, rC, rD⟩ | exact ⟨j0, jQ, jC, jD⟩ | exact ⟨below_alloc j0 _, fun j => (cell_alloc_old (Nat.lt_of_lt_of_le kQ j0.size)).trans (jQ j), (cell_alloc_oldp (Nat.lt_of_lt_of_le kC j0.size)).trans jC, (cell_alloc_oldp (Nat.lt_of_lt_of_le kD j0.size)).trans jD⟩ | exact ⟨below_alloc (below_drew1 (Below.refl _ _)) _, fun j => (cell_alloc_old kQ).trans (rQ j), (cell_alloc_oldp kC).trans rC, (cell_alloc_oldp kD).trans rD⟩ | assumption))
      clear hK K
      (try simp only [Act.put, qa_, qb_, qc_])
      refine wpAnyH_take (i := 6) (oi := ⟨some 8, _, _, _, _, _⟩) (v := ?_) rfl (by kernel_rfl) (by kernel_rfl) (by kernel_rfl) (fun _ _ _ h => h) (Or.inl ⟨by rfl, ?hY2x8⟩) (by assumption) ?hR2x8
      case hY2x8 => (intro w hSw; (try dsimp only at hSw); go_simp; try with_reducible rfl)
      (try simp only [Act.put, qa_, qb_, qc_])
      refine wpAnyH_done (by kernel_rfl) ?_ _
      have HBX := Aside0.mk (hW0.out.below j0)
      rcases Int.lt_trichotomy z 0 with hz | hz | hz
      · have hda : decide (z < 0) = true := decide_eq_true hz
        have hwm : IntKind.i64.wrap (m + 1) = m + 1 := by rw [IntKind.wrap_i64]; omega
        go_wp2
        go_step3
        have hlt : ltP x p = true := by rw [← ordP_lt, HZ.out]; exact hz
        refine ⟨rfl, ⟨m + 1, hi, _, _, _, _, _, _, _, _, _, _, _, _, _, _, _, _, _, _, _, _, _, _, _, _, _, _, rfl, by omega, by omega, by omega, fun j hj => ?_, HLO.out.2, HBX.out, below_step HB.out j0⟩⟩
        · by_cases hjl : (j : Int) < (0 : Int)
          · exact HLO.out.1 j hjl
          · exact tab_lt HT.out HN.out HXY.out hlt j (by omega) (by omega)
      · subst hz
        have hda : decide ((0 : Int) < 0) = false := by decide
        go_wp2
        simp only [Exit.jump]
        go_ret
        refine ⟨ret_bool (Eq.symm (decide_eq_true ?_)), below_step HB.out j0⟩
        have := (ordP_zero x p).1 HZ.out
        rw [← this, ← HXY.out]
        have e : (m.toNat : Int) = m := by omega
        have hml : m.toNat < l.length := by rw [← HN.out]; omega
        rw [← e, rdP_eq hml]
        exact List.getElem_mem hml
      · have hda : decide (z < 0) = false := decide_eq_false (by omega)
        have hdb : decide (0 < z) = true := decide_eq_true hz
        go_wp2
        go_step3
        have hlt : ltP p x = true := by rw [← ordP_gt, HZ.out]; exact hz
        refine ⟨rfl, ⟨(0 : Int), m, _, _, _, _, _, _, _, _, _, _, _, _, _, _, _, _, _, _, _, _, _, _, _, _, _, _, rfl, by omega, by omega, by omega, HLO.out.1, fun j hj hjn => ?_, HBX.out, below_step HB.out j0⟩⟩
        · by_cases hjl : hi ≤ (j : Int)
          · exact HLO.out.2 j hjl hjn
          · exact tab_gt HT.out HN.out HXY.out hlt j (by omega) hjn
  · rintro a' wr ⟨lo, hi, u7, u8, u9, u10, u11, u12, u13, u14, u15, u16, u17, u18, u19, u20, u21, u22, u23, u24, u25, u26, u27, u28, u29, u30, u31, u32, rfl, h0, h1, h2, hlo, hhi, hbx, hb⟩
    have HLO := Aside0.mk (And.intro hlo hhi)
    clear HB hlo hhi
    have HB := Aside0.mk hb
    have hW0 := Aside0.mk hbx
    have rQ := hbx.cell
    have kQ := hbx.lt
    clear hb hbx
    by_cases hl : lo = hi
    · subst hl
      go_wp2
      simp only [Exit.jump]
      go_ret
      refine ⟨ret_bool (Eq.symm (decide_eq_false fun hm => ?_)), HB.out⟩
      obtain ⟨j, hj, e⟩ := List.getElem_of_mem hm
      rw [← rdP_eq hj] at e
      by_cases hjl : (j : Int) < lo
      · have := HLO.out.1 j hjl
        rw [e, ltP_irr] at this
        cases this
      · have := HLO.out.2 j (by omega) (by rw [HN.out]; exact hj)
        rw [e, ltP_irr] at this
        cases this
    · have hd : (lo == hi) = false := beq_eq_false_iff_ne.mpr hl
      obtain ⟨m, hm⟩ : ∃ m : Int, (lo + hi) / 2 = m := ⟨_, rfl⟩
      have hw : IntKind.i64.wrap (lo + hi) = lo + hi := by rw [IntKind.wrap_i64]; omega
      go_upto_region 5 with (fail)
      rw [hm]
      have hm0 : 0 ≤ m := by omega
      have hm1 : m < hi := by omega
      have hm3 : lo ≤ m := by omega
      have hm2 : m < (n : Int) := by omega
      obtain ⟨ad, rfl, rC, rD⟩ := at_P (Kd.C_below HX.out HB.out) m hm0 hm2
      obtain ⟨x, hx⟩ : ∃ x, rdP l m = x := ⟨_, rfl⟩
      obtain ⟨z, hz⟩ : ∃ z, ordP x p = z := ⟨_, rfl⟩
      rw [hx] at rC rD
      have HXY := Aside0.mk hx
      have HZ := Aside0.mk hz
      have HM := Aside0.mk (And.intro hm (And.intro h0 (And.intro h1 h2)))
      clear hx hz hm hd hw
      have kC := cell_lt rC
      have kD := cell_lt rD
      refine wp_region_held_drew (S := (fun w' => Below wr.heap.size wr w' ∧ (∀ j, w'.cell? ⟨w.heap.size, j, none⟩ = (#[.int .u64 p.f0, .int .u64 p.f1] : Array Value)[j]?) ∧ (w'.cell? ((ad.add (m.toNat * 2))) = some (.int .u64 x.f0)) ∧ (w'.cell? ((⟨(ad.add (m.toNat * 2)).block, (ad.add (m.toNat * 2)).off + 1, none⟩ : Addr)) = some (.int .u64 x.f1)))) (by kernel_rfl) ?hS3x0 (fun hHeld => ?hR3x0)
      case hS3x0 => ((try dsimp only); (first | exact ⟨below_drew1 (Below.refl _ _), rQ, rC, rD⟩ | exact ⟨below_drew1 b0_, rQ, rC, rD⟩ | exact ⟨j0, jQ, jC, jD⟩ | exact ⟨below_alloc j0 _, fun j => (cell_alloc_old (Nat.lt_of_lt_of_le kQ j0.size)).trans (jQ j), (cell_alloc_oldp (Nat.lt_of_lt_of_le kC j0.size)).trans jC, (cell_alloc_oldp (Nat.lt_of_lt_of_le kD j0.size)).trans jD⟩ | exact ⟨below_alloc (below_drew1 (Below.refl _ _)) _, fun j => (cell_alloc_old kQ).trans (rQ j), (cell_alloc_oldp kC).trans rC, (cell_alloc_oldp kD).trans rD⟩ | assumption))
      refine wpAnyH_take (i := 0) (oi := ⟨some 18, _, _, _, _, _⟩) (v := ?_) rfl (by kernel_rfl) (by kernel_rfl) (by kernel_rfl) (fun _ _ _ h => h) (Or.inl ⟨by rfl, ?hY3x2⟩) (by assumption) ?hR3x2
      case hY3x2 => (intro w hSw; (try dsimp only at hSw); go_simp; try with_reducible rfl)
      (try simp only [Act.put, qa_, qb_, qc_])
      refine wpAnyH_take (i := 1) (oi := ⟨some 19, _, _, _, _, _⟩) (v := ?_) rfl (by kernel_rfl) (by kernel_rfl) (by kernel_rfl) (fun _ _ _ h => h) (Or.inl ⟨by rfl, ?hY3x3⟩) (by assumption) ?hR3x3
      case hY3x3 => (intro w hSw; (try dsimp only at hSw); go_simp; try with_reducible rfl)
      (try simp only [Act.put, qa_, qb_, qc_])
      refine wpAnyH_take (i := 2) (oi := ⟨some 20, _, _, _, _, _⟩) (v := ?_) rfl (by kernel_rfl) (by kernel_rfl) (by kernel_rfl) (fun _ _ _ h => h) (Or.inl ⟨by rfl, ?hY3x4⟩) (by assumption) ?hR3x4
      case hY3x4 => (intro w hSw; (try dsimp only at hSw); go_simp; try with_reducible rfl)
      (try simp only [Act.put, qa_, qb_, qc_])
      refine wpAnyH_take (i := 3) (oi := ⟨some 21, _, _, _, _, _⟩) (v := ?_) rfl (by kernel_rfl) (by kernel_rfl) (by kernel_rfl) (fun _ _ _ h => h) (Or.inl ⟨by rfl, ?hY3x5⟩) (by assumption) ?hR3x5
      case hY3x5 => (intro w hSw; (try dsimp only at hSw); go_simp; try with_reducible rfl)
      (try simp only [Act.put, qa_, qb_, qc_])
      refine wpAnyH_take (i := 4) (oi := ⟨some 22, _, _, _, _, _⟩) (v := ?_) rfl (by kernel_rfl) (by kernel_rfl) (by kernel_rfl) (fun _ _ _ h => h) (Or.inl ⟨by rfl, ?hY3x6⟩) (by assumption) ?hR3x6
      case hY3x6 => (intro w hSw; (try dsimp only at hSw); go_simp; try with_reducible rfl)
      (try simp only [Act.put, qa_, qb_, qc_])
      refine wpAnyH_ready (rs := [5]) (by kernel_rfl) (by simp) ?_
      refine AllReadyH.cons (o := ⟨some 23, _, _, _, _, _⟩) rfl (fun K hK => ?hT3x7) ?hM3x7
      case hM3x7 => exact AllReadyH.nil
      go_simp
      (first | (go_at_call 37; obtain ⟨g0, gQ, gC, gD⟩ := ‹Below wr.heap.size wr _ ∧ _›; ((with_reducible refine (oOrderE x p z _ HZ.out).mono ?_));  rintro e w5 ⟨rfl, hb_⟩; have j0 := below_step g0 hb_; have s5 := j0.size; have jQ := fun j => (j0.cell (p := ⟨w.heap.size, j, none⟩) kQ).trans (rQ j); have jC := (j0.cell (p := (ad.add (m.toNat * 2))) kC).trans rC; have jD := (j0.cell (p := (⟨(ad.add (m.toNat * 2)).block, (ad.add (m.toNat * 2)).off + 1, none⟩ : Addr)) kD).trans rD))
      (try go_wp2_with fail)
      refine hK.out _ _ ?hS3x7 (fun hHeld => ?hR3x7)
      case hS3x7 => ((try dsimp only); (first | exact ⟨below_drew1 (Below.refl _ _), rQ, rC, rD⟩ | exact ⟨below_drew1 b0_, rQ, rC, rD⟩ | exact ⟨j0, jQ, jC, jD⟩ | exact ⟨below_alloc j0 _, fun j => (cell_alloc_old (Nat.lt_of_lt_of_le kQ j0.size)).trans (jQ j), (cell_alloc_oldp (Nat.lt_of_lt_of_le kC j0.size)).trans jC, (cell_alloc_oldp (Nat.lt_of_lt_of_le kD j0.size)).trans jD⟩ | exact ⟨below_alloc (below_drew1 (Below.refl _ _)) _, fun j => (cell_alloc_old kQ).trans (rQ j), (cell_alloc_oldp kC).trans rC, (cell_alloc_oldp kD).trans rD⟩ | assumption))
      clear hK K
      (try simp only [Act.put, qa_, qb_, qc_])
      refine wpAnyH_take (i := 6) (oi := ⟨some 8, _, _, _, _, _⟩) (v := ?_) rfl (by kernel_rfl) (by kernel_rfl) (by kernel_rfl) (fun _ _ _ h => h) (Or.inl ⟨by rfl, ?hY3x8⟩) (by assumption) ?hR3x8
      case hY3x8 => (intro w hSw; (try dsimp only at hSw); go_simp; try with_reducible rfl)
      (try simp only [Act.put, qa_, qb_, qc_])
      refine wpAnyH_done (by kernel_rfl) ?_ _
      have HBX := Aside0.mk (hW0.out.below j0)
      rcases Int.lt_trichotomy z 0 with hz | hz | hz
      · have hda : decide (z < 0) = true := decide_eq_true hz
        have hwm : IntKind.i64.wrap (m + 1) = m + 1 := by rw [IntKind.wrap_i64]; omega
        go_wp2
        go_step3
        have hlt : ltP x p = true := by rw [← ordP_lt, HZ.out]; exact hz
        refine ⟨rfl, ⟨m + 1, hi, _, _, _, _, _, _, _, _, _, _, _, _, _, _, _, _, _, _, _, _, _, _, _, _, _, _, rfl, by omega, by omega, by omega, fun j hj => ?_, HLO.out.2, HBX.out, below_step HB.out j0⟩, ?_⟩
        · by_cases hjl : (j : Int) < lo
          · exact HLO.out.1 j hjl
          · exact tab_lt HT.out HN.out HXY.out hlt j (by omega) (by omega)
        · simp [intOf]
          omega
      · subst hz
        have hda : decide ((0 : Int) < 0) = false := by decide
        go_wp2
        simp only [Exit.jump]
        go_ret
        refine ⟨ret_bool (Eq.symm (decide_eq_true ?_)), below_step HB.out j0⟩
        have := (ordP_zero x p).1 HZ.out
        rw [← this, ← HXY.out]
        have e : (m.toNat : Int) = m := by omega
        have hml : m.toNat < l.length := by rw [← HN.out]; omega
        rw [← e, rdP_eq hml]
        exact List.getElem_mem hml
      · have hda : decide (z < 0) = false := decide_eq_false (by omega)
        have hdb : decide (0 < z) = true := decide_eq_true hz
        go_wp2
        go_step3
        have hlt : ltP p x = true := by rw [← ordP_gt, HZ.out]; exact hz
        refine ⟨rfl, ⟨lo, m, _, _, _, _, _, _, _, _, _, _, _, _, _, _, _, _, _, _, _, _, _, _, _, _, _, _, rfl, by omega, by omega, by omega, HLO.out.1, fun j hj hjn => ?_, HBX.out, below_step HB.out j0⟩, ?_⟩
        · by_cases hjl : hi ≤ (j : Int)
          · exact HLO.out.2 j hjl hjn
          · exact tab_gt HT.out HN.out HXY.out hlt j (by omega) hjn
        · simp [intOf]
          omega
end Go.Proofs.Ytnfglkgkdechlaa


/- Sets of keys, and whether pairs are a table (chapter 7), in plain Lean. -/
namespace Go.Proofs.Ytnfglkgkdechlaa
open Go.RowKit Go.Proofs.YtnfglkgkdechlaaW.PrintWords Go.Proofs.YtnfglkgkdechlaaW.PrintLast Go.Proofs.YtnfglkgkdechlaaW.PrintMore
open Go.Proofs.Ytnfglkgkdechlaa.PQ Go.Maps

def uniq (ks : List Int) : List Int := ks.foldl (fun acc x => if acc.contains x then acc else acc ++ [x]) []
theorem any_u (x : Int) : ∀ l : List Int, (l.map (Lit.int .u64)).any (fun y : Lit => y.sameKey (.int .u64 x)) = l.contains x
  | [] => rfl
  | a :: r => by
    rw [List.map_cons, List.any_cons, List.contains_cons, any_u x r]
    congr 1
    show decide (IntKind.u64 = IntKind.u64 ∧ a = x) = (x == a)
    by_cases e : a = x
    · subst e
      simp
    · have e' : ¬ x = a := fun h => e h.symm
      simp [e, e']
theorem key_u (l : List Int) : ∀ y ∈ l.map (Lit.int .u64), WideAt.IsKeyLit y := fun y hy => by
  obtain ⟨_, _, rfl⟩ := List.mem_map.1 hy
  trivial
theorem fold_u : ∀ (ks acc : List Int), (ks.map (Lit.int .u64)).foldl addKey (acc.map (Lit.int .u64)) = (ks.foldl (fun acc x => if acc.contains x then acc else acc ++ [x]) acc).map (Lit.int .u64)
  | [], acc => rfl
  | x :: r, acc => by
    rw [List.map_cons, List.foldl_cons, List.foldl_cons]
    have : addKey (acc.map (Lit.int .u64)) (Lit.int .u64 x) = (if acc.contains x then acc else acc ++ [x]).map (Lit.int .u64) := by
      unfold addKey
      rw [any_u]
      cases acc.contains x
      · simp
      · rfl
    rw [this]
    exact fold_u r _
theorem size_u (ks : List Int) : Maps.size (setOf (H := Unit) (.agg []) (ks.map (Lit.int .u64))) = (uniq ks).length := by
  rw [size_setOf _ _ (key_u ks)]
  have := fold_u ks []
  rw [List.map_nil] at this
  rw [this, List.length_map]
  rfl
theorem has_u (ks : List Int) (x : Int) : Maps.has (setOf (H := Unit) (.agg []) (ks.map (Lit.int .u64))) (.int .u64 x) = ks.contains x := by
  rw [has_setOf _ _ _ (key_u ks), any_u]
theorem set_u (ks : List Int) (x : Int) : setOf (H := Unit) (.agg []) ((ks ++ [x]).map (Lit.int .u64)) = (setOf (.agg []) (ks.map (Lit.int .u64))).put (.int .u64 x) (.agg []) := by
  rw [List.map_append, List.map_singleton, setOf_snoc]
theorem ownsMap_below {H : Type} {P : Program} {k : TypeId} {R : Value → Option (DataW H × List MemPlace)} {b n : Nat} {D : DataW H} {w w' : World} (h : w.ownsMap P k R b n D) (hb : Below w.heap.size w w') : w'.ownsMap P k R b n D := by
  have hlt := h.lt
  obtain ⟨es, clock, hb1, F, hs, hD⟩ := h
  exact ⟨es, clock, (hb.block b hlt).trans hb1, F, hs, hD⟩
theorem In64_nat {n : Nat} (h : n ≤ 9223372036854775806) : wrap64 ((n : Int) + 1) = ((n + 1 : Nat) : Int) := by
  unfold wrap64
  omega
/-- Is what oracle.Right tells: from i on. -/
theorem oright_l (l : List Pr) (hl : l.length ≤ 9223372036854775807) (r i k : Nat) (hr : i + r = l.length) (hk : r + 4 ≤ k) :
    ((∀ j : Nat, i ≤ j + 1 → j + 1 < l.length → ltP (rdP l (j : Int)) (rdP l ((j + 1 : Nat) : Int)) = true) → oracle_Right.l0 k l (l.length : Int) (i : Int) = some (decide ((l.length : Int) ≤ 4096))) ∧
    ((∃ j : Nat, i ≤ j + 1 ∧ j + 1 < l.length ∧ ltP (rdP l (j : Int)) (rdP l ((j + 1 : Nat) : Int)) = false) → oracle_Right.l0 k l (l.length : Int) (i : Int) = some false) := by
  induction r generalizing i k with
  | zero =>
    obtain ⟨k, rfl⟩ : ∃ q, k = q + 1 := ⟨k - 1, by omega⟩
    refine ⟨fun _ => ?_, fun ⟨j, h1, h2, _⟩ => absurd h2 (by omega)⟩
    rw [oracle_Right.l0, if_neg (by omega)]
  | succ r ih =>
    obtain ⟨k, rfl⟩ : ∃ q, k = q + 1 := ⟨k - 1, by omega⟩
    have ih' := ih (i + 1) k (by omega) (by omega)
    rw [oracle_Right.l0, if_pos (by omega), In64_nat (by omega)]
    by_cases h0 : i = 0
    · subst h0
      rw [if_neg (by omega)]
      refine ⟨fun h => ih'.1 fun j h1 h2 => h j (by omega) h2, fun ⟨j, h1, h2, h3⟩ => ih'.2 ⟨j, by omega, h2, h3⟩⟩
    · have e1 : wrap64 ((i : Int) - 1) = ((i - 1 : Nat) : Int) := by
        unfold wrap64
        omega
      rw [if_pos (by omega), e1, if_pos (by omega), if_pos (by omega), if_pos (by omega), if_pos (by omega)]
      have e2 := oord_f (rdP l ((i - 1 : Nat) : Int)) (rdP l (i : Int)) k (by omega)
      unfold rdP at e2
      rw [e2, Option.bind_some]
      have ei : ((i - 1 + 1 : Nat) : Int) = (i : Int) := by omega
      have hge : (ordP (rdP l ((i - 1 : Nat) : Int)) (rdP l (i : Int)) ≥ 0) = ¬ ltP (rdP l ((i - 1 : Nat) : Int)) (rdP l (i : Int)) = true := by
        rw [← ordP_lt]
        exact propext ⟨fun h => by omega, fun h => by omega⟩
      unfold rdP at hge
      by_cases hlt : ltP (rdP l ((i - 1 : Nat) : Int)) (rdP l (i : Int)) = true
      · unfold rdP at hlt
        rw [if_neg (by rw [hge]; exact not_not_intro hlt)]
        refine ⟨fun h => ih'.1 fun j h1 h2 => h j (by omega) h2, fun ⟨j, h1, h2, h3⟩ => ih'.2 ⟨j, ?_, h2, h3⟩⟩
        by_cases hj : i + 1 ≤ j + 1
        · exact hj
        · obtain rfl : j = i - 1 := by omega
          rw [ei] at h3
          unfold rdP at h3
          rw [h3] at hlt
          cases hlt
      · refine ⟨fun h => absurd ?_ hlt, fun _ => ?_⟩
        · have := h (i - 1) (by omega) (by omega)
          rw [ei] at this
          exact this
        · unfold rdP at hlt
          rw [if_pos (by rw [hge]; exact hlt)]
theorem oright_f (l : List Pr) (hl : l.length ≤ 9223372036854775807) : oracle_Right.f (l.length + 4) l = some (tabB l) := by
  have h := oright_l l hl l.length 0 (l.length + 4) (by omega) (by omega)
  unfold oracle_Right.f
  by_cases hg : ∀ j : Nat, j + 1 < l.length → ltP (rdP l (j : Int)) (rdP l ((j + 1 : Nat) : Int)) = true
  · have h1 := h.1 fun j _ hj => hg j hj
    rw [show ((0 : Nat) : Int) = 0 from rfl] at h1
    rw [h1]
    congr 1
    rw [Bool.eq_iff_iff, tabB_iff, decide_eq_true_iff]
    exact ⟨fun h => ⟨by omega, hg⟩, fun h => by have := h.1; omega⟩
  · have hb : ∃ j : Nat, j + 1 < l.length ∧ ltP (rdP l (j : Int)) (rdP l ((j + 1 : Nat) : Int)) = false := by
      apply Classical.byContradiction
      intro hn
      apply hg
      intro j hj
      apply Classical.byContradiction
      intro hne
      exact hn ⟨j, hj, by simpa using hne⟩
    obtain ⟨j, hj, hf⟩ := hb
    have h1 := h.2 ⟨j, by omega, hj, hf⟩
    rw [show ((0 : Nat) : Int) = 0 from rfl] at h1
    rw [h1]
    congr 1
    rw [Eq.comm, Bool.eq_false_iff]
    intro ht
    have := (tabB_iff.1 ht).2 j hj
    rw [hf] at this
    cases this
theorem oRightE (A : Option Addr) (n c : Nat) (l : List Pr) (r : Bool) (w : World) (hA : kP.C w A n l) (hc : n ≤ c) (h : tabB l = r) : Calls Try.prog 25 #[.slice A n c] w fun e w' => e = .returned (.bool r) ∧ Below w.heap.size w w' := by
  have hm := Kd.C_max hA
  obtain rfl := Kd.C_len hA
  exact oracle_Right.calls (l.length + 4) A c l r w hA hc (h ▸ oright_f l hm)
theorem oHasE (A : Option Addr) (n c : Nat) (l : List Pr) (p : Pr) (r : Bool) (w : World) (hA : kP.C w A n l) (hc : n ≤ c) (ht : tabB l = true) (h : decide (p ∈ l) = r) : Calls Try.prog 26 #[.slice A n c, .agg #[.int .u64 p.f0, .int .u64 p.f1]] w
    fun e w' => e = .returned (.bool r) ∧ Below w.heap.size w w' := h ▸ oHas A n c l p w hA hc ht
/-- Is an item right, by a table? -/
def chk (t : List Pr) (it : It) : Bool :=
  if keysF it.f2.f1 it.f1 = none then false
  else if it.f2.f0 = true ∨ it.f0.length = 0 ∨ it.f2.f1.length ≠ it.f0.length then false
  else if tabB t = false ∨ (uniq it.f0).length ≠ it.f2.f1.length then false
  else it.f2.f1.all fun p => it.f0.contains p.f0 && decide (p ∈ t)
/-- Its keys are words. -/
def okI (it : It) : Prop := (∀ x ∈ it.f0, (Lit.int .u64 x).wf = true) ∧ (∀ p ∈ it.f2.f1, (Lit.int .u64 p.f0).wf = true)
theorem keysF_len {l : List Pr} {root : Int} {ks : List Int} (h : keysF l root = some ks) : ks.length = l.length := by
  unfold keysF at h
  split at h
  · cases h
    simp
  · cases h
end Go.Proofs.Ytnfglkgkdechlaa

namespace Go.Proofs.Ytnfglkgkdechlaa.PQ
open Go.RowKit Go.Proofs.YtnfglkgkdechlaaW.PrintWords Go.Proofs.YtnfglkgkdechlaaW.PrintLast Go.Proofs.YtnfglkgkdechlaaW.PrintMore
attribute [local go_sem] max2_int min2_int max_two min_two max_three min_three max_four min_four   -- for this text's walks alone

attribute [local go_sem high] eqA52

/-! ### mootbellref05_Ahead: function 39 -/
def mootbellref05_Ahead.f (a0_0 : Int) (a0_1 : Int) (a1_0 : Int) (a1_1 : Int) : Option (Bool) := if a0_0 < a1_0 then (some true) else (if a0_0 = a1_0 then (some (decide (a0_1 < a1_1))) else (some false))
set_option maxHeartbeats 8000000 in
set_option maxRecDepth 100000 in
theorem mootbellref05_Ahead.calls (a0_0 : Int) (a0_1 : Int) (a1_0 : Int) (a1_1 : Int) (r : Bool) (w : World) (h : mootbellref05_Ahead.f a0_0 a0_1 a1_0 a1_1 = some r) :
    Calls Try.prog 39 #[.agg #[.int .u64 a0_0, .int .u64 a0_1], .agg #[.int .u64 a1_0, .int .u64 a1_1]] w fun e w' => e = .returned (.bool r) ∧ Below w.heap.size w w' := by
  have hu52 := Try.underlying52
  have HB := Aside0.mk (Below.refl w.heap.size w)
  have H : (if a0_0 < a1_0 then (some true) else (if a0_0 = a1_0 then (some (decide (a0_1 < a1_1))) else (some false))) = some r := h
  clear h
  by_cases c3 : a0_0 < a1_0
  · rw [if_pos c3] at H
    have c3b0 : decide (a0_0 < a1_0) = true := decide_eq_true c3
    clear c3
    obtain rfl := Option.some.inj H
    go_enter Try.func39, Try.ntmps39
    go_wp2_with (first | ((with_reducible refine gate_dst (N := 2) rfl ?_); refine box_event ?hg (N := 2) ?hd (cs := #[.int .u64 a0_0, .int .u64 a0_1]) (t := 52) ?hr ?_; (case hd => rfl); (case hg => rfl); (case hr => first | (go_simp; done) | (go_simp; rfl)); intro gb117 hg w4 hbox hb; have n0_ := Aside0.mk (below_step (by repeat (first | (with_reducible first | exact HB.out | apply below_alloc | apply pw_below_drewN | apply below_drew1) | exact HB.out)) hb); have n1_ := Aside0.mk (hbox); have n2_ := Aside0.mk ((by rw [hg]; exact (below_size (by repeat (first | (with_reducible first | exact HB.out | apply below_alloc | apply pw_below_drewN | apply below_drew1) | exact HB.out))) : w.heap.size ≤ gb117)); have n3_ := Aside0.mk ((by rw [hg]; exact (below_size (by repeat (first | (with_reducible first | exact HB.out | apply below_alloc | apply pw_below_drewN | apply below_drew1) | exact HB.out))) : w.heap.size ≤ gb117)); clear HB; have HB := n0_; have BK117 := n1_; have GW117 := n2_; have GE117 := n3_; clear n0_ n1_ n2_ n3_; clear hb hbox hg) | ((with_reducible refine gate_dst (N := 3) rfl ?_); refine box_event ?hg (N := 3) ?hd (cs := #[.int .u64 a1_0, .int .u64 a1_1]) (t := 52) ?hr ?_; (case hd => rfl); (case hg => rfl); (case hr => first | (go_simp; done) | (go_simp; rfl)); intro gb118 hg w5 hbox hb; have n0_ := Aside0.mk (blk_below (g := gb117) (o := .cells #[.int .u64 a0_0, .int .u64 a0_1] 52 (0, 0)) (by (with_reducible repeat (first | refine blk_drewN ?_ _ | refine blk_drew ?_ | refine blk_alloc ?_ _)); exact BK117.out) hb); have n1_ := Aside0.mk (below_step (by repeat (first | (with_reducible first | exact HB.out | apply below_alloc | apply pw_below_drewN | apply below_drew1 | refine below_set ?_ GE117.out) | exact HB.out)) hb); have n2_ := Aside0.mk (hbox); have n3_ := Aside0.mk ((by rw [hg]; exact (below_size (by repeat (first | (with_reducible first | exact HB.out | apply below_alloc | apply pw_below_drewN | apply below_drew1 | refine below_set ?_ GE117.out) | exact HB.out))) : w.heap.size ≤ gb118)); have n4_ := Aside0.mk ((by rw [hg]; exact (below_size (by repeat (first | (with_reducible first | exact HB.out | apply below_alloc | apply pw_below_drewN | apply below_drew1 | refine below_set ?_ GE117.out) | exact HB.out))) : w.heap.size ≤ gb118)); have n5_ := Aside0.mk ((by rw [hg]; exact Nat.ne_of_lt (blk_lt (g := gb117) (o := .cells #[.int .u64 a0_0, .int .u64 a0_1] 52 (0, 0)) (by (with_reducible repeat (first | refine blk_drewN ?_ _ | refine blk_drew ?_ | refine blk_alloc ?_ _)); exact BK117.out)) : gb117 ≠ gb118)); have n6_ := Aside0.mk ((by rw [hg]; exact Nat.ne_of_gt (blk_lt (g := gb117) (o := .cells #[.int .u64 a0_0, .int .u64 a0_1] 52 (0, 0)) (by (with_reducible repeat (first | refine blk_drewN ?_ _ | refine blk_drew ?_ | refine blk_alloc ?_ _)); exact BK117.out)) : gb118 ≠ gb117)); clear BK117; clear HB; have BK117 := n0_; have HB := n1_; have BK118 := n2_; have GW118 := n3_; have GE118 := n4_; have NB117_118 := n5_; have NB118_117 := n6_; clear n0_ n1_ n2_ n3_ n4_ n5_ n6_; clear hb hbox hg; have hnb6 := NB117_118.out; have hnc6 := NB118_117.out; have hcz7_0 : w5.cell? ⟨gb117, 0, none⟩ = some (.int .u64 a0_0) := (blk_cell BK117.out 0).trans rfl; have hcz7_1 : w5.cell? ⟨gb117, 1, none⟩ = some (.int .u64 a0_1) := (blk_cell BK117.out 1).trans rfl; have hfz7_0 := blk_frozen BK117.out 0; have hfz7_1 := blk_frozen BK117.out 1; have hcz8_0 : w5.cell? ⟨gb118, 0, none⟩ = some (.int .u64 a1_0) := (blk_cell BK118.out 0).trans rfl; have hcz8_1 : w5.cell? ⟨gb118, 1, none⟩ = some (.int .u64 a1_1) := (blk_cell BK118.out 1).trans rfl; have hfz8_0 := blk_frozen BK118.out 0; have hfz8_1 := blk_frozen BK118.out 1))
    go_ret
    exact ⟨by first | rfl | (simp [errW_none, errW_some] <;> rfl) | (simp [*, errW_none, errW_some] <;> rfl), by repeat (first | (with_reducible first | exact HB.out | apply below_alloc | apply pw_below_drewN | apply below_drew1 | refine below_set ?_ GE117.out | refine below_set ?_ GE118.out) | exact HB.out)⟩
  · rw [if_neg c3] at H
    have c3b0 : decide (a0_0 < a1_0) = false := decide_eq_false c3
    clear c3
    by_cases c9 : a0_0 = a1_0
    · rw [if_pos c9] at H
      have c9b0 : (a0_0 == a1_0) = true := beq_iff_eq.mpr c9
      have c9b1 : (a0_0 != a1_0) = false := bne_eq_false_iff_eq.mpr c9
      clear c9
      obtain rfl := Option.some.inj H
      go_enter Try.func39, Try.ntmps39
      go_wp2_with (first | ((with_reducible refine gate_dst (N := 2) rfl ?_); refine box_event ?hg (N := 2) ?hd (cs := #[.int .u64 a0_0, .int .u64 a0_1]) (t := 52) ?hr ?_; (case hd => rfl); (case hg => rfl); (case hr => first | (go_simp; done) | (go_simp; rfl)); intro gb117 hg w10 hbox hb; have n0_ := Aside0.mk (below_step (by repeat (first | (with_reducible first | exact HB.out | apply below_alloc | apply pw_below_drewN | apply below_drew1) | exact HB.out)) hb); have n1_ := Aside0.mk (hbox); have n2_ := Aside0.mk ((by rw [hg]; exact (below_size (by repeat (first | (with_reducible first | exact HB.out | apply below_alloc | apply pw_below_drewN | apply below_drew1) | exact HB.out))) : w.heap.size ≤ gb117)); have n3_ := Aside0.mk ((by rw [hg]; exact (below_size (by repeat (first | (with_reducible first | exact HB.out | apply below_alloc | apply pw_below_drewN | apply below_drew1) | exact HB.out))) : w.heap.size ≤ gb117)); clear HB; have HB := n0_; have BK117 := n1_; have GW117 := n2_; have GE117 := n3_; clear n0_ n1_ n2_ n3_; clear hb hbox hg) | ((with_reducible refine gate_dst (N := 3) rfl ?_); refine box_event ?hg (N := 3) ?hd (cs := #[.int .u64 a1_0, .int .u64 a1_1]) (t := 52) ?hr ?_; (case hd => rfl); (case hg => rfl); (case hr => first | (go_simp; done) | (go_simp; rfl)); intro gb118 hg w11 hbox hb; have n0_ := Aside0.mk (blk_below (g := gb117) (o := .cells #[.int .u64 a0_0, .int .u64 a0_1] 52 (0, 0)) (by (with_reducible repeat (first | refine blk_drewN ?_ _ | refine blk_drew ?_ | refine blk_alloc ?_ _)); exact BK117.out) hb); have n1_ := Aside0.mk (below_step (by repeat (first | (with_reducible first | exact HB.out | apply below_alloc | apply pw_below_drewN | apply below_drew1 | refine below_set ?_ GE117.out) | exact HB.out)) hb); have n2_ := Aside0.mk (hbox); have n3_ := Aside0.mk ((by rw [hg]; exact (below_size (by repeat (first | (with_reducible first | exact HB.out | apply below_alloc | apply pw_below_drewN | apply below_drew1 | refine below_set ?_ GE117.out) | exact HB.out))) : w.heap.size ≤ gb118)); have n4_ := Aside0.mk ((by rw [hg]; exact (below_size (by repeat (first | (with_reducible first | exact HB.out | apply below_alloc | apply pw_below_drewN | apply below_drew1 | refine below_set ?_ GE117.out) | exact HB.out))) : w.heap.size ≤ gb118)); have n5_ := Aside0.mk ((by rw [hg]; exact Nat.ne_of_lt (blk_lt (g := gb117) (o := .cells #[.int .u64 a0_0, .int .u64 a0_1] 52 (0, 0)) (by (with_reducible repeat (first | refine blk_drewN ?_ _ | refine blk_drew ?_ | refine blk_alloc ?_ _)); exact BK117.out)) : gb117 ≠ gb118)); have n6_ := Aside0.mk ((by rw [hg]; exact Nat.ne_of_gt (blk_lt (g := gb117) (o := .cells #[.int .u64 a0_0, .int .u64 a0_1] 52 (0, 0)) (by (with_reducible repeat (first | refine blk_drewN ?_ _ | refine blk_drew ?_ | refine blk_alloc ?_ _)); exact BK117.out)) : gb118 ≠ gb117)); clear BK117; clear HB; have BK117 := n0_; have HB := n1_; have BK118 := n2_; have GW118 := n3_; have GE118 := n4_; have NB117_118 := n5_; have NB118_117 := n6_; clear n0_ n1_ n2_ n3_ n4_ n5_ n6_; clear hb hbox hg; have hnb12 := NB117_118.out; have hnc12 := NB118_117.out; have hcz13_0 : w11.cell? ⟨gb117, 0, none⟩ = some (.int .u64 a0_0) := (blk_cell BK117.out 0).trans rfl; have hcz13_1 : w11.cell? ⟨gb117, 1, none⟩ = some (.int .u64 a0_1) := (blk_cell BK117.out 1).trans rfl; have hfz13_0 := blk_frozen BK117.out 0; have hfz13_1 := blk_frozen BK117.out 1; have hcz14_0 : w11.cell? ⟨gb118, 0, none⟩ = some (.int .u64 a1_0) := (blk_cell BK118.out 0).trans rfl; have hcz14_1 : w11.cell? ⟨gb118, 1, none⟩ = some (.int .u64 a1_1) := (blk_cell BK118.out 1).trans rfl; have hfz14_0 := blk_frozen BK118.out 0; have hfz14_1 := blk_frozen BK118.out 1))
      go_ret
      exact ⟨by first | rfl | (simp [errW_none, errW_some] <;> rfl) | (simp [*, errW_none, errW_some] <;> rfl), by repeat (first | (with_reducible first | exact HB.out | apply below_alloc | apply pw_below_drewN | apply below_drew1 | refine below_set ?_ GE117.out | refine below_set ?_ GE118.out) | exact HB.out)⟩
    · rw [if_neg c9] at H
      have c9b0 : (a0_0 == a1_0) = false := beq_eq_false_iff_ne.mpr c9
      have c9b1 : (a0_0 != a1_0) = true := bne_iff_ne.mpr c9
      obtain rfl := Option.some.inj H
      go_enter Try.func39, Try.ntmps39
      go_wp2_with (first | ((with_reducible refine gate_dst (N := 2) rfl ?_); refine box_event ?hg (N := 2) ?hd (cs := #[.int .u64 a0_0, .int .u64 a0_1]) (t := 52) ?hr ?_; (case hd => rfl); (case hg => rfl); (case hr => first | (go_simp; done) | (go_simp; rfl)); intro gb117 hg w15 hbox hb; have n0_ := Aside0.mk (below_step (by repeat (first | (with_reducible first | exact HB.out | apply below_alloc | apply pw_below_drewN | apply below_drew1) | exact HB.out)) hb); have n1_ := Aside0.mk (hbox); have n2_ := Aside0.mk ((by rw [hg]; exact (below_size (by repeat (first | (with_reducible first | exact HB.out | apply below_alloc | apply pw_below_drewN | apply below_drew1) | exact HB.out))) : w.heap.size ≤ gb117)); have n3_ := Aside0.mk ((by rw [hg]; exact (below_size (by repeat (first | (with_reducible first | exact HB.out | apply below_alloc | apply pw_below_drewN | apply below_drew1) | exact HB.out))) : w.heap.size ≤ gb117)); clear HB; have HB := n0_; have BK117 := n1_; have GW117 := n2_; have GE117 := n3_; clear n0_ n1_ n2_ n3_; clear hb hbox hg) | ((with_reducible refine gate_dst (N := 3) rfl ?_); refine box_event ?hg (N := 3) ?hd (cs := #[.int .u64 a1_0, .int .u64 a1_1]) (t := 52) ?hr ?_; (case hd => rfl); (case hg => rfl); (case hr => first | (go_simp; done) | (go_simp; rfl)); intro gb118 hg w16 hbox hb; have n0_ := Aside0.mk (blk_below (g := gb117) (o := .cells #[.int .u64 a0_0, .int .u64 a0_1] 52 (0, 0)) (by (with_reducible repeat (first | refine blk_drewN ?_ _ | refine blk_drew ?_ | refine blk_alloc ?_ _)); exact BK117.out) hb); have n1_ := Aside0.mk (below_step (by repeat (first | (with_reducible first | exact HB.out | apply below_alloc | apply pw_below_drewN | apply below_drew1 | refine below_set ?_ GE117.out) | exact HB.out)) hb); have n2_ := Aside0.mk (hbox); have n3_ := Aside0.mk ((by rw [hg]; exact (below_size (by repeat (first | (with_reducible first | exact HB.out | apply below_alloc | apply pw_below_drewN | apply below_drew1 | refine below_set ?_ GE117.out) | exact HB.out))) : w.heap.size ≤ gb118)); have n4_ := Aside0.mk ((by rw [hg]; exact (below_size (by repeat (first | (with_reducible first | exact HB.out | apply below_alloc | apply pw_below_drewN | apply below_drew1 | refine below_set ?_ GE117.out) | exact HB.out))) : w.heap.size ≤ gb118)); have n5_ := Aside0.mk ((by rw [hg]; exact Nat.ne_of_lt (blk_lt (g := gb117) (o := .cells #[.int .u64 a0_0, .int .u64 a0_1] 52 (0, 0)) (by (with_reducible repeat (first | refine blk_drewN ?_ _ | refine blk_drew ?_ | refine blk_alloc ?_ _)); exact BK117.out)) : gb117 ≠ gb118)); have n6_ := Aside0.mk ((by rw [hg]; exact Nat.ne_of_gt (blk_lt (g := gb117) (o := .cells #[.int .u64 a0_0, .int .u64 a0_1] 52 (0, 0)) (by (with_reducible repeat (first | refine blk_drewN ?_ _ | refine blk_drew ?_ | refine blk_alloc ?_ _)); exact BK117.out)) : gb118 ≠ gb117)); clear BK117; clear HB; have BK117 := n0_; have HB := n1_; have BK118 := n2_; have GW118 := n3_; have GE118 := n4_; have NB117_118 := n5_; have NB118_117 := n6_; clear n0_ n1_ n2_ n3_ n4_ n5_ n6_; clear hb hbox hg; have hnb17 := NB117_118.out; have hnc17 := NB118_117.out; have hcz18_0 : w16.cell? ⟨gb117, 0, none⟩ = some (.int .u64 a0_0) := (blk_cell BK117.out 0).trans rfl; have hcz18_1 : w16.cell? ⟨gb117, 1, none⟩ = some (.int .u64 a0_1) := (blk_cell BK117.out 1).trans rfl; have hfz18_0 := blk_frozen BK117.out 0; have hfz18_1 := blk_frozen BK117.out 1; have hcz19_0 : w16.cell? ⟨gb118, 0, none⟩ = some (.int .u64 a1_0) := (blk_cell BK118.out 0).trans rfl; have hcz19_1 : w16.cell? ⟨gb118, 1, none⟩ = some (.int .u64 a1_1) := (blk_cell BK118.out 1).trans rfl; have hfz19_0 := blk_frozen BK118.out 0; have hfz19_1 := blk_frozen BK118.out 1))
      go_ret
      exact ⟨by first | rfl | (simp [errW_none, errW_some] <;> rfl) | (simp [*, errW_none, errW_some] <;> rfl), by repeat (first | (with_reducible first | exact HB.out | apply below_alloc | apply pw_below_drewN | apply below_drew1 | refine below_set ?_ GE117.out | refine below_set ?_ GE118.out) | exact HB.out)⟩
end Go.Proofs.Ytnfglkgkdechlaa.PQ

