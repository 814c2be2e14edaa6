import Derived.Test.YtnfglkgkdechlaaQx0
import Derived.Test.YtnfglkgkdechlaaQx1
import Derived.Test.YtnfglkgkdechlaaF1
import Derived.Test.YtnfglkgkdechlaaF2
import Derived.Deep.RegionHeld3
import Derived.Maps.OwnSet
import Derived.Maps.AppendAt
import Derived.Test.YtnfglkgkdechlaaF0
import Derived.Laws.EntriesVeiled
import Derived.WalkMore
import Derived.ScopeJumps
import Derived.Test.YtnfglkgkdechlaaBase
set_option linter.unusedVariables false
set_option linter.unusedSimpArgs false
namespace Go.Proofs.Ytnfglkgkdechlaa.PQ
open Go.RowKit Go.Proofs.YtnfglkgkdechlaaW.PrintWords Go.Proofs.YtnfglkgkdechlaaW.PrintLast Go.Proofs.YtnfglkgkdechlaaW.PrintMore
attribute [local go_sem] max2_int min2_int max_two min_two max_three min_three max_four min_four   -- for this text's walks alone

/-! ### mootbellref07_Check: function 35 -/
mutual
def mootbellref07_Check.l0 : Nat → List (S52) → Int → List Int → Int → Bool → List (S52) → Option (Bool)
  | 0, _, _, _, _, _, _ => none
  | k + 1, x0, x5, x162000, x162001, x162002, x162003 => if x5 < (x162000.length : Int) then (mootbellref07_Check.l1 k x0 x5 0 x162000 x162001 x162002 x162003) else ((mootbellref07_Sign.f k x162001 x162000).bind fun bt164 => ((mootbellref05_Same.f k bt164.1 bt164.2.1 x162002 x162003).bind fun t170 => (if bt164.2.2 = 0 then (if t170 = true then (mootbellref07_Check.j2 k x0 ((x162000.length : Int) == 0) bt164.1 bt164.2.1) else (mootbellref07_Check.j2 k x0 true bt164.1 bt164.2.1)) else (mootbellref07_Check.j2 k x0 true bt164.1 bt164.2.1))))
def mootbellref07_Check.l1 : Nat → List (S52) → Int → Int → List Int → Int → Bool → List (S52) → Option (Bool)
  | 0, _, _, _, _, _, _, _ => none
  | k + 1, x0, x5, x6, x162000, x162001, x162002, x162003 => if x6 < x5 then (if 0 ≤ x5 then (if x5 < (x162000.length : Int) then (if 0 ≤ x6 then (if x6 < (x162000.length : Int) then (if (rd x162000 x5) = (rd x162000 x6) then (some false) else (mootbellref07_Check.l1 k x0 x5 (wrap64 (x6 + 1)) x162000 x162001 x162002 x162003)) else (none)) else (none)) else (none)) else (none)) else (mootbellref07_Check.l0 k x0 (wrap64 (x5 + 1)) x162000 x162001 x162002 x162003)
def mootbellref07_Check.j2 : Nat → List (S52) → Bool → Bool → List (S52) → Option (Bool)
  | 0, _, _, _, _ => none
  | k + 1, x0, x58, x170000, x170001 => if x58 = true then (some false) else (mootbellref07_Check.l2 k x0 0 x170000 x170001)
def mootbellref07_Check.l2 : Nat → List (S52) → Int → Bool → List (S52) → Option (Bool)
  | 0, _, _, _, _ => none
  | k + 1, x0, x10, x170000, x170001 => if x10 < (x170001.length : Int) then (if 0 ≤ x10 then ((mootbellref07_Valid.f k x0 ((rd_T52 x170001 x10).f0) ((rd_T52 x170001 x10).f1)).bind fun t172 => (if t172 = true then (mootbellref07_Check.l2 k x0 (wrap64 (x10 + 1)) x170000 x170001) else (some false))) else (none)) else (some true)
end
def mootbellref07_Check.f (k : Nat) (l0 : List (S52)) (l1_0 : List Int) (a1_1 : Int) (a1_2 : Bool) (l1_3 : List (S52)) : Option (Bool) := mootbellref07_Check.l0 k l0 0 l1_0 a1_1 a1_2 l1_3
theorem mootbellref07_Check.mono_l : ∀ k, (∀ y0 y1 y2 y3 y4 y5, LeO (mootbellref07_Check.l0 k y0 y1 y2 y3 y4 y5) (mootbellref07_Check.l0 (k + 1) y0 y1 y2 y3 y4 y5)) ∧ (∀ y0 y1 y2 y3 y4 y5 y6, LeO (mootbellref07_Check.l1 k y0 y1 y2 y3 y4 y5 y6) (mootbellref07_Check.l1 (k + 1) y0 y1 y2 y3 y4 y5 y6)) ∧ (∀ y0 y1 y2 y3, LeO (mootbellref07_Check.j2 k y0 y1 y2 y3) (mootbellref07_Check.j2 (k + 1) y0 y1 y2 y3)) ∧ (∀ y0 y1 y2 y3, LeO (mootbellref07_Check.l2 k y0 y1 y2 y3) (mootbellref07_Check.l2 (k + 1) y0 y1 y2 y3))
  | 0 => ⟨fun _ _ _ _ _ _ r h => by simp [mootbellref07_Check.l0] at h, fun _ _ _ _ _ _ _ r h => by simp [mootbellref07_Check.l1] at h, fun _ _ _ _ r h => by simp [mootbellref07_Check.j2] at h, fun _ _ _ _ r h => by simp [mootbellref07_Check.l2] at h⟩
  | k + 1 => by
    obtain ⟨ih0, ih1, ih2, ih3⟩ := mootbellref07_Check.mono_l k
    refine ⟨?_, ?_, ?_, ?_⟩
    · intro y0 y1 y2 y3 y4 y5
      unfold mootbellref07_Check.l0
      repeat' first
      | (with_reducible exact ih0 _ _ _ _ _ _)
      | (with_reducible exact ih1 _ _ _ _ _ _ _)
      | (with_reducible exact ih2 _ _ _ _)
      | (with_reducible exact ih3 _ _ _ _)
      | (with_reducible exact mootbellref05_Same.mono _ _ _ _ _)
      | (with_reducible exact mootbellref07_Sign.mono _ _ _)
      | (with_reducible exact mootbellref07_Valid.mono _ _ _ _)
      | (with_reducible exact LeO.refl _)
      | (with_reducible exact LeO.none _)
      | (with_reducible refine LeO.ite ?_ ?_)
      | (with_reducible refine LeO.bind ?_ (fun _ => ?_))
      | exact ih0 _ _ _ _ _ _
      | exact ih1 _ _ _ _ _ _ _
      | exact ih2 _ _ _ _
      | exact ih3 _ _ _ _
      | exact mootbellref05_Same.mono _ _ _ _ _
      | exact mootbellref07_Sign.mono _ _ _
      | exact mootbellref07_Valid.mono _ _ _ _
      | exact LeO.none _
      | refine LeO.ite ?_ ?_
      | refine LeO.bind ?_ (fun _ => ?_)
    · intro y0 y1 y2 y3 y4 y5 y6
      unfold mootbellref07_Check.l1
      repeat' first
      | (with_reducible exact ih0 _ _ _ _ _ _)
      | (with_reducible exact ih1 _ _ _ _ _ _ _)
      | (with_reducible exact ih2 _ _ _ _)
      | (with_reducible exact ih3 _ _ _ _)
      | (with_reducible exact mootbellref05_Same.mono _ _ _ _ _)
      | (with_reducible exact mootbellref07_Sign.mono _ _ _)
      | (with_reducible exact mootbellref07_Valid.mono _ _ _ _)
      | (with_reducible exact LeO.refl _)
      | (with_reducible exact LeO.none _)
      | (with_reducible refine LeO.ite ?_ ?_)
      | (with_reducible refine LeO.bind ?_ (fun _ => ?_))
      | exact ih0 _ _ _ _ _ _
      | exact ih1 _ _ _ _ _ _ _
      | exact ih2 _ _ _ _
      | exact ih3 _ _ _ _
      | exact mootbellref05_Same.mono _ _ _ _ _
      | exact mootbellref07_Sign.mono _ _ _
      | exact mootbellref07_Valid.mono _ _ _ _
      | exact LeO.none _
      | refine LeO.ite ?_ ?_
      | refine LeO.bind ?_ (fun _ => ?_)
    · intro y0 y1 y2 y3
      unfold mootbellref07_Check.j2
      repeat' first
      | (with_reducible exact ih0 _ _ _ _ _ _)
      | (with_reducible exact ih1 _ _ _ _ _ _ _)
      | (with_reducible exact ih2 _ _ _ _)
      | (with_reducible exact ih3 _ _ _ _)
      | (with_reducible exact mootbellref05_Same.mono _ _ _ _ _)
      | (with_reducible exact mootbellref07_Sign.mono _ _ _)
      | (with_reducible exact mootbellref07_Valid.mono _ _ _ _)
      | (with_reducible exact LeO.refl _)
      | (with_reducible exact LeO.none _)
      | (with_reducible refine LeO.ite ?_ ?_)
      | (with_reducible refine LeO.bind ?_ (fun _ => ?_))
      | exact ih0 _ _ _ _ _ _
      | exact ih1 _ _ _ _ _ _ _
      | exact ih2 _ _ _ _
      | exact ih3 _ _ _ _
      | exact mootbellref05_Same.mono _ _ _ _ _
      | exact mootbellref07_Sign.mono _ _ _
      | exact mootbellref07_Valid.mono _ _ _ _
      | exact LeO.none _
      | refine LeO.ite ?_ ?_
      | refine LeO.bind ?_ (fun _ => ?_)
    · intro y0 y1 y2 y3
      unfold mootbellref07_Check.l2
      repeat' first
      | (with_reducible exact ih0 _ _ _ _ _ _)
      | (with_reducible exact ih1 _ _ _ _ _ _ _)
      | (with_reducible exact ih2 _ _ _ _)
      | (with_reducible exact ih3 _ _ _ _)
      | (with_reducible exact mootbellref05_Same.mono _ _ _ _ _)
      | (with_reducible exact mootbellref07_Sign.mono _ _ _)
      | (with_reducible exact mootbellref07_Valid.mono _ _ _ _)
      | (with_reducible exact LeO.refl _)
      | (with_reducible exact LeO.none _)
      | (with_reducible refine LeO.ite ?_ ?_)
      | (with_reducible refine LeO.bind ?_ (fun _ => ?_))
      | exact ih0 _ _ _ _ _ _
      | exact ih1 _ _ _ _ _ _ _
      | exact ih2 _ _ _ _
      | exact ih3 _ _ _ _
      | exact mootbellref05_Same.mono _ _ _ _ _
      | exact mootbellref07_Sign.mono _ _ _
      | exact mootbellref07_Valid.mono _ _ _ _
      | exact LeO.none _
      | refine LeO.ite ?_ ?_
      | refine LeO.bind ?_ (fun _ => ?_)
theorem mootbellref07_Check.mono : ∀ a0 a1 a2 a3 a4 k, LeO (mootbellref07_Check.f k a0 a1 a2 a3 a4) (mootbellref07_Check.f (k + 1) a0 a1 a2 a3 a4) := by
  intro a0 a1 a2 a3 a4 k
  obtain ⟨ih0, ih1, ih2, ih3⟩ := mootbellref07_Check.mono_l k
  unfold mootbellref07_Check.f
  repeat' first
      | (with_reducible exact ih0 _ _ _ _ _ _)
      | (with_reducible exact ih1 _ _ _ _ _ _ _)
      | (with_reducible exact ih2 _ _ _ _)
      | (with_reducible exact ih3 _ _ _ _)
      | (with_reducible exact mootbellref05_Same.mono _ _ _ _ _)
      | (with_reducible exact mootbellref07_Sign.mono _ _ _)
      | (with_reducible exact mootbellref07_Valid.mono _ _ _ _)
      | (with_reducible exact LeO.refl _)
      | (with_reducible exact LeO.none _)
      | (with_reducible refine LeO.ite ?_ ?_)
      | (with_reducible refine LeO.bind ?_ (fun _ => ?_))
      | exact ih0 _ _ _ _ _ _
      | exact ih1 _ _ _ _ _ _ _
      | exact ih2 _ _ _ _
      | exact ih3 _ _ _ _
      | exact mootbellref05_Same.mono _ _ _ _ _
      | exact mootbellref07_Sign.mono _ _ _
      | exact mootbellref07_Valid.mono _ _ _ _
      | exact LeO.none _
      | refine LeO.ite ?_ ?_
      | refine LeO.bind ?_ (fun _ => ?_)
set_option maxHeartbeats 8000000 in
set_option maxRecDepth 100000 in
theorem mootbellref07_Check.calls (k : Nat) (A0 : Option Addr) (c0 : Nat) (l0 : List (S52)) (A1_0 : Option Addr) (c1_0 : Nat) (l1_0 : List Int) (a1_1 : Int) (a1_2 : Bool) (A1_3 : Option Addr) (c1_3 : Nat) (l1_3 : List (S52)) (r : Bool) (w : World) (hr0 : Kd.C k52 w A0 l0.length l0) (hc0 : l0.length ≤ c0) (hr1_0 : Kd.C (Kd.int .u64) w A1_0 l1_0.length l1_0) (hc1_0 : l1_0.length ≤ c1_0) (hr1_3 : Kd.C k52 w A1_3 l1_3.length l1_3) (hc1_3 : l1_3.length ≤ c1_3) (h : mootbellref07_Check.f k l0 l1_0 a1_1 a1_2 l1_3 = some r) :
    Calls Try.prog 35 #[.slice A0 l0.length c0, .agg #[.slice A1_0 l1_0.length c1_0, .int .u64 a1_1, .bool a1_2, .slice A1_3 l1_3.length c1_3]] w fun e w' => e = .returned (.bool r) ∧ Below w.heap.size w w' := by
  have hu32 := Try.underlying32
  have hu30 := Try.underlying30
  have hu52 := Try.underlying52
  have HR0 := Aside0.mk hr0
  have HC0 := Aside0.mk hc0
  clear hr0 hc0
  have HR1_0 := Aside0.mk hr1_0
  have HC1_0 := Aside0.mk hc1_0
  clear hr1_0 hc1_0
  have HR1_3 := Aside0.mk hr1_3
  have HC1_3 := Aside0.mk hc1_3
  clear hr1_3 hc1_3
  have HB := Aside0.mk (Below.refl w.heap.size w)
  have H : (mootbellref07_Check.l0 k l0 0 l1_0 a1_1 a1_2 l1_3) = some r := h
  clear h
  have H' := Aside0.mk H
  clear H
  go_enter Try.func35, Try.ntmps35
  go_wp2_with (first | ((with_reducible refine gate_dst (N := 3) rfl ?_); (try (refine gate_guard (by rfl) ?_; dsimp only)); refine box_event ?hg (N := 3) ?hd (cs := #[.slice A1_0 l1_0.length c1_0, .int .u64 a1_1, .bool a1_2, .slice A1_3 l1_3.length c1_3]) (t := 32) ?hr ?_; (case hd => rfl); (case hg => rfl); (case hr => first | (go_simp; done) | (go_simp; rfl)); intro gb161 hg w3 hbox hb; have n0_ := Aside0.mk (below_step (by repeat (first | (with_reducible first | exact HB.out | apply below_alloc | apply pw_below_drewN | apply below_drew1) | exact HB.out)) hb); have n1_ := Aside0.mk (hbox); have n2_ := Aside0.mk ((by rw [hg]; exact (below_size (by repeat (first | (with_reducible first | exact HB.out | apply below_alloc | apply pw_below_drewN | apply below_drew1) | exact HB.out))) : w.heap.size ≤ gb161)); have n3_ := Aside0.mk ((by rw [hg]; exact (below_size (by repeat (first | (with_reducible first | exact HB.out | apply below_alloc | apply pw_below_drewN | apply below_drew1) | exact HB.out))) : w.heap.size ≤ gb161)); clear HB; have HB := n0_; have BK161 := n1_; have GW161 := n2_; have GE161 := n3_; clear n0_ n1_ n2_ n3_; clear hb hbox hg))
  repeat (go_quiet (first | ((with_reducible refine gate_dst (N := 3) rfl ?_); (try (refine gate_guard (by rfl) ?_; dsimp only)); refine box_event ?hg (N := 3) ?hd (cs := #[.slice A1_0 l1_0.length c1_0, .int .u64 a1_1, .bool a1_2, .slice A1_3 l1_3.length c1_3]) (t := 32) ?hr ?_; (case hd => rfl); (case hg => rfl); (case hr => first | (go_simp; done) | (go_simp; rfl)); intro gb161 hg w3 hbox hb; have n0_ := Aside0.mk (below_step (by repeat (first | (with_reducible first | exact HB.out | apply below_alloc | apply pw_below_drewN | apply below_drew1) | exact HB.out)) hb); have n1_ := Aside0.mk (hbox); have n2_ := Aside0.mk ((by rw [hg]; exact (below_size (by repeat (first | (with_reducible first | exact HB.out | apply below_alloc | apply pw_below_drewN | apply below_drew1) | exact HB.out))) : w.heap.size ≤ gb161)); have n3_ := Aside0.mk ((by rw [hg]; exact (below_size (by repeat (first | (with_reducible first | exact HB.out | apply below_alloc | apply pw_below_drewN | apply below_drew1) | exact HB.out))) : w.heap.size ≤ gb161)); clear HB; have HB := n0_; have BK161 := n1_; have GW161 := n2_; have GE161 := n3_; clear n0_ n1_ n2_ n3_; clear hb hbox hg)); try go_wp2_with (first | ((with_reducible refine gate_dst (N := 3) rfl ?_); (try (refine gate_guard (by rfl) ?_; dsimp only)); refine box_event ?hg (N := 3) ?hd (cs := #[.slice A1_0 l1_0.length c1_0, .int .u64 a1_1, .bool a1_2, .slice A1_3 l1_3.length c1_3]) (t := 32) ?hr ?_; (case hd => rfl); (case hg => rfl); (case hr => first | (go_simp; done) | (go_simp; rfl)); intro gb161 hg w3 hbox hb; have n0_ := Aside0.mk (below_step (by repeat (first | (with_reducible first | exact HB.out | apply below_alloc | apply pw_below_drewN | apply below_drew1) | exact HB.out)) hb); have n1_ := Aside0.mk (hbox); have n2_ := Aside0.mk ((by rw [hg]; exact (below_size (by repeat (first | (with_reducible first | exact HB.out | apply below_alloc | apply pw_below_drewN | apply below_drew1) | exact HB.out))) : w.heap.size ≤ gb161)); have n3_ := Aside0.mk ((by rw [hg]; exact (below_size (by repeat (first | (with_reducible first | exact HB.out | apply below_alloc | apply pw_below_drewN | apply below_drew1) | exact HB.out))) : w.heap.size ≤ gb161)); clear HB; have HB := n0_; have BK161 := n1_; have GW161 := n2_; have GE161 := n3_; clear n0_ n1_ n2_ n3_; clear hb hbox hg)))
  go_loopg [5] k (fun kq v5 w' => ∃ (x5_1 : Int), v5 = .int .i64 x5_1 ∧ Aside0 (mootbellref07_Check.l0 kq l0 x5_1 l1_0 a1_1 a1_2 l1_3 = some r) ∧ Aside0 (kq ≤ k) ∧ Aside0 (w'.heap[gb161]? = some (.cells #[(.slice A1_0 l1_0.length c1_0), .int .u64 a1_1, .bool a1_2, (.slice A1_3 l1_3.length c1_3)] 32 (0, 0))) ∧ Aside0 (Below w.heap.size w w'))
  case atStart => exact ⟨(0), (by first | rfl | (simp; done) | (simp [*]; done)), H', ⟨Nat.le_refl _⟩, ⟨by (with_reducible repeat (first | refine blk_drewN ?_ _ | refine blk_drew ?_ | refine blk_alloc ?_ _)); exact BK161.out⟩, ⟨by repeat (first | (with_reducible first | exact HB.out | apply below_alloc | apply pw_below_drewN | apply below_drew1 | refine below_set ?_ GE161.out) | exact HB.out)⟩⟩
  case round =>
    clear H'
    try clear c1
    try clear p2
    try clear c3
    obtain ⟨x5_1, rfl, HA, HK1, BK161, HB⟩ := hrel
    cases gk with
    | zero => exact absurd HA.out (by simp [mootbellref07_Check.l0])
    | succ k1 =>
      have H := HA.out
      clear HA
      simp only [mootbellref07_Check.l0] at H
      by_cases c4 : x5_1 < (l1_0.length : Int)
      · rw [if_pos c4] at H
        have c4b0 : decide (x5_1 < (l1_0.length : Int)) = true := decide_eq_true c4
        clear c4
        have H' := Aside0.mk H
        clear H
        have hcz5_0 : wr.cell? ⟨gb161, 0, none⟩ = some (.slice A1_0 l1_0.length c1_0) := (blk_cell BK161.out 0).trans rfl
        have hcz5_1 : wr.cell? ⟨gb161, 1, none⟩ = some (.int .u64 a1_1) := (blk_cell BK161.out 1).trans rfl
        have hcz5_2 : wr.cell? ⟨gb161, 2, none⟩ = some (.bool a1_2) := (blk_cell BK161.out 2).trans rfl
        have hcz5_3 : wr.cell? ⟨gb161, 3, none⟩ = some (.slice A1_3 l1_3.length c1_3) := (blk_cell BK161.out 3).trans rfl
        have hfz5_0 := blk_frozen BK161.out 0
        have hfz5_1 := blk_frozen BK161.out 1
        have hfz5_2 := blk_frozen BK161.out 2
        have hfz5_3 := blk_frozen BK161.out 3
        go_wp2
        repeat (go_quiet (fail); try go_wp2)
        go_loopg [6] k1 (fun kq v6 w' => ∃ (x6_2 : Int), v6 = .int .i64 x6_2 ∧ Aside0 (mootbellref07_Check.l1 kq l0 x5_1 x6_2 l1_0 a1_1 a1_2 l1_3 = some r) ∧ Aside0 (kq ≤ k1) ∧ Aside0 (w'.heap[gb161]? = some (.cells #[(.slice A1_0 l1_0.length c1_0), .int .u64 a1_1, .bool a1_2, (.slice A1_3 l1_3.length c1_3)] 32 (0, 0))) ∧ Aside0 (Below w.heap.size w w'))
        case atStart => exact ⟨(0), (by first | rfl | (simp; done) | (simp [*]; done)), H', ⟨Nat.le_refl _⟩, ⟨by (with_reducible repeat (first | refine blk_drewN ?_ _ | refine blk_drew ?_ | refine blk_alloc ?_ _)); exact BK161.out⟩, ⟨by repeat (first | (with_reducible first | exact HB.out | apply below_alloc | apply pw_below_drewN | apply below_drew1 | refine below_set ?_ GE161.out) | exact HB.out)⟩⟩
        case round =>
          clear H'
          try clear c1
          try clear p2
          try clear c3
          try clear c4
          try clear c4b0
          try clear hcz5_0
          try clear hcz5_1
          try clear hcz5_2
          try clear hcz5_3
          try clear hfz5_0
          try clear hfz5_1
          try clear hfz5_2
          try clear hfz5_3
          try clear p2
          obtain ⟨x6_2, rfl, HA, HK2, BK161, HB⟩ := hrel
          cases gk with
          | zero => exact absurd HA.out (by simp [mootbellref07_Check.l1])
          | succ k2 =>
            have H := HA.out
            clear HA
            simp only [mootbellref07_Check.l1] at H
            by_cases c6 : x6_2 < x5_1
            · rw [if_pos c6] at H
              have c6b0 : decide (x6_2 < x5_1) = true := decide_eq_true c6
              clear c6
              by_cases c7 : 0 ≤ x5_1
              · rw [if_pos c7] at H
                have c7b0 : decide (0 ≤ x5_1) = true := decide_eq_true c7
                clear c7
                by_cases c8 : x5_1 < (l1_0.length : Int)
                · rw [if_pos c8] at H
                  have c8b0 : decide (x5_1 < (l1_0.length : Int)) = true := decide_eq_true c8
                  clear c8
                  by_cases c9 : 0 ≤ x6_2
                  · rw [if_pos c9] at H
                    have c9b0 : decide (0 ≤ x6_2) = true := decide_eq_true c9
                    clear c9
                    by_cases c10 : x6_2 < (l1_0.length : Int)
                    · rw [if_pos c10] at H
                      have c10b0 : decide (x6_2 < (l1_0.length : Int)) = true := decide_eq_true c10
                      clear c10
                      by_cases c11 : (rd l1_0 x5_1) = (rd l1_0 x6_2)
                      · rw [if_pos c11] at H
                        have c11b0 : ((rd l1_0 x5_1) == (rd l1_0 x6_2)) = true := beq_iff_eq.mpr c11
                        have c11b1 : ((rd l1_0 x5_1) != (rd l1_0 x6_2)) = false := bne_eq_false_iff_eq.mpr c11
                        clear c11
                        obtain rfl := Option.some.inj H
                        have hcz12_0 : wr.cell? ⟨gb161, 0, none⟩ = some (.slice A1_0 l1_0.length c1_0) := (blk_cell BK161.out 0).trans rfl
                        have hcz12_1 : wr.cell? ⟨gb161, 1, none⟩ = some (.int .u64 a1_1) := (blk_cell BK161.out 1).trans rfl
                        have hcz12_2 : wr.cell? ⟨gb161, 2, none⟩ = some (.bool a1_2) := (blk_cell BK161.out 2).trans rfl
                        have hcz12_3 : wr.cell? ⟨gb161, 3, none⟩ = some (.slice A1_3 l1_3.length c1_3) := (blk_cell BK161.out 3).trans rfl
                        have hfz12_0 := blk_frozen BK161.out 0
                        have hfz12_1 := blk_frozen BK161.out 1
                        have hfz12_2 := blk_frozen BK161.out 2
                        have hfz12_3 := blk_frozen BK161.out 3
                        have p162 : 0 ≤ (x5_1 : Int) := of_decide_eq_true (by first | (with_reducible assumption) | assumption)
                        have q162 : x5_1 < (l1_0.length : Int) := of_decide_eq_true (by first | (with_reducible assumption) | assumption)
                        obtain ⟨ad162, e162, hx162_0⟩ := Kd.at_int HR1_0.out x5_1 p162 q162
                        cases e162
                        replace hx162_0 := (HB.out.cell (World.block_lt_of_cell? w _ hx162_0)).trans hx162_0
                        replace p162 := eq_true p162
                        replace q162 := eq_true q162
                        have p163 : 0 ≤ (x6_2 : Int) := of_decide_eq_true (by first | (with_reducible assumption) | assumption)
                        have q163 : x6_2 < (l1_0.length : Int) := of_decide_eq_true (by first | (with_reducible assumption) | assumption)
                        obtain ⟨ad163, e163, hx163_0⟩ := Kd.at_int HR1_0.out x6_2 p163 q163
                        obtain rfl : ad162 = ad163 := (by injection e163)
                        replace hx163_0 := (HB.out.cell (World.block_lt_of_cell? w _ hx163_0)).trans hx163_0
                        replace p163 := eq_true p163
                        replace q163 := eq_true q163
                        go_wp2
                        repeat (go_quiet (fail); try go_wp2)
                        go_ret
                        exact ⟨by first | rfl | (simp [errW_none, errW_some] <;> rfl) | (simp [*, errW_none, errW_some] <;> rfl), by repeat (first | (with_reducible first | exact HB.out | apply below_alloc | apply pw_below_drewN | apply below_drew1 | refine below_set ?_ GE161.out) | exact HB.out)⟩
                      · rw [if_neg c11] at H
                        have c11b0 : ((rd l1_0 x5_1) == (rd l1_0 x6_2)) = false := beq_eq_false_iff_ne.mpr c11
                        have c11b1 : ((rd l1_0 x5_1) != (rd l1_0 x6_2)) = true := bne_iff_ne.mpr c11
                        have H' := Aside0.mk H
                        clear H
                        have hcz13_0 : wr.cell? ⟨gb161, 0, none⟩ = some (.slice A1_0 l1_0.length c1_0) := (blk_cell BK161.out 0).trans rfl
                        have hcz13_1 : wr.cell? ⟨gb161, 1, none⟩ = some (.int .u64 a1_1) := (blk_cell BK161.out 1).trans rfl
                        have hcz13_2 : wr.cell? ⟨gb161, 2, none⟩ = some (.bool a1_2) := (blk_cell BK161.out 2).trans rfl
                        have hcz13_3 : wr.cell? ⟨gb161, 3, none⟩ = some (.slice A1_3 l1_3.length c1_3) := (blk_cell BK161.out 3).trans rfl
                        have hfz13_0 := blk_frozen BK161.out 0
                        have hfz13_1 := blk_frozen BK161.out 1
                        have hfz13_2 := blk_frozen BK161.out 2
                        have hfz13_3 := blk_frozen BK161.out 3
                        have p162 : 0 ≤ (x5_1 : Int) := of_decide_eq_true (by first | (with_reducible assumption) | assumption)
                        have q162 : x5_1 < (l1_0.length : Int) := of_decide_eq_true (by first | (with_reducible assumption) | assumption)
                        obtain ⟨ad162, e162, hx162_0⟩ := Kd.at_int HR1_0.out x5_1 p162 q162
                        cases e162
                        replace hx162_0 := (HB.out.cell (World.block_lt_of_cell? w _ hx162_0)).trans hx162_0
                        replace p162 := eq_true p162
                        replace q162 := eq_true q162
                        have p163 : 0 ≤ (x6_2 : Int) := of_decide_eq_true (by first | (with_reducible assumption) | assumption)
                        have q163 : x6_2 < (l1_0.length : Int) := of_decide_eq_true (by first | (with_reducible assumption) | assumption)
                        obtain ⟨ad163, e163, hx163_0⟩ := Kd.at_int HR1_0.out x6_2 p163 q163
                        obtain rfl : ad162 = ad163 := (by injection e163)
                        replace hx163_0 := (HB.out.cell (World.block_lt_of_cell? w _ hx163_0)).trans hx163_0
                        replace p163 := eq_true p163
                        replace q163 := eq_true q163
                        go_wp2
                        repeat (go_quiet (fail); try go_wp2)
                        go_roundg k2
                        case measure => have := HK1.out; have := HK2.out; omega
                        case rel => exact ⟨(wrap64 (x6_2 + 1)), (by first | rfl | (simp; done) | (simp [*]; done)), H', ⟨by have := HK1.out; have := HK2.out; omega⟩, ⟨by (with_reducible repeat (first | refine blk_drewN ?_ _ | refine blk_drew ?_ | refine blk_alloc ?_ _)); exact BK161.out⟩, ⟨by repeat (first | (with_reducible first | exact HB.out | apply below_alloc | apply pw_below_drewN | apply below_drew1 | refine below_set ?_ GE161.out) | exact HB.out)⟩⟩
                    · rw [if_neg c10] at H
                      exact absurd H (by simp)
                  · rw [if_neg c9] at H
                    exact absurd H (by simp)
                · rw [if_neg c8] at H
                  exact absurd H (by simp)
              · rw [if_neg c7] at H
                exact absurd H (by simp)
            · rw [if_neg c6] at H
              have c6b0 : decide (x6_2 < x5_1) = false := decide_eq_false c6
              clear c6
              have H' := Aside0.mk H
              clear H
              go_wp2
              repeat (go_quiet (fail); try go_wp2)
              go_roundg k2
              case measure => have := HK1.out; have := HK2.out; omega
              case rel => exact ⟨(wrap64 (x5_1 + 1)), (by first | rfl | (simp; done) | (simp [*]; done)), H', ⟨by have := HK1.out; have := HK2.out; omega⟩, ⟨by (with_reducible repeat (first | refine blk_drewN ?_ _ | refine blk_drew ?_ | refine blk_alloc ?_ _)); exact BK161.out⟩, ⟨by repeat (first | (with_reducible first | exact HB.out | apply below_alloc | apply pw_below_drewN | apply below_drew1 | refine below_set ?_ GE161.out) | exact HB.out)⟩⟩
      · rw [if_neg c4] at H
        have c4b0 : decide (x5_1 < (l1_0.length : Int)) = false := decide_eq_false c4
        clear c4
        replace H := Option.bind_eq_some_iff.mp H
        obtain ⟨⟨t164, t165, t168⟩, A140, H⟩ := H
        replace H : ((mootbellref05_Same.f k1 t164 t165 a1_2 l1_3).bind fun t170 => (if t168 = 0 then (if t170 = true then (mootbellref07_Check.j2 k1 l0 ((l1_0.length : Int) == 0) t164 t165) else (mootbellref07_Check.j2 k1 l0 true t164 t165)) else (mootbellref07_Check.j2 k1 l0 true t164 t165))) = some r := H
        have A14 := Aside0.mk A140
        clear A140
        replace H := Option.bind_eq_some_iff.mp H
        obtain ⟨t170, A150, H⟩ := H
        replace H : (if t168 = 0 then (if t170 = true then (mootbellref07_Check.j2 k1 l0 ((l1_0.length : Int) == 0) t164 t165) else (mootbellref07_Check.j2 k1 l0 true t164 t165)) else (mootbellref07_Check.j2 k1 l0 true t164 t165)) = some r := H
        have A15 := Aside0.mk A150
        clear A150
        have HC16 := Aside0.mk H
        clear H
        have hcz17_0 : wr.cell? ⟨gb161, 0, none⟩ = some (.slice A1_0 l1_0.length c1_0) := (blk_cell BK161.out 0).trans rfl
        have hcz17_1 : wr.cell? ⟨gb161, 1, none⟩ = some (.int .u64 a1_1) := (blk_cell BK161.out 1).trans rfl
        have hcz17_2 : wr.cell? ⟨gb161, 2, none⟩ = some (.bool a1_2) := (blk_cell BK161.out 2).trans rfl
        have hcz17_3 : wr.cell? ⟨gb161, 3, none⟩ = some (.slice A1_3 l1_3.length c1_3) := (blk_cell BK161.out 3).trans rfl
        have hfz17_0 := blk_frozen BK161.out 0
        have hfz17_1 := blk_frozen BK161.out 1
        have hfz17_2 := blk_frozen BK161.out 2
        have hfz17_3 := blk_frozen BK161.out 3
        go_upto_region 11 with (first | (go_at_call 29; (with_reducible refine (mootbellref07_Sign.calls k1 a1_1 _ _ l1_0 t164 t165 t168 _ ?side1 ?side2 A14.out).mono ?_); (case side1 => repeat (first | exact (Kd.C_below HR1_0.out HB.out) | (with_reducible refine Kd.C_alloc ?_ _) | (with_reducible refine Kd.C_drewN ?_ _) | (with_reducible refine Kd.C_drew ?_))); (case side2 => exact HC1_0.out); rintro e w18 ⟨v166, rfl, ho0, hb⟩; have n0_ := Aside0.mk (Kd.R_lower ho0 (below_size (by repeat (first | (with_reducible first | exact HB.out | apply below_alloc | apply pw_below_drewN | apply below_drew1 | refine below_set ?_ GE161.out) | exact HB.out)))); have n1_ := Aside0.mk (blk_below (g := gb161) (o := .cells #[.slice A1_0 l1_0.length c1_0, .int .u64 a1_1, .bool a1_2, .slice A1_3 l1_3.length c1_3] 32 (0, 0)) (by (with_reducible repeat (first | refine blk_drewN ?_ _ | refine blk_drew ?_ | refine blk_alloc ?_ _)); exact BK161.out) hb); have n2_ := Aside0.mk (below_step (by repeat (first | (with_reducible first | exact HB.out | apply below_alloc | apply pw_below_drewN | apply below_drew1 | refine below_set ?_ GE161.out) | exact HB.out)) hb); clear BK161; clear HB; have HO167 := n0_; have BK161 := n1_; have HB := n2_; clear n0_ n1_ n2_; (try clear hb); (try clear hb2); (try clear hk); (try clear hi); (try clear ho0)) | ((with_reducible refine gate_dst (N := 7) rfl ?_); (try (refine gate_guard (by rfl) ?_; dsimp only)); refine box_event ?hg (N := 7) ?hd (cs := #[.bool false, .slice none 0 0]) (t := 30) ?hr ?_; (case hd => rfl); (case hg => rfl); (case hr => first | (go_simp; done) | (go_simp; rfl)); intro gb169 hg w19 hbox hb; have n0_ := Aside0.mk (Kd.R_below (by (with_reducible repeat (first | apply Kd.R_alloc | apply Kd.R_drewN | apply Kd.R_drew)); exact HO167.out) hb); have n1_ := Aside0.mk (blk_below (g := gb161) (o := .cells #[.slice A1_0 l1_0.length c1_0, .int .u64 a1_1, .bool a1_2, .slice A1_3 l1_3.length c1_3] 32 (0, 0)) (by (with_reducible repeat (first | refine blk_drewN ?_ _ | refine blk_drew ?_ | refine blk_alloc ?_ _)); exact BK161.out) hb); have n2_ := Aside0.mk (below_step (by repeat (first | (with_reducible first | exact HB.out | apply below_alloc | apply pw_below_drewN | apply below_drew1 | refine below_set ?_ GE161.out) | exact HB.out)) hb); have n3_ := Aside0.mk (hbox); have n4_ := Aside0.mk ((by rw [hg]; exact (below_size (by repeat (first | (with_reducible first | exact HB.out | apply below_alloc | apply pw_below_drewN | apply below_drew1 | refine below_set ?_ GE161.out) | exact HB.out))) : w.heap.size ≤ gb169)); have n5_ := Aside0.mk ((by rw [hg]; exact (below_size (by repeat (first | (with_reducible first | exact HB.out | apply below_alloc | apply pw_below_drewN | apply below_drew1 | refine below_set ?_ GE161.out) | exact HB.out))) : w.heap.size ≤ gb169)); have n6_ := Aside0.mk ((by rw [hg]; exact Nat.ne_of_lt (blk_lt (g := gb161) (o := .cells #[.slice A1_0 l1_0.length c1_0, .int .u64 a1_1, .bool a1_2, .slice A1_3 l1_3.length c1_3] 32 (0, 0)) (by (with_reducible repeat (first | refine blk_drewN ?_ _ | refine blk_drew ?_ | refine blk_alloc ?_ _)); exact BK161.out)) : gb161 ≠ gb169)); have n7_ := Aside0.mk ((by rw [hg]; exact Nat.ne_of_gt (blk_lt (g := gb161) (o := .cells #[.slice A1_0 l1_0.length c1_0, .int .u64 a1_1, .bool a1_2, .slice A1_3 l1_3.length c1_3] 32 (0, 0)) (by (with_reducible repeat (first | refine blk_drewN ?_ _ | refine blk_drew ?_ | refine blk_alloc ?_ _)); exact BK161.out)) : gb169 ≠ gb161)); clear HO167; clear BK161; clear HB; have HO167 := n0_; have BK161 := n1_; have HB := n2_; have BK169 := n3_; have GW169 := n4_; have GE169 := n5_; have NB161_169 := n6_; have NB169_161 := n7_; clear n0_ n1_ n2_ n3_ n4_ n5_ n6_ n7_; clear hb hbox hg; have hnb20 := NB169_161.out; have hnc20 := NB161_169.out; have hcz21_0 : w19.cell? ⟨gb169, 0, none⟩ = some (.bool false) := (blk_cell BK169.out 0).trans rfl; have hcz21_1 : w19.cell? ⟨gb169, 1, none⟩ = some (.slice none 0 0) := (blk_cell BK169.out 1).trans rfl; have hfz21_0 := blk_frozen BK169.out 0; have hfz21_1 := blk_frozen BK169.out 1; obtain ⟨Ao22, co22, eo22⟩ := Kd.R_slice HO167.out; subst eo22; have hcz23_0 : w19.cell? ⟨gb161, 0, none⟩ = some (.slice A1_0 l1_0.length c1_0) := (blk_cell BK161.out 0).trans rfl; have hcz23_1 : w19.cell? ⟨gb161, 1, none⟩ = some (.int .u64 a1_1) := (blk_cell BK161.out 1).trans rfl; have hcz23_2 : w19.cell? ⟨gb161, 2, none⟩ = some (.bool a1_2) := (blk_cell BK161.out 2).trans rfl; have hcz23_3 : w19.cell? ⟨gb161, 3, none⟩ = some (.slice A1_3 l1_3.length c1_3) := (blk_cell BK161.out 3).trans rfl; have hfz23_0 := blk_frozen BK161.out 0; have hfz23_1 := blk_frozen BK161.out 1; have hfz23_2 := blk_frozen BK161.out 2; have hfz23_3 := blk_frozen BK161.out 3) | (go_at_call 41; (with_reducible refine (mootbellref05_Same.calls k1 t164 _ _ t165 a1_2 _ _ l1_3 t170 _ ?side1 ?side2 ?side3 ?side4 A15.out).mono ?_); (case side1 => refine (Kd.R_reads' (e := 52) (base := w.heap.size) (ok := fun k_ => True) (n := t165.length) (c := co22) ?_).2.2; exact (by (with_reducible repeat (first | apply Kd.R_alloc | apply Kd.R_drewN | apply Kd.R_drew)); exact (Kd.R_mono (Kd.R_far (p := ⟨gb169, 1, none⟩) (Kd.R_far (p := ⟨gb169, 0, none⟩) (Kd.R_types HO167.out BK169.out (by decide)) (fun _ hk => hk.2) (.bool t164)) (fun _ hk => hk.2) (.slice Ao22 t165.length co22)) (fun _ h_ => h_.1)))); (case side2 => exact (Kd.R_reads' HO167.out).2.1); (case side3 => exact Kd.C_below HR1_3.out (by repeat (first | (with_reducible first | exact HB.out | apply below_alloc | apply pw_below_drewN | apply below_drew1 | refine below_set ?_ GE161.out | refine below_set ?_ GE169.out) | exact HB.out))); (case side4 => exact HC1_3.out); rintro e w24 ⟨rfl, hb⟩; have n0_ := Aside0.mk (Kd.R_below (by (with_reducible repeat (first | apply Kd.R_alloc | apply Kd.R_drewN | apply Kd.R_drew)); exact (Kd.R_mono (Kd.R_far (p := ⟨gb169, 1, none⟩) (Kd.R_far (p := ⟨gb169, 0, none⟩) (Kd.R_types HO167.out BK169.out (by decide)) (fun _ hk => hk.2) (.bool t164)) (fun _ hk => hk.2) (.slice Ao22 t165.length co22)) (fun _ h_ => h_.1))) hb); have n1_ := Aside0.mk (blk_below (g := gb161) (o := .cells #[.slice A1_0 l1_0.length c1_0, .int .u64 a1_1, .bool a1_2, .slice A1_3 l1_3.length c1_3] 32 (0, 0)) (by (with_reducible repeat (first | refine blk_drewN ?_ _ | refine blk_drew ?_ | refine blk_alloc ?_ _)); refine blk_far ?_ NB161_169.out _; (with_reducible repeat (first | refine blk_drewN ?_ _ | refine blk_drew ?_ | refine blk_alloc ?_ _)); refine blk_far ?_ NB161_169.out _; (with_reducible repeat (first | refine blk_drewN ?_ _ | refine blk_drew ?_ | refine blk_alloc ?_ _)); exact BK161.out) hb); have n2_ := Aside0.mk (blk_below (g := gb169) (o := .cells #[.bool t164, .slice Ao22 t165.length co22] 30 (0, 0)) (by (with_reducible repeat (first | refine blk_drewN ?_ _ | refine blk_drew ?_ | refine blk_alloc ?_ _)); refine blk_put (cs := #[.bool t164, .slice none 0 0]) ?_ 1 _ rfl; (with_reducible repeat (first | refine blk_drewN ?_ _ | refine blk_drew ?_ | refine blk_alloc ?_ _)); refine blk_put (cs := #[.bool false, .slice none 0 0]) ?_ 0 _ rfl; (with_reducible repeat (first | refine blk_drewN ?_ _ | refine blk_drew ?_ | refine blk_alloc ?_ _)); exact BK169.out) hb); have n3_ := Aside0.mk (below_step (by repeat (first | (with_reducible first | exact HB.out | apply below_alloc | apply pw_below_drewN | apply below_drew1 | refine below_set ?_ GE161.out | refine below_set ?_ GE169.out) | exact HB.out)) hb); clear HO167; clear BK161; clear BK169; clear HB; have HO167 := n0_; have BK161 := n1_; have BK169 := n2_; have HB := n3_; clear n0_ n1_ n2_ n3_; (try clear hb); (try clear hb2); (try clear hk); (try clear hi)))
        repeat (go_quiet (first | (go_at_call 29; (with_reducible refine (mootbellref07_Sign.calls k1 a1_1 _ _ l1_0 t164 t165 t168 _ ?side1 ?side2 A14.out).mono ?_); (case side1 => repeat (first | exact (Kd.C_below HR1_0.out HB.out) | (with_reducible refine Kd.C_alloc ?_ _) | (with_reducible refine Kd.C_drewN ?_ _) | (with_reducible refine Kd.C_drew ?_))); (case side2 => exact HC1_0.out); rintro e w18 ⟨v166, rfl, ho0, hb⟩; have n0_ := Aside0.mk (Kd.R_lower ho0 (below_size (by repeat (first | (with_reducible first | exact HB.out | apply below_alloc | apply pw_below_drewN | apply below_drew1 | refine below_set ?_ GE161.out) | exact HB.out)))); have n1_ := Aside0.mk (blk_below (g := gb161) (o := .cells #[.slice A1_0 l1_0.length c1_0, .int .u64 a1_1, .bool a1_2, .slice A1_3 l1_3.length c1_3] 32 (0, 0)) (by (with_reducible repeat (first | refine blk_drewN ?_ _ | refine blk_drew ?_ | refine blk_alloc ?_ _)); exact BK161.out) hb); have n2_ := Aside0.mk (below_step (by repeat (first | (with_reducible first | exact HB.out | apply below_alloc | apply pw_below_drewN | apply below_drew1 | refine below_set ?_ GE161.out) | exact HB.out)) hb); clear BK161; clear HB; have HO167 := n0_; have BK161 := n1_; have HB := n2_; clear n0_ n1_ n2_; (try clear hb); (try clear hb2); (try clear hk); (try clear hi); (try clear ho0)) | ((with_reducible refine gate_dst (N := 7) rfl ?_); (try (refine gate_guard (by rfl) ?_; dsimp only)); refine box_event ?hg (N := 7) ?hd (cs := #[.bool false, .slice none 0 0]) (t := 30) ?hr ?_; (case hd => rfl); (case hg => rfl); (case hr => first | (go_simp; done) | (go_simp; rfl)); intro gb169 hg w19 hbox hb; have n0_ := Aside0.mk (Kd.R_below (by (with_reducible repeat (first | apply Kd.R_alloc | apply Kd.R_drewN | apply Kd.R_drew)); exact HO167.out) hb); have n1_ := Aside0.mk (blk_below (g := gb161) (o := .cells #[.slice A1_0 l1_0.length c1_0, .int .u64 a1_1, .bool a1_2, .slice A1_3 l1_3.length c1_3] 32 (0, 0)) (by (with_reducible repeat (first | refine blk_drewN ?_ _ | refine blk_drew ?_ | refine blk_alloc ?_ _)); exact BK161.out) hb); have n2_ := Aside0.mk (below_step (by repeat (first | (with_reducible first | exact HB.out | apply below_alloc | apply pw_below_drewN | apply below_drew1 | refine below_set ?_ GE161.out) | exact HB.out)) hb); have n3_ := Aside0.mk (hbox); have n4_ := Aside0.mk ((by rw [hg]; exact (below_size (by repeat (first | (with_reducible first | exact HB.out | apply below_alloc | apply pw_below_drewN | apply below_drew1 | refine below_set ?_ GE161.out) | exact HB.out))) : w.heap.size ≤ gb169)); have n5_ := Aside0.mk ((by rw [hg]; exact (below_size (by repeat (first | (with_reducible first | exact HB.out | apply below_alloc | apply pw_below_drewN | apply below_drew1 | refine below_set ?_ GE161.out) | exact HB.out))) : w.heap.size ≤ gb169)); have n6_ := Aside0.mk ((by rw [hg]; exact Nat.ne_of_lt (blk_lt (g := gb161) (o := .cells #[.slice A1_0 l1_0.length c1_0, .int .u64 a1_1, .bool a1_2, .slice A1_3 l1_3.length c1_3] 32 (0, 0)) (by (with_reducible repeat (first | refine blk_drewN ?_ _ | refine blk_drew ?_ | refine blk_alloc ?_ _)); exact BK161.out)) : gb161 ≠ gb169)); have n7_ := Aside0.mk ((by rw [hg]; exact Nat.ne_of_gt (blk_lt (g := gb161) (o := .cells #[.slice A1_0 l1_0.length c1_0, .int .u64 a1_1, .bool a1_2, .slice A1_3 l1_3.length c1_3] 32 (0, 0)) (by (with_reducible repeat (first | refine blk_drewN ?_ _ | refine blk_drew ?_ | refine blk_alloc ?_ _)); exact BK161.out)) : gb169 ≠ gb161)); clear HO167; clear BK161; clear HB; have HO167 := n0_; have BK161 := n1_; have HB := n2_; have BK169 := n3_; have GW169 := n4_; have GE169 := n5_; have NB161_169 := n6_; have NB169_161 := n7_; clear n0_ n1_ n2_ n3_ n4_ n5_ n6_ n7_; clear hb hbox hg; have hnb20 := NB169_161.out; have hnc20 := NB161_169.out; have hcz21_0 : w19.cell? ⟨gb169, 0, none⟩ = some (.bool false) := (blk_cell BK169.out 0).trans rfl; have hcz21_1 : w19.cell? ⟨gb169, 1, none⟩ = some (.slice none 0 0) := (blk_cell BK169.out 1).trans rfl; have hfz21_0 := blk_frozen BK169.out 0; have hfz21_1 := blk_frozen BK169.out 1; obtain ⟨Ao22, co22, eo22⟩ := Kd.R_slice HO167.out; subst eo22; have hcz23_0 : w19.cell? ⟨gb161, 0, none⟩ = some (.slice A1_0 l1_0.length c1_0) := (blk_cell BK161.out 0).trans rfl; have hcz23_1 : w19.cell? ⟨gb161, 1, none⟩ = some (.int .u64 a1_1) := (blk_cell BK161.out 1).trans rfl; have hcz23_2 : w19.cell? ⟨gb161, 2, none⟩ = some (.bool a1_2) := (blk_cell BK161.out 2).trans rfl; have hcz23_3 : w19.cell? ⟨gb161, 3, none⟩ = some (.slice A1_3 l1_3.length c1_3) := (blk_cell BK161.out 3).trans rfl; have hfz23_0 := blk_frozen BK161.out 0; have hfz23_1 := blk_frozen BK161.out 1; have hfz23_2 := blk_frozen BK161.out 2; have hfz23_3 := blk_frozen BK161.out 3) | (go_at_call 41; (with_reducible refine (mootbellref05_Same.calls k1 t164 _ _ t165 a1_2 _ _ l1_3 t170 _ ?side1 ?side2 ?side3 ?side4 A15.out).mono ?_); (case side1 => refine (Kd.R_reads' (e := 52) (base := w.heap.size) (ok := fun k_ => True) (n := t165.length) (c := co22) ?_).2.2; exact (by (with_reducible repeat (first | apply Kd.R_alloc | apply Kd.R_drewN | apply Kd.R_drew)); exact (Kd.R_mono (Kd.R_far (p := ⟨gb169, 1, none⟩) (Kd.R_far (p := ⟨gb169, 0, none⟩) (Kd.R_types HO167.out BK169.out (by decide)) (fun _ hk => hk.2) (.bool t164)) (fun _ hk => hk.2) (.slice Ao22 t165.length co22)) (fun _ h_ => h_.1)))); (case side2 => exact (Kd.R_reads' HO167.out).2.1); (case side3 => exact Kd.C_below HR1_3.out (by repeat (first | (with_reducible first | exact HB.out | apply below_alloc | apply pw_below_drewN | apply below_drew1 | refine below_set ?_ GE161.out | refine below_set ?_ GE169.out) | exact HB.out))); (case side4 => exact HC1_3.out); rintro e w24 ⟨rfl, hb⟩; have n0_ := Aside0.mk (Kd.R_below (by (with_reducible repeat (first | apply Kd.R_alloc | apply Kd.R_drewN | apply Kd.R_drew)); exact (Kd.R_mono (Kd.R_far (p := ⟨gb169, 1, none⟩) (Kd.R_far (p := ⟨gb169, 0, none⟩) (Kd.R_types HO167.out BK169.out (by decide)) (fun _ hk => hk.2) (.bool t164)) (fun _ hk => hk.2) (.slice Ao22 t165.length co22)) (fun _ h_ => h_.1))) hb); have n1_ := Aside0.mk (blk_below (g := gb161) (o := .cells #[.slice A1_0 l1_0.length c1_0, .int .u64 a1_1, .bool a1_2, .slice A1_3 l1_3.length c1_3] 32 (0, 0)) (by (with_reducible repeat (first | refine blk_drewN ?_ _ | refine blk_drew ?_ | refine blk_alloc ?_ _)); refine blk_far ?_ NB161_169.out _; (with_reducible repeat (first | refine blk_drewN ?_ _ | refine blk_drew ?_ | refine blk_alloc ?_ _)); refine blk_far ?_ NB161_169.out _; (with_reducible repeat (first | refine blk_drewN ?_ _ | refine blk_drew ?_ | refine blk_alloc ?_ _)); exact BK161.out) hb); have n2_ := Aside0.mk (blk_below (g := gb169) (o := .cells #[.bool t164, .slice Ao22 t165.length co22] 30 (0, 0)) (by (with_reducible repeat (first | refine blk_drewN ?_ _ | refine blk_drew ?_ | refine blk_alloc ?_ _)); refine blk_put (cs := #[.bool t164, .slice none 0 0]) ?_ 1 _ rfl; (with_reducible repeat (first | refine blk_drewN ?_ _ | refine blk_drew ?_ | refine blk_alloc ?_ _)); refine blk_put (cs := #[.bool false, .slice none 0 0]) ?_ 0 _ rfl; (with_reducible repeat (first | refine blk_drewN ?_ _ | refine blk_drew ?_ | refine blk_alloc ?_ _)); exact BK169.out) hb); have n3_ := Aside0.mk (below_step (by repeat (first | (with_reducible first | exact HB.out | apply below_alloc | apply pw_below_drewN | apply below_drew1 | refine below_set ?_ GE161.out | refine below_set ?_ GE169.out) | exact HB.out)) hb); clear HO167; clear BK161; clear BK169; clear HB; have HO167 := n0_; have BK161 := n1_; have BK169 := n2_; have HB := n3_; clear n0_ n1_ n2_ n3_; (try clear hb); (try clear hb2); (try clear hk); (try clear hi))); go_upto_region 11 with (first | (go_at_call 29; (with_reducible refine (mootbellref07_Sign.calls k1 a1_1 _ _ l1_0 t164 t165 t168 _ ?side1 ?side2 A14.out).mono ?_); (case side1 => repeat (first | exact (Kd.C_below HR1_0.out HB.out) | (with_reducible refine Kd.C_alloc ?_ _) | (with_reducible refine Kd.C_drewN ?_ _) | (with_reducible refine Kd.C_drew ?_))); (case side2 => exact HC1_0.out); rintro e w18 ⟨v166, rfl, ho0, hb⟩; have n0_ := Aside0.mk (Kd.R_lower ho0 (below_size (by repeat (first | (with_reducible first | exact HB.out | apply below_alloc | apply pw_below_drewN | apply below_drew1 | refine below_set ?_ GE161.out) | exact HB.out)))); have n1_ := Aside0.mk (blk_below (g := gb161) (o := .cells #[.slice A1_0 l1_0.length c1_0, .int .u64 a1_1, .bool a1_2, .slice A1_3 l1_3.length c1_3] 32 (0, 0)) (by (with_reducible repeat (first | refine blk_drewN ?_ _ | refine blk_drew ?_ | refine blk_alloc ?_ _)); exact BK161.out) hb); have n2_ := Aside0.mk (below_step (by repeat (first | (with_reducible first | exact HB.out | apply below_alloc | apply pw_below_drewN | apply below_drew1 | refine below_set ?_ GE161.out) | exact HB.out)) hb); clear BK161; clear HB; have HO167 := n0_; have BK161 := n1_; have HB := n2_; clear n0_ n1_ n2_; (try clear hb); (try clear hb2); (try clear hk); (try clear hi); (try clear ho0)) | ((with_reducible refine gate_dst (N := 7) rfl ?_); (try (refine gate_guard (by rfl) ?_; dsimp only)); refine box_event ?hg (N := 7) ?hd (cs := #[.bool false, .slice none 0 0]) (t := 30) ?hr ?_; (case hd => rfl); (case hg => rfl); (case hr => first | (go_simp; done) | (go_simp; rfl)); intro gb169 hg w19 hbox hb; have n0_ := Aside0.mk (Kd.R_below (by (with_reducible repeat (first | apply Kd.R_alloc | apply Kd.R_drewN | apply Kd.R_drew)); exact HO167.out) hb); have n1_ := Aside0.mk (blk_below (g := gb161) (o := .cells #[.slice A1_0 l1_0.length c1_0, .int .u64 a1_1, .bool a1_2, .slice A1_3 l1_3.length c1_3] 32 (0, 0)) (by (with_reducible repeat (first | refine blk_drewN ?_ _ | refine blk_drew ?_ | refine blk_alloc ?_ _)); exact BK161.out) hb); have n2_ := Aside0.mk (below_step (by repeat (first | (with_reducible first | exact HB.out | apply below_alloc | apply pw_below_drewN | apply below_drew1 | refine below_set ?_ GE161.out) | exact HB.out)) hb); have n3_ := Aside0.mk (hbox); have n4_ := Aside0.mk ((by rw [hg]; exact (below_size (by repeat (first | (with_reducible first | exact HB.out | apply below_alloc | apply pw_below_drewN | apply below_drew1 | refine below_set ?_ GE161.out) | exact HB.out))) : w.heap.size ≤ gb169)); have n5_ := Aside0.mk ((by rw [hg]; exact (below_size (by repeat (first | (with_reducible first | exact HB.out | apply below_alloc | apply pw_below_drewN | apply below_drew1 | refine below_set ?_ GE161.out) | exact HB.out))) : w.heap.size ≤ gb169)); have n6_ := Aside0.mk ((by rw [hg]; exact Nat.ne_of_lt (blk_lt (g := gb161) (o := .cells #[.slice A1_0 l1_0.length c1_0, .int .u64 a1_1, .bool a1_2, .slice A1_3 l1_3.length c1_3] 32 (0, 0)) (by (with_reducible repeat (first | refine blk_drewN ?_ _ | refine blk_drew ?_ | refine blk_alloc ?_ _)); exact BK161.out)) : gb161 ≠ gb169)); have n7_ := Aside0.mk ((by rw [hg]; exact Nat.ne_of_gt (blk_lt (g := gb161) (o := .cells #[.slice A1_0 l1_0.length c1_0, .int .u64 a1_1, .bool a1_2, .slice A1_3 l1_3.length c1_3] 32 (0, 0)) (by (with_reducible repeat (first | refine blk_drewN ?_ _ | refine blk_drew ?_ | refine blk_alloc ?_ _)); exact BK161.out)) : gb169 ≠ gb161)); clear HO167; clear BK161; clear HB; have HO167 := n0_; have BK161 := n1_; have HB := n2_; have BK169 := n3_; have GW169 := n4_; have GE169 := n5_; have NB161_169 := n6_; have NB169_161 := n7_; clear n0_ n1_ n2_ n3_ n4_ n5_ n6_ n7_; clear hb hbox hg; have hnb20 := NB169_161.out; have hnc20 := NB161_169.out; have hcz21_0 : w19.cell? ⟨gb169, 0, none⟩ = some (.bool false) := (blk_cell BK169.out 0).trans rfl; have hcz21_1 : w19.cell? ⟨gb169, 1, none⟩ = some (.slice none 0 0) := (blk_cell BK169.out 1).trans rfl; have hfz21_0 := blk_frozen BK169.out 0; have hfz21_1 := blk_frozen BK169.out 1; obtain ⟨Ao22, co22, eo22⟩ := Kd.R_slice HO167.out; subst eo22; have hcz23_0 : w19.cell? ⟨gb161, 0, none⟩ = some (.slice A1_0 l1_0.length c1_0) := (blk_cell BK161.out 0).trans rfl; have hcz23_1 : w19.cell? ⟨gb161, 1, none⟩ = some (.int .u64 a1_1) := (blk_cell BK161.out 1).trans rfl; have hcz23_2 : w19.cell? ⟨gb161, 2, none⟩ = some (.bool a1_2) := (blk_cell BK161.out 2).trans rfl; have hcz23_3 : w19.cell? ⟨gb161, 3, none⟩ = some (.slice A1_3 l1_3.length c1_3) := (blk_cell BK161.out 3).trans rfl; have hfz23_0 := blk_frozen BK161.out 0; have hfz23_1 := blk_frozen BK161.out 1; have hfz23_2 := blk_frozen BK161.out 2; have hfz23_3 := blk_frozen BK161.out 3) | (go_at_call 41; (with_reducible refine (mootbellref05_Same.calls k1 t164 _ _ t165 a1_2 _ _ l1_3 t170 _ ?side1 ?side2 ?side3 ?side4 A15.out).mono ?_); (case side1 => refine (Kd.R_reads' (e := 52) (base := w.heap.size) (ok := fun k_ => True) (n := t165.length) (c := co22) ?_).2.2; exact (by (with_reducible repeat (first | apply Kd.R_alloc | apply Kd.R_drewN | apply Kd.R_drew)); exact (Kd.R_mono (Kd.R_far (p := ⟨gb169, 1, none⟩) (Kd.R_far (p := ⟨gb169, 0, none⟩) (Kd.R_types HO167.out BK169.out (by decide)) (fun _ hk => hk.2) (.bool t164)) (fun _ hk => hk.2) (.slice Ao22 t165.length co22)) (fun _ h_ => h_.1)))); (case side2 => exact (Kd.R_reads' HO167.out).2.1); (case side3 => exact Kd.C_below HR1_3.out (by repeat (first | (with_reducible first | exact HB.out | apply below_alloc | apply pw_below_drewN | apply below_drew1 | refine below_set ?_ GE161.out | refine below_set ?_ GE169.out) | exact HB.out))); (case side4 => exact HC1_3.out); rintro e w24 ⟨rfl, hb⟩; have n0_ := Aside0.mk (Kd.R_below (by (with_reducible repeat (first | apply Kd.R_alloc | apply Kd.R_drewN | apply Kd.R_drew)); exact (Kd.R_mono (Kd.R_far (p := ⟨gb169, 1, none⟩) (Kd.R_far (p := ⟨gb169, 0, none⟩) (Kd.R_types HO167.out BK169.out (by decide)) (fun _ hk => hk.2) (.bool t164)) (fun _ hk => hk.2) (.slice Ao22 t165.length co22)) (fun _ h_ => h_.1))) hb); have n1_ := Aside0.mk (blk_below (g := gb161) (o := .cells #[.slice A1_0 l1_0.length c1_0, .int .u64 a1_1, .bool a1_2, .slice A1_3 l1_3.length c1_3] 32 (0, 0)) (by (with_reducible repeat (first | refine blk_drewN ?_ _ | refine blk_drew ?_ | refine blk_alloc ?_ _)); refine blk_far ?_ NB161_169.out _; (with_reducible repeat (first | refine blk_drewN ?_ _ | refine blk_drew ?_ | refine blk_alloc ?_ _)); refine blk_far ?_ NB161_169.out _; (with_reducible repeat (first | refine blk_drewN ?_ _ | refine blk_drew ?_ | refine blk_alloc ?_ _)); exact BK161.out) hb); have n2_ := Aside0.mk (blk_below (g := gb169) (o := .cells #[.bool t164, .slice Ao22 t165.length co22] 30 (0, 0)) (by (with_reducible repeat (first | refine blk_drewN ?_ _ | refine blk_drew ?_ | refine blk_alloc ?_ _)); refine blk_put (cs := #[.bool t164, .slice none 0 0]) ?_ 1 _ rfl; (with_reducible repeat (first | refine blk_drewN ?_ _ | refine blk_drew ?_ | refine blk_alloc ?_ _)); refine blk_put (cs := #[.bool false, .slice none 0 0]) ?_ 0 _ rfl; (with_reducible repeat (first | refine blk_drewN ?_ _ | refine blk_drew ?_ | refine blk_alloc ?_ _)); exact BK169.out) hb); have n3_ := Aside0.mk (below_step (by repeat (first | (with_reducible first | exact HB.out | apply below_alloc | apply pw_below_drewN | apply below_drew1 | refine below_set ?_ GE161.out | refine below_set ?_ GE169.out) | exact HB.out)) hb); clear HO167; clear BK161; clear BK169; clear HB; have HO167 := n0_; have BK161 := n1_; have BK169 := n2_; have HB := n3_; clear n0_ n1_ n2_ n3_; (try clear hb); (try clear hb2); (try clear hk); (try clear hi))))
        (try simp only [Act.put, qa_, qb_, qc_])
        go_cut [58] (fun v58 wc => ∃ (kq : Nat) (x58_15 : Bool), v58 = .bool x58_15 ∧ Aside0 (mootbellref07_Check.j2 kq l0 x58_15 t164 t165 = some r) ∧ Aside0 (kq ≤ k1) ∧ Aside0 (Kd.R k52 52 wc w.heap.size (fun _ => True) (.slice Ao22 t165.length co22) t165) ∧ Aside0 (wc.heap[gb161]? = some (.cells #[(.slice A1_0 l1_0.length c1_0), .int .u64 a1_1, .bool a1_2, (.slice A1_3 l1_3.length c1_3)] 32 (0, 0))) ∧ Aside0 (wc.heap[gb169]? = some (.cells #[.bool t164, (.slice Ao22 t165.length co22)] 30 (0, 0))) ∧ Aside0 (Below w.heap.size w wc))
        case first =>
          have H := HC16.out
          clear HC16
          by_cases c25 : t168 = 0
          · rw [if_pos c25] at H
            have c25b0 : (t168 == 0) = true := beq_iff_eq.mpr c25
            have c25b1 : (t168 != 0) = false := bne_eq_false_iff_eq.mpr c25
            clear c25
            (first | rw [c25b0] | (simp only [i64_w, i32_w]; rw [c25b0]) | skip)
            by_cases c26 : t170 = true
            · subst c26
              have H1 : (mootbellref07_Check.j2 k1 l0 ((l1_0.length : Int) == 0) t164 t165) = some r := by rw [if_pos rfl] at H; exact H
              clear H
              have H := H1
              clear H1
              have H' := Aside0.mk H
              clear H
              have hnb27 := NB161_169.out
              have hnc27 := NB169_161.out
              have hcz28_0 : w24.cell? ⟨gb161, 0, none⟩ = some (.slice A1_0 l1_0.length c1_0) := (blk_cell BK161.out 0).trans rfl
              have hcz28_1 : w24.cell? ⟨gb161, 1, none⟩ = some (.int .u64 a1_1) := (blk_cell BK161.out 1).trans rfl
              have hcz28_2 : w24.cell? ⟨gb161, 2, none⟩ = some (.bool a1_2) := (blk_cell BK161.out 2).trans rfl
              have hcz28_3 : w24.cell? ⟨gb161, 3, none⟩ = some (.slice A1_3 l1_3.length c1_3) := (blk_cell BK161.out 3).trans rfl
              have hfz28_0 := blk_frozen BK161.out 0
              have hfz28_1 := blk_frozen BK161.out 1
              have hfz28_2 := blk_frozen BK161.out 2
              have hfz28_3 := blk_frozen BK161.out 3
              go_wp2
              repeat (go_quiet (fail); try go_wp2)
              go_meet
              case rel => exact ⟨_, (((l1_0.length : Int) == 0)), (by first | rfl | (simp; done) | (simp [*]; done)), H', ⟨by have := HK1.out; first | omega | exact Nat.le_refl _⟩, ⟨by (with_reducible repeat (first | apply Kd.R_alloc | apply Kd.R_drewN | apply Kd.R_drew)); exact HO167.out⟩, ⟨by (with_reducible repeat (first | refine blk_drewN ?_ _ | refine blk_drew ?_ | refine blk_alloc ?_ _)); exact BK161.out⟩, ⟨by (with_reducible repeat (first | refine blk_drewN ?_ _ | refine blk_drew ?_ | refine blk_alloc ?_ _)); exact BK169.out⟩, ⟨by repeat (first | (with_reducible first | exact HB.out | apply below_alloc | apply pw_below_drewN | apply below_drew1 | refine below_set ?_ GE161.out | refine below_set ?_ GE169.out) | exact HB.out)⟩⟩
            · replace c26 := Bool.eq_false_iff.mpr c26
              subst c26
              have H1 : (mootbellref07_Check.j2 k1 l0 true t164 t165) = some r := by rw [if_neg (show ¬ (false = true) by decide)] at H; exact H
              clear H
              have H := H1
              clear H1
              have H' := Aside0.mk H
              clear H
              go_wp2
              repeat (go_quiet (fail); try go_wp2)
              go_meet
              case rel => exact ⟨_, (true), (by first | rfl | (simp; done) | (simp [*]; done)), H', ⟨by have := HK1.out; first | omega | exact Nat.le_refl _⟩, ⟨by (with_reducible repeat (first | apply Kd.R_alloc | apply Kd.R_drewN | apply Kd.R_drew)); exact HO167.out⟩, ⟨by (with_reducible repeat (first | refine blk_drewN ?_ _ | refine blk_drew ?_ | refine blk_alloc ?_ _)); exact BK161.out⟩, ⟨by (with_reducible repeat (first | refine blk_drewN ?_ _ | refine blk_drew ?_ | refine blk_alloc ?_ _)); exact BK169.out⟩, ⟨by repeat (first | (with_reducible first | exact HB.out | apply below_alloc | apply pw_below_drewN | apply below_drew1 | refine below_set ?_ GE161.out | refine below_set ?_ GE169.out) | exact HB.out)⟩⟩
          · rw [if_neg c25] at H
            have c25b0 : (t168 == 0) = false := beq_eq_false_iff_ne.mpr c25
            have c25b1 : (t168 != 0) = true := bne_iff_ne.mpr c25
            (first | rw [c25b0] | (simp only [i64_w, i32_w]; rw [c25b0]) | skip)
            have H' := Aside0.mk H
            clear H
            go_wp2
            repeat (go_quiet (fail); try go_wp2)
            go_meet
            case rel => exact ⟨_, (true), (by first | rfl | (simp; done) | (simp [*]; done)), H', ⟨by have := HK1.out; first | omega | exact Nat.le_refl _⟩, ⟨by (with_reducible repeat (first | apply Kd.R_alloc | apply Kd.R_drewN | apply Kd.R_drew)); exact HO167.out⟩, ⟨by (with_reducible repeat (first | refine blk_drewN ?_ _ | refine blk_drew ?_ | refine blk_alloc ?_ _)); exact BK161.out⟩, ⟨by (with_reducible repeat (first | refine blk_drewN ?_ _ | refine blk_drew ?_ | refine blk_alloc ?_ _)); exact BK169.out⟩, ⟨by repeat (first | (with_reducible first | exact HB.out | apply below_alloc | apply pw_below_drewN | apply below_drew1 | refine below_set ?_ GE161.out | refine below_set ?_ GE169.out) | exact HB.out)⟩⟩
        case rest =>
          clear HC16
          try clear c1
          try clear p1
          try clear q1
          try clear hx1
          try clear c2
          try clear p2
          try clear c3
          try clear c4
          try clear c4b0
          try clear c6
          try clear c6b0
          try clear p6
          try clear c7
          try clear c7b0
          try clear c8
          try clear c8b0
          try clear c9
          try clear c9b0
          try clear c10
          try clear c10b0
          try clear c11
          try clear c11b0
          try clear c11b1
          try clear p16
          try clear q16
          try clear hx16
          try clear c20
          try clear c25
          try clear c25b0
          try clear c25b1
          try clear c26
          try clear c27
          try clear hcz12_0
          try clear hcz12_1
          try clear hcz12_2
          try clear hcz12_3
          try clear hcz13_0
          try clear hcz13_1
          try clear hcz13_2
          try clear hcz13_3
          try clear hcz17_0
          try clear hcz17_1
          try clear hcz17_2
          try clear hcz17_3
          try clear hcz21_0
          try clear hcz21_1
          try clear hcz23_0
          try clear hcz23_1
          try clear hcz23_2
          try clear hcz23_3
          try clear hcz28_0
          try clear hcz28_1
          try clear hcz28_2
          try clear hcz28_3
          try clear hcz5_0
          try clear hcz5_1
          try clear hcz5_2
          try clear hcz5_3
          try clear hfz12_0
          try clear hfz12_1
          try clear hfz12_2
          try clear hfz12_3
          try clear hfz13_0
          try clear hfz13_1
          try clear hfz13_2
          try clear hfz13_3
          try clear hfz17_0
          try clear hfz17_1
          try clear hfz17_2
          try clear hfz17_3
          try clear hfz21_0
          try clear hfz21_1
          try clear hfz23_0
          try clear hfz23_1
          try clear hfz23_2
          try clear hfz23_3
          try clear hfz28_0
          try clear hfz28_1
          try clear hfz28_2
          try clear hfz28_3
          try clear hfz5_0
          try clear hfz5_1
          try clear hfz5_2
          try clear hfz5_3
          try clear hx162_0
          try clear hx163_0
          try clear p162
          try clear p163
          try clear p2
          try clear q162
          try clear q163
          obtain ⟨kq, x58_15, rfl, HA, HJ15, HO_170001, BK161, BK169, HB⟩ := hcut
          cases kq with
          | zero => exact absurd HA.out (by simp [mootbellref07_Check.j2])
          | succ kj15 =>
            have H := HA.out
            clear HA
            simp only [mootbellref07_Check.j2] at H
            by_cases c29 : x58_15 = true
            · subst c29
              have H1 : (some false) = some r := by rw [if_pos rfl] at H; exact H
              clear H
              have H := H1
              clear H1
              obtain rfl := Option.some.inj H
              go_wp2
              repeat (go_quiet (fail); try go_wp2)
              go_ret
              exact ⟨by first | rfl | (simp [errW_none, errW_some] <;> rfl) | (simp [*, errW_none, errW_some] <;> rfl), by repeat (first | (with_reducible first | exact HB.out | apply below_alloc | apply pw_below_drewN | apply below_drew1 | refine below_set ?_ GE161.out | refine below_set ?_ GE169.out) | exact HB.out)⟩
            · replace c29 := Bool.eq_false_iff.mpr c29
              subst c29
              have H1 : (mootbellref07_Check.l2 kj15 l0 0 t164 t165) = some r := by rw [if_neg (show ¬ (false = true) by decide)] at H; exact H
              clear H
              have H := H1
              clear H1
              have H' := Aside0.mk H
              clear H
              go_wp2
              repeat (go_quiet (fail); try go_wp2)
              go_loopg [10] kj15 (fun kq v10 w' => ∃ (x10_3 : Int), v10 = .int .i64 x10_3 ∧ Aside0 (mootbellref07_Check.l2 kq l0 x10_3 t164 t165 = some r) ∧ Aside0 (kq ≤ kj15) ∧ Aside0 (Kd.R k52 52 w' w.heap.size (fun _ => True) (.slice Ao22 t165.length co22) t165) ∧ Aside0 (w'.heap[gb161]? = some (.cells #[(.slice A1_0 l1_0.length c1_0), .int .u64 a1_1, .bool a1_2, (.slice A1_3 l1_3.length c1_3)] 32 (0, 0))) ∧ Aside0 (w'.heap[gb169]? = some (.cells #[.bool t164, (.slice Ao22 t165.length co22)] 30 (0, 0))) ∧ Aside0 (Below w.heap.size w w'))
              case atStart => exact ⟨(0), (by first | rfl | (simp; done) | (simp [*]; done)), H', ⟨Nat.le_refl _⟩, ⟨by (with_reducible repeat (first | apply Kd.R_alloc | apply Kd.R_drewN | apply Kd.R_drew)); exact HO_170001.out⟩, ⟨by (with_reducible repeat (first | refine blk_drewN ?_ _ | refine blk_drew ?_ | refine blk_alloc ?_ _)); exact BK161.out⟩, ⟨by (with_reducible repeat (first | refine blk_drewN ?_ _ | refine blk_drew ?_ | refine blk_alloc ?_ _)); exact BK169.out⟩, ⟨by repeat (first | (with_reducible first | exact HB.out | apply below_alloc | apply pw_below_drewN | apply below_drew1 | refine below_set ?_ GE161.out | refine below_set ?_ GE169.out) | exact HB.out)⟩⟩
              case round =>
                clear H'
                try clear c1
                try clear p1
                try clear q1
                try clear hx1
                try clear c2
                try clear p2
                try clear c3
                try clear c4
                try clear c4b0
                try clear c6
                try clear c6b0
                try clear p6
                try clear c7
                try clear c7b0
                try clear c8
                try clear c8b0
                try clear c9
                try clear c9b0
                try clear c10
                try clear c10b0
                try clear c11
                try clear c11b0
                try clear c11b1
                try clear p16
                try clear q16
                try clear hx16
                try clear c20
                try clear c25
                try clear c25b0
                try clear c25b1
                try clear c26
                try clear c27
                try clear c29
                try clear hcz12_0
                try clear hcz12_1
                try clear hcz12_2
                try clear hcz12_3
                try clear hcz13_0
                try clear hcz13_1
                try clear hcz13_2
                try clear hcz13_3
                try clear hcz17_0
                try clear hcz17_1
                try clear hcz17_2
                try clear hcz17_3
                try clear hcz21_0
                try clear hcz21_1
                try clear hcz23_0
                try clear hcz23_1
                try clear hcz23_2
                try clear hcz23_3
                try clear hcz28_0
                try clear hcz28_1
                try clear hcz28_2
                try clear hcz28_3
                try clear hcz5_0
                try clear hcz5_1
                try clear hcz5_2
                try clear hcz5_3
                try clear hfz12_0
                try clear hfz12_1
                try clear hfz12_2
                try clear hfz12_3
                try clear hfz13_0
                try clear hfz13_1
                try clear hfz13_2
                try clear hfz13_3
                try clear hfz17_0
                try clear hfz17_1
                try clear hfz17_2
                try clear hfz17_3
                try clear hfz21_0
                try clear hfz21_1
                try clear hfz23_0
                try clear hfz23_1
                try clear hfz23_2
                try clear hfz23_3
                try clear hfz28_0
                try clear hfz28_1
                try clear hfz28_2
                try clear hfz28_3
                try clear hfz5_0
                try clear hfz5_1
                try clear hfz5_2
                try clear hfz5_3
                try clear hx162_0
                try clear hx163_0
                try clear p1
                try clear p16
                try clear p162
                try clear p163
                try clear p2
                try clear p6
                try clear q1
                try clear q16
                try clear q162
                try clear q163
                obtain ⟨x10_3, rfl, HA, HK3, HO_170001, BK161, BK169, HB⟩ := hrel
                cases gk with
                | zero => exact absurd HA.out (by simp [mootbellref07_Check.l2])
                | succ k3 =>
                  have H := HA.out
                  clear HA
                  simp only [mootbellref07_Check.l2] at H
                  by_cases c30 : x10_3 < (t165.length : Int)
                  · rw [if_pos c30] at H
                    have c30b0 : decide (x10_3 < (t165.length : Int)) = true := decide_eq_true c30
                    clear c30
                    by_cases c31 : 0 ≤ x10_3
                    · rw [if_pos c31] at H
                      have c31b0 : decide (0 ≤ x10_3) = true := decide_eq_true c31
                      clear c31
                      replace H := Option.bind_eq_some_iff.mp H
                      obtain ⟨t172, A320, H⟩ := H
                      replace H : (if t172 = true then (mootbellref07_Check.l2 k3 l0 (wrap64 (x10_3 + 1)) t164 t165) else (some false)) = some r := H
                      have A32 := Aside0.mk A320
                      clear A320
                      by_cases c33 : t172 = true
                      · subst c33
                        have H1 : (mootbellref07_Check.l2 k3 l0 (wrap64 (x10_3 + 1)) t164 t165) = some r := by rw [if_pos rfl] at H; exact H
                        clear H
                        have H := H1
                        clear H1
                        have H' := Aside0.mk H
                        clear H
                        have hnb34 := NB169_161.out
                        have hnc34 := NB161_169.out
                        have hcz35_0 : wr.cell? ⟨gb169, 0, none⟩ = some (.bool t164) := (blk_cell BK169.out 0).trans rfl
                        have hcz35_1 : wr.cell? ⟨gb169, 1, none⟩ = some (.slice Ao22 t165.length co22) := (blk_cell BK169.out 1).trans rfl
                        have hfz35_0 := blk_frozen BK169.out 0
                        have hfz35_1 := blk_frozen BK169.out 1
                        have p171 : 0 ≤ (x10_3 : Int) := of_decide_eq_true (by first | (with_reducible assumption) | assumption)
                        have q171 : x10_3 < (t165.length : Int) := of_decide_eq_true (by first | (with_reducible assumption) | assumption)
                        obtain ⟨ad171, e171, hx171_0, hx171_1⟩ := at_T52 (Kd.R_reads' HO_170001.out).2.2 x10_3 p171 q171
                        cases e171
                        replace p171 := eq_true p171
                        replace q171 := eq_true q171
                        go_wp2_with (first | (go_at_call 42; (with_reducible refine (mootbellref07_Valid.calls k3 _ _ l0 ((rd_T52 t165 x10_3).f0) ((rd_T52 t165 x10_3).f1) true _ ?side1 ?side2 A32.out).mono ?_); (case side1 => repeat (first | exact (Kd.C_below HR0.out HB.out) | (with_reducible refine Kd.C_alloc ?_ _) | (with_reducible refine Kd.C_drewN ?_ _) | (with_reducible refine Kd.C_drew ?_))); (case side2 => exact HC0.out); rintro e w36 ⟨rfl, hb⟩; have n0_ := Aside0.mk (Kd.R_below (by (with_reducible repeat (first | apply Kd.R_alloc | apply Kd.R_drewN | apply Kd.R_drew)); exact HO_170001.out) hb); have n1_ := Aside0.mk (blk_below (g := gb161) (o := .cells #[.slice A1_0 l1_0.length c1_0, .int .u64 a1_1, .bool a1_2, .slice A1_3 l1_3.length c1_3] 32 (0, 0)) (by (with_reducible repeat (first | refine blk_drewN ?_ _ | refine blk_drew ?_ | refine blk_alloc ?_ _)); exact BK161.out) hb); have n2_ := Aside0.mk (blk_below (g := gb169) (o := .cells #[.bool t164, .slice (some ad171) t165.length co22] 30 (0, 0)) (by (with_reducible repeat (first | refine blk_drewN ?_ _ | refine blk_drew ?_ | refine blk_alloc ?_ _)); exact BK169.out) hb); have n3_ := Aside0.mk (below_step (by repeat (first | (with_reducible first | exact HB.out | apply below_alloc | apply pw_below_drewN | apply below_drew1 | refine below_set ?_ GE161.out | refine below_set ?_ GE169.out) | exact HB.out)) hb); clear HO_170001; clear BK161; clear BK169; clear HB; have HO_170001 := n0_; have BK161 := n1_; have BK169 := n2_; have HB := n3_; clear n0_ n1_ n2_ n3_; (try clear hb); (try clear hb2); (try clear hk); (try clear hi)))
                        repeat (go_quiet (first | (go_at_call 42; (with_reducible refine (mootbellref07_Valid.calls k3 _ _ l0 ((rd_T52 t165 x10_3).f0) ((rd_T52 t165 x10_3).f1) true _ ?side1 ?side2 A32.out).mono ?_); (case side1 => repeat (first | exact (Kd.C_below HR0.out HB.out) | (with_reducible refine Kd.C_alloc ?_ _) | (with_reducible refine Kd.C_drewN ?_ _) | (with_reducible refine Kd.C_drew ?_))); (case side2 => exact HC0.out); rintro e w36 ⟨rfl, hb⟩; have n0_ := Aside0.mk (Kd.R_below (by (with_reducible repeat (first | apply Kd.R_alloc | apply Kd.R_drewN | apply Kd.R_drew)); exact HO_170001.out) hb); have n1_ := Aside0.mk (blk_below (g := gb161) (o := .cells #[.slice A1_0 l1_0.length c1_0, .int .u64 a1_1, .bool a1_2, .slice A1_3 l1_3.length c1_3] 32 (0, 0)) (by (with_reducible repeat (first | refine blk_drewN ?_ _ | refine blk_drew ?_ | refine blk_alloc ?_ _)); exact BK161.out) hb); have n2_ := Aside0.mk (blk_below (g := gb169) (o := .cells #[.bool t164, .slice (some ad171) t165.length co22] 30 (0, 0)) (by (with_reducible repeat (first | refine blk_drewN ?_ _ | refine blk_drew ?_ | refine blk_alloc ?_ _)); exact BK169.out) hb); have n3_ := Aside0.mk (below_step (by repeat (first | (with_reducible first | exact HB.out | apply below_alloc | apply pw_below_drewN | apply below_drew1 | refine below_set ?_ GE161.out | refine below_set ?_ GE169.out) | exact HB.out)) hb); clear HO_170001; clear BK161; clear BK169; clear HB; have HO_170001 := n0_; have BK161 := n1_; have BK169 := n2_; have HB := n3_; clear n0_ n1_ n2_ n3_; (try clear hb); (try clear hb2); (try clear hk); (try clear hi))); try go_wp2_with (first | (go_at_call 42; (with_reducible refine (mootbellref07_Valid.calls k3 _ _ l0 ((rd_T52 t165 x10_3).f0) ((rd_T52 t165 x10_3).f1) true _ ?side1 ?side2 A32.out).mono ?_); (case side1 => repeat (first | exact (Kd.C_below HR0.out HB.out) | (with_reducible refine Kd.C_alloc ?_ _) | (with_reducible refine Kd.C_drewN ?_ _) | (with_reducible refine Kd.C_drew ?_))); (case side2 => exact HC0.out); rintro e w36 ⟨rfl, hb⟩; have n0_ := Aside0.mk (Kd.R_below (by (with_reducible repeat (first | apply Kd.R_alloc | apply Kd.R_drewN | apply Kd.R_drew)); exact HO_170001.out) hb); have n1_ := Aside0.mk (blk_below (g := gb161) (o := .cells #[.slice A1_0 l1_0.length c1_0, .int .u64 a1_1, .bool a1_2, .slice A1_3 l1_3.length c1_3] 32 (0, 0)) (by (with_reducible repeat (first | refine blk_drewN ?_ _ | refine blk_drew ?_ | refine blk_alloc ?_ _)); exact BK161.out) hb); have n2_ := Aside0.mk (blk_below (g := gb169) (o := .cells #[.bool t164, .slice (some ad171) t165.length co22] 30 (0, 0)) (by (with_reducible repeat (first | refine blk_drewN ?_ _ | refine blk_drew ?_ | refine blk_alloc ?_ _)); exact BK169.out) hb); have n3_ := Aside0.mk (below_step (by repeat (first | (with_reducible first | exact HB.out | apply below_alloc | apply pw_below_drewN | apply below_drew1 | refine below_set ?_ GE161.out | refine below_set ?_ GE169.out) | exact HB.out)) hb); clear HO_170001; clear BK161; clear BK169; clear HB; have HO_170001 := n0_; have BK161 := n1_; have BK169 := n2_; have HB := n3_; clear n0_ n1_ n2_ n3_; (try clear hb); (try clear hb2); (try clear hk); (try clear hi))))
                        go_roundg k3
                        case measure => have := HK1.out; have := HJ15.out; have := HK3.out; omega
                        case rel => exact ⟨(wrap64 (x10_3 + 1)), (by first | rfl | (simp; done) | (simp [*]; done)), H', ⟨by have := HK1.out; have := HJ15.out; have := HK3.out; omega⟩, ⟨by (with_reducible repeat (first | apply Kd.R_alloc | apply Kd.R_drewN | apply Kd.R_drew)); exact HO_170001.out⟩, ⟨by (with_reducible repeat (first | refine blk_drewN ?_ _ | refine blk_drew ?_ | refine blk_alloc ?_ _)); exact BK161.out⟩, ⟨by (with_reducible repeat (first | refine blk_drewN ?_ _ | refine blk_drew ?_ | refine blk_alloc ?_ _)); exact BK169.out⟩, ⟨by repeat (first | (with_reducible first | exact HB.out | apply below_alloc | apply pw_below_drewN | apply below_drew1 | refine below_set ?_ GE161.out | refine below_set ?_ GE169.out) | exact HB.out)⟩⟩
                      · replace c33 := Bool.eq_false_iff.mpr c33
                        subst c33
                        have H1 : (some false) = some r := by rw [if_neg (show ¬ (false = true) by decide)] at H; exact H
                        clear H
                        have H := H1
                        clear H1
                        obtain rfl := Option.some.inj H
                        have hnb37 := NB169_161.out
                        have hnc37 := NB161_169.out
                        have hcz38_0 : wr.cell? ⟨gb169, 0, none⟩ = some (.bool t164) := (blk_cell BK169.out 0).trans rfl
                        have hcz38_1 : wr.cell? ⟨gb169, 1, none⟩ = some (.slice Ao22 t165.length co22) := (blk_cell BK169.out 1).trans rfl
                        have hfz38_0 := blk_frozen BK169.out 0
                        have hfz38_1 := blk_frozen BK169.out 1
                        have p171 : 0 ≤ (x10_3 : Int) := of_decide_eq_true (by first | (with_reducible assumption) | assumption)
                        have q171 : x10_3 < (t165.length : Int) := of_decide_eq_true (by first | (with_reducible assumption) | assumption)
                        obtain ⟨ad171, e171, hx171_0, hx171_1⟩ := at_T52 (Kd.R_reads' HO_170001.out).2.2 x10_3 p171 q171
                        cases e171
                        replace p171 := eq_true p171
                        replace q171 := eq_true q171
                        go_wp2_with (first | (go_at_call 42; (with_reducible refine (mootbellref07_Valid.calls k3 _ _ l0 ((rd_T52 t165 x10_3).f0) ((rd_T52 t165 x10_3).f1) false _ ?side1 ?side2 A32.out).mono ?_); (case side1 => repeat (first | exact (Kd.C_below HR0.out HB.out) | (with_reducible refine Kd.C_alloc ?_ _) | (with_reducible refine Kd.C_drewN ?_ _) | (with_reducible refine Kd.C_drew ?_))); (case side2 => exact HC0.out); rintro e w39 ⟨rfl, hb⟩; have n0_ := Aside0.mk (Kd.R_below (by (with_reducible repeat (first | apply Kd.R_alloc | apply Kd.R_drewN | apply Kd.R_drew)); exact HO_170001.out) hb); have n1_ := Aside0.mk (blk_below (g := gb161) (o := .cells #[.slice A1_0 l1_0.length c1_0, .int .u64 a1_1, .bool a1_2, .slice A1_3 l1_3.length c1_3] 32 (0, 0)) (by (with_reducible repeat (first | refine blk_drewN ?_ _ | refine blk_drew ?_ | refine blk_alloc ?_ _)); exact BK161.out) hb); have n2_ := Aside0.mk (blk_below (g := gb169) (o := .cells #[.bool t164, .slice (some ad171) t165.length co22] 30 (0, 0)) (by (with_reducible repeat (first | refine blk_drewN ?_ _ | refine blk_drew ?_ | refine blk_alloc ?_ _)); exact BK169.out) hb); have n3_ := Aside0.mk (below_step (by repeat (first | (with_reducible first | exact HB.out | apply below_alloc | apply pw_below_drewN | apply below_drew1 | refine below_set ?_ GE161.out | refine below_set ?_ GE169.out) | exact HB.out)) hb); clear HO_170001; clear BK161; clear BK169; clear HB; have HO_170001 := n0_; have BK161 := n1_; have BK169 := n2_; have HB := n3_; clear n0_ n1_ n2_ n3_; (try clear hb); (try clear hb2); (try clear hk); (try clear hi)))
                        repeat (go_quiet (first | (go_at_call 42; (with_reducible refine (mootbellref07_Valid.calls k3 _ _ l0 ((rd_T52 t165 x10_3).f0) ((rd_T52 t165 x10_3).f1) false _ ?side1 ?side2 A32.out).mono ?_); (case side1 => repeat (first | exact (Kd.C_below HR0.out HB.out) | (with_reducible refine Kd.C_alloc ?_ _) | (with_reducible refine Kd.C_drewN ?_ _) | (with_reducible refine Kd.C_drew ?_))); (case side2 => exact HC0.out); rintro e w39 ⟨rfl, hb⟩; have n0_ := Aside0.mk (Kd.R_below (by (with_reducible repeat (first | apply Kd.R_alloc | apply Kd.R_drewN | apply Kd.R_drew)); exact HO_170001.out) hb); have n1_ := Aside0.mk (blk_below (g := gb161) (o := .cells #[.slice A1_0 l1_0.length c1_0, .int .u64 a1_1, .bool a1_2, .slice A1_3 l1_3.length c1_3] 32 (0, 0)) (by (with_reducible repeat (first | refine blk_drewN ?_ _ | refine blk_drew ?_ | refine blk_alloc ?_ _)); exact BK161.out) hb); have n2_ := Aside0.mk (blk_below (g := gb169) (o := .cells #[.bool t164, .slice (some ad171) t165.length co22] 30 (0, 0)) (by (with_reducible repeat (first | refine blk_drewN ?_ _ | refine blk_drew ?_ | refine blk_alloc ?_ _)); exact BK169.out) hb); have n3_ := Aside0.mk (below_step (by repeat (first | (with_reducible first | exact HB.out | apply below_alloc | apply pw_below_drewN | apply below_drew1 | refine below_set ?_ GE161.out | refine below_set ?_ GE169.out) | exact HB.out)) hb); clear HO_170001; clear BK161; clear BK169; clear HB; have HO_170001 := n0_; have BK161 := n1_; have BK169 := n2_; have HB := n3_; clear n0_ n1_ n2_ n3_; (try clear hb); (try clear hb2); (try clear hk); (try clear hi))); try go_wp2_with (first | (go_at_call 42; (with_reducible refine (mootbellref07_Valid.calls k3 _ _ l0 ((rd_T52 t165 x10_3).f0) ((rd_T52 t165 x10_3).f1) false _ ?side1 ?side2 A32.out).mono ?_); (case side1 => repeat (first | exact (Kd.C_below HR0.out HB.out) | (with_reducible refine Kd.C_alloc ?_ _) | (with_reducible refine Kd.C_drewN ?_ _) | (with_reducible refine Kd.C_drew ?_))); (case side2 => exact HC0.out); rintro e w39 ⟨rfl, hb⟩; have n0_ := Aside0.mk (Kd.R_below (by (with_reducible repeat (first | apply Kd.R_alloc | apply Kd.R_drewN | apply Kd.R_drew)); exact HO_170001.out) hb); have n1_ := Aside0.mk (blk_below (g := gb161) (o := .cells #[.slice A1_0 l1_0.length c1_0, .int .u64 a1_1, .bool a1_2, .slice A1_3 l1_3.length c1_3] 32 (0, 0)) (by (with_reducible repeat (first | refine blk_drewN ?_ _ | refine blk_drew ?_ | refine blk_alloc ?_ _)); exact BK161.out) hb); have n2_ := Aside0.mk (blk_below (g := gb169) (o := .cells #[.bool t164, .slice (some ad171) t165.length co22] 30 (0, 0)) (by (with_reducible repeat (first | refine blk_drewN ?_ _ | refine blk_drew ?_ | refine blk_alloc ?_ _)); exact BK169.out) hb); have n3_ := Aside0.mk (below_step (by repeat (first | (with_reducible first | exact HB.out | apply below_alloc | apply pw_below_drewN | apply below_drew1 | refine below_set ?_ GE161.out | refine below_set ?_ GE169.out) | exact HB.out)) hb); clear HO_170001; clear BK161; clear BK169; clear HB; have HO_170001 := n0_; have BK161 := n1_; have BK169 := n2_; have HB := n3_; clear n0_ n1_ n2_ n3_; (try clear hb); (try clear hb2); (try clear hk); (try clear hi))))
                        go_ret
                        exact ⟨by first | rfl | (simp [errW_none, errW_some] <;> rfl) | (simp [*, errW_none, errW_some] <;> rfl), by repeat (first | (with_reducible first | exact HB.out | apply below_alloc | apply pw_below_drewN | apply below_drew1 | refine below_set ?_ GE161.out | refine below_set ?_ GE169.out) | exact HB.out)⟩
                    · rw [if_neg c31] at H
                      exact absurd H (by simp)
                  · rw [if_neg c30] at H
                    have c30b0 : decide (x10_3 < (t165.length : Int)) = false := decide_eq_false c30
                    clear c30
                    obtain rfl := Option.some.inj H
                    have hnb40 := NB169_161.out
                    have hnc40 := NB161_169.out
                    have hcz41_0 : wr.cell? ⟨gb169, 0, none⟩ = some (.bool t164) := (blk_cell BK169.out 0).trans rfl
                    have hcz41_1 : wr.cell? ⟨gb169, 1, none⟩ = some (.slice Ao22 t165.length co22) := (blk_cell BK169.out 1).trans rfl
                    have hfz41_0 := blk_frozen BK169.out 0
                    have hfz41_1 := blk_frozen BK169.out 1
                    go_wp2
                    repeat (go_quiet (fail); try go_wp2)
                    go_ret
                    exact ⟨by first | rfl | (simp [errW_none, errW_some] <;> rfl) | (simp [*, errW_none, errW_some] <;> rfl), by repeat (first | (with_reducible first | exact HB.out | apply below_alloc | apply pw_below_drewN | apply below_drew1 | refine below_set ?_ GE161.out | refine below_set ?_ GE169.out) | exact HB.out)⟩
end Go.Proofs.Ytnfglkgkdechlaa.PQ

namespace Go.Proofs.Ytnfglkgkdechlaa.PQ
open Go.RowKit Go.Proofs.YtnfglkgkdechlaaW.PrintWords Go.Proofs.YtnfglkgkdechlaaW.PrintLast Go.Proofs.YtnfglkgkdechlaaW.PrintMore
attribute [local go_sem] max2_int min2_int max_two min_two max_three min_three max_four min_four   -- for this text's walks alone

/-! ### mootbellref07_All: function 23 -/
def mootbellref07_All.l0 : Nat → List (S52) → List (S32) → Int → Option (Bool)
  | 0, _, _, _ => none
  | k + 1, x0, x1, x5 => if x5 < (x1.length : Int) then (if 0 ≤ x5 then ((mootbellref07_Check.f k x0 ((rd_T32 x1 x5).f0) ((rd_T32 x1 x5).f1) ((rd_T32 x1 x5).f2.f0) ((rd_T32 x1 x5).f2.f1)).bind fun t174 => (if t174 = true then (mootbellref07_All.l0 k x0 x1 (wrap64 (x5 + 1))) else (some false))) else (none)) else (some true)
def mootbellref07_All.f (k : Nat) (l0 : List (S52)) (l1 : List (S32)) : Option (Bool) := mootbellref07_All.l0 k l0 l1 0
theorem mootbellref07_All.mono_l : ∀ k, (∀ y0 y1 y2, LeO (mootbellref07_All.l0 k y0 y1 y2) (mootbellref07_All.l0 (k + 1) y0 y1 y2))
  | 0 => fun _ _ _ r h => by simp [mootbellref07_All.l0] at h
  | k + 1 => by
    have ih0 := mootbellref07_All.mono_l k
    · intro y0 y1 y2
      unfold mootbellref07_All.l0
      repeat' first
      | (with_reducible exact ih0 _ _ _)
      | (with_reducible exact mootbellref07_Check.mono _ _ _ _ _ _)
      | (with_reducible exact LeO.refl _)
      | (with_reducible exact LeO.none _)
      | (with_reducible refine LeO.ite ?_ ?_)
      | (with_reducible refine LeO.bind ?_ (fun _ => ?_))
      | exact ih0 _ _ _
      | exact mootbellref07_Check.mono _ _ _ _ _ _
      | exact LeO.none _
      | refine LeO.ite ?_ ?_
      | refine LeO.bind ?_ (fun _ => ?_)
theorem mootbellref07_All.mono : ∀ a0 a1 k, LeO (mootbellref07_All.f k a0 a1) (mootbellref07_All.f (k + 1) a0 a1) := by
  intro a0 a1 k
  have ih0 := mootbellref07_All.mono_l k
  unfold mootbellref07_All.f
  repeat' first
      | (with_reducible exact ih0 _ _ _)
      | (with_reducible exact mootbellref07_Check.mono _ _ _ _ _ _)
      | (with_reducible exact LeO.refl _)
      | (with_reducible exact LeO.none _)
      | (with_reducible refine LeO.ite ?_ ?_)
      | (with_reducible refine LeO.bind ?_ (fun _ => ?_))
      | exact ih0 _ _ _
      | exact mootbellref07_Check.mono _ _ _ _ _ _
      | exact LeO.none _
      | refine LeO.ite ?_ ?_
      | refine LeO.bind ?_ (fun _ => ?_)
set_option maxHeartbeats 8000000 in
set_option maxRecDepth 100000 in
theorem mootbellref07_All.calls (k : Nat) (A0 : Option Addr) (c0 : Nat) (l0 : List (S52)) (A1 : Option Addr) (c1 : Nat) (l1 : List (S32)) (r : Bool) (w : World) (hr0 : Kd.C k52 w A0 l0.length l0) (hc0 : l0.length ≤ c0) (hr1 : Kd.C k32 w A1 l1.length l1) (hc1 : l1.length ≤ c1) (h : mootbellref07_All.f k l0 l1 = some r) :
    Calls Try.prog 23 #[.slice A0 l0.length c0, .slice A1 l1.length c1] w fun e w' => e = .returned (.bool r) ∧ Below w.heap.size w w' := by
  have hu32 := Try.underlying32
  have HR0 := Aside0.mk hr0
  have HC0 := Aside0.mk hc0
  clear hr0 hc0
  have HR1 := Aside0.mk hr1
  have HC1 := Aside0.mk hc1
  clear hr1 hc1
  have HB := Aside0.mk (Below.refl w.heap.size w)
  have H : (mootbellref07_All.l0 k l0 l1 0) = some r := h
  clear h
  have H' := Aside0.mk H
  clear H
  go_enter Try.func23, Try.ntmps23
  go_wp2
  go_loopg [5] k (fun kq v5 w' => ∃ (x5_1 : Int), v5 = .int .i64 x5_1 ∧ Aside0 (mootbellref07_All.l0 kq l0 l1 x5_1 = some r) ∧ Aside0 (kq ≤ k) ∧ Aside0 (Below w.heap.size w w'))
  case atStart => exact ⟨(0), (by first | rfl | (simp; done) | (simp [*]; done)), H', ⟨Nat.le_refl _⟩, ⟨by repeat (first | (with_reducible first | exact HB.out | apply below_alloc | apply pw_below_drewN | apply below_drew1) | exact HB.out)⟩⟩
  case round =>
    clear H'
    try clear c1
    try clear c2
    try clear p2
    obtain ⟨x5_1, rfl, HA, HK1, HB⟩ := hrel
    cases gk with
    | zero => exact absurd HA.out (by simp [mootbellref07_All.l0])
    | succ k1 =>
      have H := HA.out
      clear HA
      simp only [mootbellref07_All.l0] at H
      by_cases c3 : x5_1 < (l1.length : Int)
      · rw [if_pos c3] at H
        have c3b0 : decide (x5_1 < (l1.length : Int)) = true := decide_eq_true c3
        clear c3
        by_cases c4 : 0 ≤ x5_1
        · rw [if_pos c4] at H
          have c4b0 : decide (0 ≤ x5_1) = true := decide_eq_true c4
          clear c4
          replace H := Option.bind_eq_some_iff.mp H
          obtain ⟨t174, A50, H⟩ := H
          replace H : (if t174 = true then (mootbellref07_All.l0 k1 l0 l1 (wrap64 (x5_1 + 1))) else (some false)) = some r := H
          have A5 := Aside0.mk A50
          clear A50
          by_cases c6 : t174 = true
          · subst c6
            have H1 : (mootbellref07_All.l0 k1 l0 l1 (wrap64 (x5_1 + 1))) = some r := by rw [if_pos rfl] at H; exact H
            clear H
            have H := H1
            clear H1
            have H' := Aside0.mk H
            clear H
            have p173 : 0 ≤ (x5_1 : Int) := of_decide_eq_true (by first | (with_reducible assumption) | assumption)
            have q173 : x5_1 < (l1.length : Int) := of_decide_eq_true (by first | (with_reducible assumption) | assumption)
            obtain ⟨ad173, A173_0, c173_0, A173_3, c173_3, e173, hx173_0, hx173_1, hx173_2, hx173_3, hl173_0, hi173_0, hl173_3, hi173_3⟩ := at_T32 HR1.out x5_1 p173 q173
            cases e173
            replace hx173_0 := (HB.out.cell (World.block_lt_of_cell? w _ hx173_0)).trans hx173_0
            replace hx173_1 := (HB.out.cell (World.block_lt_of_cell? w _ hx173_1)).trans hx173_1
            replace hx173_2 := (HB.out.cell (World.block_lt_of_cell? w _ hx173_2)).trans hx173_2
            replace hx173_3 := (HB.out.cell (World.block_lt_of_cell? w _ hx173_3)).trans hx173_3
            have HR173_0 := Aside0.mk hi173_0
            have HC173_0 := Aside0.mk hl173_0
            clear hi173_0 hl173_0
            have HR173_3 := Aside0.mk hi173_3
            have HC173_3 := Aside0.mk hl173_3
            clear hi173_3 hl173_3
            replace p173 := eq_true p173
            replace q173 := eq_true q173
            go_wp2_with (first | ((with_reducible refine gate_callee (f := 35) rfl ?_); refine goesL_ (some 18) rfl rfl Try.func35 (by kernel_rfl) rfl #[.slice A0 l0.length c0, .agg #[.slice A173_0 ((rd_T32 l1 x5_1).f0).length c173_0, .int .u64 ((rd_T32 l1 x5_1).f1), .bool ((rd_T32 l1 x5_1).f2.f0), .slice A173_3 ((rd_T32 l1 x5_1).f2.f1).length c173_3]] rfl (by (try simp only [List.map_toArray, List.map_cons, List.map_nil]); first | done | rfl | (simp only [List.length_drop, List.length_take]; rfl)) ?_; (with_reducible refine (mootbellref07_Check.calls k1 _ _ l0 _ _ ((rd_T32 l1 x5_1).f0) ((rd_T32 l1 x5_1).f1) ((rd_T32 l1 x5_1).f2.f0) _ _ ((rd_T32 l1 x5_1).f2.f1) true _ ?side1 ?side2 ?side3 ?side4 ?side5 ?side6 A5.out).mono ?_); (case side1 => repeat (first | exact (Kd.C_below HR0.out HB.out) | (with_reducible refine Kd.C_alloc ?_ _) | (with_reducible refine Kd.C_drewN ?_ _) | (with_reducible refine Kd.C_drew ?_))); (case side2 => exact HC0.out); (case side3 => repeat (first | exact (Kd.C_below HR173_0.out HB.out) | (with_reducible refine Kd.C_alloc ?_ _) | (with_reducible refine Kd.C_drewN ?_ _) | (with_reducible refine Kd.C_drew ?_))); (case side4 => exact HC173_0.out); (case side5 => repeat (first | exact (Kd.C_below HR173_3.out HB.out) | (with_reducible refine Kd.C_alloc ?_ _) | (with_reducible refine Kd.C_drewN ?_ _) | (with_reducible refine Kd.C_drew ?_))); (case side6 => exact HC173_3.out); rintro e w7 ⟨rfl, hb⟩; refine ⟨_, rfl, ?_⟩; have n0_ := Aside0.mk (below_step (by repeat (first | (with_reducible first | exact HB.out | apply below_alloc | apply pw_below_drewN | apply below_drew1) | exact HB.out)) hb); clear HB; have HB := n0_; clear n0_; (try clear hb); (try clear hb2); (try clear hk); (try clear hi)))
            go_roundg k1
            case measure => have := HK1.out; omega
            case rel => exact ⟨(wrap64 (x5_1 + 1)), (by first | rfl | (simp; done) | (simp [*]; done)), H', ⟨by have := HK1.out; omega⟩, ⟨by repeat (first | (with_reducible first | exact HB.out | apply below_alloc | apply pw_below_drewN | apply below_drew1) | exact HB.out)⟩⟩
          · replace c6 := Bool.eq_false_iff.mpr c6
            subst c6
            have H1 : (some false) = some r := by rw [if_neg (show ¬ (false = true) by decide)] at H; exact H
            clear H
            have H := H1
            clear H1
            obtain rfl := Option.some.inj H
            have p173 : 0 ≤ (x5_1 : Int) := of_decide_eq_true (by first | (with_reducible assumption) | assumption)
            have q173 : x5_1 < (l1.length : Int) := of_decide_eq_true (by first | (with_reducible assumption) | assumption)
            obtain ⟨ad173, A173_0, c173_0, A173_3, c173_3, e173, hx173_0, hx173_1, hx173_2, hx173_3, hl173_0, hi173_0, hl173_3, hi173_3⟩ := at_T32 HR1.out x5_1 p173 q173
            cases e173
            replace hx173_0 := (HB.out.cell (World.block_lt_of_cell? w _ hx173_0)).trans hx173_0
            replace hx173_1 := (HB.out.cell (World.block_lt_of_cell? w _ hx173_1)).trans hx173_1
            replace hx173_2 := (HB.out.cell (World.block_lt_of_cell? w _ hx173_2)).trans hx173_2
            replace hx173_3 := (HB.out.cell (World.block_lt_of_cell? w _ hx173_3)).trans hx173_3
            have HR173_0 := Aside0.mk hi173_0
            have HC173_0 := Aside0.mk hl173_0
            clear hi173_0 hl173_0
            have HR173_3 := Aside0.mk hi173_3
            have HC173_3 := Aside0.mk hl173_3
            clear hi173_3 hl173_3
            replace p173 := eq_true p173
            replace q173 := eq_true q173
            go_wp2_with (first | ((with_reducible refine gate_callee (f := 35) rfl ?_); refine goesL_ (some 18) rfl rfl Try.func35 (by kernel_rfl) rfl #[.slice A0 l0.length c0, .agg #[.slice A173_0 ((rd_T32 l1 x5_1).f0).length c173_0, .int .u64 ((rd_T32 l1 x5_1).f1), .bool ((rd_T32 l1 x5_1).f2.f0), .slice A173_3 ((rd_T32 l1 x5_1).f2.f1).length c173_3]] rfl (by (try simp only [List.map_toArray, List.map_cons, List.map_nil]); first | done | rfl | (simp only [List.length_drop, List.length_take]; rfl)) ?_; (with_reducible refine (mootbellref07_Check.calls k1 _ _ l0 _ _ ((rd_T32 l1 x5_1).f0) ((rd_T32 l1 x5_1).f1) ((rd_T32 l1 x5_1).f2.f0) _ _ ((rd_T32 l1 x5_1).f2.f1) false _ ?side1 ?side2 ?side3 ?side4 ?side5 ?side6 A5.out).mono ?_); (case side1 => repeat (first | exact (Kd.C_below HR0.out HB.out) | (with_reducible refine Kd.C_alloc ?_ _) | (with_reducible refine Kd.C_drewN ?_ _) | (with_reducible refine Kd.C_drew ?_))); (case side2 => exact HC0.out); (case side3 => repeat (first | exact (Kd.C_below HR173_0.out HB.out) | (with_reducible refine Kd.C_alloc ?_ _) | (with_reducible refine Kd.C_drewN ?_ _) | (with_reducible refine Kd.C_drew ?_))); (case side4 => exact HC173_0.out); (case side5 => repeat (first | exact (Kd.C_below HR173_3.out HB.out) | (with_reducible refine Kd.C_alloc ?_ _) | (with_reducible refine Kd.C_drewN ?_ _) | (with_reducible refine Kd.C_drew ?_))); (case side6 => exact HC173_3.out); rintro e w8 ⟨rfl, hb⟩; refine ⟨_, rfl, ?_⟩; have n0_ := Aside0.mk (below_step (by repeat (first | (with_reducible first | exact HB.out | apply below_alloc | apply pw_below_drewN | apply below_drew1) | exact HB.out)) hb); clear HB; have HB := n0_; clear n0_; (try clear hb); (try clear hb2); (try clear hk); (try clear hi)))
            go_ret
            exact ⟨by first | rfl | (simp [errW_none, errW_some] <;> rfl) | (simp [*, errW_none, errW_some] <;> rfl), by repeat (first | (with_reducible first | exact HB.out | apply below_alloc | apply pw_below_drewN | apply below_drew1) | exact HB.out)⟩
        · rw [if_neg c4] at H
          exact absurd H (by simp)
      · rw [if_neg c3] at H
        have c3b0 : decide (x5_1 < (l1.length : Int)) = false := decide_eq_false c3
        clear c3
        obtain rfl := Option.some.inj H
        go_wp2
        go_ret
        exact ⟨by first | rfl | (simp [errW_none, errW_some] <;> rfl) | (simp [*, errW_none, errW_some] <;> rfl), by repeat (first | (with_reducible first | exact HB.out | apply below_alloc | apply pw_below_drewN | apply below_drew1) | exact HB.out)⟩
end Go.Proofs.Ytnfglkgkdechlaa.PQ


/- Check and All by the document (chapter 7): what they tell, in plain Lean. -/
namespace Go.Proofs.Ytnfglkgkdechlaa
open Go.RowKit Go.Proofs.YtnfglkgkdechlaaW.PrintWords Go.Proofs.YtnfglkgkdechlaaW.PrintLast Go.Proofs.YtnfglkgkdechlaaW.PrintMore
open Go.Proofs.Ytnfglkgkdechlaa.PQ

/-- With steps enough. -/
def Ev {α : Type} (f : Nat → Option α) (r : α) : Prop := ∃ K, ∀ k, K ≤ k → f k = some r
theorem Ev.up {α : Type} {f : Nat → Option α} {r : α} {n : Nat} (hm : ∀ k, LeO (f k) (f (k + 1))) (h : f n = some r) : Ev f r := by
  refine ⟨n, fun k hk => ?_⟩
  obtain ⟨d, rfl⟩ : ∃ d, k = n + d := ⟨k - n, by omega⟩
  clear hk
  induction d with
  | zero => exact h
  | succ d ih => exact hm _ _ ih
theorem Ev.next {α β : Type} {f : Nat → Option α} {g : Nat → Option β} {r : α} {s : β} (h : Ev g s) (he : ∀ k, g k = some s → f (k + 1) = some r) : Ev f r := by
  obtain ⟨K, hK⟩ := h
  refine ⟨K + 1, fun k hk => ?_⟩
  obtain ⟨q, rfl⟩ : ∃ q, k = q + 1 := ⟨k - 1, by omega⟩
  exact he q (hK q (by omega))
theorem Ev.same {α β : Type} {f : Nat → Option α} {g : Nat → Option β} {r : α} {s : β} (h : Ev g s) (he : ∀ k, g k = some s → f k = some r) : Ev f r := by
  obtain ⟨K, hK⟩ := h
  exact ⟨K, fun k hk => he k (hK k hk)⟩
theorem Ev.two {α β : Type} {f : Nat → Option α} {g : Nat → Option β} {r : α} {s : β} (h1 : Ev f r) (h2 : Ev g s) : Ev (fun k => (f k).bind fun x => (g k).bind fun y => some (x, y)) (r, s) := by
  obtain ⟨K, hK⟩ := h1
  obtain ⟨L, hL⟩ := h2
  refine ⟨K + L, fun k hk => ?_⟩
  show ((f k).bind fun x => (g k).bind fun y => some (x, y)) = some (r, s)
  rw [hK k (by omega), hL k (by omega)]
  rfl
theorem Ev.split {α β : Type} {f : Option α} {g : Option β} {r : α} {s : β} (h : (f.bind fun x => g.bind fun y => some (x, y)) = some (r, s)) : f = some r ∧ g = some s := by
  cases f with
  | none => cases h
  | some x =>
    cases g with
    | none => cases h
    | some y =>
      injection h with h
      injection h with h1 h2
      exact ⟨congrArg some h1, congrArg some h2⟩
theorem Ev.now {α : Type} {f : Nat → Option α} {r : α} (h : ∀ k, f (k + 1) = some r) : Ev f r := ⟨1, fun k hk => by
  obtain ⟨q, rfl⟩ : ∃ q, k = q + 1 := ⟨k - 1, by omega⟩
  exact h q⟩
theorem wz {i : Nat} (h : i < 9223372036854775807) : wrap64 ((i : Int) + 1) = ((i + 1 : Nat) : Int) := In64_nat (by omega)
theorem ev_right (l : List Pr) (hl : l.length ≤ 9223372036854775807) : Ev (fun k => mootbellref07_Right.f k l) (tabB l) := Ev.up (mootbellref07_Right.mono l) (rright_f l hl)
theorem ev_in (l : List Pr) (p : Pr) (hl : l.length ≤ 9223372036854775807) : Ev (fun k => mootbellref07_in.f k l p.f0 p.f1) (l.contains p) := by
  refine ⟨l.length + 1, fun k hk => ?_⟩
  show mootbellref07_in.f k l p.f0 p.f1 = some (l.contains p)
  unfold mootbellref07_in.f
  have h := rin_l l p hl l.length 0 k (by omega) (by omega)
  rw [List.drop_zero] at h
  exact h
theorem ev_valid (l : List Pr) (p : Pr) (hl : l.length ≤ 9223372036854775807) : Ev (fun k => mootbellref07_Valid.f k l p.f0 p.f1) (tabB l && l.contains p) := by
  refine (Ev.two (ev_right l hl) (ev_in l p hl)).same fun k h => ?_
  obtain ⟨h1, h2⟩ := Ev.split h
  show mootbellref07_Valid.f k l p.f0 p.f1 = _
  unfold mootbellref07_Valid.f
  rw [h1, Option.bind_some, h2]
  cases tabB l <;> rfl
theorem ev_sign (root : Int) (ks : List Int) (hk : ks.length ≤ 2048) : Ev (fun k => mootbellref07_Sign.f k root ks) (false, signR root ks, 0) := Ev.up (mootbellref07_Sign.mono root ks) (sign_f root ks hk)
theorem ev_same_l (a b : Bool) (p q : List Pr) (hl : p.length = q.length) (hm : p.length < 9223372036854775807) (r i : Nat) (hr : i + r = p.length) : Ev (fun k => mootbellref05_Same.l0 k (i : Int) a p b q) (decide (p.drop i = q.drop i)) := by
  induction r generalizing i with
  | zero =>
    refine Ev.now fun k => ?_
    rw [mootbellref05_Same.l0, if_neg (by omega), List.drop_of_length_le (by omega), List.drop_of_length_le (by omega)]
    rfl
  | succ r ih =>
    have hi : i < p.length := by omega
    have hj : i < q.length := by omega
    have e1 : rd_T52 p (i : Int) = p[i] := rdP_eq hi
    have e2 : rd_T52 q (i : Int) = q[i] := rdP_eq hj
    refine (ih (i + 1) (by omega)).next fun k h => ?_
    rw [mootbellref05_Same.l0, if_pos (by omega), if_pos (by omega), if_pos (by omega), e1, e2, wz (by omega)]
    have e3 : (decide (p.drop i = q.drop i)) = (decide (p[i] = q[i]) && decide (p.drop (i + 1) = q.drop (i + 1))) := by
      rw [List.drop_eq_getElem_cons hi, List.drop_eq_getElem_cons hj, Bool.eq_iff_iff, Bool.and_eq_true, decide_eq_true_iff, decide_eq_true_iff, decide_eq_true_iff, List.cons.injEq]
    by_cases he : p[i] = q[i]
    · rw [if_neg (by rw [he]; simp), h, e3, decide_eq_true he, Bool.true_and]
    · rw [if_pos (by
        rw [Bool.or_eq_true]
        by_cases h0 : p[i].f0 = q[i].f0
        · right
          have h1 : p[i].f1 ≠ q[i].f1 := fun h1 => he (pr_ext h0 h1)
          simpa using h1
        · left
          simpa using h0), e3, decide_eq_false he, Bool.false_and]
theorem ev_same (a b : Bool) (p q : List Pr) (hm : p.length < 9223372036854775807) : Ev (fun k => mootbellref05_Same.f k a p b q) (decide (a = b ∧ p = q)) := by
  by_cases ha : a = b
  · by_cases hl : p.length = q.length
    · refine (ev_same_l a b p q hl hm p.length 0 (by omega)).next fun k h => ?_
      rw [List.drop_zero, List.drop_zero] at h
      have h : mootbellref05_Same.l0 k 0 a p b q = some (decide (p = q)) := h
      show mootbellref05_Same.f (k + 1) a p b q = _
      unfold mootbellref05_Same.f
      rw [if_neg (by rw [ha]; simp), mootbellref05_Same.j0, if_neg (by rw [hl]; simp), h]
      simp [ha]
    · refine Ev.now fun k => ?_
      have : ¬ (a = b ∧ p = q) := fun h => hl (by rw [h.2])
      show mootbellref05_Same.f (k + 1) a p b q = _
      unfold mootbellref05_Same.f
      rw [if_neg (by rw [ha]; simp), mootbellref05_Same.j0, if_pos (by rw [bne_iff_ne]; omega), decide_eq_false this]
  · refine Ev.now fun k => ?_
    have : ¬ (a = b ∧ p = q) := fun h => ha h.1
    show mootbellref05_Same.f (k + 1) a p b q = _
    unfold mootbellref05_Same.f
    rw [if_pos (by rw [bne_iff_ne]; exact ha), mootbellref05_Same.j0, if_pos rfl, decide_eq_false this]
theorem ev_l2 (t : List Pr) (a : Bool) (ps : List Pr) (ht : t.length ≤ 9223372036854775807) (hm : ps.length < 9223372036854775807) (r i : Nat) (hr : i + r = ps.length) : Ev (fun k => mootbellref07_Check.l2 k t (i : Int) a ps) ((ps.drop i).all fun p => tabB t && t.contains p) := by
  induction r generalizing i with
  | zero =>
    refine Ev.now fun k => ?_
    rw [mootbellref07_Check.l2, if_neg (by omega), List.drop_of_length_le (by omega)]
    rfl
  | succ r ih =>
    have hi : i < ps.length := by omega
    have e1 : rd_T52 ps (i : Int) = ps[i] := rdP_eq hi
    refine (Ev.two (ih (i + 1) (by omega)) (ev_valid t ps[i] ht)).next fun k h => ?_
    obtain ⟨h1, h2⟩ := Ev.split h
    rw [mootbellref07_Check.l2, if_pos (by omega), if_pos (by omega), e1, h2, Option.bind_some, wz (by omega), h1, List.drop_eq_getElem_cons hi, List.all_cons]
    cases (tabB t && t.contains ps[i]) <;> rfl
def chkTail (t : List Pr) (ks : List Int) (root : Int) (fg : Bool) (ps : List Pr) : Bool := decide (fg = false ∧ signR root ks = ps) && decide (ks.length ≠ 0) && (signR root ks).all fun p => tabB t && t.contains p
theorem ev_tail (t : List Pr) (ks : List Int) (root : Int) (fg : Bool) (ps : List Pr) (ht : t.length ≤ 9223372036854775807) (hk : ks.length ≤ 2048) : Ev (fun k => mootbellref07_Check.l0 k t (ks.length : Int) ks root fg ps) (chkTail t ks root fg ps) := by
  have hs := signR_length root ks
  have h0 := ev_sign root ks hk
  have h1 := ev_same false fg (signR root ks) ps (by omega)
  have h2 := ev_l2 t false (signR root ks) ht (by omega) (signR root ks).length 0 (by omega)
  rw [List.drop_zero] at h2
  have h3 : Ev (fun k => if (ks.length : Int) == 0 then some false else mootbellref07_Check.l2 k t 0 false (signR root ks)) (decide (ks.length ≠ 0) && (signR root ks).all fun p => tabB t && t.contains p) := by
    refine h2.same fun k h => ?_
    have h : mootbellref07_Check.l2 k t 0 false (signR root ks) = _ := h
    by_cases he : ks.length = 0
    · simp [he]
    · have e2 : ((ks.length : Int) == 0) = false := by rw [beq_eq_false_iff_ne]; omega
      simp only [e2, decide_eq_true he, Bool.true_and]
      exact h
  have h4 : Ev (fun k => mootbellref07_Check.j2 k t ((ks.length : Int) == 0) false (signR root ks)) (decide (ks.length ≠ 0) && (signR root ks).all fun p => tabB t && t.contains p) := by
    refine h3.next fun k h => ?_
    rw [mootbellref07_Check.j2]
    exact h
  have h5 : Ev (fun k => mootbellref07_Check.j2 k t true false (signR root ks)) false := Ev.now fun k => by rw [mootbellref07_Check.j2, if_pos rfl]
  refine (Ev.two (Ev.two h0 h1) (Ev.two h4 h5)).next fun k h => ?_
  obtain ⟨h6, h7⟩ := Ev.split h
  obtain ⟨g0, g1⟩ := Ev.split h6
  obtain ⟨g4, g5⟩ := Ev.split h7
  rw [mootbellref07_Check.l0, if_neg (by omega), g0, Option.bind_some, g1, Option.bind_some, if_pos rfl]
  unfold chkTail
  by_cases he : false = fg ∧ signR root ks = ps
  · have he2 : fg = false ∧ signR root ks = ps := ⟨he.1.symm, he.2⟩
    rw [decide_eq_true he, if_pos rfl, g4, decide_eq_true he2, Bool.true_and]
  · have he2 : ¬ (fg = false ∧ signR root ks = ps) := fun h => he ⟨h.1.symm, h.2⟩
    rw [decide_eq_false he, if_neg (by simp), g5, decide_eq_false he2, Bool.false_and, Bool.false_and]
theorem ev_l1 (t : List Pr) (ks : List Int) (root : Int) (fg : Bool) (ps : List Pr) (hk : ks.length ≤ 2048) (b : Bool) (i : Nat) (hi : i < ks.length) (r j : Nat) (hr : j + r = i)
    (hn : (∀ q, j ≤ q → ∀ hq : q < i, ks[i] ≠ ks[q]) → Ev (fun k => mootbellref07_Check.l0 k t ((i + 1 : Nat) : Int) ks root fg ps) b) (hd : (∃ q, j ≤ q ∧ ∃ hq : q < i, ks[i] = ks[q]) → b = false) :
    Ev (fun k => mootbellref07_Check.l1 k t (i : Int) (j : Int) ks root fg ps) b := by
  induction r generalizing j with
  | zero =>
    refine (hn fun q h1 h2 => by omega).next fun k h => ?_
    rw [mootbellref07_Check.l1, if_neg (by omega), wz (by omega)]
    exact h
  | succ r ih =>
    have e1 : rd ks (i : Int) = ks[i] := by
      unfold rd
      rw [Int.toNat_natCast, List.getD_eq_getElem?_getD, List.getElem?_eq_getElem hi]
      rfl
    have e2 : rd ks (j : Int) = ks[j] := by
      unfold rd
      rw [Int.toNat_natCast, List.getD_eq_getElem?_getD, List.getElem?_eq_getElem (by omega)]
      rfl
    by_cases he : ks[i] = ks[j]
    · refine Ev.now fun k => ?_
      rw [mootbellref07_Check.l1, if_pos (by omega), if_pos (by omega), if_pos (by omega), if_pos (by omega), if_pos (by omega), e1, e2, if_pos he, hd ⟨j, Nat.le_refl _, by omega, he⟩]
    · refine (ih (j + 1) (by omega) (fun h => hn fun q h1 h2 => ?_) (fun ⟨q, h1, h2⟩ => hd ⟨q, by omega, h2⟩)).next fun k h => ?_
      · rcases Nat.lt_or_ge j q with h3 | h3
        · exact h q h3 h2
        · obtain rfl : q = j := by omega
          exact he
      · rw [mootbellref07_Check.l1, if_pos (by omega), if_pos (by omega), if_pos (by omega), if_pos (by omega), if_pos (by omega), e1, e2, if_neg he, wz (by omega)]
        exact h
theorem ev_l0 (t : List Pr) (ks : List Int) (root : Int) (fg : Bool) (ps : List Pr) (ht : t.length ≤ 9223372036854775807) (hk : ks.length ≤ 2048) (r i : Nat) (hr : i + r = ks.length) (b : Bool)
    (hn : (∀ p, i ≤ p → ∀ hp : p < ks.length, ∀ q, ∀ hq : q < p, ks[p] ≠ ks[q]) → b = chkTail t ks root fg ps) (hd : (∃ p, i ≤ p ∧ ∃ hp : p < ks.length, ∃ q, ∃ hq : q < p, ks[p] = ks[q]) → b = false) :
    Ev (fun k => mootbellref07_Check.l0 k t (i : Int) ks root fg ps) b := by
  induction r generalizing i with
  | zero =>
    rw [hn fun p h1 h2 => by omega]
    obtain rfl : i = ks.length := by omega
    exact ev_tail t ks root fg ps ht hk
  | succ r ih =>
    have hi : i < ks.length := by omega
    refine (ev_l1 t ks root fg ps hk b i hi i 0 (by omega) (fun h => ih (i + 1) (by omega) (fun h2 => hn fun p h3 hp q hq => ?_) (fun ⟨p, h3, h4⟩ => hd ⟨p, by omega, h4⟩)) (fun ⟨q, _, hq, he⟩ => hd ⟨i, Nat.le_refl _, hi, q, hq, he⟩)).next fun k h => ?_
    · rcases Nat.lt_or_ge i p with h5 | h5
      · exact h2 p h5 hp q hq
      · obtain rfl : p = i := by omega
        exact h q (Nat.zero_le _) hq
    · rw [mootbellref07_Check.l0, if_pos (by omega)]
      exact h
theorem nodup_idx (ks : List Int) : ks.Nodup ↔ ∀ p, ∀ hp : p < ks.length, ∀ q, ∀ hq : q < p, ks[p] ≠ ks[q] := by
  rw [List.nodup_iff_pairwise_ne, List.pairwise_iff_getElem]
  constructor
  · intro h p hp q hq e
    exact h q p (by omega) hp hq e.symm
  · intro h q p h1 h2 hq e
    exact h p h2 q hq e.symm
theorem ev_check (t : List Pr) (it : It) (ht : t.length ≤ 9223372036854775807) (hk : it.f0.length ≤ 2048) : Ev (fun k => mootbellref07_Check.f k t it.f0 it.f1 it.f2.f0 it.f2.f1) (chk t it) := by
  rw [chk_R t it hk]
  refine ev_l0 t it.f0 it.f1 it.f2.f0 it.f2.f1 ht hk it.f0.length 0 (by omega) _ (fun h => ?_) (fun ⟨p, _, hp, q, hq, he⟩ => ?_)
  · have hn : it.f0.Nodup := (nodup_idx _).2 fun p hp q hq => h p (Nat.zero_le _) hp q hq
    unfold chkR chkTail
    rw [decide_eq_true hn, Bool.true_and]
  · have hn : ¬ it.f0.Nodup := fun h => (nodup_idx _).1 h p hp q hq he
    unfold chkR
    rw [decide_eq_false hn, Bool.false_and]
theorem ev_all_l (t : List Pr) (its : List It) (ht : t.length ≤ 9223372036854775807) (hl : its.length < 9223372036854775807) (hk : ∀ x ∈ its, x.f0.length ≤ 2048) (r i : Nat) (hr : i + r = its.length) : Ev (fun k => mootbellref07_All.l0 k t its (i : Int)) ((its.drop i).all (chk t)) := by
  induction r generalizing i with
  | zero =>
    refine Ev.now fun k => ?_
    rw [mootbellref07_All.l0, if_neg (by omega), List.drop_of_length_le (by omega)]
    rfl
  | succ r ih =>
    have hi : i < its.length := by omega
    have e1 : rd_T32 its (i : Int) = its[i] := rdI_eq hi
    refine (Ev.two (ih (i + 1) (by omega)) (ev_check t its[i] ht (hk _ (List.getElem_mem hi)))).next fun k h => ?_
    obtain ⟨h1, h2⟩ := Ev.split h
    rw [mootbellref07_All.l0, if_pos (by omega), if_pos (by omega), e1, h2, Option.bind_some, wz (by omega), h1, List.drop_eq_getElem_cons hi, List.all_cons]
    cases chk t its[i] <;> rfl
theorem rAllE (A : Option Addr) (n c : Nat) (t : List Pr) (I : Option Addr) (m mc : Nat) (its : List It) (r : Bool) (w : World) (hA : kP.C w A n t) (hc : n ≤ c) (hI : kI.C w I m its) (hm : m ≤ mc) (hk : ∀ x ∈ its, x.f0.length ≤ 2048) (hm0 : m ≤ 1000000000000) (h : its.all (chk t) = r) :
    Calls Try.prog 23 #[.slice A n c, .slice I m mc] w fun e w' => e = .returned (.bool r) ∧ Below w.heap.size w w' := by
  have ht := Kd.C_max hA
  obtain rfl := Kd.C_len hA
  obtain rfl := Kd.C_len hI
  obtain ⟨K, hK⟩ := ev_all_l t its ht (by omega) hk its.length 0 (by omega)
  have h1 := hK K (Nat.le_refl _)
  rw [List.drop_zero, h] at h1
  exact mootbellref07_All.calls K A c t I mc its r w hA hc hI hm h1
end Go.Proofs.Ytnfglkgkdechlaa


/- Whether an item is right (chapter 7): oracle.Check. -/
namespace Go.Proofs.Ytnfglkgkdechlaa
open Go.RowKit Go.Proofs.YtnfglkgkdechlaaW.PrintWords Go.Proofs.YtnfglkgkdechlaaW.PrintLast Go.Proofs.YtnfglkgkdechlaaW.PrintMore

open Go.Proofs.Ytnfglkgkdechlaa.PQ Go.Maps

theorem lawU : Keyed Try.prog 28 := int_keyed Try.underlying28
theorem zeroUnit (w : World) : (zeroValue 63).run Try.prog w = .ok (.agg #[]) w := by kernel_rfl
theorem keyU {x : Int} (h : (Lit.int .u64 x).wf = true) : keyOf Try.prog 28 (.int .u64 x) = some (.int .u64 x) := keyOf_int_mk Try.underlying28 h
theorem tKeysNo (f : Bool) (A : Option Addr) (n c : Nat) (l : List Pr) (root : Int) (w : World) (hA : kP.C w A n l) (hc : n ≤ c) (h : keysF l root = none) : Calls Try.prog 24 #[.agg #[.bool f, .slice A n c], .int .u64 root] w
    fun e w' => (∃ A' m c', e = .returned (.tuple #[.slice A' m c', .bool false])) ∧ Below w.heap.size w w' := by
  refine (tKeys f A n c l root w hA hc).mono fun e w' hh => ?_
  obtain ⟨A', m, c', he, _, _, _, hb⟩ := hh
  rw [h] at he
  exact ⟨⟨A', m, c', he⟩, hb⟩
theorem tKeysYes (f : Bool) (A : Option Addr) (n c : Nat) (l : List Pr) (root : Int) (w : World) (hA : kP.C w A n l) (hc : n ≤ c) (h : keysF l root ≠ none) : Calls Try.prog 24 #[.agg #[.bool f, .slice A n c], .int .u64 root] w
    fun e w' => (∃ A' c', e = .returned (.tuple #[.slice A' n c', .bool true])) ∧ Below w.heap.size w w' := by
  refine (tKeys f A n c l root w hA hc).mono fun e w' hh => ?_
  obtain ⟨A', m, c', he, hm, _, _, hb⟩ := hh
  obtain ⟨ks, hk⟩ := Option.ne_none_iff_exists'.1 h
  rw [hk] at he hm
  have : m = n := by
    rw [hm, ← Kd.C_len hA]
    exact keysF_len hk
  subst this
  exact ⟨⟨A', c', he⟩, hb⟩
set_option maxRecDepth 100000 in
set_option maxHeartbeats 8000000 in
theorem oCheck (A : Option Addr) (n c : Nat) (l : List Pr) (K : Option Addr) (nk ck : Nat) (P : Option Addr) (np cp : Nat) (it : It) (w : World) (hA : kP.C w A n l) (hc : n ≤ c) (hK : (Kd.int .u64).C w K nk it.f0) (hck : nk ≤ ck) (hP : kP.C w P np it.f2.f1) (hcp : np ≤ cp) (ho : okI it) :
    Calls Try.prog 17 #[.slice A n c, .agg #[.slice K nk ck, .int .u64 it.f1, .bool it.f2.f0, .slice P np cp]] w fun e w' => e = .returned (.bool (chk l it)) ∧ Below w.heap.size w w' := by
  have HN := Aside0.mk (show n = l.length from (Kd.C_len hA).symm)
  have HNK := Aside0.mk (show nk = it.f0.length from (Kd.C_len hK).symm)
  have HNP := Aside0.mk (show np = it.f2.f1.length from (Kd.C_len hP).symm)
  have hnk63 : nk ≤ 9223372036854775807 := by rw [HNK.out]; exact Kd.C_len hK ▸ Kd.C_max hK
  have hnp63 : np ≤ 9223372036854775807 := by rw [HNP.out]; exact Kd.C_len hP ▸ Kd.C_max hP
  have HX := Aside0.mk hA
  have HK := Aside0.mk hK
  have HP := Aside0.mk hP
  have HO := Aside0.mk ho
  clear hA hK hP ho
  have HB := Aside0.mk (Below.refl w.heap.size w)
  obtain ⟨r, hr⟩ : ∃ r, chk l it = r := ⟨_, rfl⟩
  rw [hr]
  have hr0 := hr
  unfold chk at hr
  by_cases h1 : keysF it.f2.f1 it.f1 = none
  · rw [if_pos h1] at hr
    subst hr
    have H1 := Aside0.mk h1
    clear h1 hr0
    go_enter Try.func17, Try.ntmps17
    go_wp2_with fail
    refine (tKeysNo it.f2.f0 P np cp it.f2.f1 it.f1 _ ?hX hcp H1.out).mono ?_
    case hX => (repeat (with_reducible first | exact HP.out | apply C_alloc))
    rintro e w3 ⟨⟨A', m, c', rfl⟩, hb_⟩
    have YT : Box w3 (w.heap.size) _ _ := Box.below (by repeat (with_reducible first | exact XT.out | exact Box.new | exact Box.new1 | exact Box.new2 | exact Box.new3 | apply Box.alloc | apply Box.drew | apply Box.drewN | apply Box.set)) hb_
    (try clear XT rT kT fT); have XT := Aside0.mk YT; have rT := YT.cell; have fT := YT.frozen; have kT := YT.lt; clear YT
    have n_ := Aside0.mk (below_step (by repeat (first | exact HB.out | apply below_alloc | apply pw_below_drewN | apply below_drew1 | refine below_set ?_ (by first | omega | (simp; omega)))) hb_); clear HB hb_; have HB := n_; clear n_
    go_wp2
    go_ret
    exact ⟨rfl, HB.out⟩
  rw [if_neg h1] at hr
  have H1 := Aside0.mk h1
  clear h1
  have hmm := @run_makeMap Try.prog
  obtain ⟨f, hf⟩ : ∃ f, it.f2.f0 = f := ⟨_, rfl⟩
  by_cases h2 : it.f2.f0 = true ∨ it.f0.length = 0 ∨ it.f2.f1.length ≠ it.f0.length
  · rw [if_pos h2] at hr
    subst hr
    rw [← HNK.out, ← HNP.out] at h2
    clear hr0
    rw [hf] at h2 ⊢
    have hcase : f = true ∨ (f = false ∧ nk = 0) ∨ (f = false ∧ nk ≠ 0 ∧ np ≠ nk) := by
      cases f <;> simp at h2 ⊢ <;> omega
    clear h2 hf
    rcases hcase with rfl | ⟨rfl, rfl⟩ | ⟨rfl, h3, h4⟩
    · go_enter Try.func17, Try.ntmps17
      go_wp2_with fail
      refine (tKeysYes true P np cp it.f2.f1 it.f1 _ ?hX hcp H1.out).mono ?_
      case hX => (repeat (with_reducible first | exact HP.out | apply C_alloc))
      rintro e w3 ⟨⟨A', c', rfl⟩, hb_⟩
      have YT : Box w3 (w.heap.size) _ _ := Box.below (by repeat (with_reducible first | exact XT.out | exact Box.new | exact Box.new1 | exact Box.new2 | exact Box.new3 | apply Box.alloc | apply Box.drew | apply Box.drewN | apply Box.set)) hb_
      (try clear XT rT kT fT); have XT := Aside0.mk YT; have rT := YT.cell; have fT := YT.frozen; have kT := YT.lt; clear YT
      have n_ := Aside0.mk (below_step (by repeat (first | exact HB.out | apply below_alloc | apply pw_below_drewN | apply below_drew1 | refine below_set ?_ (by first | omega | (simp; omega)))) hb_); clear HB hb_; have HB := n_; clear n_
      go_wp2
      go_ret
      exact ⟨rfl, HB.out⟩
    · go_enter Try.func17, Try.ntmps17
      go_wp2_with fail
      refine (tKeysYes false P np cp it.f2.f1 it.f1 _ ?hX hcp H1.out).mono ?_
      case hX => (repeat (with_reducible first | exact HP.out | apply C_alloc))
      rintro e w3 ⟨⟨A', c', rfl⟩, hb_⟩
      have YT : Box w3 (w.heap.size) _ _ := Box.below (by repeat (with_reducible first | exact XT.out | exact Box.new | exact Box.new1 | exact Box.new2 | exact Box.new3 | apply Box.alloc | apply Box.drew | apply Box.drewN | apply Box.set)) hb_
      (try clear XT rT kT fT); have XT := Aside0.mk YT; have rT := YT.cell; have fT := YT.frozen; have kT := YT.lt; clear YT
      have n_ := Aside0.mk (below_step (by repeat (first | exact HB.out | apply below_alloc | apply pw_below_drewN | apply below_drew1 | refine below_set ?_ (by first | omega | (simp; omega)))) hb_); clear HB hb_; have HB := n_; clear n_
      go_wp2
      go_ret
      exact ⟨rfl, HB.out⟩
    · have d1 : ((nk : Int) == 0) = false := beq_eq_false_iff_ne.mpr (by omega)
      have d2 : ((np : Int) != (nk : Int)) = true := bne_iff_ne.mpr (by omega)
      have d1n : (nk == 0) = false := beq_eq_false_iff_ne.mpr h3
      have d2n : (np != nk) = true := bne_iff_ne.mpr h4
      have d1d : decide (nk = 0) = false := decide_eq_false h3
      have d2d : decide (np = nk) = false := decide_eq_false h4
      go_enter Try.func17, Try.ntmps17
      go_wp2_with fail
      refine (tKeysYes false P np cp it.f2.f1 it.f1 _ ?hX hcp H1.out).mono ?_
      case hX => (repeat (with_reducible first | exact HP.out | apply C_alloc))
      rintro e w3 ⟨⟨A', c', rfl⟩, hb_⟩
      have YT : Box w3 (w.heap.size) _ _ := Box.below (by repeat (with_reducible first | exact XT.out | exact Box.new | exact Box.new1 | exact Box.new2 | exact Box.new3 | apply Box.alloc | apply Box.drew | apply Box.drewN | apply Box.set)) hb_
      (try clear XT rT kT fT); have XT := Aside0.mk YT; have rT := YT.cell; have fT := YT.frozen; have kT := YT.lt; clear YT
      have n_ := Aside0.mk (below_step (by repeat (first | exact HB.out | apply below_alloc | apply pw_below_drewN | apply below_drew1 | refine below_set ?_ (by first | omega | (simp; omega)))) hb_); clear HB hb_; have HB := n_; clear n_
      go_wp2
      go_ret
      exact ⟨rfl, HB.out⟩
  rw [if_neg h2] at hr
  obtain ⟨rfl, h3, h4⟩ : f = false ∧ nk ≠ 0 ∧ np = nk := by
    rw [← HNK.out, ← HNP.out, hf] at h2
    cases f <;> simp at h2 ⊢
    exact h2
  subst h4
  rw [hf]
  clear h2 hf hr0
  rw [← HNP.out] at hr
  have HRR := Aside0.mk hr
  clear hr
  have d1 : ((np : Int) == 0) = false := beq_eq_false_iff_ne.mpr (by omega)
  have d1n : (np == 0) = false := beq_eq_false_iff_ne.mpr h3
  have d1d : decide (np = 0) = false := decide_eq_false h3
  go_enter Try.func17, Try.ntmps17
  go_wp2_with fail
  refine (tKeysYes false P np cp it.f2.f1 it.f1 _ ?hX hcp H1.out).mono ?_
  case hX => (repeat (with_reducible first | exact HP.out | apply C_alloc))
  rintro e w3 ⟨⟨A', c', rfl⟩, hb_⟩
  have YT : Box w3 (w.heap.size) _ _ := Box.below (by repeat (with_reducible first | exact XT.out | exact Box.new | exact Box.new1 | exact Box.new2 | exact Box.new3 | apply Box.alloc | apply Box.drew | apply Box.drewN | apply Box.set)) hb_
  (try clear XT rT kT fT); have XT := Aside0.mk YT; have rT := YT.cell; have fT := YT.frozen; have kT := YT.lt; clear YT
  have ZHX := Aside0.mk (Kd.C_below (by repeat (with_reducible first | exact HX.out | apply C_alloc | apply C_drew)) hb_); clear HX; have HX := ZHX; clear ZHX
  have ZHK := Aside0.mk (Kd.C_below (by repeat (with_reducible first | exact HK.out | apply C_alloc | apply C_drew)) hb_); clear HK; have HK := ZHK; clear ZHK
  have ZHP := Aside0.mk (Kd.C_below (by repeat (with_reducible first | exact HP.out | apply C_alloc | apply C_drew)) hb_); clear HP; have HP := ZHP; clear ZHP
  have n_ := Aside0.mk (below_step (by repeat (first | exact HB.out | apply below_alloc | apply pw_below_drewN | apply below_drew1 | refine below_set ?_ (by first | omega | (simp; omega)))) hb_); clear HB hb_; have HB := n_; clear n_
  go_wp2
  have bT := XT
  have HB3 := HB
  clear XT rT kT fT HB hmm
  go_loopw [47] (fun v47 wx => ∃ i : Nat, i ≤ np ∧ v47 = .int .i64 i ∧ wx.ownsMap Try.prog 28 (unitElem (H := Unit)) w3.heap.size i (setOf (.agg []) ((it.f0.take i).map (Lit.int .u64))) ∧ Below w3.heap.size w3 wx) (fun v47 _ => np - (intOf v47).toNat)
  case atStart => exact ⟨0, by omega, rfl, World.ownsMap_made _ _ _ _, below_alloc (Below.refl _ _) _⟩
  case round =>
    obtain ⟨i, hi, rfl, hown, hb⟩ := hrel
    rcases Nat.lt_or_ge i np with hlt | hge
    · obtain ⟨z, hz⟩ : ∃ z : Int, (i : Int) = z := ⟨_, rfl⟩
      rw [hz]
      have hz0 : 0 ≤ z := by omega
      have hz1 : z < (np : Int) := by omega
      have hdz : decide (z < (np : Int)) = true := decide_eq_true hz1
      have HZ := Aside0.mk hz
      obtain ⟨kd, rfl, k0⟩ := Kd.at_int (Kd.C_below HK.out hb) z hz0 hz1
      obtain ⟨x, hx⟩ : ∃ x, rd it.f0 z = x := ⟨_, rfl⟩
      rw [hx] at k0
      have hxe : it.f0[i]'(by rw [← HNK.out]; exact hlt) = x := by
        have hi2 : i < it.f0.length := by rw [← HNK.out]; exact hlt
        rw [← hx, ← hz]
        unfold rd
        rw [Int.toNat_natCast, List.getD_eq_getElem?_getD, List.getElem?_eq_getElem hi2]
        rfl
      have HT := Aside0.mk (show it.f0.take (i + 1) = it.f0.take i ++ [x] by rw [List.take_succ_eq_append_getElem (by rw [← HNK.out]; exact hlt), hxe])
      have hkey := keyU (HO.out.1 x (by rw [← hxe]; exact List.getElem_mem _))
      clear hx hz hxe
      have h3c := ((bT.out.below hb).cell 0)
      go_wp2_with (first | (at_mapUpdate; refine wpList_mapUpdate_own _ rfl _ _ _ 62 rfl 28 63 lawU Try.underlying62 (unitElem (H := Unit)) w3.heap.size i _ rfl hown (by unfold maxLen; omega) _ _ _ rfl rfl hkey _ [] unitElem_mk ?_; intro w4 hown1 hgrow1; (simp only [Act.put, List.setIfInBounds_toArray, List.set_cons_succ, List.set_cons_zero])) | fail)
      go_roundw
      case rel => exact ⟨i + 1, by omega, by have := HZ.out; subst this; go_num, by rw [HT.out, set_u]; exact hown1, hb.grown hgrow1 hb.size (fun j hj => by cases hj; exact Nat.le_refl _)⟩
      case measure =>
        have := HZ.out
        simp [intOf]
        omega
    · obtain rfl : i = np := by omega
      have e1 : it.f0.take i = it.f0 := by rw [HNK.out, List.take_length]
      rw [e1] at hown
      have HOW := Aside0.mk hown
      have HB := Aside0.mk (below_step HB3.out hb)
      have HBL := Aside0.mk hb
      have HXL := Aside0.mk (Kd.C_below HX.out hb)
      have HPL := Aside0.mk (Kd.C_below HP.out hb)
      have XT := Aside0.mk (bT.out.below hb)
      clear hown hb
      obtain ⟨q, hq⟩ : ∃ q, tabB l = q := ⟨_, rfl⟩
      have HTB := Aside0.mk hq
      clear hq
      cases q with
      | false =>
        obtain rfl : false = r := by
          have := HRR.out
          rw [if_pos (Or.inl HTB.out)] at this
          exact this
        go_wp2_with fail
        refine (oRightE A n c l false _ (by repeat (with_reducible first | exact HXL.out | apply C_alloc)) hc HTB.out).mono ?_
        rintro e w5 ⟨rfl, hb_⟩
        have n_ := Aside0.mk (below_step (by repeat (first | exact HB.out | apply below_alloc | apply pw_below_drewN | apply below_drew1 | refine below_set ?_ (by first | omega | (simp; omega)))) hb_); clear HB hb_; have HB := n_; clear n_
        go_wp2
        go_ret
        exact ⟨rfl, HB.out⟩
      | true =>
        go_wp2_with fail
        refine (oRightE A n c l true _ (by repeat (with_reducible first | exact HXL.out | apply C_alloc)) hc HTB.out).mono ?_
        rintro e w5 ⟨rfl, hb_⟩
        have HOW5 := Aside0.mk (ownsMap_below HOW.out hb_)
        have hlen := HOW5.out.len (t := 62) Try.underlying62 3
        rw [size_u] at hlen
        have HB5 := Aside0.mk (below_step HBL.out hb_)
        have HX5 := Aside0.mk (Kd.C_below HXL.out hb_)
        have HP5 := Aside0.mk (Kd.C_below HPL.out hb_)
        have XT5 := Aside0.mk (XT.out.below hb_)
        have rT := XT5.out.cell
        have t3 : w5.cell? ⟨w.heap.size, 3, none⟩ = some (.slice P i cp) := rT 3
        clear HB XT HXL HPL HOW hb_ rT
        by_cases hu : (uniq it.f0).length = i
        · have hd3 : (((uniq it.f0).length : Int) != (i : Int)) = false := bne_eq_false_iff_eq.mpr (by omega)
          rw [hu] at hlen hd3
          have HALL := Aside0.mk (show (it.f2.f1.all fun p => it.f0.contains p.f0 && decide (p ∈ l)) = r by
            have := HRR.out
            rw [if_neg (by rw [HTB.out, hu]; simp)] at this
            exact this)
          clear hu
          go_wp2
          clear hlen
          go_loopw [69] (fun v69 wx => ∃ j : Nat, j ≤ i ∧ v69 = .int .i64 j ∧ ((it.f2.f1.take j).all fun p => it.f0.contains p.f0 && decide (p ∈ l)) = true ∧ Below w5.heap.size w5 wx) (fun v69 _ => i - (intOf v69).toNat)
          case atStart => exact ⟨0, by omega, rfl, by simp, Below.refl _ _⟩
          case round =>
            obtain ⟨j, hj, rfl, hall, hb⟩ := hrel
            rcases Nat.lt_or_ge j i with hlt | hge2
            · obtain ⟨z, hz⟩ : ∃ z : Int, (j : Int) = z := ⟨_, rfl⟩
              rw [hz]
              have hz0 : 0 ≤ z := by omega
              have hz1 : z < (i : Int) := by omega
              have hdz : decide (z < (i : Int)) = true := decide_eq_true hz1
              have HZ := Aside0.mk hz
              obtain ⟨pd, rfl, p0, p1⟩ := at_P (Kd.C_below HP5.out hb) z hz0 hz1
              obtain ⟨x, hx⟩ : ∃ x, rdP it.f2.f1 z = x := ⟨_, rfl⟩
              rw [hx] at p0 p1
              have hjl : j < it.f2.f1.length := by rw [← HNP.out]; exact hlt
              have hxe : it.f2.f1[j] = x := by rw [← hx, ← hz]; exact (rdP_eq hjl).symm
              have HT := Aside0.mk (show it.f2.f1.take (j + 1) = it.f2.f1.take j ++ [x] by rw [List.take_succ_eq_append_getElem hjl, hxe])
              have HM := Aside0.mk (show x ∈ it.f2.f1 by rw [← hxe]; exact List.getElem_mem hjl)
              have hkey := keyU (HO.out.2 x HM.out)
              have HB := Aside0.mk hb
              have HA := Aside0.mk hall
              clear hx hz hxe hb hall hjl
              go_upto_region 15 with (fail)
              obtain ⟨V, hV⟩ : ∃ V, wr.alloc (.cells #[.int .u64 x.f0, .int .u64 x.f1] 52) = V := ⟨_, rfl⟩
              rw [hV]
              have XN := Aside0.mk (hV ▸ Box.new : Box V wr.heap.size #[.int .u64 x.f0, .int .u64 x.f1] 52)
              have HBV := Aside0.mk (hV ▸ below_alloc HB.out _ : Below w5.heap.size w5 V)
              have HB := HBV
              have hownV := ownsMap_below HOW5.out HBV.out
              have rN := XN.out.cell
              have kN := XN.out.lt
              have fN := XN.out.frozen
              clear hV p0 p1
              generalize wr.heap.size = nb at *
              obtain ⟨c1, hc1⟩ : ∃ b, it.f0.contains x.f0 = b := ⟨_, rfl⟩
              have hhas := has_u it.f0 x.f0
              rw [hc1] at hhas
              obtain ⟨c2, hc2⟩ : ∃ b, decide (x ∈ l) = b := ⟨_, rfl⟩
              have HC1 := Aside0.mk hc1
              have HC2 := Aside0.mk hc2
              clear hc1 hc2
              cases c1 with
              | false =>
                obtain rfl : false = r := by
                  rw [← HALL.out, Eq.comm, Bool.eq_false_iff]
                  intro h
                  have := List.all_eq_true.1 h x HM.out
                  rw [HC1.out] at this
                  cases this
                go_wp2_with (first | (at_lookup; refine wpList_lookup_own_unit _ rfl _ _ 62 rfl 28 63 lawU Try.underlying62 (zeroUnit _) w3.heap.size i _ rfl hownV _ _ rfl hkey ?_; rw [hhas]) | fail)
                go_ret
                exact ⟨rfl, below_step HB3.out (below_step HB5.out (by repeat (first | exact HB.out | apply below_alloc | apply pw_below_drewN | apply below_drew1 | refine below_set ?_ (by first | omega | (simp; omega)))))⟩
              | true =>
                go_wp2_with (first | (at_lookup; refine wpList_lookup_own_unit _ rfl _ _ 62 rfl 28 63 lawU Try.underlying62 (zeroUnit _) w3.heap.size i _ rfl hownV _ _ rfl hkey ?_; rw [hhas]) | fail)
                refine (oHasE A n c l x c2 _ (Kd.C_below HX5.out (by repeat (first | exact HB.out | apply below_alloc | apply pw_below_drewN | apply below_drew1 | refine below_set ?_ (by first | omega | (simp; omega))))) hc HTB.out HC2.out).mono ?_
                rintro e w7 ⟨rfl, hb_⟩
                have HB7 := Aside0.mk (below_step (by repeat (first | exact HB.out | apply below_alloc | apply pw_below_drewN | apply below_drew1 | refine below_set ?_ (by first | omega | (simp; omega)))) hb_ : Below w5.heap.size w5 w7)
                clear HB hb_
                cases c2 with
                | false =>
                  obtain rfl : false = r := by
                    rw [← HALL.out, Eq.comm, Bool.eq_false_iff]
                    intro h
                    have := List.all_eq_true.1 h x HM.out
                    rw [HC2.out, Bool.and_false] at this
                    cases this
                  go_wp2
                  go_ret
                  exact ⟨rfl, below_step HB3.out (below_step HB5.out HB7.out)⟩
                | true =>
                  go_wp2
                  go_roundw
                  case rel => exact ⟨j + 1, by omega, by have := HZ.out; subst this; go_num, by rw [HT.out, List.all_append, HA.out]; simp only [List.all_cons, List.all_nil, HC1.out, HC2.out]; rfl, HB7.out⟩
                  case measure =>
                    have := HZ.out
                    simp [intOf]
                    omega
            · obtain rfl : j = i := by omega
              rw [HNP.out, List.take_length] at hall
              obtain rfl : true = r := hall.symm.trans HALL.out
              go_wp2
              go_ret
              exact ⟨rfl, below_step HB3.out (below_step HB5.out hb)⟩
        · have hd3 : (((uniq it.f0).length : Int) != (i : Int)) = true := bne_iff_ne.mpr (by omega)
          obtain rfl : false = r := by
            have := HRR.out
            rw [if_pos (Or.inr hu)] at this
            exact this
          go_wp2
          go_ret
          exact ⟨rfl, below_step HB3.out HB5.out⟩
end Go.Proofs.Ytnfglkgkdechlaa


/- Whether items are right, all of them (chapter 7): oracle.All. -/
namespace Go.Proofs.Ytnfglkgkdechlaa
open Go.RowKit Go.Proofs.YtnfglkgkdechlaaW.PrintWords Go.Proofs.YtnfglkgkdechlaaW.PrintLast Go.Proofs.YtnfglkgkdechlaaW.PrintMore

open Go.Proofs.Ytnfglkgkdechlaa.PQ

theorem oCheckE (A : Option Addr) (n c : Nat) (l : List Pr) (K : Option Addr) (nk ck : Nat) (P : Option Addr) (np cp : Nat) (it : It) (r : Bool) (w : World) (hA : kP.C w A n l) (hc : n ≤ c) (hK : (Kd.int .u64).C w K nk it.f0) (hck : nk ≤ ck) (hP : kP.C w P np it.f2.f1) (hcp : np ≤ cp) (ho : okI it) (h : chk l it = r) :
    Calls Try.prog 17 #[.slice A n c, .agg #[.slice K nk ck, .int .u64 it.f1, .bool it.f2.f0, .slice P np cp]] w fun e w' => e = .returned (.bool r) ∧ Below w.heap.size w w' := h ▸ oCheck A n c l K nk ck P np cp it w hA hc hK hck hP hcp ho
set_option maxHeartbeats 1000000 in
theorem all1 (A : Option Addr) (n c b : Nat) (l : List Pr) (K : Option Addr) (nk ck : Nat) (P : Option Addr) (np cp : Nat) (it : It) (r : Bool) (w : World) (hA : kP.C w A n l) (hc : n ≤ c) (hb : Box w b #[.slice A n c] 22) (hK : (Kd.int .u64).C w K nk it.f0) (hck : nk ≤ ck) (hP : kP.C w P np it.f2.f1) (hcp : np ≤ cp) (ho : okI it) (h : chk l it = r) :
    Calls Try.prog 34 #[.agg #[.slice K nk ck, .int .u64 it.f1, .bool it.f2.f0, .slice P np cp], .pointer (some ⟨b, 0, none⟩)] w fun e w' => e = .returned (.bool (!r)) ∧ Below w.heap.size w w' := by
  have HB := Aside0.mk (Below.refl w.heap.size w)
  have HX := Aside0.mk hA
  have HK := Aside0.mk hK
  have HP := Aside0.mk hP
  have HO := Aside0.mk ho
  have HR := Aside0.mk h
  have rb := hb.cell
  have b0 : w.cell? ⟨b, 0, none⟩ = some (.slice A n c) := rb 0
  have kb := hb.lt
  clear hA hK hP ho h hb rb
  go_enter Try.func34, Try.ntmps34
  go_wp2_with fail
  refine (oCheckE A n c l K nk ck P np cp it r _ (by repeat (with_reducible first | exact HX.out | apply C_alloc)) hc (by repeat (with_reducible first | exact HK.out | apply C_alloc)) hck (by repeat (with_reducible first | exact HP.out | apply C_alloc)) hcp HO.out HR.out).mono ?_
  rintro e w1 ⟨rfl, hb_⟩
  have n_ := Aside0.mk (below_step (by repeat (first | exact HB.out | apply below_alloc | apply pw_below_drewN | apply below_drew1 | refine below_set ?_ (by first | omega | (simp; omega)))) hb_); clear HB hb_; have HB := n_; clear n_
  go_wp2
  go_ret
  exact ⟨rfl, HB.out⟩
set_option maxRecDepth 100000 in
set_option maxHeartbeats 2000000 in
theorem idxAll (A : Option Addr) (n c b : Nat) (l : List Pr) (I : Option Addr) (m mc : Nat) (its : List It) (w : World) (hA : kP.C w A n l) (hc : n ≤ c) (hb : Box w b #[.slice A n c] 22) (hI : kI.C w I m its) (ho : ∀ x ∈ its, okI x) :
    Calls Try.prog 40 #[.slice I m mc, .func (.func 34) #[] #[.pointer (some ⟨b, 0, none⟩)]] w fun e w' => ∃ r, e = .returned (.int .i64 r) ∧ (0 ≤ r ↔ ∃ x ∈ its, chk l x = false) ∧ Below w.heap.size w w' := by
  have hmx := Kd.C_max hI
  have HM := Aside0.mk (show m = its.length from (Kd.C_len hI).symm)
  have HX := Aside0.mk hA
  have HI := Aside0.mk hI
  have HO := Aside0.mk ho
  have HBB := Aside0.mk hb
  have HB := Aside0.mk (Below.refl w.heap.size w)
  clear hA hI hb ho
  go_enter Try.func40, Try.ntmps40
  go_wp2
  go_loopw [8] (fun i wr => ∃ k : Nat, k ≤ m ∧ i = .int .i64 k ∧ (∀ j : Nat, j < k → chk l (rdI its (j : Int)) = true) ∧ Below w.heap.size w wr) (fun i _ => m - (intOf i).toNat)
  case atStart => exact ⟨0, by omega, rfl, fun j hj => by omega, HB.out⟩
  case round =>
    clear HB
    obtain ⟨k, hk, rfl, ht, hbl⟩ := hrel
    have HT := Aside0.mk ht
    have HB := Aside0.mk hbl
    clear ht hbl
    by_cases hlt : k < m
    · have hkl : k < its.length := by rw [← HM.out]; exact hlt
      have HXK := Aside0.mk (show rdI its (k : Int) ∈ its by rw [rdI_eq hkl]; exact List.getElem_mem hkl)
      obtain ⟨z, hz⟩ : ∃ z : Int, (k : Int) = z := ⟨_, rfl⟩
      rw [hz] at HXK ⊢
      have hz0 : 0 ≤ z := by omega
      have hz1 : z < (m : Int) := by omega
      have hdz : decide (z < (m : Int)) = true := decide_eq_true hz1
      have HZ := Aside0.mk hz
      obtain ⟨ad, K, ck, P, cp, rfl, c0, c1, c2, c3, hck, hK, hcp, hP⟩ := at_I (Kd.C_below HI.out HB.out) z hz0 hz1
      obtain ⟨it, hit⟩ : ∃ it, rdI its z = it := ⟨_, rfl⟩
      rw [hit] at c0 c1 c2 c3 hck hK hcp hP HXK
      have HIT := Aside0.mk hit
      have HKW := Aside0.mk hK
      have HPW := Aside0.mk hP
      have HXW := Aside0.mk (Kd.C_below HX.out HB.out)
      have HBW := Aside0.mk (HBB.out.below HB.out)
      clear hit hz hK hP hkl
      obtain ⟨r, hr⟩ : ∃ r, chk l it = r := ⟨_, rfl⟩
      have HR := Aside0.mk hr
      clear hr
      go_wp2_with fail
      refine (all1 A n c b l K it.f0.length ck P it.f2.f1.length cp it r _ HXW.out hc HBW.out HKW.out hck HPW.out hcp (HO.out it HXK.out) HR.out).mono ?_
      rintro e w5 ⟨rfl, hb_⟩
      have n_ := Aside0.mk (below_step (by repeat (first | exact HB.out | apply below_alloc | apply pw_below_drewN | apply below_drew1 | refine below_set ?_ (by first | omega | (simp; omega)))) hb_); clear HB hb_; have HB := n_; clear n_
      cases r with
      | true =>
        go_wp2
        go_roundw
        case rel =>
          refine ⟨k + 1, by omega, by have := HZ.out; subst this; go_num, fun j hj => ?_, HB.out⟩
          rcases Nat.lt_or_ge j k with g | g
          · exact HT.out j g
          · obtain rfl : j = k := by omega
            rw [HZ.out, HIT.out]
            exact HR.out
        case measure =>
          have := HZ.out
          simp [intOf]
          omega
      | false =>
        go_wp2
        go_ret
        exact ⟨_, rfl, ⟨fun _ => ⟨it, HXK.out, HR.out⟩, fun _ => hz0⟩, HB.out⟩
    · go_wp2
      go_ret
      refine ⟨_, rfl, ⟨fun hh => absurd hh (by omega), fun ⟨x, hx, hr⟩ => ?_⟩, HB.out⟩
      obtain ⟨i, hi, rfl⟩ := List.getElem_of_mem hx
      rw [← rdI_eq hi, HT.out i (by have := HM.out; omega)] at hr
      cases hr
set_option maxHeartbeats 1000000 in
theorem contAll (A : Option Addr) (n c b : Nat) (l : List Pr) (I : Option Addr) (m mc : Nat) (its : List It) (w : World) (hA : kP.C w A n l) (hc : n ≤ c) (hb : Box w b #[.slice A n c] 22) (hI : kI.C w I m its) (ho : ∀ x ∈ its, okI x) :
    Calls Try.prog 33 #[.slice I m mc, .func (.func 34) #[] #[.pointer (some ⟨b, 0, none⟩)]] w fun e w' => e = .returned (.bool (!its.all (chk l))) ∧ Below w.heap.size w w' := by
  have HB := Aside0.mk (Below.refl w.heap.size w)
  have HX := Aside0.mk hA
  have HI := Aside0.mk hI
  have HO := Aside0.mk ho
  have HBB := Aside0.mk hb
  clear hA hI ho hb
  go_enter Try.func33, Try.ntmps33
  go_wp2_with fail
  refine (idxAll A n c b l I m mc its _ HX.out hc HBB.out HI.out HO.out).mono ?_
  rintro e w5 ⟨r, rfl, hr, hb_⟩
  have n_ := Aside0.mk (below_step (by repeat (first | exact HB.out | apply below_alloc | apply pw_below_drewN | apply below_drew1 | refine below_set ?_ (by first | omega | (simp; omega)))) hb_); clear HB hb_; have HB := n_; clear n_
  go_wp2
  go_ret
  refine ⟨ret_bool ?_, HB.out⟩
  rw [Bool.eq_iff_iff]
  simp only [decide_eq_true_eq, hr, Bool.not_eq_true', List.all_eq_false, Bool.not_eq_true]
set_option maxHeartbeats 1000000 in
theorem oAll (A : Option Addr) (n c : Nat) (l : List Pr) (I : Option Addr) (m mc : Nat) (its : List It) (r : Bool) (w : World) (hA : kP.C w A n l) (hc : n ≤ c) (hI : kI.C w I m its) (ho : ∀ x ∈ its, okI x) (h : its.all (chk l) = r) :
    Calls Try.prog 22 #[.slice A n c, .slice I m mc] w fun e w' => e = .returned (.bool r) ∧ Below w.heap.size w w' := by
  have HB := Aside0.mk (Below.refl w.heap.size w)
  have CX := Aside0.mk hA
  have CY := Aside0.mk hI
  have HO := Aside0.mk ho
  have hmf : ∀ (fn : Fn) (first cap : Array Value) (w : World), (Instr.makeFunc fn first cap).run Try.prog w = .ok (.func fn first cap) w := fun _ _ _ _ => rfl
  have HC := Aside0.mk (fun W h1 h2 h3 => contAll A n c w.heap.size l I m mc its W h1 hc h2 h3 ho)
  rw [h] at HC
  clear hA hI ho h
  go_enter Try.func22, Try.ntmps22
  go_wp2_with fail
  refine (HC.out _ ?h1 ?h2 ?h3).mono ?_
  (case h1 => exact C_alloc CX.out); (case h2 => exact Box.new); (case h3 => exact C_alloc CY.out)
  rintro e w1 ⟨rfl, hb_⟩
  have n_ := Aside0.mk (below_step (by repeat (first | exact HB.out | apply below_alloc | apply pw_below_drewN | apply below_drew1 | refine below_set ?_ (by first | omega | (simp; omega)))) hb_); clear HB hb_; have HB := n_; clear n_
  go_wp2
  go_ret
  exact ⟨ret_bool (by simp), HB.out⟩
end Go.Proofs.Ytnfglkgkdechlaa


/- Which items are right (chapter 15): bisect.Find's own function. -/
namespace Go.Proofs.Ytnfglkgkdechlaa
open Go.RowKit Go.Proofs.YtnfglkgkdechlaaW.PrintWords Go.Proofs.YtnfglkgkdechlaaW.PrintLast Go.Proofs.YtnfglkgkdechlaaW.PrintMore

open Go.Proofs.Ytnfglkgkdechlaa.PQ

/-- How often All is asked. -/
def cntF (f : It → Bool) : Nat → List It → Nat
  | 0, _ => 0
  | k + 1, s => if s.length = 0 then 0 else if s.all f = true then 1 else if s.length ≤ 1 then 1 else 1 + cntF f k (s.take ((s.length + 1) / 2)) + cntF f k (s.drop ((s.length + 1) / 2))
theorem cntF_succ (f : It → Bool) (k : Nat) (s : List It) : cntF f (k + 1) s = if s.length = 0 then 0 else if s.all f = true then 1 else if s.length ≤ 1 then 1 else 1 + cntF f k (s.take ((s.length + 1) / 2)) + cntF f k (s.drop ((s.length + 1) / 2)) := rfl
theorem cntF_fuel (f : It → Bool) : ∀ (n k q : Nat) (s : List It), s.length ≤ n → s.length ≤ k → s.length ≤ q → cntF f k s = cntF f q s
  | n, 0, 0, s, _, _, _ => rfl
  | n, 0, q + 1, s, h, h1, h2 => by
    have : s.length = 0 := by omega
    simp [cntF, this]
  | n, k + 1, 0, s, h, h1, h2 => by
    have : s.length = 0 := by omega
    simp [cntF, this]
  | 0, k + 1, q + 1, s, h, h1, h2 => by
    have : s.length = 0 := by omega
    simp [cntF, this]
  | n + 1, k + 1, q + 1, s, h, h1, h2 => by
    unfold cntF
    by_cases h0 : s.length = 0
    · rw [if_pos h0, if_pos h0]
    · rw [if_neg h0, if_neg h0]
      split
      · rfl
      · by_cases h3 : s.length ≤ 1
        · rw [if_pos h3, if_pos h3]
        · rw [if_neg h3, if_neg h3, cntF_fuel f n k q (s.take _) (by simp; omega) (by simp; omega) (by simp; omega), cntF_fuel f n k q (s.drop _) (by simp; omega) (by simp; omega) (by simp; omega)]
def cnt (f : It → Bool) (s : List It) : Nat := cntF f s.length s
theorem cnt_eq (f : It → Bool) (s : List It) : cnt f s = if s.length = 0 then 0 else if s.all f = true then 1 else if s.length ≤ 1 then 1 else 1 + cnt f (s.take ((s.length + 1) / 2)) + cnt f (s.drop ((s.length + 1) / 2)) := by
  by_cases h0 : s.length = 0
  · unfold cnt
    rw [h0]
    simp [cntF]
  · obtain ⟨k, hk⟩ : ∃ k, s.length = k + 1 := ⟨s.length - 1, by omega⟩
    have e1 : cnt f s = cntF f (k + 1) s := by unfold cnt; rw [hk]
    rw [e1, cntF_succ, if_neg h0, if_neg h0]
    split
    · rfl
    · by_cases h3 : s.length ≤ 1
      · rw [if_pos h3, if_pos h3]
      · rw [if_neg h3, if_neg h3, cntF_fuel f s.length k (s.take ((s.length + 1) / 2)).length (s.take _) (by simp; omega) (by simp; omega) (Nat.le_refl _), cntF_fuel f s.length k (s.drop ((s.length + 1) / 2)).length (s.drop _) (by simp) (by simp; omega) (Nat.le_refl _)]
        rfl
theorem cnt_le (f : It → Bool) : ∀ (n : Nat) (s : List It), s.length ≤ n → cnt f s ≤ 2 * s.length - 1
  | 0, s, h => by
    rw [cnt_eq, if_pos (by omega)]
    omega
  | n + 1, s, h => by
    rw [cnt_eq]
    split
    · omega
    · split
      · omega
      · split
        · omega
        · have h1 := cnt_le f n (s.take ((s.length + 1) / 2)) (by simp; omega)
          have h2 := cnt_le f n (s.drop ((s.length + 1) / 2)) (by simp; omega)
          rw [List.length_take] at h1
          rw [List.length_drop] at h2
          omega
def seg (s : List It) (fr tu : Nat) : List It := (s.take tu).drop fr
theorem seg_len (s : List It) (fr tu : Nat) (h : fr ≤ tu) (ht : tu ≤ s.length) : (seg s fr tu).length = tu - fr := by
  unfold seg
  rw [List.length_drop, List.length_take]
  omega
theorem seg_take (s : List It) (fr tu q : Nat) (h : fr + q ≤ tu) (ht : tu ≤ s.length) : (seg s fr tu).take q = seg s fr (fr + q) := by
  unfold seg
  rw [List.take_drop, List.take_take, Nat.min_eq_left h]
theorem seg_drop (s : List It) (fr tu q : Nat) : (seg s fr tu).drop q = seg s (fr + q) tu := by
  unfold seg
  rw [List.drop_drop]
theorem seg_all (s : List It) (f : It → Bool) (fr tu : Nat) (ht : tu ≤ s.length) : (seg s fr tu).all f = true ↔ ∀ j : Nat, fr ≤ j → j < tu → f (rdI s (j : Int)) = true := by
  unfold seg
  rw [List.all_eq_true]
  constructor
  · intro h j h1 h2
    rw [rdI_eq (by omega)]
    refine h _ ?_
    have hl : j - fr < ((s.take tu).drop fr).length := by rw [List.length_drop, List.length_take]; omega
    have e : ((s.take tu).drop fr)[j - fr] = s[j] := by
      rw [List.getElem_drop, List.getElem_take]
      congr 1
      omega
    rw [← e]
    exact List.getElem_mem hl
  · intro h x hx
    obtain ⟨i, hi, rfl⟩ := List.getElem_of_mem hx
    rw [List.length_drop, List.length_take] at hi
    rw [List.getElem_drop, List.getElem_take]
    have := h (fr + i) (by omega) (by omega)
    rw [rdI_eq (by omega)] at this
    exact this
def outC (m : Nat) (O : Nat → Bool) : Array Value := ((List.range m).map (fun j => Value.bool (O j))).toArray
theorem outC_get (m : Nat) (O : Nat → Bool) {i : Nat} (h : i < m) : (outC m O)[i]? = some (.bool (O i)) := by simp [outC, h]
theorem outC_put (m : Nat) (O : Nat → Bool) (i : Nat) (b : Bool) : (outC m O).setIfInBounds i (.bool b) = outC m (fun j => if j = i then b else O j) := by
  apply Array.ext
  · simp [outC]
  · intro j h1 h2
    simp only [outC, List.setIfInBounds_toArray, List.getElem_toArray, List.getElem_set, List.getElem_map, List.getElem_range]
    by_cases e : i = j
    · subst e
      simp
    · have e' : ¬ j = i := fun h => e h.symm
      simp [e, e']
theorem outC_made (m : Nat) : madeCells (Value.bool false).cells (m * 1) = outC m (fun _ => false) := by
  apply Array.ext
  · simp [madeCells, outC]
  · intro j h1 h2
    have e : j % 1 = 0 := by omega
    simp [madeCells, outC, Value.cells, e]
/-- What stands while Find asks: s is the first block of its own. -/
def InvF (w0 w : World) (s : Nat) (A : Option Addr) (n c : Nat) (I : Option Addr) (m mc N : Nat) (O : Nat → Bool) : Prop :=
  w0.heap.size = s ∧ Below w0.heap.size w0 w ∧ Box w s #[.slice A n c] 22 ∧ Box w (s + 1) #[.slice I m mc] 25 ∧ Box w (s + 2) (outC m O) 4 ∧ Box w (s + 3) #[.slice (some ⟨s + 2, 0, none⟩) m m] 37 ∧ Box w (s + 4) #[.int .i64 (N : Int)] 3 ∧
    Box w (s + 5) #[.func (.func 21) #[] #[.pointer (some ⟨s + 4, 0, none⟩), .pointer (some ⟨s, 0, none⟩), .pointer (some ⟨s + 1, 0, none⟩), .pointer (some ⟨s + 3, 0, none⟩), .pointer (some ⟨s + 5, 0, none⟩)]] 57
theorem InvF.next {w0 w w' : World} {s : Nat} {A : Option Addr} {n c : Nat} {I : Option Addr} {m mc N : Nat} {O : Nat → Bool} (h : InvF w0 w s A n c I m mc N O) (hb : Below w.heap.size w w') : InvF w0 w' s A n c I m mc N O := by
  obtain ⟨hs, h0, h1, h2, h3, h4, h5, h6⟩ := h
  exact ⟨hs, below_step h0 hb, h1.below hb, h2.below hb, h3.below hb, h4.below hb, h5.below hb, h6.below hb⟩
end Go.Proofs.Ytnfglkgkdechlaa


/- Which items are right (chapter 15): bisect.Find's own function asks of a part of them. -/
namespace Go.Proofs.Ytnfglkgkdechlaa
open Go.RowKit Go.Proofs.YtnfglkgkdechlaaW.PrintWords Go.Proofs.YtnfglkgkdechlaaW.PrintLast Go.Proofs.YtnfglkgkdechlaaW.PrintMore

open Go.Proofs.Ytnfglkgkdechlaa.PQ

theorem C_seg {A : Option Addr} {l : List It} {w : World} {n c p q : Nat} (h : kI.C w A n l) (hc : n ≤ c) (hpq : p ≤ q) (hq : q ≤ n) : kI.C w (if c = p then A else A.map (·.add (p * 4))) (q - p) (seg l p q) := by
  obtain rfl := Kd.C_len h
  have e := Kd.C_take h hq
  have hp : p ≤ (l.take q).length := by rw [List.length_take]; omega
  have hcq : (l.take q).length ≤ c := by rw [List.length_take]; omega
  have e2 := Kd.C_drop e hp hcq
  have e3 : (seg l p q).length = q - p := seg_len l p q hpq hq
  unfold seg at e3 ⊢
  rw [e3] at e2
  exact e2
set_option maxRecDepth 100000 in
theorem ask_zero (w0 : World) (s : Nat) (A : Option Addr) (n c : Nat) (l : List Pr) (I : Option Addr) (m mc : Nat) (its : List It) (fr : Nat) (w : World) (N : Nat) (O : Nat → Bool) (hv : InvF w0 w s A n c I m mc N O) :
    Calls Try.prog 21 #[.int .i64 (fr : Int), .int .i64 (fr : Int), .pointer (some ⟨s + 4, 0, none⟩), .pointer (some ⟨s, 0, none⟩), .pointer (some ⟨s + 1, 0, none⟩), .pointer (some ⟨s + 3, 0, none⟩), .pointer (some ⟨s + 5, 0, none⟩)] w
      fun e w' => e = .returned (.tuple #[]) ∧ InvF w0 w' s A n c I m mc (N + cnt (chk l) (seg its fr fr)) (fun j => if fr ≤ j ∧ j < fr then chk l (rdI its (j : Int)) else O j) := by
  have HV := Aside0.mk hv
  clear hv
  go_enter Try.func21, Try.ntmps21
  have hd : ((fr : Int) == (fr : Int)) = true := by simp
  go_wp2
  refine bodyPost_ret (results_none rfl _ _ _) rfl ?_
  refine ⟨rfl, ?_⟩
  have e0 : cnt (chk l) (seg its fr fr) = 0 := by rw [cnt_eq, if_pos (by unfold seg; simp)]
  rw [e0]
  have e1 : (fun j : Nat => if fr ≤ j ∧ j < fr then chk l (rdI its (j : Int)) else O j) = O := funext fun j => if_neg (by omega)
  rw [e1]
  exact HV.out
set_option maxRecDepth 100000 in
set_option maxHeartbeats 8000000 in
theorem ask_calls (w0 : World) (s : Nat) (A : Option Addr) (n c : Nat) (l : List Pr) (I : Option Addr) (m mc : Nat) (its : List It) (hA : kP.C w0 A n l) (hc : n ≤ c) (hI : kI.C w0 I m its) (hm : m ≤ mc) (ho : ∀ x ∈ its, okI x) (d : Nat) :
    ∀ (fr tu : Nat), fr ≤ tu → tu - fr ≤ d → tu ≤ m → ∀ (w : World) (N : Nat) (O : Nat → Bool), InvF w0 w s A n c I m mc N O → N + 2 * (tu - fr) ≤ 1000000000000000000 → (∀ j : Nat, fr ≤ j → j < tu → O j = false) →
    Calls Try.prog 21 #[.int .i64 (fr : Int), .int .i64 (tu : Int), .pointer (some ⟨s + 4, 0, none⟩), .pointer (some ⟨s, 0, none⟩), .pointer (some ⟨s + 1, 0, none⟩), .pointer (some ⟨s + 3, 0, none⟩), .pointer (some ⟨s + 5, 0, none⟩)] w
      fun e w' => e = .returned (.tuple #[]) ∧ InvF w0 w' s A n c I m mc (N + cnt (chk l) (seg its fr tu)) (fun j => if fr ≤ j ∧ j < tu then chk l (rdI its (j : Int)) else O j) := by
  induction d with
  | zero =>
    intro fr tu h1 h2 h3 w N O hv hN hO
    obtain rfl : fr = tu := by omega
    exact ask_zero w0 s A n c l I m mc its fr w N O hv
  | succ d ih =>
    intro fr tu h1 h2 h3 w N O hv hN hO
    by_cases heq : fr = tu
    · subst heq
      exact ask_zero w0 s A n c l I m mc its fr w N O hv
    · have HV := Aside0.mk hv
      have HO := Aside0.mk hO
      have HIH := Aside0.mk ih
      have HX := Aside0.mk hA
      have HI := Aside0.mk hI
      have HOK := Aside0.mk ho
      have HML := Aside0.mk (show m = its.length from (Kd.C_len hI).symm)
      have hm63 : m ≤ 9223372036854775807 := by rw [HML.out]; exact Kd.C_len hI ▸ Kd.C_max hI
      obtain ⟨hs, hb0, bA, bI, bR, bO, bN, bF⟩ := hv
      clear hO ih hA hI ho
      have HB := Aside0.mk hb0
      have XR := Aside0.mk bR
      have XO := Aside0.mk bO
      have XN := Aside0.mk bN
      have XF := Aside0.mk bF
      have XA := Aside0.mk bA
      have XI := Aside0.mk bI
      have n0 : w.cell? ⟨s + 4, 0, none⟩ = some (.int .i64 (N : Int)) := bN.cell 0
      have n1 : w.frozen? ⟨s + 4, 0, none⟩ = false := bN.frozen 0
      have hd : ((fr : Int) == (tu : Int)) = false := beq_eq_false_iff_ne.mpr (by omega)
      obtain ⟨N1, hN1⟩ : ∃ N1 : Int, (N : Int) + 1 = N1 := ⟨_, rfl⟩
      have hw1 : IntKind.i64.wrap ((N : Int) + 1) = N1 := by rw [IntKind.wrap_i64]; omega
      have HN2 := Aside0.mk (show N1 = ((N + 1 : Nat) : Int) by omega)
      clear hN1
      clear hb0 bA bI bR bO bN bF
      go_enter Try.func21, Try.ntmps21
      go_upto_region 2 with (fail)
      obtain ⟨W, hW⟩ : ∃ W, w.setCell ⟨s + 4, 0, none⟩ (.int .i64 N1) = W := ⟨_, rfl⟩
      have hWN := Aside0.mk (hW ▸ (Box.put (j := 0) XN.out) : Box W (s + 4) #[.int .i64 N1] 3)
      rw [HN2.out] at hWN
      have HVW := Aside0.mk (show InvF w0 W s A n c I m mc (N + 1) O from ⟨hs, hW ▸ below_set HB.out (by omega), hW ▸ XA.out.far (by simp), hW ▸ XI.out.far (by simp), hW ▸ XR.out.far (by simp), hW ▸ XO.out.far (by simp), hWN.out, hW ▸ XF.out.far (by simp)⟩)
      rw [hW]
      clear HN2 hW HB XR XO XN XF XA XI n0 n1 hWN HV hw1
      obtain ⟨r, hr⟩ : ∃ r, (seg its fr tu).all (chk l) = r := ⟨_, rfl⟩
      have HR := Aside0.mk hr
      clear hr
      have rT := HVW.out.2.2.1.cell
      have kT := HVW.out.2.2.1.lt
      have rS := HVW.out.2.2.2.1.cell
      have kS := HVW.out.2.2.2.1.lt
      have HXW := Aside0.mk (Kd.C_below HX.out HVW.out.2.1)
      have HIW := Aside0.mk (Kd.C_below HI.out HVW.out.2.1)
      have HOS := Aside0.mk (show ∀ x ∈ seg its fr tu, okI x from fun x hx => HOK.out x (List.mem_of_mem_take (List.mem_of_mem_drop hx)))
      have hft : (fr : Int) ≤ (tu : Int) := by omega
      have htm : (tu : Int) ≤ (mc : Int) := by omega
      have hfm : (fr : Int) ≤ (mc : Int) := by omega
      have hf0 : 0 ≤ (fr : Int) := by omega
      have ht0 : 0 ≤ (tu : Int) := by omega
      refine wp_region_held_drew (S := (fun w' => Below W.heap.size W w' ∧ (∀ j, w'.cell? ⟨s, j, none⟩ = (#[.slice A n c] : Array Value)[j]?) ∧ (∀ j, w'.cell? ⟨s + 1, j, none⟩ = (#[.slice I m mc] : Array Value)[j]?))) (by kernel_rfl) ?hS4x0 (fun hHeld => ?hR4x0)
      case hS4x0 => ((try dsimp only); (first | exact ⟨below_drew1 (Below.refl _ _), rT, rS⟩ | exact ⟨below_drew1 b0_, rT, rS⟩ | exact ⟨j0, jT, jS⟩ | exact ⟨below_alloc j0 _, fun j => (cell_alloc_old (Nat.lt_of_lt_of_le kT j0.size)).trans (jT j), fun j => (cell_alloc_old (Nat.lt_of_lt_of_le kS j0.size)).trans (jS j)⟩ | exact ⟨below_alloc (below_drew1 (Below.refl _ _)) _, fun j => (cell_alloc_old kT).trans (rT j), fun j => (cell_alloc_old kS).trans (rS j)⟩ | assumption))
      refine wpAnyH_take (i := 0) (oi := ⟨some 17, _, _, _, _, _⟩) (v := ?_) rfl (by kernel_rfl) (by kernel_rfl) (by kernel_rfl) (fun _ _ _ h => h) (Or.inl ⟨by rfl, ?hY4x2⟩) (by assumption) ?hR4x2
      case hY4x2 => (intro w hSw; (try dsimp only at hSw); go_simp; try with_reducible rfl)
      (try simp only [Act.put, qa_, qb_, qc_])
      refine wpAnyH_take (i := 1) (oi := ⟨some 18, _, _, _, _, _⟩) (v := ?_) rfl (by kernel_rfl) (by kernel_rfl) (by kernel_rfl) (fun _ _ _ h => h) (Or.inl ⟨by rfl, ?hY4x3⟩) (by assumption) ?hR4x3
      case hY4x3 => (intro w hSw; (try dsimp only at hSw); go_simp; try with_reducible rfl)
      (try simp only [Act.put, qa_, qb_, qc_])
      refine wpAnyH_take (i := 2) (oi := ⟨some 19, _, _, _, _, _⟩) (v := ?_) rfl (by kernel_rfl) (by kernel_rfl) (by kernel_rfl) (fun _ _ _ h => h) (Or.inl ⟨by rfl, ?hY4x4⟩) (by assumption) ?hR4x4
      case hY4x4 => (intro w hSw; (try dsimp only at hSw); go_simp; try with_reducible rfl)
      (try simp only [Act.put, qa_, qb_, qc_])
      refine wpAnyH_take (i := 3) (oi := ⟨some 20, _, _, _, _, _⟩) (v := ?_) rfl (by kernel_rfl) (by kernel_rfl) (by kernel_rfl) (fun _ _ _ h => h) (Or.inl ⟨by rfl, ?hY4x5⟩) (by assumption) ?hR4x5
      case hY4x5 => (intro w hSw; (try dsimp only at hSw); go_simp; try with_reducible rfl)
      (try simp only [Act.put, qa_, qb_, qc_])
      refine wpAnyH_take (i := 4) (oi := ⟨some 21, _, _, _, _, _⟩) (v := ?_) rfl (by kernel_rfl) (by kernel_rfl) (by kernel_rfl) (fun _ _ _ h => h) (Or.inl ⟨by rfl, ?hY4x6⟩) (by assumption) ?hR4x6
      case hY4x6 => (intro w hSw; (try dsimp only at hSw); go_simp; try with_reducible rfl)
      (try simp only [Act.put, qa_, qb_, qc_])
      refine wpAnyH_ready (rs := [5]) (by kernel_rfl) (by simp) ?_
      refine AllReadyH.cons (o := ⟨some 22, _, _, _, _, _⟩) rfl (fun K hK => ?hT4x7) ?hM4x7
      case hM4x7 => exact AllReadyH.nil
      go_simp
      (first | (go_at_call 22; obtain ⟨g0, gT, gS⟩ := ‹Below W.heap.size W _ ∧ _›; ((with_reducible refine (oAll A n c l _ _ _ (seg its fr tu) r _ (Kd.C_below HXW.out g0) hc ?hseg HOS.out HR.out).mono ?_)); (case hseg => (have e := C_seg (c := mc) (p := fr) (q := tu) (Kd.C_below HIW.out g0) hm h1 h3; first | exact e | (rw [if_neg (by omega)] at e; exact e))); rintro e w5 ⟨rfl, hb_⟩; have j0 := below_step g0 hb_; have s5 := j0.size; have jT := fun j => (j0.cell (p := ⟨s, j, none⟩) kT).trans (rT j); have jS := fun j => (j0.cell (p := ⟨s + 1, j, none⟩) kS).trans (rS j)))
      (try go_wp2_with fail)
      refine hK.out _ _ ?hS4x7 (fun hHeld => ?hR4x7)
      case hS4x7 => ((try dsimp only); (first | exact ⟨below_drew1 (Below.refl _ _), rT, rS⟩ | exact ⟨below_drew1 b0_, rT, rS⟩ | exact ⟨j0, jT, jS⟩ | exact ⟨below_alloc j0 _, fun j => (cell_alloc_old (Nat.lt_of_lt_of_le kT j0.size)).trans (jT j), fun j => (cell_alloc_old (Nat.lt_of_lt_of_le kS j0.size)).trans (jS j)⟩ | exact ⟨below_alloc (below_drew1 (Below.refl _ _)) _, fun j => (cell_alloc_old kT).trans (rT j), fun j => (cell_alloc_old kS).trans (rS j)⟩ | assumption))
      clear hK K
      (try simp only [Act.put, qa_, qb_, qc_])
      refine wpAnyH_take (i := 6) (oi := ⟨some 9, _, _, _, _, _⟩) (v := ?_) rfl (by kernel_rfl) (by kernel_rfl) (by kernel_rfl) (fun _ _ _ h => h) (Or.inl ⟨by rfl, ?hY4x8⟩) (by assumption) ?hR4x8
      case hY4x8 => (intro w hSw; (try dsimp only at hSw); go_simp; try with_reducible rfl)
      (try simp only [Act.put, qa_, qb_, qc_])
      refine wpAnyH_done (by kernel_rfl) ?_ _
      have HV5 := Aside0.mk (HVW.out.next j0)
      clear HVW HXW HIW HOS rT kT rS kS j0 jT jS hb_
      try clear hHeld
      try clear hHeld
      cases r with
      | true =>
        go_wp2
        go_loopw [10] (fun v10 wx => ∃ j : Nat, fr ≤ j ∧ j ≤ tu ∧ v10 = .int .i64 (j : Int) ∧ InvF w0 wx s A n c I m mc (N + 1) (fun q => if fr ≤ q ∧ q < j then true else O q)) (fun v10 _ => tu - (intOf v10).toNat)
        case atStart =>
          have e1 : (fun q : Nat => if fr ≤ q ∧ q < fr then true else O q) = O := funext fun j => if_neg (by omega)
          exact ⟨fr, Nat.le_refl _, h1, rfl, by rw [e1]; exact HV5.out⟩
        case round =>
          obtain ⟨j, hj0, hj1, rfl, hv⟩ := hrel
          have HVJ := Aside0.mk hv
          clear hv
          by_cases hjt : j < tu
          · obtain ⟨z, hz⟩ : ∃ z : Int, (j : Int) = z := ⟨_, rfl⟩
            rw [hz]
            have hz0 : 0 ≤ z := by omega
            have hz1 : z < (m : Int) := by omega
            have hz2 : z < (tu : Int) := by omega
            have hdz : decide (z < (tu : Int)) = true := decide_eq_true hz2
            have HZ := Aside0.mk hz
            have HZT := Aside0.mk (show z.toNat = j by omega)
            clear hz
            have o0 : wr.cell? ⟨s + 3, 0, none⟩ = some (.slice (some ⟨s + 2, 0, none⟩) m m) := HVJ.out.2.2.2.2.2.1.cell 0
            have o1 : wr.cell? ⟨s + 2, z.toNat, none⟩ = some (.bool (if fr ≤ z.toNat ∧ z.toNat < j then true else O z.toNat)) := by rw [HVJ.out.2.2.2.2.1.cell, outC_get _ _ (by omega)]
            have o2 : wr.frozen? ⟨s + 2, z.toNat, none⟩ = false := HVJ.out.2.2.2.2.1.frozen _
            go_wp2
            go_roundw
            case rel =>
              obtain ⟨hs', hb0, bA, bI, bR, bO, bN, bF⟩ := HVJ.out
              refine ⟨j + 1, by omega, by omega, by have := HZ.out; subst this; go_num, hs', below_set hb0 (by show _ ≤ s + 2; omega), bA.far (by simp), bI.far (by simp), ?_, bO.far (by simp), bN.far (by simp), bF.far (by simp)⟩
              have hp := Box.put (j := z.toNat) (v := .bool true) bR
              rw [outC_put, HZT.out] at hp
              rw [HZT.out]
              have e1 : (fun q : Nat => if fr ≤ q ∧ q < j + 1 then true else O q) = (fun q => if q = j then true else if fr ≤ q ∧ q < j then true else O q) := funext fun q => by
                by_cases h1 : q = j
                · rw [if_pos h1, if_pos (by omega)]
                · rw [if_neg h1]
                  by_cases h2 : fr ≤ q ∧ q < j
                  · rw [if_pos h2, if_pos (by omega)]
                  · rw [if_neg h2, if_neg (by omega)]
              rw [e1]
              exact hp
            case measure =>
              have := HZ.out
              simp [intOf]
              omega
          · obtain rfl : j = tu := by omega
            have hdz : decide ((j : Int) < (j : Int)) = false := decide_eq_false (by omega)
            go_wp2
            go_end0
            refine ⟨rfl, ?_⟩
            have e0 : cnt (chk l) (seg its fr j) = 1 := by rw [cnt_eq, if_neg (by rw [seg_len its fr j h1 (by rw [← HML.out]; exact h3)]; omega), if_pos HR.out]
            rw [e0]
            have e1 : (fun q : Nat => if fr ≤ q ∧ q < j then chk l (rdI its (q : Int)) else O q) = (fun q => if fr ≤ q ∧ q < j then true else O q) := funext fun q => by
              by_cases h2 : fr ≤ q ∧ q < j
              · rw [if_pos h2, if_pos h2]
                exact (seg_all its (chk l) fr j (by rw [← HML.out]; exact h3)).1 HR.out q h2.1 h2.2
              · rw [if_neg h2, if_neg h2]
            rw [e1]
            exact HVJ.out
      | false =>
        have hlen := seg_len its fr tu h1 (by rw [← HML.out]; exact h3)
        have hw2 : IntKind.i64.wrap ((tu : Int) - (fr : Int)) = (tu : Int) - (fr : Int) := by rw [IntKind.wrap_i64]; omega
        by_cases h4 : tu - fr ≤ 1
        · have hd2 : decide (1 < (tu : Int) - (fr : Int)) = false := decide_eq_false (by omega)
          go_wp2
          go_end0
          refine ⟨rfl, ?_⟩
          have e0 : cnt (chk l) (seg its fr tu) = 1 := by rw [cnt_eq, if_neg (by omega), if_neg (by rw [HR.out]; simp), if_pos (by omega)]
          rw [e0]
          have e1 : (fun q : Nat => if fr ≤ q ∧ q < tu then chk l (rdI its (q : Int)) else O q) = O := funext fun q => by
            by_cases h5 : fr ≤ q ∧ q < tu
            · rw [if_pos h5, HO.out q h5.1 h5.2, Bool.eq_false_iff]
              intro hc
              have := (seg_all its (chk l) fr tu (by rw [← HML.out]; exact h3)).2 fun j a b => by
                obtain rfl : j = q := by omega
                exact hc
              rw [HR.out] at this
              cases this
            · rw [if_neg h5]
          rw [e1]
          exact HV5.out
        · have hd2 : decide (1 < (tu : Int) - (fr : Int)) = true := decide_eq_true (by omega)
          obtain ⟨q, hq⟩ : ∃ q : Nat, q = fr + (tu - fr + 1) / 2 := ⟨_, rfl⟩
          have hq1 : fr ≤ q := by omega
          have hq2 : q < tu := by omega
          have hq3 : fr < q := by omega
          have hw3 : IntKind.i64.wrap ((tu : Int) - (fr : Int) + 1) = (tu : Int) - (fr : Int) + 1 := by rw [IntKind.wrap_i64]; omega
          have hw4 : IntKind.i64.wrap ((fr : Int) + ((tu : Int) - (fr : Int) + 1) / 2) = (q : Int) := by rw [IntKind.wrap_i64]; omega
          have hz4 : 0 ≤ (tu : Int) - (fr : Int) + 1 := by omega
          have HQ := Aside0.mk hq
          clear hq
          have f0 : w5.cell? ⟨s + 5, 0, none⟩ = some (.func (.func 21) #[] #[.pointer (some ⟨s + 4, 0, none⟩), .pointer (some ⟨s, 0, none⟩), .pointer (some ⟨s + 1, 0, none⟩), .pointer (some ⟨s + 3, 0, none⟩), .pointer (some ⟨s + 5, 0, none⟩)]) := HV5.out.2.2.2.2.2.2.2.cell 0
          have hc1 := cnt_le (chk l) (q - fr) (seg its fr q) (by rw [seg_len its fr q hq1 (by rw [← HML.out]; omega)]; omega)
          rw [seg_len its fr q hq1 (by rw [← HML.out]; omega)] at hc1
          go_wp2_with fail
          refine (HIH.out fr q hq1 (by omega) (by omega) w5 (N + 1) O HV5.out (by omega) (fun j a b => HO.out j a (by omega))).mono ?_
          rintro e w6 ⟨rfl, hv6⟩
          have HV6 := Aside0.mk hv6
          have f1 : w6.cell? ⟨s + 5, 0, none⟩ = some (.func (.func 21) #[] #[.pointer (some ⟨s + 4, 0, none⟩), .pointer (some ⟨s, 0, none⟩), .pointer (some ⟨s + 1, 0, none⟩), .pointer (some ⟨s + 3, 0, none⟩), .pointer (some ⟨s + 5, 0, none⟩)]) := hv6.2.2.2.2.2.2.2.cell 0
          clear hv6 f0
          go_wp2_with fail
          refine (HIH.out q tu (by omega) (by omega) h3 w6 _ _ HV6.out (by omega) (fun j a b => by rw [if_neg (by omega)]; exact HO.out j (by omega) b)).mono ?_
          rintro e w7 ⟨rfl, hv7⟩
          have HV7 := Aside0.mk hv7
          clear hv7 f1
          go_wp2
          go_end0
          refine ⟨rfl, ?_⟩
          have hsl : (seg its fr tu).length = tu - fr := hlen
          have e0 : cnt (chk l) (seg its fr tu) = 1 + cnt (chk l) (seg its fr q) + cnt (chk l) (seg its q tu) := by
            rw [cnt_eq, if_neg (by omega), if_neg (by rw [HR.out]; simp), if_neg (by omega), hsl, seg_take its fr tu _ (by omega) (by rw [← HML.out]; exact h3), seg_drop, ← HQ.out]
          have e1 : (fun j : Nat => if fr ≤ j ∧ j < tu then chk l (rdI its (j : Int)) else O j) = (fun j : Nat => if q ≤ j ∧ j < tu then chk l (rdI its (j : Int)) else if fr ≤ j ∧ j < q then chk l (rdI its (j : Int)) else O j) := funext fun j => by
            by_cases a : q ≤ j ∧ j < tu
            · rw [if_pos a, if_pos (by omega)]
            · rw [if_neg a]
              by_cases b : fr ≤ j ∧ j < q
              · rw [if_pos b, if_pos (by omega)]
              · rw [if_neg b, if_neg (by omega)]
          rw [e0, e1, show N + (1 + cnt (chk l) (seg its fr q) + cnt (chk l) (seg its q tu)) = N + 1 + cnt (chk l) (seg its fr q) + cnt (chk l) (seg its q tu) by omega]
          exact HV7.out
theorem info_boolF : (Try.prog.info? 4).map (fun i => (i.zero, i.size, i.bytes)) = some (some (.bool false), 1, 1) := by kernel_rfl
theorem make_out (m : Nat) (h : m ≤ 281474976710656) (W : World) : (Instr.makeSlice 37 (.int .i64 (m : Int)) (.int .i64 (m : Int))).run Try.prog W = .ok (.slice (some ⟨W.heap.size, 0, none⟩) m m) (W.alloc (.cells (outC m fun _ => false) 4)) := by
  obtain ⟨i0, hi, hzz⟩ := Option.map_eq_some_iff.1 info_boolF
  simp only [Prod.mk.injEq] at hzz
  obtain ⟨hz0, hz1, hz2⟩ := hzz
  have hr := run_make (P := Try.prog) W 37 4 i0 (.bool false) Try.underlying37 hi hz0 .i64 .i64 (m : Int) (m : Int) (by omega) (by omega) (by rw [hz2]; omega) (by omega)
  rw [hr, hz1]
  simp only [Int.toNat_natCast]
  rw [outC_made]
set_option maxRecDepth 100000 in
set_option maxHeartbeats 4000000 in
/-- Find: who is right, and how often that is asked. -/
theorem bFind (A : Option Addr) (n c : Nat) (l : List Pr) (I : Option Addr) (m mc : Nat) (its : List It) (w : World) (hA : kP.C w A n l) (hc : n ≤ c) (hI : kI.C w I m its) (hm : m ≤ mc) (ho : ∀ x ∈ its, okI x) (hm0 : m ≤ 1000000000000) :
    Calls Try.prog 11 #[.slice A n c, .slice I m mc] w fun e w' => e = .returned (.tuple #[.slice (some ⟨w.heap.size + 2, 0, none⟩) m m, .int .i64 (cnt (chk l) its : Int)]) ∧ Box w' (w.heap.size + 2) (outC m fun j => chk l (rdI its (j : Int))) 4 ∧ Below w.heap.size w w' := by
  have HX := Aside0.mk hA
  have HI := Aside0.mk hI
  have HML := Aside0.mk (show m = its.length from (Kd.C_len hI).symm)
  have hmk := make_out m (by omega)
  have hmf : ∀ (fn : Fn) (first cap : Array Value) (w : World), (Instr.makeFunc fn first cap).run Try.prog w = .ok (.func fn first cap) w := fun _ _ _ _ => rfl
  have HASK := Aside0.mk (fun W N O hv hN hO => ask_calls w w.heap.size A n c l I m mc its hA hc hI hm ho m 0 m (Nat.zero_le _) (by omega) (Nat.le_refl _) W N O hv hN hO)
  clear hA hI ho
  go_enter Try.func11, Try.ntmps11
  go_wp2_with fail
  obtain ⟨w1, h1⟩ : ∃ W, w.alloc (.cells #[.slice A n c] 22) = W := ⟨_, rfl⟩
  rw [h1]
  obtain ⟨w2, h2⟩ : ∃ W, w1.alloc (.cells #[.slice I m mc] 25) = W := ⟨_, rfl⟩
  rw [h2]
  obtain ⟨w3, h3⟩ : ∃ W, w2.alloc (.cells (outC m fun _ => false) 4) = W := ⟨_, rfl⟩
  rw [h3]
  rw [show w.heap.size + 1 + 1 + 1 + 1 + 1 = w.heap.size + 5 from rfl, show w.heap.size + 1 + 1 + 1 + 1 = w.heap.size + 4 from rfl, show w.heap.size + 1 + 1 + 1 = w.heap.size + 3 from rfl, show w.heap.size + 1 + 1 = w.heap.size + 2 from rfl]
  obtain ⟨w4, h4⟩ : ∃ W, w3.alloc (.cells #[.slice (some ⟨w.heap.size + 2, 0, none⟩) m m] 37) = W := ⟨_, rfl⟩
  rw [h4]
  obtain ⟨w5, h5⟩ : ∃ W, w4.alloc (.cells #[.int .i64 0] 3) = W := ⟨_, rfl⟩
  rw [h5]
  obtain ⟨w6, h6⟩ : ∃ W, w5.alloc (.cells #[.func (.func 21) #[] #[.pointer (some ⟨w.heap.size + 4, 0, none⟩), .pointer (some ⟨w.heap.size, 0, none⟩), .pointer (some ⟨w.heap.size + 1, 0, none⟩), .pointer (some ⟨w.heap.size + 3, 0, none⟩), .pointer (some ⟨w.heap.size + 5, 0, none⟩)]] 57) = W := ⟨_, rfl⟩
  rw [h6]
  have s1 : w1.heap.size = w.heap.size + 1 := by rw [← h1, size_alloc]
  have s2 : w2.heap.size = w.heap.size + 2 := by rw [← h2, size_alloc, s1]
  have s3 : w3.heap.size = w.heap.size + 3 := by rw [← h3, size_alloc, s2]
  have s4 : w4.heap.size = w.heap.size + 4 := by rw [← h4, size_alloc, s3]
  have s5 : w5.heap.size = w.heap.size + 5 := by rw [← h5, size_alloc, s4]
  have b1 : Below w.heap.size w w1 := h1 ▸ below_alloc (Below.refl _ _) _
  have b2 : Below w.heap.size w w2 := h2 ▸ below_alloc b1 _
  have b3 : Below w.heap.size w w3 := h3 ▸ below_alloc b2 _
  have b4 : Below w.heap.size w w4 := h4 ▸ below_alloc b3 _
  have b5 : Below w.heap.size w w5 := h5 ▸ below_alloc b4 _
  have b6 : Below w.heap.size w w6 := h6 ▸ below_alloc b5 _
  have x1 : Box w1 w.heap.size #[.slice A n c] 22 := h1 ▸ Box.new
  have x2 : Box w2 (w.heap.size + 1) #[.slice I m mc] 25 := s1 ▸ h2 ▸ Box.new
  have x3 : Box w3 (w.heap.size + 2) (outC m fun _ => false) 4 := s2 ▸ h3 ▸ Box.new
  have x4 : Box w4 (w.heap.size + 3) #[.slice (some ⟨w.heap.size + 2, 0, none⟩) m m] 37 := by rw [← s3]; exact h4 ▸ Box.new
  have x5 : Box w5 (w.heap.size + 4) #[.int .i64 ((0 : Nat) : Int)] 3 := by rw [← s4]; exact h5 ▸ Box.new
  have x6 : Box w6 (w.heap.size + 5) #[.func (.func 21) #[] #[.pointer (some ⟨w.heap.size + 4, 0, none⟩), .pointer (some ⟨w.heap.size, 0, none⟩), .pointer (some ⟨w.heap.size + 1, 0, none⟩), .pointer (some ⟨w.heap.size + 3, 0, none⟩), .pointer (some ⟨w.heap.size + 5, 0, none⟩)]] 57 := by rw [← s5] at h6 ⊢; exact h6 ▸ Box.new
  have y1 : Box w6 w.heap.size _ _ := h6 ▸ h5 ▸ h4 ▸ h3 ▸ h2 ▸ x1.alloc.alloc.alloc.alloc.alloc
  have y2 : Box w6 (w.heap.size + 1) _ _ := h6 ▸ h5 ▸ h4 ▸ h3 ▸ x2.alloc.alloc.alloc.alloc
  have y3 : Box w6 (w.heap.size + 2) _ _ := h6 ▸ h5 ▸ h4 ▸ x3.alloc.alloc.alloc
  have y4 : Box w6 (w.heap.size + 3) _ _ := h6 ▸ h5 ▸ x4.alloc.alloc
  have y5 : Box w6 (w.heap.size + 4) _ _ := h6 ▸ x5.alloc
  have HV := Aside0.mk (show InvF w w6 w.heap.size A n c I m mc 0 (fun _ => false) from ⟨rfl, b6, y1, y2, y3, y4, y5, x6⟩)
  clear h1 h2 h3 h4 h5 h6 s1 s2 s3 s4 s5 b1 b2 b3 b4 b5 b6 x1 x2 x3 x4 x5 x6 y1 y2 y3 y4 y5 hmk hmf
  refine (HASK.out w6 0 _ HV.out (by omega) (fun _ _ _ => rfl)).mono ?_
  rintro e w7 ⟨rfl, hv⟩
  have es : seg its 0 m = its := by
    unfold seg
    rw [HML.out, List.take_length]
    rfl
  rw [es, Nat.zero_add] at hv
  obtain ⟨-, hb, -, -, hR, hO, hN, -⟩ := hv
  have o0 : w7.cell? ⟨w.heap.size + 3, 0, none⟩ = some (.slice (some ⟨w.heap.size + 2, 0, none⟩) m m) := hO.cell 0
  have n0 : w7.cell? ⟨w.heap.size + 4, 0, none⟩ = some (.int .i64 (cnt (chk l) its : Int)) := hN.cell 0
  have HRR := Aside0.mk hR
  have HB := Aside0.mk hb
  clear hR hO hN hb
  obtain ⟨cc, hcc⟩ : ∃ cc : Int, (cnt (chk l) its : Int) = cc := ⟨_, rfl⟩
  rw [hcc] at n0
  have HCC := Aside0.mk hcc
  clear hcc
  go_upto_region 5 with (fail)
  go_quiet (fail)
  go_wp2
  go_ret2
  rw [HCC.out]
  refine ⟨rfl, ?_, (by repeat (first | exact HB.out | apply below_alloc | apply pw_below_drewN | apply below_drew1 | refine below_set ?_ (by first | omega | (simp; omega))))⟩
  have e1 : outC m (fun j => chk l (rdI its (j : Int))) = outC m (fun j : Nat => if 0 ≤ j ∧ j < m then chk l (rdI its (j : Int)) else false) := by
    unfold outC
    congr 1
    refine List.map_congr_left fun j hj => ?_
    exact congrArg Value.bool (if_pos ⟨Nat.zero_le _, List.mem_range.1 hj⟩).symm
  rw [e1]
  exact HRR.out
end Go.Proofs.Ytnfglkgkdechlaa


/- How often it may be asked (chapter 15): bisect.Most. -/
namespace Go.Proofs.Ytnfglkgkdechlaa
open Go.RowKit Go.Proofs.YtnfglkgkdechlaaW.PrintWords Go.Proofs.YtnfglkgkdechlaaW.PrintLast Go.Proofs.YtnfglkgkdechlaaW.PrintMore

open Go.Proofs.Ytnfglkgkdechlaa.PQ

/-- How often n items are halved. -/
def halv : Nat → Nat → Nat
  | 0, _ => 0
  | k + 1, n => if n ≤ 1 then 0 else halv k (n - n / 2) + 1
theorem halv_step (k n : Nat) (h : 1 < n) (hk : n ≤ k + 1) : halv (k + 1) n = halv k (n - n / 2) + 1 := by
  unfold halv
  rw [if_neg (by omega)]
  cases k with
  | zero => exact absurd hk (by omega)
  | succ k => rfl
theorem halv_le : ∀ (j k n : Nat), n ≤ 2 ^ j → halv k n ≤ j
  | 0, 0, n, h => Nat.zero_le _
  | 0, k + 1, n, h => by
    unfold halv
    rw [if_pos (by simpa using h)]
    exact Nat.le_refl _
  | j + 1, 0, n, h => Nat.zero_le _
  | j + 1, k + 1, n, h => by
    unfold halv
    split
    · omega
    · have : n - n / 2 ≤ 2 ^ j := by
        rw [Nat.pow_succ] at h
        omega
      have := halv_le j k (n - n / 2) this
      omega
theorem halv_one (k : Nat) : halv k 1 = 0 := by
  cases k with
  | zero => rfl
  | succ k => rfl
def mostF (n wrong : Int) : Int := if n < 1 ∨ wrong < 0 then 0 else 1 + 2 * wrong * (halv n.toNat n.toNat : Int)
set_option maxRecDepth 100000 in
set_option maxHeartbeats 4000000 in
theorem bMost (n wrong : Int) (w : World) (hn : n ≤ 4294967296) (hw : wrong ≤ 4294967296) (hn0 : -4294967296 ≤ n) (hw0 : -4294967296 ≤ wrong) : Calls Try.prog 15 #[.int .i64 n, .int .i64 wrong] w fun e w' => e = .returned (.int .i64 (mostF n wrong)) ∧ Below w.heap.size w w' := by
  by_cases h1 : n < 1
  · have hd1 : decide (n < 1) = true := decide_eq_true h1
    have he : mostF n wrong = 0 := by unfold mostF; rw [if_pos (Or.inl h1)]
    rw [he]
    go_enter Try.func15, Try.ntmps15
    go_wp2
    go_step3
    go_wp2
    (try rw [Exit.noGoto_ret])
    go_ret
    exact ⟨rfl, Below.refl _ _⟩
  have hd1 : decide (n < 1) = false := decide_eq_false h1
  by_cases h2 : wrong < 0
  · have hd2 : decide (wrong < 0) = true := decide_eq_true h2
    have he : mostF n wrong = 0 := by unfold mostF; rw [if_pos (Or.inr h2)]
    rw [he]
    go_enter Try.func15, Try.ntmps15
    go_wp2
    go_step3
    go_wp2
    (try rw [Exit.noGoto_ret])
    go_ret
    exact ⟨rfl, Below.refl _ _⟩
  have hd2 : decide (wrong < 0) = false := decide_eq_false h2
  obtain ⟨N, hN⟩ : ∃ N : Nat, n = (N : Int) := ⟨n.toNat, by omega⟩
  subst hN
  have he : mostF (N : Int) wrong = 1 + 2 * wrong * (halv N N : Int) := by unfold mostF; rw [if_neg (by omega), Int.toNat_natCast]
  rw [he]
  have hh := halv_le 32 N N (by omega)
  go_enter Try.func15, Try.ntmps15
  go_wp2
  go_step3
  go_wp2
  go_step3
  go_wp2
  go_loopw [0, 5] (fun v0 v5 wx => ∃ (m h k : Nat), v0 = .int .i64 m ∧ v5 = .int .i64 h ∧ 1 ≤ m ∧ m ≤ N ∧ m ≤ k ∧ h + halv k m = halv N N ∧ wx = w) (fun v0 _ _ => (intOf v0).toNat)
  case atStart => exact ⟨N, 0, N, rfl, rfl, by omega, Nat.le_refl _, Nat.le_refl _, by omega, rfl⟩
  case round =>
    obtain ⟨m, h, k, rfl, rfl, hm1, hmN, hmk, hhk, rfl⟩ := hrel
    have HH := Aside0.mk hhk
    have HNE := Aside0.mk hh
    clear he
    by_cases hm : m = 1
    · subst hm
      have e1 := HH.out
      rw [halv_one] at e1
      obtain ⟨hb, hhb⟩ : ∃ b : Nat, halv N N = b := ⟨_, rfl⟩
      rw [hhb] at e1 HNE
      have HHB := Aside0.mk hhb
      obtain rfl : h = hb := by omega
      clear hhb hh e1 hhk HH
      have hb32 := HNE.out
      have w1 : IntKind.i64.wrap (2 * wrong) = 2 * wrong := by rw [IntKind.wrap_i64]; omega
      obtain ⟨pr, hpr⟩ : ∃ p : Int, 2 * wrong * (h : Int) = p := ⟨_, rfl⟩
      have hpb : 0 ≤ pr ∧ pr ≤ 8589934592 * 32 := by
        rw [← hpr]
        have h0 : 0 ≤ 2 * wrong := by omega
        have h1 : 2 * wrong ≤ 8589934592 := by omega
        exact ⟨Int.mul_nonneg h0 (by omega), Int.le_trans (Int.mul_le_mul_of_nonneg_right h1 (by omega)) (by omega)⟩
      have w2 : IntKind.i64.wrap (2 * wrong * (h : Int)) = pr := by rw [hpr, IntKind.wrap_i64]; omega
      have w3 : IntKind.i64.wrap (1 + pr) = 1 + pr := by rw [IntKind.wrap_i64]; omega
      have HPR := Aside0.mk hpr
      clear hpr hpb
      go_wp2
      (try rw [Exit.noGoto_ret])
      go_ret
      rw [HHB.out, HPR.out]
      exact ⟨rfl, Below.refl _ _⟩
    · obtain ⟨z, hz⟩ : ∃ z : Int, (m : Int) = z := ⟨_, rfl⟩
      have hd3 : (z == 1) = false := beq_eq_false_iff_ne.mpr (by omega)
      obtain ⟨z2, hz2⟩ : ∃ q : Nat, m - m / 2 = q := ⟨_, rfl⟩
      have hz0 : 0 ≤ z := by omega
      have w1 : IntKind.i64.wrap (z - z / 2) = (z2 : Int) := by rw [IntKind.wrap_i64]; omega
      have w2 : IntKind.i64.wrap ((h : Int) + 1) = ((h + 1 : Nat) : Int) := by rw [IntKind.wrap_i64]; have := HH.out; have := HNE.out; omega
      have HZ := Aside0.mk (And.intro hz hz2)
      have ht : z.tdiv 2 = z / 2 := Int.tdiv_eq_ediv_of_nonneg hz0
      have w0 : IntKind.i64.wrap (z / 2) = z / 2 := by rw [IntKind.wrap_i64]; omega
      have w0' : wrap64 (z / 2) = z / 2 := by rw [← i64_w]; exact w0
      have w1' : wrap64 (z - z / 2) = (z2 : Int) := by rw [← i64_w]; exact w1
      rw [hz]
      clear hz hz2 hh hhk
      go_wp2
      go_roundw
      case rel =>
        obtain ⟨k, rfl⟩ : ∃ q, k = q + 1 := ⟨k - 1, by omega⟩
        have e := HH.out
        rw [halv_step k m (by omega) hmk, HZ.out.2] at e
        refine ⟨z2, h + 1, k, by first | rfl | (simp only [ht, w0', w1']), by first | rfl | (simp; done), by have := HZ.out.2; omega, by have := HZ.out.2; omega, by have := HZ.out.2; omega, by omega, by first | rfl | trivial⟩
      case measure =>
        have := HZ.out
        simp only [intOf, ht, w0', w1']
        omega
end Go.Proofs.Ytnfglkgkdechlaa

namespace Go.Proofs.Ytnfglkgkdechlaa.PQ
open Go.RowKit Go.Proofs.YtnfglkgkdechlaaW.PrintWords Go.Proofs.YtnfglkgkdechlaaW.PrintLast Go.Proofs.YtnfglkgkdechlaaW.PrintMore
attribute [local go_sem] max2_int min2_int max_two min_two max_three min_three max_four min_four   -- for this text's walks alone

attribute [local go_sem high] eqA52

/-! ### mootbellref15_Bools: function 13 -/
def mootbellref15_Bools.l0 : Nat → List Bool → List Bool → Int → Option (Bool)
  | 0, _, _, _ => none
  | k + 1, x0, x1, x5 => if x5 < (x0.length : Int) then (if 0 ≤ x5 then (if x5 < (x1.length : Int) then (if ((rdOf false x0 x5) != (rdOf false x1 x5)) = true then (some false) else (mootbellref15_Bools.l0 k x0 x1 (wrap64 (x5 + 1)))) else (none)) else (none)) else (some true)
def mootbellref15_Bools.f (k : Nat) (l0 : List Bool) (l1 : List Bool) : Option (Bool) := if (l0.length : Int) = (l1.length : Int) then (mootbellref15_Bools.l0 k l0 l1 0) else (some false)
theorem mootbellref15_Bools.mono_l : ∀ k, (∀ y0 y1 y2, LeO (mootbellref15_Bools.l0 k y0 y1 y2) (mootbellref15_Bools.l0 (k + 1) y0 y1 y2))
  | 0 => fun _ _ _ r h => by simp [mootbellref15_Bools.l0] at h
  | k + 1 => by
    have ih0 := mootbellref15_Bools.mono_l k
    · intro y0 y1 y2
      unfold mootbellref15_Bools.l0
      repeat' first
      | (with_reducible exact ih0 _ _ _)
      | (with_reducible exact LeO.refl _)
      | (with_reducible exact LeO.none _)
      | (with_reducible refine LeO.ite ?_ ?_)
      | (with_reducible refine LeO.bind ?_ (fun _ => ?_))
      | exact ih0 _ _ _
      | exact LeO.none _
      | refine LeO.ite ?_ ?_
      | refine LeO.bind ?_ (fun _ => ?_)
theorem mootbellref15_Bools.mono : ∀ a0 a1 k, LeO (mootbellref15_Bools.f k a0 a1) (mootbellref15_Bools.f (k + 1) a0 a1) := by
  intro a0 a1 k
  have ih0 := mootbellref15_Bools.mono_l k
  unfold mootbellref15_Bools.f
  repeat' first
      | (with_reducible exact ih0 _ _ _)
      | (with_reducible exact LeO.refl _)
      | (with_reducible exact LeO.none _)
      | (with_reducible refine LeO.ite ?_ ?_)
      | (with_reducible refine LeO.bind ?_ (fun _ => ?_))
      | exact ih0 _ _ _
      | exact LeO.none _
      | refine LeO.ite ?_ ?_
      | refine LeO.bind ?_ (fun _ => ?_)
set_option maxHeartbeats 8000000 in
set_option maxRecDepth 100000 in
theorem mootbellref15_Bools.calls (k : Nat) (A0 : Option Addr) (c0 : Nat) (l0 : List Bool) (A1 : Option Addr) (c1 : Nat) (l1 : List Bool) (r : Bool) (w : World) (hr0 : Kd.C Kd.bool w A0 l0.length l0) (hc0 : l0.length ≤ c0) (hr1 : Kd.C Kd.bool w A1 l1.length l1) (hc1 : l1.length ≤ c1) (h : mootbellref15_Bools.f k l0 l1 = some r) :
    Calls Try.prog 13 #[.slice A0 l0.length c0, .slice A1 l1.length c1] w fun e w' => e = .returned (.bool r) ∧ Drawn0 w w' := by
  have HR0 := Aside0.mk hr0
  have HC0 := Aside0.mk hc0
  clear hr0 hc0
  have HR1 := Aside0.mk hr1
  have HC1 := Aside0.mk hc1
  clear hr1 hc1
  have H : (if (l0.length : Int) = (l1.length : Int) then (mootbellref15_Bools.l0 k l0 l1 0) else (some false)) = some r := h
  clear h
  by_cases c3 : (l0.length : Int) = (l1.length : Int)
  · rw [if_pos c3] at H
    have c3b0 : ((l0.length : Int) == (l1.length : Int)) = true := beq_iff_eq.mpr c3
    have c3b1 : ((l0.length : Int) != (l1.length : Int)) = false := bne_eq_false_iff_eq.mpr c3
    have c3b2 : (l0.length == l1.length) = true := by first | simpa using c3 | (simp at c3 ⊢; omega)
    clear c3
    have H' := Aside0.mk H
    clear H
    go_enter Try.func13, Try.ntmps13
    go_wp2
    repeat (go_quiet (fail); try go_wp2)
    go_loopg [5] k (fun kq v5 w' => ∃ (x5_1 : Int), v5 = .int .i64 x5_1 ∧ Aside0 (mootbellref15_Bools.l0 kq l0 l1 x5_1 = some r) ∧ Aside0 (kq ≤ k) ∧ Drawn0 w w')
    case atStart => exact ⟨(0), (by first | rfl | (simp; done) | (simp [*]; done)), H', ⟨Nat.le_refl _⟩, by repeat (first | exact Drawn0.refl _ | apply Drawn0.step)⟩
    case round =>
      clear H'
      try clear c1
      try clear p2
      try clear c3
      try clear c3b0
      try clear c3b1
      try clear c3b2
      obtain ⟨x5_1, rfl, HA, HK1, ⟨m1, rfl⟩⟩ := hrel
      cases gk with
      | zero => exact absurd HA.out (by simp [mootbellref15_Bools.l0])
      | succ k1 =>
        have H := HA.out
        clear HA
        simp only [mootbellref15_Bools.l0] at H
        by_cases c4 : x5_1 < (l0.length : Int)
        · rw [if_pos c4] at H
          have c4b0 : decide (x5_1 < (l0.length : Int)) = true := decide_eq_true c4
          clear c4
          by_cases c5 : 0 ≤ x5_1
          · rw [if_pos c5] at H
            have c5b0 : decide (0 ≤ x5_1) = true := decide_eq_true c5
            clear c5
            by_cases c6 : x5_1 < (l1.length : Int)
            · rw [if_pos c6] at H
              have c6b0 : decide (x5_1 < (l1.length : Int)) = true := decide_eq_true c6
              clear c6
              by_cases c7 : ((rdOf false l0 x5_1) != (rdOf false l1 x5_1)) = true
              · rw [if_pos c7] at H
                have c7b0 : ((rdOf false l0 x5_1) != (rdOf false l1 x5_1)) = true := c7
                (try (have c7b1 : decide ((rdOf false l0 x5_1) = (rdOf false l1 x5_1)) = false := by simpa using c7))
                (try (have c7b2 : ((rdOf false l0 x5_1) == (rdOf false l1 x5_1)) = false := by simpa using c7))
                (try (have c7b3 : ¬ ((rdOf false l0 x5_1) = (rdOf false l1 x5_1)) := by simpa using c7))
                clear c7
                obtain rfl := Option.some.inj H
                have p101 : 0 ≤ (x5_1 : Int) := of_decide_eq_true (by first | (with_reducible assumption) | assumption)
                have q101 : x5_1 < (l0.length : Int) := of_decide_eq_true (by first | (with_reducible assumption) | assumption)
                obtain ⟨ad101, e101, hx101_0⟩ := Kd.at_bool HR0.out x5_1 p101 q101
                cases e101
                replace p101 := eq_true p101
                replace q101 := eq_true q101
                have p102 : 0 ≤ (x5_1 : Int) := of_decide_eq_true (by first | (with_reducible assumption) | assumption)
                have q102 : x5_1 < (l1.length : Int) := of_decide_eq_true (by first | (with_reducible assumption) | assumption)
                obtain ⟨ad102, e102, hx102_0⟩ := Kd.at_bool HR1.out x5_1 p102 q102
                cases e102
                replace p102 := eq_true p102
                replace q102 := eq_true q102
                go_wp2
                repeat (go_quiet (fail); try go_wp2)
                go_ret
                exact ⟨by first | rfl | (simp; done) | (simp [*]; done), by repeat (first | exact Drawn0.refl _ | apply Drawn0.step)⟩
              · rw [if_neg c7] at H
                have c7b0 : ((rdOf false l0 x5_1) != (rdOf false l1 x5_1)) = false := by simpa using c7
                (try (have c7b1 : decide ((rdOf false l0 x5_1) = (rdOf false l1 x5_1)) = true := by simpa using c7))
                (try (have c7b2 : ((rdOf false l0 x5_1) == (rdOf false l1 x5_1)) = true := by simpa using c7))
                clear c7
                have H' := Aside0.mk H
                clear H
                have p101 : 0 ≤ (x5_1 : Int) := of_decide_eq_true (by first | (with_reducible assumption) | assumption)
                have q101 : x5_1 < (l0.length : Int) := of_decide_eq_true (by first | (with_reducible assumption) | assumption)
                obtain ⟨ad101, e101, hx101_0⟩ := Kd.at_bool HR0.out x5_1 p101 q101
                cases e101
                replace p101 := eq_true p101
                replace q101 := eq_true q101
                have p102 : 0 ≤ (x5_1 : Int) := of_decide_eq_true (by first | (with_reducible assumption) | assumption)
                have q102 : x5_1 < (l1.length : Int) := of_decide_eq_true (by first | (with_reducible assumption) | assumption)
                obtain ⟨ad102, e102, hx102_0⟩ := Kd.at_bool HR1.out x5_1 p102 q102
                cases e102
                replace p102 := eq_true p102
                replace q102 := eq_true q102
                go_wp2
                repeat (go_quiet (fail); try go_wp2)
                go_roundg k1
                case measure => have := HK1.out; omega
                case rel => exact ⟨(wrap64 (x5_1 + 1)), (by first | rfl | (simp; done) | (simp [*]; done)), H', ⟨by have := HK1.out; omega⟩, by repeat (first | exact Drawn0.refl _ | apply Drawn0.step)⟩
            · rw [if_neg c6] at H
              exact absurd H (by simp)
          · rw [if_neg c5] at H
            exact absurd H (by simp)
        · rw [if_neg c4] at H
          have c4b0 : decide (x5_1 < (l0.length : Int)) = false := decide_eq_false c4
          clear c4
          obtain rfl := Option.some.inj H
          go_wp2
          repeat (go_quiet (fail); try go_wp2)
          go_ret
          exact ⟨by first | rfl | (simp; done) | (simp [*]; done), by repeat (first | exact Drawn0.refl _ | apply Drawn0.step)⟩
  · rw [if_neg c3] at H
    have c3b0 : ((l0.length : Int) == (l1.length : Int)) = false := beq_eq_false_iff_ne.mpr c3
    have c3b1 : ((l0.length : Int) != (l1.length : Int)) = true := bne_iff_ne.mpr c3
    have c3b2 : (l0.length == l1.length) = false := by first | simpa using c3 | (simp at c3 ⊢; omega)
    obtain rfl := Option.some.inj H
    go_enter Try.func13, Try.ntmps13
    go_wp2
    repeat (go_quiet (fail); try go_wp2)
    go_ret
    exact ⟨by first | rfl | (simp; done) | (simp [*]; done), by repeat (first | exact Drawn0.refl _ | apply Drawn0.step)⟩
end Go.Proofs.Ytnfglkgkdechlaa.PQ


/- awake (chapter 15's statements): the first calls. -/
namespace Go.Proofs.Ytnfglkgkdechlaa
open Go.RowKit Go.Proofs.YtnfglkgkdechlaaW.PrintWords Go.Proofs.YtnfglkgkdechlaaW.PrintLast Go.Proofs.YtnfglkgkdechlaaW.PrintMore

open Go.Proofs.Ytnfglkgkdechlaa.PQ

theorem C_cells {α : Type} {d : Kd α} {W : World} {vb : Nat} {cs : Array Value} {T : TypeId} {xs : List α} (h : Box W vb cs T) (hl : xs.length ≤ 9223372036854775807) (hk : ∀ (j : Nat) (x : α), xs[j]? = some x → ∃ c, d.K W x c ∧ ∀ i u, c[i]? = some u → cs[j * d.sz + i]? = some u) : d.C W (some ⟨vb, 0, none⟩) xs.length xs := by
  refine ⟨rfl, hl, fun _ => ⟨_, rfl, fun j p hj => ?_⟩⟩
  obtain ⟨c, hc, hi⟩ := hk j p hj
  refine ⟨c, d.K_len hc, hc, fun i u hu => ?_⟩
  rw [show ((⟨vb, 0, none⟩ : Addr).add (j * d.sz + i)) = ⟨vb, j * d.sz + i, none⟩ by unfold Addr.add; split <;> simp_all, h.cell]
  exact hi i u hu
theorem C_out {W : World} {b m : Nat} {O : Nat → Bool} {T : TypeId} (h : Box W b (outC m O) T) (hm : m ≤ 9223372036854775807) : Kd.bool.C W (some ⟨b, 0, none⟩) m ((List.range m).map O) := by
  have hl : ((List.range m).map O).length = m := by simp
  have e := C_cells (d := Kd.bool) (xs := (List.range m).map O) h (by rw [hl]; exact hm) (fun j x hj => by
    have hjm : j < m := by
      have := (List.getElem?_eq_some_iff.1 hj).1
      rwa [hl] at this
    refine ⟨[.bool x], rfl, fun i u hu => ?_⟩
    have hx : O j = x := by simpa [hjm] using hj
    have hi : i = 0 := by
      rcases Nat.eq_zero_or_pos i with g | g
      · exact g
      · rw [List.getElem?_eq_none (by simp; omega)] at hu
        cases hu
    subst hi
    have hu2 : u = .bool x := by simpa using hu.symm
    subst hu2
    show (outC m O)[j * 1 + 0]? = _
    rw [Nat.mul_one, Nat.add_zero, outC_get m O hjm, hx])
  rw [hl] at e
  exact e
theorem bools_l (a b : List Bool) (hab : a.length = b.length) (hl : a.length ≤ 1000000) (r i k : Nat) (hr : i + r = a.length) (hk : r < k) : mootbellref15_Bools.l0 k a b (i : Int) = some (decide (a.drop i = b.drop i)) := by
  induction r generalizing i k with
  | zero =>
    obtain ⟨k, rfl⟩ : ∃ q, k = q + 1 := ⟨k - 1, by omega⟩
    rw [mootbellref15_Bools.l0, if_neg (by omega), List.drop_of_length_le (by omega), List.drop_of_length_le (by omega)]
    rfl
  | succ r ih =>
    obtain ⟨k, rfl⟩ : ∃ q, k = q + 1 := ⟨k - 1, by omega⟩
    have hi : i < a.length := by omega
    have hib : i < b.length := by omega
    have ra : rdOf false a (i : Int) = a[i] := by
      unfold rdOf
      rw [Int.toNat_natCast, List.getD_eq_getElem?_getD, List.getElem?_eq_getElem hi]
      rfl
    have rb : rdOf false b (i : Int) = b[i] := by
      unfold rdOf
      rw [Int.toNat_natCast, List.getD_eq_getElem?_getD, List.getElem?_eq_getElem hib]
      rfl
    rw [mootbellref15_Bools.l0, if_pos (by omega), if_pos (by omega), if_pos (by omega), ra, rb, List.drop_eq_getElem_cons hi, List.drop_eq_getElem_cons hib]
    by_cases he : a[i] = b[i]
    · rw [if_neg (by rw [he]; simp), In64_nat (by omega), ih (i + 1) k (by omega) (by omega), he]
      congr 1
      exact decide_eq_decide.2 ⟨fun h => by rw [h], fun h => (List.cons.inj h).2⟩
    · rw [if_pos (by simpa using he)]
      congr 1
      rw [Eq.comm, decide_eq_false_iff_not]
      intro h
      exact he (List.cons.inj h).1
theorem bools_f (a b : List Bool) (hl : a.length ≤ 1000000) : mootbellref15_Bools.f (a.length + 1) a b = some (decide (a = b)) := by
  unfold mootbellref15_Bools.f
  by_cases h : a.length = b.length
  · rw [if_pos (by omega)]
    have := bools_l a b h hl a.length 0 (a.length + 1) (by omega) (by omega)
    rw [List.drop_zero, List.drop_zero] at this
    exact this
  · rw [if_neg (by omega)]
    congr 1
    rw [Eq.comm, decide_eq_false_iff_not]
    intro e
    exact h (by rw [e])
theorem boolsE (A B : Option Addr) (n c m d : Nat) (a b : List Bool) (r : Bool) (w : World) (hA : Kd.bool.C w A n a) (hc : n ≤ c) (hB : Kd.bool.C w B m b) (hd : m ≤ d) (hl : n ≤ 1000000) (h : decide (a = b) = r) : Calls Try.prog 13 #[.slice A n c, .slice B m d] w fun e w' => e = .returned (.bool r) ∧ Below w.heap.size w w' := by
  obtain rfl := Kd.C_len hA
  obtain rfl := Kd.C_len hB
  exact (mootbellref15_Bools.calls (a.length + 1) A c a B d b r w hA hc hB hd (h ▸ bools_f a b hl)).mono fun e w' hh => ⟨hh.1, hh.2.below⟩
theorem mostE (n wrong r : Int) (w : World) (hn : n ≤ 4294967296) (hw : wrong ≤ 4294967296) (hn0 : -4294967296 ≤ n) (hw0 : -4294967296 ≤ wrong) (h : mostF n wrong = r) : Calls Try.prog 15 #[.int .i64 n, .int .i64 wrong] w fun e w' => e = .returned (.int .i64 r) ∧ Below w.heap.size w w' := h ▸ bMost n wrong w hn hw hn0 hw0
def tbA : List Pr := [⟨1, 7⟩]
def goodA : It := ⟨[1], 7, ⟨false, tbA⟩⟩
def badA : It := ⟨[1], 8, ⟨false, tbA⟩⟩
def itsA : List It := [goodA, goodA, goodA, badA]
theorem chkA_good : chk tbA goodA = true := by decide
theorem chkA_bad : chk tbA badA = false := by decide
theorem cntA : cnt (chk tbA) itsA = 5 := by decide
theorem okA : ∀ x ∈ itsA, okI x := by
  intro x hx
  unfold itsA at hx
  have hg : okI goodA := ⟨by intro y hy; have : y = 1 := (by simpa [goodA] using hy); subst this; decide, by intro y hy; have : y = ⟨1, 7⟩ := (by simpa [goodA, tbA] using hy); subst this; decide⟩
  have hb : okI badA := ⟨by intro y hy; have : y = 1 := (by simpa [badA] using hy); subst this; decide, by intro y hy; have : y = ⟨1, 7⟩ := (by simpa [badA, tbA] using hy); subst this; decide⟩
  simp only [List.mem_cons, List.not_mem_nil, or_false] at hx
  rcases hx with rfl | rfl | rfl | rfl
  · exact hg
  · exact hg
  · exact hg
  · exact hb
theorem bFindE (A : Option Addr) (n c : Nat) (l : List Pr) (I : Option Addr) (m mc : Nat) (its : List It) (k : Nat) (w : World) (hA : kP.C w A n l) (hc : n ≤ c) (hI : kI.C w I m its) (hm : m ≤ mc) (ho : ∀ x ∈ its, okI x) (hm0 : m ≤ 1000000000000) (hk : cnt (chk l) its = k) :
    Calls Try.prog 11 #[.slice A n c, .slice I m mc] w fun e w' => ∃ B, e = .returned (.tuple #[.slice (some ⟨B, 0, none⟩) m m, .int .i64 (k : Int)]) ∧ w.heap.size ≤ B ∧ Box w' B (outC m fun j => chk l (rdI its (j : Int))) 4 ∧ Below w.heap.size w w' := by
  subst hk
  exact (bFind A n c l I m mc its w hA hc hI hm ho hm0).mono fun e w' hh => ⟨_, hh.1, by omega, hh.2.1, hh.2.2⟩
theorem C_oneU {W : World} {vb : Nat} {k : Int} {T : TypeId} (h : Box W vb #[.int .u64 k] T) : (Kd.int .u64).C W (some ⟨vb, 0, none⟩) 1 [k] :=
  C_cells (d := Kd.int .u64) (xs := [k]) h (by simp) (fun j x hj => by
    match j, hj with
    | 0, hj =>
      obtain rfl : k = x := by simpa using hj
      refine ⟨[.int .u64 k], rfl, fun i u hu => ?_⟩
      match i, hu with
      | 0, hu => simpa using hu
    | j + 1, hj => simp at hj)
theorem K_it (W : World) (A B : Nat) (it : It) (k r : Int) (hk : it = ⟨[k], r, ⟨false, tbA⟩⟩) (h0 : (Kd.int .u64).C W (some ⟨A, 0, none⟩) 1 [k]) (h1 : kP.C W (some ⟨B, 0, none⟩) 1 tbA) : kI.K W it [.slice (some ⟨A, 0, none⟩) 1 1, .int .u64 r, .bool false, .slice (some ⟨B, 0, none⟩) 1 1] := by
  subst hk
  exact k32_mk W ⟨[k], r, ⟨false, tbA⟩⟩ (A0 := some ⟨A, 0, none⟩) (c0 := 1) (by simp) h0 (A3 := some ⟨B, 0, none⟩) (c3 := 1) (show tbA.length ≤ 1 by decide) h1
theorem outC_map (m : Nat) (O : Nat → Bool) : outC m O = (((List.range m).map O).map Value.bool).toArray := by simp [outC]
theorem outA : (List.range 4).map (fun j : Nat => chk tbA (rdI itsA (j : Int))) = [true, true, true, false] := by decide
theorem C_bl {W : World} {b : Nat} {l : List Bool} {T : TypeId} (h : Box W b (l.map Value.bool).toArray T) (hl : l.length ≤ 9223372036854775807) : Kd.bool.C W (some ⟨b, 0, none⟩) l.length l :=
  C_cells (d := Kd.bool) h hl (fun j x hj => by
    refine ⟨[.bool x], rfl, fun i u hu => ?_⟩
    have hi : i = 0 := by
      rcases Nat.eq_zero_or_pos i with g | g
      · exact g
      · rw [List.getElem?_eq_none (by simp; omega)] at hu
        cases hu
    subst hi
    have hu2 : u = .bool x := by simpa using hu.symm
    subst hu2
    show ((l.map Value.bool).toArray)[j * 1 + 0]? = _
    simp [hj])
set_option maxRecDepth 100000 in
set_option maxHeartbeats 8000000 in
theorem awake_calls (w : World) : Calls Try.prog 8 #[] w fun e w' => e = .returned (.bool true) ∧ Below w.heap.size w w' := by
  have HB := Aside0.mk (Below.refl w.heap.size w)
  go_enter Try.func8, Try.ntmps8
  go_wp2_with fail
  obtain ⟨w1, h1⟩ : ∃ W, w.alloc (.cells #[.int .u64 1, .int .u64 7] 52) = W := ⟨_, rfl⟩
  rw [h1]
  obtain ⟨w2, h2⟩ : ∃ W, w1.alloc (.cells #[.int .u64 1] 28) = W := ⟨_, rfl⟩
  rw [h2]
  obtain ⟨w3, h3⟩ : ∃ W, w2.alloc (.cells #[.slice (some ⟨w.heap.size + 1, 0, none⟩) 1 1, .int .u64 7, .bool false, .slice (some ⟨w.heap.size, 0, none⟩) 1 1] 32) = W := ⟨_, rfl⟩
  rw [h3]
  obtain ⟨w4, h4⟩ : ∃ W, w3.alloc (.cells #[.int .u64 1] 28) = W := ⟨_, rfl⟩
  rw [h4]
  obtain ⟨w5, h5⟩ : ∃ W, w4.alloc (.cells #[.slice (some ⟨w.heap.size + 1 + 1 + 1, 0, none⟩) 1 1, .int .u64 8, .bool false, .slice (some ⟨w.heap.size, 0, none⟩) 1 1] 32) = W := ⟨_, rfl⟩
  rw [h5]
  obtain ⟨w6, h6⟩ : ∃ W, w5.alloc (.cells #[.slice (some ⟨w.heap.size + 1, 0, none⟩) 1 1, .int .u64 7, .bool false, .slice (some ⟨w.heap.size, 0, none⟩) 1 1, .slice (some ⟨w.heap.size + 1, 0, none⟩) 1 1, .int .u64 7, .bool false, .slice (some ⟨w.heap.size, 0, none⟩) 1 1, .slice (some ⟨w.heap.size + 1, 0, none⟩) 1 1, .int .u64 7, .bool false, .slice (some ⟨w.heap.size, 0, none⟩) 1 1, .slice (some ⟨w.heap.size + 1 + 1 + 1, 0, none⟩) 1 1, .int .u64 8, .bool false, .slice (some ⟨w.heap.size, 0, none⟩) 1 1] 32) = W := ⟨_, rfl⟩
  rw [h6]
  have s1 : w1.heap.size = w.heap.size + 1 := by rw [← h1, size_alloc]
  have s2 : w2.heap.size = w.heap.size + 1 + 1 := by rw [← h2, size_alloc, s1]
  have s3 : w3.heap.size = w.heap.size + 1 + 1 + 1 := by rw [← h3, size_alloc, s2]
  have s4 : w4.heap.size = w.heap.size + 1 + 1 + 1 + 1 := by rw [← h4, size_alloc, s3]
  have s5 : w5.heap.size = w.heap.size + 1 + 1 + 1 + 1 + 1 := by rw [← h5, size_alloc, s4]
  have b1 : Below w.heap.size w w1 := h1 ▸ below_alloc (Below.refl _ _) _
  have b2 : Below w.heap.size w w2 := h2 ▸ below_alloc b1 _
  have b3 : Below w.heap.size w w3 := h3 ▸ below_alloc b2 _
  have b4 : Below w.heap.size w w4 := h4 ▸ below_alloc b3 _
  have b5 : Below w.heap.size w w5 := h5 ▸ below_alloc b4 _
  have b6 : Below w.heap.size w w6 := h6 ▸ below_alloc b5 _
  have x1 : Box w1 w.heap.size #[.int .u64 1, .int .u64 7] 52 := h1 ▸ Box.new
  have x2 : Box w2 (w.heap.size + 1) #[.int .u64 1] 28 := by rw [← s1]; exact h2 ▸ Box.new
  have x4 : Box w4 (w.heap.size + 1 + 1 + 1) #[.int .u64 1] 28 := by rw [← s3]; exact h4 ▸ Box.new
  have x6 : Box w6 (w.heap.size + 1 + 1 + 1 + 1 + 1) #[.slice (some ⟨w.heap.size + 1, 0, none⟩) 1 1, .int .u64 7, .bool false, .slice (some ⟨w.heap.size, 0, none⟩) 1 1, .slice (some ⟨w.heap.size + 1, 0, none⟩) 1 1, .int .u64 7, .bool false, .slice (some ⟨w.heap.size, 0, none⟩) 1 1, .slice (some ⟨w.heap.size + 1, 0, none⟩) 1 1, .int .u64 7, .bool false, .slice (some ⟨w.heap.size, 0, none⟩) 1 1, .slice (some ⟨w.heap.size + 1 + 1 + 1, 0, none⟩) 1 1, .int .u64 8, .bool false, .slice (some ⟨w.heap.size, 0, none⟩) 1 1] 32 := by
    have e : Box w6 w5.heap.size #[.slice (some ⟨w.heap.size + 1, 0, none⟩) 1 1, .int .u64 7, .bool false, .slice (some ⟨w.heap.size, 0, none⟩) 1 1, .slice (some ⟨w.heap.size + 1, 0, none⟩) 1 1, .int .u64 7, .bool false, .slice (some ⟨w.heap.size, 0, none⟩) 1 1, .slice (some ⟨w.heap.size + 1, 0, none⟩) 1 1, .int .u64 7, .bool false, .slice (some ⟨w.heap.size, 0, none⟩) 1 1, .slice (some ⟨w.heap.size + 1 + 1 + 1, 0, none⟩) 1 1, .int .u64 8, .bool false, .slice (some ⟨w.heap.size, 0, none⟩) 1 1] 32 := h6 ▸ Box.new
    rw [s5] at e
    exact e
  have y1 : Box w6 w.heap.size _ _ := h6 ▸ h5 ▸ h4 ▸ h3 ▸ h2 ▸ x1.alloc.alloc.alloc.alloc.alloc
  have y2 : Box w6 (w.heap.size + 1) _ _ := h6 ▸ h5 ▸ h4 ▸ h3 ▸ x2.alloc.alloc.alloc.alloc
  have y4 : Box w6 (w.heap.size + 1 + 1 + 1) _ _ := h6 ▸ h5 ▸ x4.alloc.alloc
  have HT := Aside0.mk (C_oneP (m := ⟨1, 7⟩) y1 : kP.C w6 (some ⟨w.heap.size, 0, none⟩) 1 tbA)
  have hk1 := C_oneU y2
  have hk3 := C_oneU y4
  have HI := Aside0.mk (show kI.C w6 (some ⟨w.heap.size + 1 + 1 + 1 + 1 + 1, 0, none⟩) 4 itsA from C_cells (d := kI) (xs := itsA) x6 (by decide) (fun j x hj => by
    match j, hj with
    | 0, hj =>
      obtain rfl : goodA = x := by simpa [itsA] using hj
      refine ⟨_, K_it w6 _ _ goodA 1 7 rfl hk1 HT.out, fun i u hu => ?_⟩
      match i, hu with
      | 0, hu => exact hu
      | 1, hu => exact hu
      | 2, hu => exact hu
      | 3, hu => exact hu
    | 1, hj =>
      obtain rfl : goodA = x := by simpa [itsA] using hj
      refine ⟨_, K_it w6 _ _ goodA 1 7 rfl hk1 HT.out, fun i u hu => ?_⟩
      match i, hu with
      | 0, hu => exact hu
      | 1, hu => exact hu
      | 2, hu => exact hu
      | 3, hu => exact hu
    | 2, hj =>
      obtain rfl : goodA = x := by simpa [itsA] using hj
      refine ⟨_, K_it w6 _ _ goodA 1 7 rfl hk1 HT.out, fun i u hu => ?_⟩
      match i, hu with
      | 0, hu => exact hu
      | 1, hu => exact hu
      | 2, hu => exact hu
      | 3, hu => exact hu
    | 3, hj =>
      obtain rfl : badA = x := by simpa [itsA] using hj
      refine ⟨_, K_it w6 _ _ badA 1 8 rfl hk3 HT.out, fun i u hu => ?_⟩
      match i, hu with
      | 0, hu => exact hu
      | 1, hu => exact hu
      | 2, hu => exact hu
      | 3, hu => exact hu
    | j + 4, hj => simp [itsA] at hj))
  clear HB h1 h2 h3 h4 h5 h6 s1 s2 s3 s4 s5 b1 b2 b3 b4 b5 x1 x2 x4 x6 y1 y2 y4 hk1 hk3
  have HB := Aside0.mk b6
  clear b6
  refine (bFindE _ 1 1 tbA _ 4 4 itsA 5 _ HT.out (by omega) HI.out (by omega) okA (by omega) cntA).mono ?_
  rintro e w7 ⟨B, rfl, hB0, hBx, hb_⟩
  have XO := Aside0.mk hBx
  have HT7 := Aside0.mk (Kd.C_below HT.out hb_)
  have HB7 := Aside0.mk (below_step HB.out hb_)
  clear HB HT HI hBx hb_ hB0
  go_wp2_with fail
  refine (bFindE _ 1 1 tbA none 0 0 [] 0 _ HT7.out (by omega) (Kd.C_nil _ _) (by omega) (fun x hx => by cases hx) (by omega) (by decide)).mono ?_
  rintro e w8 ⟨B2, rfl, hB0, hBx, hb_⟩
  have XO8 := Aside0.mk (XO.out.below hb_)
  have HB8 := Aside0.mk (below_step HB7.out hb_)
  clear XO HT7 HB7 hBx hb_ hB0
  go_wp2_with fail
  have e8 := XO8.out
  rw [outC_map, outA] at e8
  have HC1 := Aside0.mk (C_alloc (C_bl e8 (by simp)) : Kd.bool.C (w8.alloc (.cells #[.bool true, .bool true, .bool true, .bool false] 4)) (some ⟨B, 0, none⟩) 4 [true, true, true, false])
  have HC2 := Aside0.mk (C_bl (l := [true, true, true, false]) Box.new (by simp) : Kd.bool.C (w8.alloc (.cells #[.bool true, .bool true, .bool true, .bool false] 4)) (some ⟨w8.heap.size, 0, none⟩) 4 [true, true, true, false])
  have HB9 := Aside0.mk (HB8.out.alloc HB8.out.size (.cells #[.bool true, .bool true, .bool true, .bool false] 4))
  clear e8 XO8 HB8
  refine (boolsE _ _ 4 4 4 4 _ _ true _ HC1.out (by omega) HC2.out (by omega) (by omega) (by decide)).mono ?_
  rintro e w10 ⟨rfl, hb_⟩
  have HB10 := Aside0.mk (below_step HB9.out hb_)
  clear hb_ HB9 HC1 HC2
  go_wp2_with fail
  refine (mostE 4 1 5 _ (by omega) (by omega) (by omega) (by omega) (by decide)).mono ?_
  rintro e w11 ⟨rfl, hb_⟩
  have HB11 := Aside0.mk (below_step HB10.out hb_)
  clear hb_ HB10
  go_wp2_with fail
  refine (mostE 0 1 0 _ (by omega) (by omega) (by omega) (by omega) (by decide)).mono ?_
  rintro e w12 ⟨rfl, hb_⟩
  have HB12 := Aside0.mk (below_step HB11.out hb_)
  clear hb_ HB11
  go_wp2_with fail
  refine (mostE 9 0 1 _ (by omega) (by omega) (by omega) (by omega) (by decide)).mono ?_
  rintro e w13 ⟨rfl, hb_⟩
  have HB13 := Aside0.mk (below_step HB12.out hb_)
  clear hb_ HB12
  go_wp2_with fail
  refine (mostE 5 (-1) 0 _ (by omega) (by omega) (by omega) (by omega) (by decide)).mono ?_
  rintro e w14 ⟨rfl, hb_⟩
  have HB14 := Aside0.mk (below_step HB13.out hb_)
  clear hb_ HB13
  go_wp2
  go_ret
  exact ⟨rfl, HB14.out⟩
end Go.Proofs.Ytnfglkgkdechlaa


/- Contracts in the form in which the statements use them (chapter 15). -/
namespace Go.Proofs.Ytnfglkgkdechlaa
open Go.RowKit Go.Proofs.YtnfglkgkdechlaaW.PrintWords Go.Proofs.YtnfglkgkdechlaaW.PrintLast Go.Proofs.YtnfglkgkdechlaaW.PrintMore
open Go.Proofs.Ytnfglkgkdechlaa.PQ

theorem tableC (A : Option Addr) (n c : Nat) (raw : List Int) (t : List Pr) (w : World) (hA : (Kd.int .i64).C w A n raw) (hc : n ≤ c) (hi : ∀ x ∈ raw, In64 x) (ht : tabR raw = t) : Calls Try.prog 9 #[.slice A n c] w
    fun r w' => ∃ T k, r = .returned (.slice T t.length k) ∧ t.length ≤ k ∧ kP.C w' T t.length t ∧ Below w.heap.size w w' := by
  subst ht
  refine (lTable A n c raw w hA hc hi).mono fun r w' hh => ?_
  obtain ⟨v, rfl, hR, hb⟩ := hh
  obtain ⟨T, k, rfl⟩ := Kd.R_slice hR
  exact ⟨T, k, rfl, (Kd.R_reads' hR).2.1, (Kd.R_reads' hR).2.2, hb⟩
theorem itemsC (A : Option Addr) (n c : Nat) (raw : List Rw) (its : List It) (w : World) (hA : kR.C w A n raw) (hc : n ≤ c) (ho : ∀ x ∈ raw, OkR x) (hi : itemsR raw = its) : Calls Try.prog 10 #[.slice A n c] w
    fun r w' => ∃ I k, r = .returned (.slice I its.length k) ∧ its.length ≤ k ∧ kI.C w' I its.length its ∧ Below w.heap.size w w' := by
  subst hi
  refine (lItems A n c raw w hA hc ho).mono fun r w' hh => ?_
  obtain ⟨v, rfl, hR, hb⟩ := hh
  obtain ⟨T, k, rfl⟩ := Kd.S_slice hR
  exact ⟨T, k, rfl, (Kd.S_reads' hR).2.1, (Kd.S_reads' hR).2.2, hb⟩
theorem rng_map {α β : Type} (l : List α) (f : Nat → β) (g : α → β) (h : ∀ (i : Nat) (hi : i < l.length), f i = g l[i]) : (List.range l.length).map f = l.map g := by
  apply List.ext_getElem
  · simp
  · intro i h1 h2
    rw [List.getElem_map, List.getElem_map, List.getElem_range]
    exact h i (by simpa using h1)
theorem out_its (t : List Pr) (its : List It) : (List.range its.length).map (fun j : Nat => chk t (rdI its (j : Int))) = its.map (chk t) := rng_map its _ _ fun i h => by rw [rdI_eq h]
theorem findC (A : Option Addr) (n c : Nat) (t : List Pr) (I : Option Addr) (m mc : Nat) (its : List It) (bs : List Bool) (k : Nat) (w : World) (hA : kP.C w A n t) (hc : n ≤ c) (hI : kI.C w I m its) (hm : m ≤ mc) (ho : ∀ x ∈ its, okI x) (hm0 : m ≤ 1000000000000) (hb : its.map (chk t) = bs) (hk : cnt (chk t) its = k) :
    Calls Try.prog 11 #[.slice A n c, .slice I m mc] w fun e w' => ∃ B, e = .returned (.tuple #[.slice (some B) m m, .int .i64 (k : Int)]) ∧ Kd.bool.C w' (some B) m bs ∧ Below w.heap.size w w' := by
  subst hk hb
  obtain rfl := Kd.C_len hI
  refine (bFind A n c t I _ mc its w hA hc hI hm ho hm0).mono fun e w' hh => ⟨_, hh.1, ?_, hh.2.2⟩
  have h1 := hh.2.1
  rw [outC_map, out_its] at h1
  have h2 := C_bl h1 (by simp; omega)
  rw [List.length_map] at h2
  exact h2
theorem at_B {w : World} {A : Option Addr} {n : Nat} {l : List Bool} (h : Kd.bool.C w A n l) (i : Nat) (hi : i < n) : ∃ ad, A = some ad ∧ w.cell? (ad.add i) = some (.bool (l.getD i false)) := by
  obtain ⟨a, rfl, hc⟩ := h.2.2 (by omega)
  have hl := Kd.C_len h
  have hg : l[i]? = some (l.getD i false) := by
    rw [List.getD_eq_getElem?_getD, List.getElem?_eq_getElem (by omega)]
    rfl
  generalize l.getD i false = x at *
  obtain ⟨row, h1, h2, h3⟩ := hc i x hg
  have h4 : row = [.bool x] := h2
  subst h4
  have h5 := h3 0 _ rfl
  have hs : i * Kd.bool.sz + 0 = i := by show i * 1 + 0 = i; omega
  rw [hs] at h5
  exact ⟨a, rfl, h5⟩
end Go.Proofs.Ytnfglkgkdechlaa


/- Rows by their bare cells: what is appended by copying cells, whatever the cells point to. -/
namespace Go.Proofs.Ytnfglkgkdechlaa
open Go.RowKit Go.Proofs.YtnfglkgkdechlaaW.PrintWords Go.Proofs.YtnfglkgkdechlaaW.PrintLast Go.Proofs.YtnfglkgkdechlaaW.PrintMore
open Go.Proofs.Ytnfglkgkdechlaa.PQ

def RowV (n : Nat) : Type := {cs : List Value // cs.length = n ∧ ∀ u ∈ cs, u.oneCell' = true}
/-- The kind whose elements are their cells. -/
def kV (n : Nat) : Kd (RowV n) where
  sz := n
  E := []
  K := fun _ x cs => cs = x.1
  M := fun _ _ _ x cs => cs = x.1
  K_len := fun {_ x cs} h => by subst h; exact x.2.1
  K_one := fun {_ x cs} h => by subst h; exact x.2.2
  K_below := fun _ h => h
  K_of_M := fun h => h
  M_mono := fun _ h => h
  M_bound := fun h => h
  M_move := fun _ h => h
  M_lower := fun _ h => h
/-- Bare rows that are such elements' rows. -/
def Fits {α : Type} (d : Kd α) (w : World) (xs : List α) (rs : List (RowV d.sz)) : Prop := xs.length = rs.length ∧ ∀ (i : Nat) (x : α), xs[i]? = some x → ∃ r, rs[i]? = some r ∧ d.K w x r.1
section
variable {α : Type} {d : Kd α} {w w1 : World} {xs ys : List α} {rs qs : List (RowV d.sz)}
theorem Fits.below (h : Fits d w xs rs) (hb : Below w.heap.size w w1) : Fits d w1 xs rs := ⟨h.1, fun i x hx => by
  obtain ⟨r, h1, h2⟩ := h.2 i x hx
  exact ⟨r, h1, d.K_below hb h2⟩⟩
theorem Fits.nil : Fits d w [] [] := ⟨rfl, fun i x hx => by cases hx⟩
theorem Fits.append (h : Fits d w xs rs) (g : Fits d w ys qs) : Fits d w (xs ++ ys) (rs ++ qs) := by
  refine ⟨by rw [List.length_append, List.length_append, h.1, g.1], fun i x hx => ?_⟩
  rcases Nat.lt_or_ge i xs.length with hi | hi
  · rw [List.getElem?_append_left hi] at hx
    obtain ⟨r, h1, h2⟩ := h.2 i x hx
    exact ⟨r, by rw [List.getElem?_append_left (by rw [← h.1]; exact hi)]; exact h1, h2⟩
  · rw [List.getElem?_append_right hi] at hx
    obtain ⟨r, h1, h2⟩ := g.2 _ x hx
    exact ⟨r, by rw [List.getElem?_append_right (by rw [← h.1]; exact hi), ← h.1]; exact h1, h2⟩
theorem Fits.one {x : α} {r : RowV d.sz} (h : d.K w x r.1) : Fits d w [x] [r] := ⟨rfl, fun i y hy => by
  match i, hy with
  | 0, hy =>
    obtain rfl : x = y := by simpa using hy
    exact ⟨r, rfl, h⟩
  | i + 1, hy => simp at hy⟩
theorem fits_lift {A : Option Addr} {n : Nat} (h : (kV d.sz).C w A n rs) (hf : Fits d w xs rs) : d.C w A n xs := by
  refine ⟨by rw [hf.1]; exact h.1, h.2.1, fun hn => ?_⟩
  obtain ⟨a, ha, hc⟩ := h.2.2 hn
  refine ⟨a, ha, fun j x hx => ?_⟩
  obtain ⟨r, h1, h2⟩ := hf.2 j x hx
  obtain ⟨row, g1, g2, g3⟩ := hc j r h1
  have g4 : row = r.1 := g2
  subst g4
  exact ⟨r.1, g1, h2, g3⟩
theorem fits_of {A : Option Addr} {n : Nat} (h : d.C w A n xs) : ∃ rs, (kV d.sz).C w A n rs ∧ Fits d w xs rs := by
  have hl := h.1
  rcases Nat.eq_zero_or_pos n with h0 | h0
  · subst h0
    have : xs = [] := List.eq_nil_of_length_eq_zero hl
    subst this
    exact ⟨[], ⟨rfl, by omega, fun hn => absurd hn (by omega)⟩, Fits.nil⟩
  · obtain ⟨a, ha, hc⟩ := h.2.2 h0
    have hrow : ∀ i : Nat, i < xs.length → ∃ r : RowV d.sz, (∀ x, xs[i]? = some x → d.K w x r.1) ∧ ∀ j u, r.1[j]? = some u → w.cell? (a.add (i * d.sz + j)) = some u := fun i hi => by
      obtain ⟨row, g1, g2, g3⟩ := hc i xs[i] (List.getElem?_eq_getElem hi)
      refine ⟨⟨row, g1, d.K_one g2⟩, fun x hx => ?_, g3⟩
      rw [List.getElem?_eq_getElem hi] at hx
      obtain rfl := Option.some.inj hx
      exact g2
    obtain ⟨r0, _⟩ := hrow 0 (by omega)
    have hget : ∀ (j : Nat) (p : RowV d.sz), ((List.range xs.length).map (fun i => if h : i < xs.length then (hrow i h).choose else r0))[j]? = some p → ∃ hj : j < xs.length, p = (hrow j hj).choose := fun j p hj => by
      rw [List.getElem?_map] at hj
      obtain ⟨i, hi1, rfl⟩ := Option.map_eq_some_iff.1 hj
      have hi2 : i = j ∧ j < xs.length := by
        rw [List.getElem?_eq_some_iff] at hi1
        obtain ⟨h1, h2⟩ := hi1
        rw [List.getElem_range] at h2
        rw [List.length_range] at h1
        exact ⟨h2.symm, h1⟩
      obtain ⟨rfl, hjn⟩ := hi2
      exact ⟨hjn, by rw [dif_pos hjn]⟩
    refine ⟨(List.range xs.length).map (fun i => if h : i < xs.length then (hrow i h).choose else r0), ⟨by simpa using hl, h.2.1, fun _ => ⟨a, ha, fun j p hj => ?_⟩⟩, by simp, fun i x hx => ?_⟩
    · obtain ⟨hjn, rfl⟩ := hget j p hj
      exact ⟨_, (hrow j hjn).choose.2.1, rfl, (hrow j hjn).choose_spec.2⟩
    · have hi := (List.getElem?_eq_some_iff.1 hx).1
      refine ⟨(hrow i hi).choose, ?_, (hrow i hi).choose_spec.1 x hx⟩
      rw [List.getElem?_map, List.getElem?_range hi, Option.map_some, dif_pos hi]
end
/-- One bare row in a box. -/
theorem C_oneV {n : Nat} {W : World} {vb : Nat} {cs : Array Value} {T : TypeId} (r : RowV n) (h : Box W vb cs T) (hr : r.1 = cs.toList) : (kV n).C W (some ⟨vb, 0, none⟩) 1 [r] := by
  refine ⟨rfl, by omega, fun _ => ⟨_, rfl, fun j p hj => ?_⟩⟩
  have hj0 : j = 0 := by
    rcases Nat.eq_zero_or_pos j with h | h
    · exact h
    · rw [List.getElem?_eq_none (by simp; omega)] at hj
      cases hj
  subst hj0
  obtain rfl : r = p := by simpa using hj
  refine ⟨r.1, r.2.1, rfl, fun i u hu => ?_⟩
  have h2 := h.cell i
  rw [show ((⟨vb, 0, none⟩ : Addr).add (0 * (kV n).sz + i)) = ⟨vb, i, none⟩ by rw [Nat.zero_mul, Nat.zero_add]; unfold Addr.add; split <;> simp_all, h2]
  rw [hr] at hu
  simpa using hu
end Go.Proofs.Ytnfglkgkdechlaa


/- The functions whose contracts are by hand, in the form of the printed ones (chapter 15). -/
namespace Go.Proofs.Ytnfglkgkdechlaa
open Go.RowKit Go.Proofs.YtnfglkgkdechlaaW.PrintWords Go.Proofs.YtnfglkgkdechlaaW.PrintLast Go.Proofs.YtnfglkgkdechlaaW.PrintMore
open Go.Proofs.Ytnfglkgkdechlaa.PQ

def in64B (c : Int) : Bool := decide (-9223372036854775808 ≤ c ∧ c ≤ 9223372036854775807)
theorem in64B_iff {c : Int} : in64B c = true ↔ In64 c := by
  unfold in64B In64
  exact decide_eq_true_iff
def okRB (x : Rw) : Bool := x.f0.all in64B && in64B x.f1 && x.f2.all in64B && in64B x.f3
theorem okRB_iff {x : Rw} : okRB x = true ↔ OkR x := by
  unfold okRB OkR
  simp only [Bool.and_eq_true, List.all_eq_true, in64B_iff, and_assoc]
def okIB (it : It) : Bool := it.f0.all (fun x => (Lit.int .u64 x).wf) && it.f2.f1.all (fun p => (Lit.int .u64 p.f0).wf)
theorem okIB_iff {it : It} : okIB it = true ↔ okI it := by
  unfold okIB okI
  simp only [Bool.and_eq_true, List.all_eq_true]
def PQ.mootbelllaw15_awake.f : Option Bool := some true
theorem PQ.mootbelllaw15_awake.calls (r : Bool) (w : World) (h : PQ.mootbelllaw15_awake.f = some r) : Calls Try.prog 8 #[] w fun e w' => e = .returned (.bool r) ∧ Below w.heap.size w w' := by
  obtain rfl := Option.some.inj h
  exact awake_calls w
def PQ.mootbelllaw07_Table.f (l0 : List Int) : Option (List Pr) := if l0.all in64B = true then some (tabR l0) else none
theorem PQ.mootbelllaw07_Table.calls (A0 : Option Addr) (c0 : Nat) (l0 : List Int) (r : List Pr) (w : World) (hr0 : Kd.C (Kd.int .i64) w A0 l0.length l0) (hc0 : l0.length ≤ c0) (h : PQ.mootbelllaw07_Table.f l0 = some r) :
    Calls Try.prog 9 #[.slice A0 l0.length c0] w fun e w' => ∃ v0_ : Value, e = .returned (v0_) ∧ Kd.R kP 52 w' w.heap.size (fun _ => True) v0_ r ∧ Below w.heap.size w w' := by
  obtain ⟨h1, rfl⟩ := ofIf h
  exact lTable A0 _ c0 l0 w hr0 hc0 (fun x hx => in64B_iff.1 (List.all_eq_true.1 h1 x hx))
def PQ.mootbelllaw15_Items.f (l0 : List Rw) : Option (List It) := if l0.all okRB = true then some (itemsR l0) else none
theorem PQ.mootbelllaw15_Items.calls (A0 : Option Addr) (c0 : Nat) (l0 : List Rw) (r : List It) (w : World) (hr0 : Kd.C kR w A0 l0.length l0) (hc0 : l0.length ≤ c0) (h : PQ.mootbelllaw15_Items.f l0 = some r) :
    Calls Try.prog 10 #[.slice A0 l0.length c0] w fun e w' => ∃ v0_ : Value, e = .returned (v0_) ∧ Kd.S kI 32 w' w.heap.size (fun _ => True) v0_ r ∧ Below w.heap.size w w' := by
  obtain ⟨h1, rfl⟩ := ofIf h
  exact lItems A0 _ c0 l0 w hr0 hc0 (fun x hx => okRB_iff.1 (List.all_eq_true.1 h1 x hx))
theorem R_out {w : World} {b base m : Nat} {O : Nat → Bool} (hb : Box w b (outC m O) 4) (h : base ≤ b) (hm : m ≤ 1000000000000) : Kd.bool.R 4 w base (fun _ => True) (.slice (some ⟨b, 0, none⟩) m m) ((List.range m).map O) := by
  have hl : ((List.range m).map O).length = m := by simp
  refine Kd.R_of_own (enc := Value.bool) (h1 := fun _ => rfl) ?_ (fun _ _ => trivial)
  rw [hl]
  refine ⟨by simp [encs], Or.inr ⟨b, m, outC m O, rfl, h, hb, Nat.le_refl _, by unfold maxLen; omega, by simp [outC], ?_⟩⟩
  have e : (List.map (fun j => Value.bool (O j)) (List.range m)).length ≤ m := by simp
  simp [outC, encs, List.map_map, Function.comp_def, List.take_of_length_le e]
def PQ.bisect_Find.f (l0 : List Pr) (l1 : List It) : Option (List Bool × Int) := if l1.length ≤ 1000000000000 ∧ l1.all okIB = true then some ((List.range l1.length).map (fun j : Nat => chk l0 (rdI l1 (j : Int))), (cnt (chk l0) l1 : Int)) else none
theorem PQ.bisect_Find.calls (A0 : Option Addr) (c0 : Nat) (l0 : List Pr) (A1 : Option Addr) (c1 : Nat) (l1 : List It) (r1 : List Bool) (r2 : Int) (w : World) (hr0 : Kd.C kP w A0 l0.length l0) (hc0 : l0.length ≤ c0) (hr1 : Kd.C kI w A1 l1.length l1) (hc1 : l1.length ≤ c1) (h : PQ.bisect_Find.f l0 l1 = some (r1, r2)) :
    Calls Try.prog 11 #[.slice A0 l0.length c0, .slice A1 l1.length c1] w fun e w' => ∃ v0_ : Value, e = .returned (.tuple #[v0_, .int .i64 r2]) ∧ Kd.R Kd.bool 4 w' w.heap.size (fun _ => True) v0_ r1 ∧ Below w.heap.size w w' := by
  obtain ⟨⟨h1, h2⟩, h3⟩ := ofIf h
  injection h3 with h4 h5
  subst h4 h5
  refine (bFind A0 _ c0 l0 A1 _ c1 l1 w hr0 hc0 hr1 hc1 (fun x hx => okIB_iff.1 (List.all_eq_true.1 h2 x hx)) h1).mono fun e w' hh => ?_
  exact ⟨_, hh.1, R_out hh.2.1 (by omega) h1, hh.2.2⟩
def PQ.bisect_Most.f (a0 a1 : Int) : Option Int := if (-4294967296 ≤ a0 ∧ a0 ≤ 4294967296) ∧ (-4294967296 ≤ a1 ∧ a1 ≤ 4294967296) then some (mostF a0 a1) else none
theorem PQ.bisect_Most.calls (a0 : Int) (a1 : Int) (r : Int) (w : World) (h : PQ.bisect_Most.f a0 a1 = some r) : Calls Try.prog 15 #[.int .i64 a0, .int .i64 a1] w fun e w' => e = .returned (.int .i64 r) ∧ Below w.heap.size w w' := by
  obtain ⟨⟨h1, h2⟩, rfl⟩ := ofIf h
  exact bMost a0 a1 w h1.2 h2.2 h1.1 h2.1
end Go.Proofs.Ytnfglkgkdechlaa


/- How often it is asked, in plain Lean (chapter 15). -/
namespace Go.Proofs.Ytnfglkgkdechlaa
open Go.RowKit Go.Proofs.YtnfglkgkdechlaaW.PrintWords Go.Proofs.YtnfglkgkdechlaaW.PrintLast Go.Proofs.YtnfglkgkdechlaaW.PrintMore
open Go.Proofs.Ytnfglkgkdechlaa.PQ

/-- How many are wrong. -/
def wrongs (f : It → Bool) (s : List It) : Nat := (s.filter fun x => !f x).length
theorem wrongs_split (f : It → Bool) (s : List It) (k : Nat) : wrongs f (s.take k) + wrongs f (s.drop k) = wrongs f s := by
  unfold wrongs
  rw [← List.length_append, ← List.filter_append, List.take_append_drop]
theorem wrongs_zero (f : It → Bool) (s : List It) : wrongs f s = 0 ↔ s.all f = true := by
  unfold wrongs
  rw [List.length_eq_zero_iff, List.filter_eq_nil_iff, List.all_eq_true]
  simp
theorem wrongs_le (f : It → Bool) (s : List It) : wrongs f s ≤ s.length := List.length_filter_le _ _
theorem cnt_most (f : It → Bool) : ∀ (d : Nat) (s : List It), s.length ≤ 2 ^ d → cnt f s ≤ 1 + 2 * wrongs f s * d
  | 0, s, h => by
    rw [cnt_eq]
    split
    · omega
    · split
      · omega
      · omega
  | d + 1, s, h => by
    rw [cnt_eq]
    split
    · omega
    · split
      · omega
      · rename_i h1 h2
        split
        · omega
        · rename_i h3
          have hp : s.length ≤ 2 * 2 ^ d := by rw [Nat.pow_succ] at h; omega
          have i1 := cnt_most f d (s.take ((s.length + 1) / 2)) (by rw [List.length_take]; omega)
          have i2 := cnt_most f d (s.drop ((s.length + 1) / 2)) (by rw [List.length_drop]; omega)
          have hw := wrongs_split f s ((s.length + 1) / 2)
          have hw1 : wrongs f s ≠ 0 := fun e => h2 ((wrongs_zero f s).1 e)
          have e1 : 2 * wrongs f (s.take ((s.length + 1) / 2)) * d + 2 * wrongs f (s.drop ((s.length + 1) / 2)) * d = 2 * wrongs f s * d := by rw [← Nat.add_mul, ← Nat.mul_add, hw]
          have e2 : 2 * wrongs f s * (d + 1) = 2 * wrongs f s * d + 2 * wrongs f s := by rw [Nat.mul_add, Nat.mul_one]
          omega
theorem cnt_pos (f : It → Bool) (s : List It) (h : s.length ≠ 0) : 1 ≤ cnt f s := by
  rw [cnt_eq, if_neg h]
  split
  · exact Nat.le_refl _
  · split
    · exact Nat.le_refl _
    · omega
theorem cnt_all (f : It → Bool) (s : List It) (h : s.length ≠ 0) (ha : s.all f = true) : cnt f s = 1 := by
  rw [cnt_eq, if_neg h, if_pos ha]
theorem cnt_none (f : It → Bool) (s : List It) (h : s.length = 0) : cnt f s = 0 := by
  rw [cnt_eq, if_pos h]
theorem halv_eq : ∀ (D k n : Nat), n ≤ 2 ^ D → (D = 0 ∨ 2 ^ D < 2 * n) → n ≤ k → halv k n = D
  | 0, k, n, h, _, hk => by
    cases k with
    | zero => rfl
    | succ k =>
      unfold halv
      rw [if_pos (by simpa using h)]
  | D + 1, k, n, h, hd, hk => by
    have h1 : 2 ^ (D + 1) = 2 * 2 ^ D := by rw [Nat.pow_succ]; omega
    have h2 : 0 < 2 ^ D := Nat.pow_pos (by omega)
    have h3 : 2 ^ D < n := by omega
    obtain ⟨k, rfl⟩ : ∃ q, k = q + 1 := ⟨k - 1, by omega⟩
    rw [halv_step k n (by omega) hk, halv_eq D k (n - n / 2) (by omega) (by
      cases D with
      | zero => exact Or.inl rfl
      | succ D =>
        have h4 : 2 ^ (D + 1) = 2 * 2 ^ D := by rw [Nat.pow_succ]; omega
        exact Or.inr (by omega)) (by omega)]
theorem addK_mem {acc : List Int} {k x : Int} (h : x ∈ addK acc k) : x ∈ acc ∨ x = k := by
  unfold addK at h
  split at h
  · exact Or.inl h
  · simpa using h
theorem keysR_bd (raw : List Int) : ∀ (xs acc : List Int), (∀ x ∈ acc, 0 ≤ x ∧ x < 12) → ∀ x ∈ xs.foldl (fun acc x => addK acc (pickK x 12)) acc, 0 ≤ x ∧ x < 12
  | [], acc, h => h
  | y :: r, acc, h => by
    rw [List.foldl_cons]
    refine keysR_bd raw r _ fun x hx => ?_
    rcases addK_mem hx with h1 | h1
    · exact h x h1
    · subst h1
      exact pickK_lt y 12 (by omega)
theorem mem_ins {l : List Pr} {p x : Pr} {k : Nat} (h : x ∈ l.take k ++ p :: l.drop k) : x ∈ l ∨ x = p := by
  rw [List.mem_append, List.mem_cons] at h
  rcases h with h | h | h
  · exact Or.inl (List.mem_of_mem_take h)
  · exact Or.inr h
  · exact Or.inl (List.mem_of_mem_drop h)
theorem tokR_bd (raw : List Int) : ∀ (xs : List Int) (l : List Pr), (∀ p ∈ l, 0 ≤ p.f0 ∧ p.f0 < 12) → ∀ p ∈ xs.foldl (fun l x => insT l (rawP x)) l, 0 ≤ p.f0 ∧ p.f0 < 12
  | [], l, h => h
  | y :: r, l, h => by
    rw [List.foldl_cons]
    refine tokR_bd raw r _ fun p hp => ?_
    rcases mem_ins hp with h1 | h1
    · exact h p h1
    · subst h1
      exact pickZ_lt y 12 (by omega)
theorem signR_bd (root : Int) : ∀ (xs : List Int) (l : List Pr), (∀ k ∈ xs, 0 ≤ k ∧ k < 12) → (∀ p ∈ l, 0 ≤ p.f0 ∧ p.f0 < 12) → ∀ p ∈ xs.foldl (fun l k => withP l ⟨k, root⟩) l, 0 ≤ p.f0 ∧ p.f0 < 12
  | [], l, _, h => h
  | y :: r, l, hx, h => by
    rw [List.foldl_cons]
    refine signR_bd root r _ (fun k hk => hx k (List.mem_cons_of_mem _ hk)) fun p hp => ?_
    rcases mem_ins hp with h1 | h1
    · exact h p h1
    · subst h1
      exact hx y (List.mem_cons_self ..)
theorem wf_12 {x : Int} (h : 0 ≤ x ∧ x < 12) : (Lit.int .u64 x).wf = true := by
  simp [Lit.wf, IntKind.min, IntKind.max, IntKind.signed, IntKind.bits]
  omega
theorem okI_item (x : Rw) : okI (itemR x) := by
  have hk : ∀ y ∈ keysR x.f0, 0 ≤ y ∧ y < 12 := keysR_bd x.f0 _ [] (fun x hx => by cases hx)
  refine ⟨fun y hy => wf_12 (hk y hy), fun p hp => wf_12 ?_⟩
  have hp2 : p ∈ (if 0 < pickZ x.f3 5 then signR (pickZ x.f1 3) (keysR x.f0) else tokR x.f2) := hp
  split at hp2
  · exact signR_bd _ _ [] hk (fun p hp => by cases hp) p hp2
  · exact tokR_bd x.f2 _ [] (fun p hp => by cases hp) p hp2
theorem okI_items (raw : List Rw) : ∀ it ∈ itemsR raw, okI it := fun it h => by
  obtain ⟨x, _, rfl⟩ := List.mem_map.1 h
  exact okI_item x
end Go.Proofs.Ytnfglkgkdechlaa


/- Items by their bare rows; two lists of answers that are one (chapter 15). -/
namespace Go.Proofs.Ytnfglkgkdechlaa
open Go.RowKit Go.Proofs.YtnfglkgkdechlaaW.PrintWords Go.Proofs.YtnfglkgkdechlaaW.PrintLast Go.Proofs.YtnfglkgkdechlaaW.PrintMore
open Go.Proofs.Ytnfglkgkdechlaa.PQ

theorem boolsC (A B : Option Addr) (n c m d : Nat) (a b : List Bool) (w : World) (hA : Kd.bool.C w A n a) (hc : n ≤ c) (hB : Kd.bool.C w B m b) (hd : m ≤ d) (hl : n ≤ 1000000) (h : a = b) : Calls Try.prog 13 #[.slice A n c, .slice B m d] w fun e w' => e = .returned (.bool true) ∧ Below w.heap.size w w' := boolsE A B n c m d a b true w hA hc hB hd hl (decide_eq_true h)
theorem itemC (K0 : Option Addr) (nk ck : Nat) (P : Option Addr) (np cp : Nat) (x : Rw) (it : It) (w : World) (hK : (Kd.int .i64).C w K0 nk x.f0) (hck : nk ≤ ck) (hP : (Kd.int .i64).C w P np x.f2) (hcp : np ≤ cp) (ho : OkR x) (h : itemR x = it) :
    Calls Try.prog 18 #[.agg #[.slice K0 nk ck, .int .i64 x.f1, .slice P np cp, .int .i64 x.f3]] w
      fun r w' => ∃ A0 c0 A3 c3, r = .returned (.agg #[.slice A0 it.f0.length c0, .int .u64 it.f1, .bool it.f2.f0, .slice A3 it.f2.f1.length c3]) ∧ kI.K w' it [.slice A0 it.f0.length c0, .int .u64 it.f1, .bool it.f2.f0, .slice A3 it.f2.f1.length c3] ∧ Below w.heap.size w w' := by
  refine (lItemE K0 nk ck P np cp x it w hK hck hP hcp ho h).mono fun r w' hh => ?_
  obtain ⟨v0, v3, rfl, h0, h3, hb⟩ := hh
  obtain ⟨A0, c0, rfl⟩ := Kd.R_slice h0
  obtain ⟨A3, c3, rfl⟩ := Kd.R_slice h3
  exact ⟨A0, c0, A3, c3, rfl, k32_mk w' it (Kd.R_reads' h0).2.1 (Kd.R_reads' h0).2.2 (Kd.R_reads' h3).2.1 (Kd.R_reads' h3).2.2, hb⟩
theorem findC2 (A : Option Addr) (n c : Nat) (t : List Pr) (I : Option Addr) (m mc : Nat) (its : List It) (bs : List Bool) (k : Nat) (w : World) (hA : kP.C w A n t) (hc : n ≤ c) (hI : kI.C w I m its) (hm : m ≤ mc) (ho : ∀ x ∈ its, okI x) (hm0 : m ≤ 1000000000000) (hb : its.map (chk t) = bs) (hk : cnt (chk t) its = k) :
    Calls Try.prog 11 #[.slice A n c, .slice I m mc] w fun e w' => ∃ B, e = .returned (.tuple #[.slice (some B) m m, .int .i64 (k : Int)]) ∧ Kd.bool.C w' (some B) m bs ∧ Below w.heap.size w w' ∧ Below w.heap.size w w' :=
  (findC A n c t I m mc its bs k w hA hc hI hm ho hm0 hb hk).mono fun e w' hh => by
    obtain ⟨B, h1, h2, h3⟩ := hh
    exact ⟨B, h1, h2, h3, h3⟩
def FitI (w : World) (its : List It) (rs : List (RowV 4)) : Prop := Fits kI w its rs
theorem FitI.below {w w1 : World} {its : List It} {rs : List (RowV 4)} (h : FitI w its rs) (hb : Below w.heap.size w w1) : FitI w1 its rs := Fits.below h hb
theorem FitI.append {w : World} {a b : List It} {rs qs : List (RowV 4)} (h : FitI w a rs) (g : FitI w b qs) : FitI w (a ++ b) (rs ++ qs) := Fits.append h g
theorem FitI.one {w : World} {x : It} {r : RowV 4} (h : kI.K w x r.1) : FitI w [x] [r] := Fits.one h
theorem fitI_of {w : World} {A : Option Addr} {n : Nat} {its : List It} (h : kI.C w A n its) : ∃ rs : List (RowV 4), (kV 4).C w A n rs ∧ FitI w its rs := fits_of h
theorem liftI {w : World} {A : Option Addr} {n : Nat} {its : List It} {rs : List (RowV 4)} (h : (kV 4).C w A n rs) (hf : FitI w its rs) : kI.C w A n its := fits_lift (d := kI) h hf
theorem cnt_one (f : It → Bool) (x : It) : cnt f [x] = 1 := by
  rw [cnt_eq, if_neg (by simp)]
  split
  · rfl
  · rw [if_pos (by simp)]
theorem findR (A : Option Addr) (n c : Nat) (t : List Pr) (I : Option Addr) (m mc : Nat) (its : List It) (bs : List Bool) (k : Nat) (w : World) (rs : List (RowV 4)) {e base : Nat} {ok : Nat → Prop} (hA : kP.C w A n t) (hc : n ≤ c) (hI : (kV 4).R e w base ok (.slice I m mc) rs) (hf : FitI w its rs) (ho : ∀ x ∈ its, okI x) (hm0 : rs.length ≤ 1000000000000) (hb : its.map (chk t) = bs) (hk : cnt (chk t) its = k) :
    Calls Try.prog 11 #[.slice A n c, .slice I m mc] w fun e w' => ∃ B, e = .returned (.tuple #[.slice (some B) m m, .int .i64 (k : Int)]) ∧ Kd.bool.C w' (some B) m bs ∧ Below w.heap.size w w' := by
  obtain ⟨h1, h2, h3⟩ := Kd.R_reads' hI
  subst h1
  exact findC A n c t I _ mc its bs k w hA hc (fits_lift (d := kI) h3 hf) h2 ho hm0 hb hk
end Go.Proofs.Ytnfglkgkdechlaa

namespace Go.Proofs.Ytnfglkgkdechlaa.PQ
open Go.RowKit Go.Proofs.YtnfglkgkdechlaaW.PrintWords Go.Proofs.YtnfglkgkdechlaaW.PrintLast Go.Proofs.YtnfglkgkdechlaaW.PrintMore
attribute [local go_sem] max2_int min2_int max_two min_two max_three min_three max_four min_four   -- for this text's walks alone

attribute [local go_sem high] eqA52

/-! ### mootbellref15_Most: function 16 -/
mutual
def mootbellref15_Most.j0 : Nat → Int → Int → Bool → Option (Int)
  | 0, _, _, _ => none
  | k + 1, x0, x1, x12 => if x12 = true then (some 0) else (mootbellref15_Most.l0 k x1 0 x0)
def mootbellref15_Most.l0 : Nat → Int → Int → Int → Option (Int)
  | 0, _, _, _ => none
  | k + 1, x1, x5, x6 => if x6 > 1 then (mootbellref15_Most.l0 k x1 (wrap64 (x5 + 1)) (wrap64 ((wrap64 (Int.tdiv x6 2)) + (Int.tmod x6 2)))) else (some (wrap64 (1 + (wrap64 ((wrap64 (2 * x1)) * x5)))))
end
def mootbellref15_Most.f (k : Nat) (a0 : Int) (a1 : Int) : Option (Int) := if a0 < 1 then (mootbellref15_Most.j0 k a0 a1 true) else (mootbellref15_Most.j0 k a0 a1 (decide (a1 < 0)))
theorem mootbellref15_Most.mono_l : ∀ k, (∀ y0 y1 y2, LeO (mootbellref15_Most.j0 k y0 y1 y2) (mootbellref15_Most.j0 (k + 1) y0 y1 y2)) ∧ (∀ y0 y1 y2, LeO (mootbellref15_Most.l0 k y0 y1 y2) (mootbellref15_Most.l0 (k + 1) y0 y1 y2))
  | 0 => ⟨fun _ _ _ r h => by simp [mootbellref15_Most.j0] at h, fun _ _ _ r h => by simp [mootbellref15_Most.l0] at h⟩
  | k + 1 => by
    obtain ⟨ih0, ih1⟩ := mootbellref15_Most.mono_l k
    refine ⟨?_, ?_⟩
    · intro y0 y1 y2
      unfold mootbellref15_Most.j0
      repeat' first
      | (with_reducible exact ih0 _ _ _)
      | (with_reducible exact ih1 _ _ _)
      | (with_reducible exact LeO.refl _)
      | (with_reducible exact LeO.none _)
      | (with_reducible refine LeO.ite ?_ ?_)
      | (with_reducible refine LeO.bind ?_ (fun _ => ?_))
      | exact ih0 _ _ _
      | exact ih1 _ _ _
      | exact LeO.none _
      | refine LeO.ite ?_ ?_
      | refine LeO.bind ?_ (fun _ => ?_)
    · intro y0 y1 y2
      unfold mootbellref15_Most.l0
      repeat' first
      | (with_reducible exact ih0 _ _ _)
      | (with_reducible exact ih1 _ _ _)
      | (with_reducible exact LeO.refl _)
      | (with_reducible exact LeO.none _)
      | (with_reducible refine LeO.ite ?_ ?_)
      | (with_reducible refine LeO.bind ?_ (fun _ => ?_))
      | exact ih0 _ _ _
      | exact ih1 _ _ _
      | exact LeO.none _
      | refine LeO.ite ?_ ?_
      | refine LeO.bind ?_ (fun _ => ?_)
theorem mootbellref15_Most.mono : ∀ a0 a1 k, LeO (mootbellref15_Most.f k a0 a1) (mootbellref15_Most.f (k + 1) a0 a1) := by
  intro a0 a1 k
  obtain ⟨ih0, ih1⟩ := mootbellref15_Most.mono_l k
  unfold mootbellref15_Most.f
  repeat' first
      | (with_reducible exact ih0 _ _ _)
      | (with_reducible exact ih1 _ _ _)
      | (with_reducible exact LeO.refl _)
      | (with_reducible exact LeO.none _)
      | (with_reducible refine LeO.ite ?_ ?_)
      | (with_reducible refine LeO.bind ?_ (fun _ => ?_))
      | exact ih0 _ _ _
      | exact ih1 _ _ _
      | exact LeO.none _
      | refine LeO.ite ?_ ?_
      | refine LeO.bind ?_ (fun _ => ?_)
set_option maxHeartbeats 8000000 in
set_option maxRecDepth 100000 in
theorem mootbellref15_Most.calls (k : Nat) (a0 : Int) (a1 : Int) (r : Int) (w : World) (h : mootbellref15_Most.f k a0 a1 = some r) :
    Calls Try.prog 16 #[.int .i64 a0, .int .i64 a1] w fun e w' => e = .returned (.int .i64 r) ∧ Drawn0 w w' := by
  have H : (if a0 < 1 then (mootbellref15_Most.j0 k a0 a1 true) else (mootbellref15_Most.j0 k a0 a1 (decide (a1 < 0)))) = some r := h
  clear h
  have HC3 := Aside0.mk H
  clear H
  go_enter Try.func16, Try.ntmps16
  go_upto_region 1 with (fail)
  go_cut [12] (fun v12 wc => ∃ (kq : Nat) (x12_2 : Bool), v12 = .bool x12_2 ∧ Aside0 (mootbellref15_Most.j0 kq a0 a1 x12_2 = some r) ∧ Aside0 (kq ≤ k) ∧ Drawn0 w wc)
  case first =>
    have H := HC3.out
    clear HC3
    by_cases c4 : a0 < 1
    · rw [if_pos c4] at H
      have c4b0 : decide (a0 < 1) = true := decide_eq_true c4
      clear c4
      (first | rw [c4b0] | (simp only [i64_w, i32_w]; rw [c4b0]) | skip)
      have H' := Aside0.mk H
      clear H
      go_wp2
      go_meet
      case rel => exact ⟨_, (true), (by first | rfl | (simp; done) | (simp [*]; done)), H', ⟨by first | omega | exact Nat.le_refl _⟩, by repeat (first | exact Drawn0.refl _ | apply Drawn0.step)⟩
    · rw [if_neg c4] at H
      have c4b0 : decide (a0 < 1) = false := decide_eq_false c4
      clear c4
      (first | rw [c4b0] | (simp only [i64_w, i32_w]; rw [c4b0]) | skip)
      have H' := Aside0.mk H
      clear H
      go_wp2
      go_meet
      case rel => exact ⟨_, (decide (a1 < 0)), (by first | rfl | (simp; done) | (simp [*]; done)), H', ⟨by first | omega | exact Nat.le_refl _⟩, by repeat (first | exact Drawn0.refl _ | apply Drawn0.step)⟩
  case rest =>
    clear HC3
    try clear c1
    try clear p2
    try clear c4
    try clear c4b0
    obtain ⟨kq, x12_2, rfl, HA, HJ2, ⟨mc2, rfl⟩⟩ := hcut
    cases kq with
    | zero => exact absurd HA.out (by simp [mootbellref15_Most.j0])
    | succ kj2 =>
      have H := HA.out
      clear HA
      simp only [mootbellref15_Most.j0] at H
      by_cases c5 : x12_2 = true
      · subst c5
        have H1 : (some 0) = some r := by rw [if_pos rfl] at H; exact H
        clear H
        have H := H1
        clear H1
        obtain rfl := Option.some.inj H
        go_wp2
        go_ret
        exact ⟨by first | rfl | (simp; done) | (simp [*]; done), by repeat (first | exact Drawn0.refl _ | apply Drawn0.step)⟩
      · replace c5 := Bool.eq_false_iff.mpr c5
        subst c5
        have H1 : (mootbellref15_Most.l0 kj2 a1 0 a0) = some r := by rw [if_neg (show ¬ (false = true) by decide)] at H; exact H
        clear H
        have H := H1
        clear H1
        have H' := Aside0.mk H
        clear H
        go_wp2
        go_loopg [5, 6] kj2 (fun kq v5 v6 w' => ∃ (x5_2 : Int) (x6_2 : Int), v5 = .int .i64 x5_2 ∧ v6 = .int .i64 x6_2 ∧ Aside0 (mootbellref15_Most.l0 kq a1 x5_2 x6_2 = some r) ∧ Aside0 (kq ≤ kj2) ∧ Drawn0 w w')
        case atStart => exact ⟨(0), (a0), (by first | rfl | (simp; done) | (simp [*]; done)), (by first | rfl | (simp; done) | (simp [*]; done)), H', ⟨Nat.le_refl _⟩, by repeat (first | exact Drawn0.refl _ | apply Drawn0.step)⟩
        case round =>
          clear H'
          try clear c1
          try clear c2
          try clear p2
          try clear c4
          try clear c4b0
          try clear c5
          try clear p2
          obtain ⟨x5_2, x6_2, rfl, rfl, HA, HK2, ⟨m2, rfl⟩⟩ := hrel
          cases gk with
          | zero => exact absurd HA.out (by simp [mootbellref15_Most.l0])
          | succ k2 =>
            have H := HA.out
            clear HA
            simp only [mootbellref15_Most.l0] at H
            by_cases c6 : x6_2 > 1
            · rw [if_pos c6] at H
              have c6b0 : decide (1 < x6_2) = true := decide_eq_true c6
              clear c6
              have H' := Aside0.mk H
              clear H
              go_wp2
              go_roundg k2
              case measure => have := HJ2.out; have := HK2.out; omega
              case rel => exact ⟨(wrap64 (x5_2 + 1)), (wrap64 ((wrap64 (Int.tdiv x6_2 2)) + (Int.tmod x6_2 2))), (by first | rfl | (simp; done) | (simp [*]; done)), (by first | rfl | (simp; done) | (simp [*]; done)), H', ⟨by have := HJ2.out; have := HK2.out; omega⟩, by repeat (first | exact Drawn0.refl _ | apply Drawn0.step)⟩
            · rw [if_neg c6] at H
              have c6b0 : decide (1 < x6_2) = false := decide_eq_false c6
              clear c6
              obtain rfl := Option.some.inj H
              go_wp2
              go_ret
              exact ⟨by first | rfl | (simp; done) | (simp [*]; done), by repeat (first | exact Drawn0.refl _ | apply Drawn0.step)⟩
end Go.Proofs.Ytnfglkgkdechlaa.PQ

