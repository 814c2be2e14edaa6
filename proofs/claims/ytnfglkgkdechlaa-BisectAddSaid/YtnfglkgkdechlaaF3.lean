import Derived.Test.YtnfglkgkdechlaaF2
import Derived.Test.YtnfglkgkdechlaaQx0
import Derived.Test.YtnfglkgkdechlaaQx1

/- How often it is asked, in plain Lean (chapter 15). -/
set_option linter.unusedVariables false
set_option linter.unusedSimpArgs false
namespace Go.Proofs.Ytnfglkgkdechlaa
open Go.RowKit Go.Proofs.YtnfglkgkdechlaaW.PrintWords Go.Proofs.YtnfglkgkdechlaaW.PrintLast Go.Proofs.YtnfglkgkdechlaaW.PrintMore
open Go.Proofs.Ytnfglkgkdechlaa.PQ

/-- How many are wrong. -/
def wrongs (f : It → Bool) (s : List It) : Nat := (s.filter fun x => !f x).length
theorem wrongs_split (f : It → Bool) (s : List It) (k : Nat) : wrongs f (s.take k) + wrongs f (s.drop k) = wrongs f s := by
  unfold wrongs
  rw [← List.length_append, ← List.filter_append, List.take_append_drop]
theorem wrongs_zero (f : It → Bool) (s : List It) : wrongs f s = 0 ↔ s.all f = true := by
  unfold wrongs
  rw [List.length_eq_zero_iff, List.filter_eq_nil_iff, List.all_eq_true]
  simp
theorem wrongs_le (f : It → Bool) (s : List It) : wrongs f s ≤ s.length := List.length_filter_le _ _
theorem cnt_most (f : It → Bool) : ∀ (d : Nat) (s : List It), s.length ≤ 2 ^ d → cnt f s ≤ 1 + 2 * wrongs f s * d
  | 0, s, h => by
    rw [cnt_eq]
    split
    · omega
    · split
      · omega
      · omega
  | d + 1, s, h => by
    rw [cnt_eq]
    split
    · omega
    · split
      · omega
      · rename_i h1 h2
        split
        · omega
        · rename_i h3
          have hp : s.length ≤ 2 * 2 ^ d := by rw [Nat.pow_succ] at h; omega
          have i1 := cnt_most f d (s.take ((s.length + 1) / 2)) (by rw [List.length_take]; omega)
          have i2 := cnt_most f d (s.drop ((s.length + 1) / 2)) (by rw [List.length_drop]; omega)
          have hw := wrongs_split f s ((s.length + 1) / 2)
          have hw1 : wrongs f s ≠ 0 := fun e => h2 ((wrongs_zero f s).1 e)
          have e1 : 2 * wrongs f (s.take ((s.length + 1) / 2)) * d + 2 * wrongs f (s.drop ((s.length + 1) / 2)) * d = 2 * wrongs f s * d := by rw [← Nat.add_mul, ← Nat.mul_add, hw]
          have e2 : 2 * wrongs f s * (d + 1) = 2 * wrongs f s * d + 2 * wrongs f s := by rw [Nat.mul_add, Nat.mul_one]
          omega
theorem cnt_pos (f : It → Bool) (s : List It) (h : s.length ≠ 0) : 1 ≤ cnt f s := by
  rw [cnt_eq, if_neg h]
  split
  · exact Nat.le_refl _
  · split
    · exact Nat.le_refl _
    · omega
theorem cnt_all (f : It → Bool) (s : List It) (h : s.length ≠ 0) (ha : s.all f = true) : cnt f s = 1 := by
  rw [cnt_eq, if_neg h, if_pos ha]
theorem cnt_none (f : It → Bool) (s : List It) (h : s.length = 0) : cnt f s = 0 := by
  rw [cnt_eq, if_pos h]
theorem halv_eq : ∀ (D k n : Nat), n ≤ 2 ^ D → (D = 0 ∨ 2 ^ D < 2 * n) → n ≤ k → halv k n = D
  | 0, k, n, h, _, hk => by
    cases k with
    | zero => rfl
    | succ k =>
      unfold halv
      rw [if_pos (by simpa using h)]
  | D + 1, k, n, h, hd, hk => by
    have h1 : 2 ^ (D + 1) = 2 * 2 ^ D := by rw [Nat.pow_succ]; omega
    have h2 : 0 < 2 ^ D := Nat.pow_pos (by omega)
    have h3 : 2 ^ D < n := by omega
    obtain ⟨k, rfl⟩ : ∃ q, k = q + 1 := ⟨k - 1, by omega⟩
    rw [halv_step k n (by omega) hk, halv_eq D k (n - n / 2) (by omega) (by
      cases D with
      | zero => exact Or.inl rfl
      | succ D =>
        have h4 : 2 ^ (D + 1) = 2 * 2 ^ D := by rw [Nat.pow_succ]; omega
        exact Or.inr (by omega)) (by omega)]
theorem addK_mem {acc : List Int} {k x : Int} (h : x ∈ addK acc k) : x ∈ acc ∨ x = k := by
  unfold addK at h
  split at h
  · exact Or.inl h
  · simpa using h
theorem keysR_bd (raw : List Int) : ∀ (xs acc : List Int), (∀ x ∈ acc, 0 ≤ x ∧ x < 12) → ∀ x ∈ xs.foldl (fun acc x => addK acc (pickK x 12)) acc, 0 ≤ x ∧ x < 12
  | [], acc, h => h
  | y :: r, acc, h => by
    rw [List.foldl_cons]
    refine keysR_bd raw r _ fun x hx => ?_
    rcases addK_mem hx with h1 | h1
    · exact h x h1
    · subst h1
      exact pickK_lt y 12 (by omega)
theorem mem_ins {l : List Pr} {p x : Pr} {k : Nat} (h : x ∈ l.take k ++ p :: l.drop k) : x ∈ l ∨ x = p := by
  rw [List.mem_append, List.mem_cons] at h
  rcases h with h | h | h
  · exact Or.inl (List.mem_of_mem_take h)
  · exact Or.inr h
  · exact Or.inl (List.mem_of_mem_drop h)
theorem tokR_bd (raw : List Int) : ∀ (xs : List Int) (l : List Pr), (∀ p ∈ l, 0 ≤ p.f0 ∧ p.f0 < 12) → ∀ p ∈ xs.foldl (fun l x => insT l (rawP x)) l, 0 ≤ p.f0 ∧ p.f0 < 12
  | [], l, h => h
  | y :: r, l, h => by
    rw [List.foldl_cons]
    refine tokR_bd raw r _ fun p hp => ?_
    rcases mem_ins hp with h1 | h1
    · exact h p h1
    · subst h1
      exact pickZ_lt y 12 (by omega)
theorem signR_bd (root : Int) : ∀ (xs : List Int) (l : List Pr), (∀ k ∈ xs, 0 ≤ k ∧ k < 12) → (∀ p ∈ l, 0 ≤ p.f0 ∧ p.f0 < 12) → ∀ p ∈ xs.foldl (fun l k => withP l ⟨k, root⟩) l, 0 ≤ p.f0 ∧ p.f0 < 12
  | [], l, _, h => h
  | y :: r, l, hx, h => by
    rw [List.foldl_cons]
    refine signR_bd root r _ (fun k hk => hx k (List.mem_cons_of_mem _ hk)) fun p hp => ?_
    rcases mem_ins hp with h1 | h1
    · exact h p h1
    · subst h1
      exact hx y (List.mem_cons_self ..)
theorem wf_12 {x : Int} (h : 0 ≤ x ∧ x < 12) : (Lit.int .u64 x).wf = true := by
  simp [Lit.wf, IntKind.min, IntKind.max, IntKind.signed, IntKind.bits]
  omega
theorem okI_item (x : Rw) : okI (itemR x) := by
  have hk : ∀ y ∈ keysR x.f0, 0 ≤ y ∧ y < 12 := keysR_bd x.f0 _ [] (fun x hx => by cases hx)
  refine ⟨fun y hy => wf_12 (hk y hy), fun p hp => wf_12 ?_⟩
  have hp2 : p ∈ (if 0 < pickZ x.f3 5 then signR (pickZ x.f1 3) (keysR x.f0) else tokR x.f2) := hp
  split at hp2
  · exact signR_bd _ _ [] hk (fun p hp => by cases hp) p hp2
  · exact tokR_bd x.f2 _ [] (fun p hp => by cases hp) p hp2
theorem okI_items (raw : List Rw) : ∀ it ∈ itemsR raw, okI it := fun it h => by
  obtain ⟨x, _, rfl⟩ := List.mem_map.1 h
  exact okI_item x
end Go.Proofs.Ytnfglkgkdechlaa

namespace Go.Proofs.Ytnfglkgkdechlaa.PQ
open Go.RowKit Go.Proofs.YtnfglkgkdechlaaW.PrintWords Go.Proofs.YtnfglkgkdechlaaW.PrintLast Go.Proofs.YtnfglkgkdechlaaW.PrintMore
attribute [local go_sem] max2_int min2_int max_two min_two max_three min_three max_four min_four   -- for this text's walks alone
set_option linter.unusedVariables false
set_option linter.unusedSimpArgs false

/-! ### mootbelllaw15_BisectMost: function 5 -/
mutual
def mootbelllaw15_BisectMost.l0 : Nat → Bool → List (S32) → List Bool → Int → Int → Int → Option (Bool)
  | 0, _, _, _, _, _, _ => none
  | k + 1, x5, x7, x8, x9, x10, x11 => if x11 < (x8.length : Int) then (if 0 ≤ x11 then (if rdOf false x8 x11 = true then (mootbelllaw15_BisectMost.l0 k x5 x7 x8 x9 x10 (wrap64 (x11 + 1))) else (mootbelllaw15_BisectMost.l0 k x5 x7 x8 x9 (wrap64 (x10 + 1)) (wrap64 (x11 + 1)))) else (none)) else (if (x7.length : Int) = 0 then (if x5 = true then (some (x9 == 0)) else (some false)) else (mootbelllaw15_BisectMost.l1 k x5 x7 x9 x10 0))
def mootbelllaw15_BisectMost.l1 : Nat → Bool → List (S32) → Int → Int → Int → Option (Bool)
  | 0, _, _, _, _, _ => none
  | k + 1, x5, x7, x9, x10, x12 => if 0 ≤ x12 then (if (shl .i64 1 x12) < (x7.length : Int) then (mootbelllaw15_BisectMost.l1 k x5 x7 x9 x10 (wrap64 (x12 + 1))) else ((bisect_Most.f (x7.length : Int) x10).bind fun t159 => (if x5 = true then (if x9 ≥ 1 then (if x9 ≤ t159 then (if x10 > 0 then (if x9 ≤ (wrap64 ((wrap64 ((wrap64 (2 * x10)) * (wrap64 (x12 + 1)))) + 1)) then (some (t159 == (wrap64 (1 + (wrap64 ((wrap64 (2 * x10)) * x12)))))) else (some false)) else (if x9 = 1 then (if x9 ≤ (wrap64 ((wrap64 ((wrap64 (2 * x10)) * (wrap64 (x12 + 1)))) + 1)) then (some (t159 == (wrap64 (1 + (wrap64 ((wrap64 (2 * x10)) * x12)))))) else (some false)) else (some false))) else (some false)) else (some false)) else (some false)))) else (none)
end
def mootbelllaw15_BisectMost.f (k : Nat) (l0 : List Int) (l1 : List (S48)) : Option (Bool) := (mootbelllaw15_awake.f).bind fun t147 => ((mootbelllaw07_Table.f l0).bind fun t148 => ((mootbelllaw15_Items.f l1).bind fun t151 => ((bisect_Find.f t148 t151).bind fun bt154 => (if (bt154.1.length : Int) = (t151.length : Int) then (mootbelllaw15_BisectMost.l0 k t147 t151 bt154.1 bt154.2 0 0) else (some false)))))
theorem mootbelllaw15_BisectMost.mono_l : ∀ k, (∀ y0 y1 y2 y3 y4 y5, LeO (mootbelllaw15_BisectMost.l0 k y0 y1 y2 y3 y4 y5) (mootbelllaw15_BisectMost.l0 (k + 1) y0 y1 y2 y3 y4 y5)) ∧ (∀ y0 y1 y2 y3 y4, LeO (mootbelllaw15_BisectMost.l1 k y0 y1 y2 y3 y4) (mootbelllaw15_BisectMost.l1 (k + 1) y0 y1 y2 y3 y4))
  | 0 => ⟨fun _ _ _ _ _ _ r h => by simp [mootbelllaw15_BisectMost.l0] at h, fun _ _ _ _ _ r h => by simp [mootbelllaw15_BisectMost.l1] at h⟩
  | k + 1 => by
    obtain ⟨ih0, ih1⟩ := mootbelllaw15_BisectMost.mono_l k
    refine ⟨?_, ?_⟩
    · intro y0 y1 y2 y3 y4 y5
      unfold mootbelllaw15_BisectMost.l0
      repeat' first
      | (with_reducible exact ih0 _ _ _ _ _ _)
      | (with_reducible exact ih1 _ _ _ _ _)
      | (with_reducible exact LeO.refl _)
      | (with_reducible exact LeO.none _)
      | (with_reducible refine LeO.ite ?_ ?_)
      | (with_reducible refine LeO.bind ?_ (fun _ => ?_))
      | exact ih0 _ _ _ _ _ _
      | exact ih1 _ _ _ _ _
      | exact LeO.none _
      | refine LeO.ite ?_ ?_
      | refine LeO.bind ?_ (fun _ => ?_)
    · intro y0 y1 y2 y3 y4
      unfold mootbelllaw15_BisectMost.l1
      repeat' first
      | (with_reducible exact ih0 _ _ _ _ _ _)
      | (with_reducible exact ih1 _ _ _ _ _)
      | (with_reducible exact LeO.refl _)
      | (with_reducible exact LeO.none _)
      | (with_reducible refine LeO.ite ?_ ?_)
      | (with_reducible refine LeO.bind ?_ (fun _ => ?_))
      | exact ih0 _ _ _ _ _ _
      | exact ih1 _ _ _ _ _
      | exact LeO.none _
      | refine LeO.ite ?_ ?_
      | refine LeO.bind ?_ (fun _ => ?_)
theorem mootbelllaw15_BisectMost.mono : ∀ a0 a1 k, LeO (mootbelllaw15_BisectMost.f k a0 a1) (mootbelllaw15_BisectMost.f (k + 1) a0 a1) := by
  intro a0 a1 k
  obtain ⟨ih0, ih1⟩ := mootbelllaw15_BisectMost.mono_l k
  unfold mootbelllaw15_BisectMost.f
  repeat' first
      | (with_reducible exact ih0 _ _ _ _ _ _)
      | (with_reducible exact ih1 _ _ _ _ _)
      | (with_reducible exact LeO.refl _)
      | (with_reducible exact LeO.none _)
      | (with_reducible refine LeO.ite ?_ ?_)
      | (with_reducible refine LeO.bind ?_ (fun _ => ?_))
      | exact ih0 _ _ _ _ _ _
      | exact ih1 _ _ _ _ _
      | exact LeO.none _
      | refine LeO.ite ?_ ?_
      | refine LeO.bind ?_ (fun _ => ?_)
set_option maxHeartbeats 8000000 in
set_option maxRecDepth 100000 in
theorem mootbelllaw15_BisectMost.calls (k : Nat) (A0 : Option Addr) (c0 : Nat) (l0 : List Int) (A1 : Option Addr) (c1 : Nat) (l1 : List (S48)) (r : Bool) (w : World) (hr0 : Kd.C (Kd.int .i64) w A0 l0.length l0) (hc0 : l0.length ≤ c0) (hr1 : Kd.C k48 w A1 l1.length l1) (hc1 : l1.length ≤ c1) (h : mootbelllaw15_BisectMost.f k l0 l1 = some r) (hr : r = true) :
    Calls Try.prog 5 #[.slice A0 l0.length c0, .slice A1 l1.length c1] w fun e w' => e = .returned (.bool r) ∧ Below w.heap.size w w' := by
  have HRT := Aside0.mk hr
  clear hr
  have HR0 := Aside0.mk hr0
  have HC0 := Aside0.mk hc0
  clear hr0 hc0
  have HR1 := Aside0.mk hr1
  have HC1 := Aside0.mk hc1
  clear hr1 hc1
  have HB := Aside0.mk (Below.refl w.heap.size w)
  have H : ((mootbelllaw15_awake.f).bind fun t147 => ((mootbelllaw07_Table.f l0).bind fun t148 => ((mootbelllaw15_Items.f l1).bind fun t151 => ((bisect_Find.f t148 t151).bind fun bt154 => (if (bt154.1.length : Int) = (t151.length : Int) then (mootbelllaw15_BisectMost.l0 k t147 t151 bt154.1 bt154.2 0 0) else (some false)))))) = some r := h
  clear h
  replace H := Option.bind_eq_some_iff.mp H
  obtain ⟨t147, A30, H⟩ := H
  replace H : ((mootbelllaw07_Table.f l0).bind fun t148 => ((mootbelllaw15_Items.f l1).bind fun t151 => ((bisect_Find.f t148 t151).bind fun bt154 => (if (bt154.1.length : Int) = (t151.length : Int) then (mootbelllaw15_BisectMost.l0 k t147 t151 bt154.1 bt154.2 0 0) else (some false))))) = some r := H
  have A3 := Aside0.mk A30
  clear A30
  replace H := Option.bind_eq_some_iff.mp H
  obtain ⟨t148, A40, H⟩ := H
  replace H : ((mootbelllaw15_Items.f l1).bind fun t151 => ((bisect_Find.f t148 t151).bind fun bt154 => (if (bt154.1.length : Int) = (t151.length : Int) then (mootbelllaw15_BisectMost.l0 k t147 t151 bt154.1 bt154.2 0 0) else (some false)))) = some r := H
  have A4 := Aside0.mk A40
  clear A40
  replace H := Option.bind_eq_some_iff.mp H
  obtain ⟨t151, A50, H⟩ := H
  replace H : ((bisect_Find.f t148 t151).bind fun bt154 => (if (bt154.1.length : Int) = (t151.length : Int) then (mootbelllaw15_BisectMost.l0 k t147 t151 bt154.1 bt154.2 0 0) else (some false))) = some r := H
  have A5 := Aside0.mk A50
  clear A50
  replace H := Option.bind_eq_some_iff.mp H
  obtain ⟨⟨t154, t155⟩, A60, H⟩ := H
  replace H : (if (t154.length : Int) = (t151.length : Int) then (mootbelllaw15_BisectMost.l0 k t147 t151 t154 t155 0 0) else (some false)) = some r := H
  have A6 := Aside0.mk A60
  clear A60
  by_cases c7 : (t154.length : Int) = (t151.length : Int)
  · rw [if_pos c7] at H
    have c7b0 : ((t154.length : Int) == (t151.length : Int)) = true := beq_iff_eq.mpr c7
    have c7b1 : ((t154.length : Int) != (t151.length : Int)) = false := bne_eq_false_iff_eq.mpr c7
    have c7b2 : (t154.length == t151.length) = true := by first | simpa using c7 | (simp at c7 ⊢; omega)
    clear c7
    have H' := Aside0.mk H
    clear H
    go_enter Try.func5, Try.ntmps5
    go_wp2_with (first | ((with_reducible refine gate_callee (f := 8) rfl ?_); refine goesL_ (some 14) rfl rfl Try.func8 (by kernel_rfl) rfl #[] rfl (by (try simp only [List.map_toArray, List.map_cons, List.map_nil]); first | done | rfl | (simp only [List.length_drop, List.length_take]; rfl)) ?_; (with_reducible refine (mootbelllaw15_awake.calls  t147 _ A3.out).mono ?_); rintro e w8 ⟨rfl, hb⟩; refine ⟨_, rfl, ?_⟩; have n0_ := Aside0.mk (below_step (by repeat (first | (with_reducible first | exact HB.out | apply below_alloc | apply pw_below_drewN | apply below_drew1) | exact HB.out)) hb); clear HB; have HB := n0_; clear n0_; (try clear hb); (try clear hb2); (try clear hk); (try clear hi)) | ((with_reducible refine gate_callee (f := 9) rfl ?_); refine goesL_ (some 16) rfl rfl Try.func9 (by kernel_rfl) rfl #[.slice A0 l0.length c0] rfl (by (try simp only [List.map_toArray, List.map_cons, List.map_nil]); first | done | rfl | (simp only [List.length_drop, List.length_take]; rfl)) ?_; (with_reducible refine (mootbelllaw07_Table.calls _ _ l0 t148 _ ?side1 ?side2 A4.out).mono ?_); (case side1 => repeat (first | exact (Kd.C_below HR0.out HB.out) | (with_reducible refine Kd.C_alloc ?_ _) | (with_reducible refine Kd.C_drewN ?_ _) | (with_reducible refine Kd.C_drew ?_))); (case side2 => exact HC0.out); rintro e w9 ⟨v149, rfl, ho0, hb⟩; refine ⟨_, rfl, ?_⟩; have n0_ := Aside0.mk (Kd.R_lower ho0 (below_size (by repeat (first | (with_reducible first | exact HB.out | apply below_alloc | apply pw_below_drewN | apply below_drew1) | exact HB.out)))); have n1_ := Aside0.mk (below_step (by repeat (first | (with_reducible first | exact HB.out | apply below_alloc | apply pw_below_drewN | apply below_drew1) | exact HB.out)) hb); clear HB; have HO150 := n0_; have HB := n1_; clear n0_ n1_; (try clear hb); (try clear hb2); (try clear hk); (try clear hi); (try clear ho0)) | ((with_reducible refine gate_callee (f := 10) rfl ?_); refine goesL_ (some 18) rfl rfl Try.func10 (by kernel_rfl) rfl #[.slice A1 l1.length c1] rfl (by (try simp only [List.map_toArray, List.map_cons, List.map_nil]); first | done | rfl | (simp only [List.length_drop, List.length_take]; rfl)) ?_; (with_reducible refine (mootbelllaw15_Items.calls _ _ l1 t151 _ ?side1 ?side2 A5.out).mono ?_); (case side1 => repeat (first | exact (Kd.C_below HR1.out HB.out) | (with_reducible refine Kd.C_alloc ?_ _) | (with_reducible refine Kd.C_drewN ?_ _) | (with_reducible refine Kd.C_drew ?_))); (case side2 => exact HC1.out); rintro e w10 ⟨v152, rfl, ho0, hb⟩; refine ⟨_, rfl, ?_⟩; have n0_ := Aside0.mk (Kd.R_below (by (with_reducible repeat (first | apply Kd.R_alloc | apply Kd.R_drewN | apply Kd.R_drew)); exact HO150.out) hb); have n1_ := Aside0.mk (Kd.S_lower (Kd.S_new' ho0 (Kd.R_lt (by (with_reducible repeat (first | apply Kd.R_alloc | apply Kd.R_drewN | apply Kd.R_drew)); exact HO150.out))) (below_size (by repeat (first | (with_reducible first | exact HB.out | apply below_alloc | apply pw_below_drewN | apply below_drew1) | exact HB.out)))); have n2_ := Aside0.mk (below_step (by repeat (first | (with_reducible first | exact HB.out | apply below_alloc | apply pw_below_drewN | apply below_drew1) | exact HB.out)) hb); clear HO150; clear HB; have HO150 := n0_; have HO153 := n1_; have HB := n2_; clear n0_ n1_ n2_; (try clear hb); (try clear hb2); (try clear hk); (try clear hi); (try clear ho0); obtain ⟨Ao11, co11, eo11⟩ := Kd.R_slice HO150.out; subst eo11; obtain ⟨Ao12, co12, eo12⟩ := Kd.S_slice HO153.out; subst eo12) | ((with_reducible refine gate_callee (f := 11) rfl ?_); refine goesL_ (some 22) rfl rfl Try.func11 (by kernel_rfl) rfl #[.slice Ao11 t148.length co11, .slice Ao12 t151.length co12] rfl (by (try simp only [List.map_toArray, List.map_cons, List.map_nil]); first | done | rfl | (simp only [List.length_drop, List.length_take]; rfl)) ?_; (with_reducible refine (bisect_Find.calls _ _ t148 _ _ t151 t154 t155 _ ?side1 ?side2 ?side3 ?side4 A6.out).mono ?_); (case side1 => repeat (first | exact (Kd.R_reads' HO150.out).2.2 | (with_reducible refine Kd.C_alloc ?_ _) | (with_reducible refine Kd.C_drewN ?_ _) | (with_reducible refine Kd.C_drew ?_))); (case side2 => exact (Kd.R_reads' HO150.out).2.1); (case side3 => repeat (first | exact (Kd.S_reads' HO153.out).2.2 | (with_reducible refine Kd.C_alloc ?_ _) | (with_reducible refine Kd.C_drewN ?_ _) | (with_reducible refine Kd.C_drew ?_))); (case side4 => exact (Kd.S_reads' HO153.out).2.1); rintro e w13 ⟨v156, rfl, ho0, hb⟩; refine ⟨_, rfl, ?_⟩; have n0_ := Aside0.mk (Kd.R_below (by (with_reducible repeat (first | apply Kd.R_alloc | apply Kd.R_drewN | apply Kd.R_drew)); exact HO150.out) hb); have n1_ := Aside0.mk (Kd.S_below (by (with_reducible repeat (first | apply Kd.S_alloc | apply Kd.S_drewN | apply Kd.S_drew)); exact HO153.out) hb); have n2_ := Aside0.mk (Kd.R_lower ho0 (below_size (by repeat (first | (with_reducible first | exact HB.out | apply below_alloc | apply pw_below_drewN | apply below_drew1) | exact HB.out)))); have n3_ := Aside0.mk (below_step (by repeat (first | (with_reducible first | exact HB.out | apply below_alloc | apply pw_below_drewN | apply below_drew1) | exact HB.out)) hb); clear HO150; clear HO153; clear HB; have HO150 := n0_; have HO153 := n1_; have HO157 := n2_; have HB := n3_; clear n0_ n1_ n2_ n3_; (try clear hb); (try clear hb2); (try clear hk); (try clear hi); (try clear ho0); obtain ⟨Ao14, co14, eo14⟩ := Kd.R_slice HO157.out; subst eo14))
    go_loopg [10, 11] k (fun kq v10 v11 w' => ∃ (x10_1 : Int) (x11_1 : Int), v10 = .int .i64 x10_1 ∧ v11 = .int .i64 x11_1 ∧ Aside0 (mootbelllaw15_BisectMost.l0 kq t147 t151 t154 t155 x10_1 x11_1 = some r) ∧ Aside0 (kq ≤ k) ∧ Aside0 (Kd.S k32 32 w' w.heap.size (fun _ => True) (.slice Ao12 t151.length co12) t151) ∧ Aside0 (Kd.R Kd.bool 4 w' w.heap.size (fun _ => True) (.slice Ao14 t154.length co14) t154) ∧ Aside0 (Below w.heap.size w w'))
    case atStart => exact ⟨(0), (0), (by first | rfl | (simp; done) | (simp [*]; done)), (by first | rfl | (simp; done) | (simp [*]; done)), H', ⟨Nat.le_refl _⟩, ⟨by (with_reducible repeat (first | apply Kd.S_alloc | apply Kd.S_drewN | apply Kd.S_drew)); exact Kd.S_mono HO153.out (fun _ hk => trivial)⟩, ⟨by (with_reducible repeat (first | apply Kd.R_alloc | apply Kd.R_drewN | apply Kd.R_drew)); exact HO157.out⟩, ⟨by repeat (first | (with_reducible first | exact HB.out | apply below_alloc | apply pw_below_drewN | apply below_drew1) | exact HB.out)⟩⟩
    case round =>
      clear H'
      try clear c1
      try clear p2
      try clear c5
      try clear c7
      try clear c7b0
      try clear c7b1
      try clear c7b2
      try clear c8
      try clear c9
      try clear c10
      try clear c11
      obtain ⟨x10_1, x11_1, rfl, rfl, HA, HK1, HO_7, HO_8, HB⟩ := hrel
      cases gk with
      | zero => exact absurd HA.out (by simp [mootbelllaw15_BisectMost.l0])
      | succ k1 =>
        have H := HA.out
        clear HA
        simp only [mootbelllaw15_BisectMost.l0] at H
        by_cases c15 : x11_1 < (t154.length : Int)
        · rw [if_pos c15] at H
          have c15b0 : decide (x11_1 < (t154.length : Int)) = true := decide_eq_true c15
          clear c15
          by_cases c16 : 0 ≤ x11_1
          · rw [if_pos c16] at H
            have c16b0 : decide (0 ≤ x11_1) = true := decide_eq_true c16
            clear c16
            obtain ⟨bq17, hbq17⟩ : ∃ b_ : Bool, b_ = (rdOf false t154 x11_1) := ⟨_, rfl⟩
            replace H : (if bq17 = true then (mootbelllaw15_BisectMost.l0 k1 t147 t151 t154 t155 x10_1 (wrap64 (x11_1 + 1))) else (mootbelllaw15_BisectMost.l0 k1 t147 t151 t154 t155 (wrap64 (x10_1 + 1)) (wrap64 (x11_1 + 1)))) = some r := by rw [← hbq17] at H; exact H
            have Nbq17 := Aside0.mk hbq17
            clear hbq17
            by_cases c18 : bq17 = true
            · subst c18
              have H1 : (mootbelllaw15_BisectMost.l0 k1 t147 t151 t154 t155 x10_1 (wrap64 (x11_1 + 1))) = some r := by rw [if_pos rfl] at H; exact H
              clear H
              have H := H1
              clear H1
              have H' := Aside0.mk H
              clear H
              have p158 : 0 ≤ (x11_1 : Int) := of_decide_eq_true (by first | (with_reducible assumption) | assumption)
              have q158 : x11_1 < (t154.length : Int) := of_decide_eq_true (by first | (with_reducible assumption) | assumption)
              obtain ⟨ad158, e158, hx158_0⟩ := Kd.at_bool (Kd.R_reads' HO_8.out).2.2 x11_1 p158 q158
              (try rw [← Nbq17.out] at hx158_0)
              cases e158
              replace p158 := eq_true p158
              replace q158 := eq_true q158
              go_wp2
              go_roundg k1
              case measure => have := HK1.out; omega
              case rel => exact ⟨(x10_1), (wrap64 (x11_1 + 1)), (by first | rfl | (simp; done) | (simp [*]; done)), (by first | rfl | (simp; done) | (simp [*]; done)), H', ⟨by have := HK1.out; omega⟩, ⟨by (with_reducible repeat (first | apply Kd.S_alloc | apply Kd.S_drewN | apply Kd.S_drew)); exact HO_7.out⟩, ⟨by (with_reducible repeat (first | apply Kd.R_alloc | apply Kd.R_drewN | apply Kd.R_drew)); exact HO_8.out⟩, ⟨by repeat (first | (with_reducible first | exact HB.out | apply below_alloc | apply pw_below_drewN | apply below_drew1) | exact HB.out)⟩⟩
            · replace c18 := Bool.eq_false_iff.mpr c18
              subst c18
              have H1 : (mootbelllaw15_BisectMost.l0 k1 t147 t151 t154 t155 (wrap64 (x10_1 + 1)) (wrap64 (x11_1 + 1))) = some r := by rw [if_neg (show ¬ (false = true) by decide)] at H; exact H
              clear H
              have H := H1
              clear H1
              have H' := Aside0.mk H
              clear H
              have p158 : 0 ≤ (x11_1 : Int) := of_decide_eq_true (by first | (with_reducible assumption) | assumption)
              have q158 : x11_1 < (t154.length : Int) := of_decide_eq_true (by first | (with_reducible assumption) | assumption)
              obtain ⟨ad158, e158, hx158_0⟩ := Kd.at_bool (Kd.R_reads' HO_8.out).2.2 x11_1 p158 q158
              (try rw [← Nbq17.out] at hx158_0)
              cases e158
              replace p158 := eq_true p158
              replace q158 := eq_true q158
              go_wp2
              go_roundg k1
              case measure => have := HK1.out; omega
              case rel => exact ⟨(wrap64 (x10_1 + 1)), (wrap64 (x11_1 + 1)), (by first | rfl | (simp; done) | (simp [*]; done)), (by first | rfl | (simp; done) | (simp [*]; done)), H', ⟨by have := HK1.out; omega⟩, ⟨by (with_reducible repeat (first | apply Kd.S_alloc | apply Kd.S_drewN | apply Kd.S_drew)); exact HO_7.out⟩, ⟨by (with_reducible repeat (first | apply Kd.R_alloc | apply Kd.R_drewN | apply Kd.R_drew)); exact HO_8.out⟩, ⟨by repeat (first | (with_reducible first | exact HB.out | apply below_alloc | apply pw_below_drewN | apply below_drew1) | exact HB.out)⟩⟩
          · rw [if_neg c16] at H
            exact absurd H (by simp)
        · rw [if_neg c15] at H
          have c15b0 : decide (x11_1 < (t154.length : Int)) = false := decide_eq_false c15
          clear c15
          by_cases c19 : (t151.length : Int) = 0
          · rw [if_pos c19] at H
            have c19b0 : ((t151.length : Int) == 0) = true := beq_iff_eq.mpr c19
            have c19b1 : ((t151.length : Int) != 0) = false := bne_eq_false_iff_eq.mpr c19
            clear c19
            by_cases c20 : t147 = true
            · subst c20
              have H1 : (some (t155 == 0)) = some r := by rw [if_pos rfl] at H; exact H
              clear H
              have H := H1
              clear H1
              obtain rfl := Option.some.inj H
              go_wp2
              go_ret
              exact ⟨by first | rfl | (simp [errW_none, errW_some] <;> rfl) | (simp [*, errW_none, errW_some] <;> rfl), by repeat (first | (with_reducible first | exact HB.out | apply below_alloc | apply pw_below_drewN | apply below_drew1) | exact HB.out)⟩
            · rw [if_neg c20] at H; (have hz_ := Option.some.inj H; rw [HRT.out] at hz_; cases hz_)
          · rw [if_neg c19] at H
            have c19b0 : ((t151.length : Int) == 0) = false := beq_eq_false_iff_ne.mpr c19
            have c19b1 : ((t151.length : Int) != 0) = true := bne_iff_ne.mpr c19
            have c19b2 : ¬ (t151 = []) := fun h_ => c19 (by rw [h_]; rfl)
            have H' := Aside0.mk H
            clear H
            go_wp2
            go_loopg [12] k1 (fun kq v12 w' => ∃ (x12_2 : Int), v12 = .int .i64 x12_2 ∧ Aside0 (mootbelllaw15_BisectMost.l1 kq t147 t151 t155 x10_1 x12_2 = some r) ∧ Aside0 (kq ≤ k1) ∧ Aside0 (Kd.S k32 32 w' w.heap.size (fun _ => True) (.slice Ao12 t151.length co12) t151) ∧ Aside0 (Below w.heap.size w w'))
            case atStart => exact ⟨(0), (by first | rfl | (simp; done) | (simp [*]; done)), H', ⟨Nat.le_refl _⟩, ⟨by (with_reducible repeat (first | apply Kd.S_alloc | apply Kd.S_drewN | apply Kd.S_drew)); exact HO_7.out⟩, ⟨by repeat (first | (with_reducible first | exact HB.out | apply below_alloc | apply pw_below_drewN | apply below_drew1) | exact HB.out)⟩⟩
            case round =>
              clear H'
              try clear c1
              try clear p1
              try clear q1
              try clear hx1
              try clear c2
              try clear p2
              try clear c5
              try clear p6
              try clear c7
              try clear c7b0
              try clear c7b1
              try clear c7b2
              try clear c8
              try clear c9
              try clear c10
              try clear c11
              try clear c15
              try clear c15b0
              try clear p15
              try clear q15
              try clear hx15
              try clear c16
              try clear c16b0
              try clear q17
              try clear c18
              try clear c19
              try clear c19b0
              try clear c19b1
              try clear c19b2
              try clear c20
              try clear hx158_0
              try clear p158
              try clear p2
              try clear q158
              obtain ⟨x12_2, rfl, HA, HK2, HO_7, HB⟩ := hrel
              cases gk with
              | zero => exact absurd HA.out (by simp [mootbelllaw15_BisectMost.l1])
              | succ k2 =>
                have H := HA.out
                clear HA
                simp only [mootbelllaw15_BisectMost.l1] at H
                by_cases c21 : 0 ≤ x12_2
                · rw [if_pos c21] at H
                  have c21b0 := eq_true c21
                  have c21b1 : decide (0 ≤ x12_2) = true := decide_eq_true c21
                  clear c21
                  obtain ⟨ji22, hji22⟩ : ∃ j_ : Int, (shl .i64 1 x12_2) = j_ := ⟨_, rfl⟩
                  replace H : (if (ji22) < (t151.length : Int) then (mootbelllaw15_BisectMost.l1 k2 t147 t151 t155 x10_1 (wrap64 (x12_2 + 1))) else ((bisect_Most.f (t151.length : Int) x10_1).bind fun t159 => (if t147 = true then (if t155 ≥ 1 then (if t155 ≤ t159 then (if x10_1 > 0 then (if t155 ≤ (wrap64 ((wrap64 ((wrap64 (2 * x10_1)) * (wrap64 (x12_2 + 1)))) + 1)) then (some (t159 == (wrap64 (1 + (wrap64 ((wrap64 (2 * x10_1)) * x12_2)))))) else (some false)) else (if t155 = 1 then (if t155 ≤ (wrap64 ((wrap64 ((wrap64 (2 * x10_1)) * (wrap64 (x12_2 + 1)))) + 1)) then (some (t159 == (wrap64 (1 + (wrap64 ((wrap64 (2 * x10_1)) * x12_2)))))) else (some false)) else (some false))) else (some false)) else (some false)) else (some false)))) = some r := by first | (rw [hji22] at H; exact H) | (simp only [hji22] at H ⊢; exact H)
                  have hji22_ : (IntKind.i64.wrap (1 * 2 ^ min x12_2.toNat 64)) = ji22 := hji22
                  have hji22z : x12_2 ≤ 64 → (IntKind.i64.wrap (1 * 2 ^ x12_2.toNat)) = ji22 := shl_small hji22
                  have hji22u : (IntKind.i64.wrap (2 ^ min x12_2.toNat 64)) = ji22 := by have h_ := hji22_; rw [Int.one_mul] at h_; exact h_
                  have hji22v : x12_2 ≤ 64 → (IntKind.i64.wrap (2 ^ x12_2.toNat)) = ji22 := fun hle_ => by have h_ := hji22z hle_; rw [Int.one_mul] at h_; exact h_
                  have hji22y : (wrap64 (1 * 2 ^ min x12_2.toNat 64)) = ji22 := (i64_w _).symm.trans hji22_
                  have hji22x : x12_2 ≤ 64 → (wrap64 (1 * 2 ^ x12_2.toNat)) = ji22 := fun h_ => (i64_w _).symm.trans (hji22z h_)
                  by_cases c23 : (ji22) < (t151.length : Int)
                  · rw [if_pos c23] at H
                    have c23b0 : decide ((ji22) < (t151.length : Int)) = true := decide_eq_true c23
                    clear c23
                    have H' := Aside0.mk H
                    clear H
                    go_wp2
                    go_roundg k2
                    case measure => have := HK1.out; have := HK2.out; omega
                    case rel => exact ⟨(wrap64 (x12_2 + 1)), (by first | rfl | (simp; done) | (simp [*]; done)), H', ⟨by have := HK1.out; have := HK2.out; omega⟩, ⟨by (with_reducible repeat (first | apply Kd.S_alloc | apply Kd.S_drewN | apply Kd.S_drew)); exact HO_7.out⟩, ⟨by repeat (first | (with_reducible first | exact HB.out | apply below_alloc | apply pw_below_drewN | apply below_drew1) | exact HB.out)⟩⟩
                  · rw [if_neg c23] at H
                    have c23b0 : decide ((ji22) < (t151.length : Int)) = false := decide_eq_false c23
                    clear c23
                    replace H := Option.bind_eq_some_iff.mp H
                    obtain ⟨t159, A240, H⟩ := H
                    replace H : (if t147 = true then (if t155 ≥ 1 then (if t155 ≤ t159 then (if x10_1 > 0 then (if t155 ≤ (wrap64 ((wrap64 ((wrap64 (2 * x10_1)) * (wrap64 (x12_2 + 1)))) + 1)) then (some (t159 == (wrap64 (1 + (wrap64 ((wrap64 (2 * x10_1)) * x12_2)))))) else (some false)) else (if t155 = 1 then (if t155 ≤ (wrap64 ((wrap64 ((wrap64 (2 * x10_1)) * (wrap64 (x12_2 + 1)))) + 1)) then (some (t159 == (wrap64 (1 + (wrap64 ((wrap64 (2 * x10_1)) * x12_2)))))) else (some false)) else (some false))) else (some false)) else (some false)) else (some false)) = some r := H
                    have A24 := Aside0.mk A240
                    clear A240
                    by_cases c25 : t147 = true
                    · subst c25
                      have H1 : (if t155 ≥ 1 then (if t155 ≤ t159 then (if x10_1 > 0 then (if t155 ≤ (wrap64 ((wrap64 ((wrap64 (2 * x10_1)) * (wrap64 (x12_2 + 1)))) + 1)) then (some (t159 == (wrap64 (1 + (wrap64 ((wrap64 (2 * x10_1)) * x12_2)))))) else (some false)) else (if t155 = 1 then (if t155 ≤ (wrap64 ((wrap64 ((wrap64 (2 * x10_1)) * (wrap64 (x12_2 + 1)))) + 1)) then (some (t159 == (wrap64 (1 + (wrap64 ((wrap64 (2 * x10_1)) * x12_2)))))) else (some false)) else (some false))) else (some false)) else (some false)) = some r := by rw [if_pos rfl] at H; exact H
                      clear H
                      have H := H1
                      clear H1
                      by_cases c26 : t155 ≥ 1
                      · rw [if_pos c26] at H
                        have c26b0 : decide (1 ≤ t155) = true := decide_eq_true c26
                        clear c26
                        by_cases c27 : t155 ≤ t159
                        · rw [if_pos c27] at H
                          have c27b0 : decide (t155 ≤ t159) = true := decide_eq_true c27
                          clear c27
                          by_cases c28 : x10_1 > 0
                          · rw [if_pos c28] at H
                            have c28b0 : decide (0 < x10_1) = true := decide_eq_true c28
                            clear c28
                            by_cases c29 : t155 ≤ (wrap64 ((wrap64 ((wrap64 (2 * x10_1)) * (wrap64 (x12_2 + 1)))) + 1))
                            · rw [if_pos c29] at H
                              have c29b0 : decide (t155 ≤ (wrap64 ((wrap64 ((wrap64 (2 * x10_1)) * (wrap64 (x12_2 + 1)))) + 1))) = true := decide_eq_true c29
                              clear c29
                              obtain rfl := Option.some.inj H
                              go_wp2_with (first | ((with_reducible refine gate_callee (f := 15) rfl ?_); refine goesL_ (some 61) rfl rfl Try.func15 (by kernel_rfl) rfl #[.int .i64 (t151.length : Int), .int .i64 x10_1] rfl (by (try simp only [List.map_toArray, List.map_cons, List.map_nil]); first | done | rfl | (simp only [List.length_drop, List.length_take]; rfl)) ?_; (with_reducible refine (bisect_Most.calls (t151.length : Int) x10_1 t159 _ A24.out).mono ?_); rintro e w30 ⟨rfl, hb⟩; refine ⟨_, rfl, ?_⟩; have n0_ := Aside0.mk (Kd.S_below (by (with_reducible repeat (first | apply Kd.S_alloc | apply Kd.S_drewN | apply Kd.S_drew)); exact HO_7.out) hb); have n1_ := Aside0.mk (below_step (by repeat (first | (with_reducible first | exact HB.out | apply below_alloc | apply pw_below_drewN | apply below_drew1) | exact HB.out)) hb); clear HO_7; clear HB; have HO_7 := n0_; have HB := n1_; clear n0_ n1_; (try clear hb); (try clear hb2); (try clear hk); (try clear hi)))
                              go_ret
                              exact ⟨by first | rfl | (simp [errW_none, errW_some] <;> rfl) | (simp only [← hji22]; first | rfl | (simp [errW_none, errW_some] <;> rfl)) | (simp [*, errW_none, errW_some] <;> rfl), by repeat (first | (with_reducible first | exact HB.out | apply below_alloc | apply pw_below_drewN | apply below_drew1) | exact HB.out)⟩
                            · rw [if_neg c29] at H; (have hz_ := Option.some.inj H; rw [HRT.out] at hz_; cases hz_)
                          · rw [if_neg c28] at H
                            have c28b0 : decide (0 < x10_1) = false := decide_eq_false c28
                            clear c28
                            by_cases c32 : t155 = 1
                            · rw [if_pos c32] at H
                              have c32b0 : (t155 == 1) = true := beq_iff_eq.mpr c32
                              have c32b1 : (t155 != 1) = false := bne_eq_false_iff_eq.mpr c32
                              clear c32
                              by_cases c33 : t155 ≤ (wrap64 ((wrap64 ((wrap64 (2 * x10_1)) * (wrap64 (x12_2 + 1)))) + 1))
                              · rw [if_pos c33] at H
                                have c33b0 : decide (t155 ≤ (wrap64 ((wrap64 ((wrap64 (2 * x10_1)) * (wrap64 (x12_2 + 1)))) + 1))) = true := decide_eq_true c33
                                clear c33
                                obtain rfl := Option.some.inj H
                                go_wp2_with (first | ((with_reducible refine gate_callee (f := 15) rfl ?_); refine goesL_ (some 61) rfl rfl Try.func15 (by kernel_rfl) rfl #[.int .i64 (t151.length : Int), .int .i64 x10_1] rfl (by (try simp only [List.map_toArray, List.map_cons, List.map_nil]); first | done | rfl | (simp only [List.length_drop, List.length_take]; rfl)) ?_; (with_reducible refine (bisect_Most.calls (t151.length : Int) x10_1 t159 _ A24.out).mono ?_); rintro e w34 ⟨rfl, hb⟩; refine ⟨_, rfl, ?_⟩; have n0_ := Aside0.mk (Kd.S_below (by (with_reducible repeat (first | apply Kd.S_alloc | apply Kd.S_drewN | apply Kd.S_drew)); exact HO_7.out) hb); have n1_ := Aside0.mk (below_step (by repeat (first | (with_reducible first | exact HB.out | apply below_alloc | apply pw_below_drewN | apply below_drew1) | exact HB.out)) hb); clear HO_7; clear HB; have HO_7 := n0_; have HB := n1_; clear n0_ n1_; (try clear hb); (try clear hb2); (try clear hk); (try clear hi)))
                                go_ret
                                exact ⟨by first | rfl | (simp [errW_none, errW_some] <;> rfl) | (simp only [← hji22]; first | rfl | (simp [errW_none, errW_some] <;> rfl)) | (simp [*, errW_none, errW_some] <;> rfl), by repeat (first | (with_reducible first | exact HB.out | apply below_alloc | apply pw_below_drewN | apply below_drew1) | exact HB.out)⟩
                              · rw [if_neg c33] at H; (have hz_ := Option.some.inj H; rw [HRT.out] at hz_; cases hz_)
                            · rw [if_neg c32] at H; (have hz_ := Option.some.inj H; rw [HRT.out] at hz_; cases hz_)
                        · rw [if_neg c27] at H; (have hz_ := Option.some.inj H; rw [HRT.out] at hz_; cases hz_)
                      · rw [if_neg c26] at H; (have hz_ := Option.some.inj H; rw [HRT.out] at hz_; cases hz_)
                    · rw [if_neg c25] at H; (have hz_ := Option.some.inj H; rw [HRT.out] at hz_; cases hz_)
                · rw [if_neg c21] at H
                  exact absurd H (by simp)
  · rw [if_neg c7] at H; (have hz_ := Option.some.inj H; rw [HRT.out] at hz_; cases hz_)end Go.Proofs.Ytnfglkgkdechlaa.PQ


/- BisectMost (chapter 15), in plain Lean. -/
set_option linter.unusedVariables false
set_option linter.unusedSimpArgs false
namespace Go.Proofs.Ytnfglkgkdechlaa
open Go.RowKit Go.Proofs.YtnfglkgkdechlaaW.PrintWords Go.Proofs.YtnfglkgkdechlaaW.PrintLast Go.Proofs.YtnfglkgkdechlaaW.PrintMore
open Go.Proofs.Ytnfglkgkdechlaa.PQ

theorem w64n {x : Int} (h : -9223372036854775808 ≤ x ∧ x ≤ 9223372036854775807) : wrap64 x = x := w64 h
theorem shl_1 (d : Nat) (h : d ≤ 5) : shl .i64 1 (d : Int) = ((2 ^ d : Nat) : Int) := by
  have hd : d = 0 ∨ d = 1 ∨ d = 2 ∨ d = 3 ∨ d = 4 ∨ d = 5 := by omega
  rcases hd with rfl | rfl | rfl | rfl | rfl | rfl <;> rfl
/-- The last sentence. -/
theorem most_l1 (its : List It) (c : Int) (wr : Nat) (D : Nat) (hD : D ≤ 5) (hn : its.length ≤ 2 ^ D) (hn1 : 1 ≤ its.length) (hd : ∀ e : Nat, e < D → 2 ^ e < its.length) (hw : wr ≤ 20) (hc1 : 1 ≤ c) (hc2 : c ≤ 1 + 2 * (wr : Int) * (D : Int)) (hc3 : wr = 0 → c = 1) (r d k : Nat) (hr : d + r = D) (hk : r < k) :
    mootbelllaw15_BisectMost.l1 k true its c (wr : Int) (d : Int) = some true := by
  induction r generalizing d k with
  | zero =>
    obtain ⟨k, rfl⟩ : ∃ q, k = q + 1 := ⟨k - 1, by omega⟩
    obtain rfl : d = D := by omega
    have h5 : (2 : Nat) ^ d ≤ 2 ^ 5 := Nat.pow_le_pow_right (by omega) hD
    have hm : mostF (its.length : Int) (wr : Int) = 1 + 2 * (wr : Int) * (d : Int) := by
      unfold mostF
      rw [if_neg (by omega), Int.toNat_natCast, halv_eq d its.length its.length hn (by
        cases d with
        | zero => exact Or.inl rfl
        | succ d =>
          have h4 : 2 ^ (d + 1) = 2 * 2 ^ d := by rw [Nat.pow_succ]; omega
          have := hd d (by omega)
          exact Or.inr (by omega)) (Nat.le_refl _)]
    have hp : 0 ≤ 2 * (wr : Int) * (d : Int) ∧ 2 * (wr : Int) * (d : Int) ≤ 40 * 5 := by
      refine ⟨Int.mul_nonneg (by omega) (by omega), Int.le_trans (Int.mul_le_mul_of_nonneg_right (show 2 * (wr : Int) ≤ 40 by omega) (by omega)) (by omega)⟩
    obtain ⟨pr, hpr⟩ : ∃ p : Int, 2 * (wr : Int) * (d : Int) = p := ⟨_, rfl⟩
    have hp2 : 2 * (wr : Int) * ((d : Int) + 1) = pr + 2 * (wr : Int) := by rw [Int.mul_add, hpr, Int.mul_one]
    rw [hpr] at hp hc2 hm
    rw [mootbelllaw15_BisectMost.l1, if_pos (by omega), shl_1 d hD, if_neg (by omega), bisect_Most.f, if_pos (by omega), Option.bind_some, hm, if_pos rfl, if_pos hc1, if_pos hc2,
      w64n (x := 2 * (wr : Int)) (by omega), w64n (x := (d : Int) + 1) (by omega), hp2, w64n (x := pr + 2 * (wr : Int)) (by omega), w64n (x := pr + 2 * (wr : Int) + 1) (by omega), hpr, w64n (x := pr) (by omega), w64n (x := 1 + pr) (by omega)]
    by_cases h0 : wr = 0
    · rw [if_neg (by omega), if_pos (hc3 h0), if_pos (by omega)]
      simp
    · rw [if_pos (by omega), if_pos (by omega)]
      simp
  | succ r ih =>
    obtain ⟨k, rfl⟩ : ∃ q, k = q + 1 := ⟨k - 1, by omega⟩
    have := hd d (by omega)
    rw [mootbelllaw15_BisectMost.l1, if_pos (by omega), shl_1 d (by omega), if_pos (by omega), w64n (x := (d : Int) + 1) (by omega)]
    exact ih (d + 1) k (by omega) (by omega)
/-- How many are wrong is counted. -/
theorem most_l0 (its : List It) (a : List Bool) (c : Int) (ha : a.length ≤ 20) (r i k : Nat) (wr : Nat) (hw : wr ≤ i) (hr : i + r = a.length) (hk : r < k)
    (hfin : ∀ q : Nat, (if (its.length : Int) = 0 then (some (c == 0)) else mootbelllaw15_BisectMost.l1 (k - r - 1) true its c ((wr + ((a.drop i).filter fun b => !b).length : Nat) : Int) 0) = some true) :
    mootbelllaw15_BisectMost.l0 k true its a c (wr : Int) (i : Int) = some true := by
  induction r generalizing i k wr with
  | zero =>
    obtain ⟨k, rfl⟩ : ∃ q, k = q + 1 := ⟨k - 1, by omega⟩
    have h := hfin 0
    rw [List.drop_of_length_le (by omega)] at h
    rw [mootbelllaw15_BisectMost.l0, if_neg (by omega), if_pos rfl]
    exact h
  | succ r ih =>
    obtain ⟨k, rfl⟩ : ∃ q, k = q + 1 := ⟨k - 1, by omega⟩
    have hi : i < a.length := by omega
    have ra : rdOf false a (i : Int) = a[i] := by
      unfold rdOf
      rw [Int.toNat_natCast, List.getD_eq_getElem?_getD, List.getElem?_eq_getElem hi]
      rfl
    have hkk : k + 1 - (r + 1) - 1 = k - r - 1 := by omega
    rw [hkk, List.drop_eq_getElem_cons hi] at hfin
    rw [mootbelllaw15_BisectMost.l0, if_pos (by omega), if_pos (by omega), ra, In64_nat (by omega)]
    by_cases hb : a[i] = true
    · rw [if_pos hb]
      refine ih (i + 1) k wr (by omega) (by omega) (by omega) fun q => ?_
      have h := hfin q
      rw [hb] at h
      exact h
    · rw [if_neg hb, In64_nat (by omega)]
      refine ih (i + 1) k (wr + 1) (by omega) (by omega) (by omega) fun q => ?_
      have h := hfin q
      have hf : a[i] = false := by simpa using hb
      rw [hf] at h
      have e : ((false :: a.drop (i + 1)).filter fun b => !b).length = ((a.drop (i + 1)).filter fun b => !b).length + 1 := by simp
      rw [e] at h
      rw [show wr + 1 + ((a.drop (i + 1)).filter fun b => !b).length = wr + (((a.drop (i + 1)).filter fun b => !b).length + 1) by omega]
      exact h
end Go.Proofs.Ytnfglkgkdechlaa

