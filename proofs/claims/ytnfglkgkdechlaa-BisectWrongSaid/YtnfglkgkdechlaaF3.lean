import Derived.Test.YtnfglkgkdechlaaF2
import Derived.Deep.RegionHeld3
import Derived.Test.YtnfglkgkdechlaaBase
import Derived.Test.YtnfglkgkdechlaaF0
import Derived.Test.YtnfglkgkdechlaaQx0

/- How often it is asked, in plain Lean (chapter 15). -/
set_option linter.unusedVariables false
set_option linter.unusedSimpArgs false
namespace Go.Proofs.Ytnfglkgkdechlaa
open Go.RowKit Go.Proofs.YtnfglkgkdechlaaW.PrintWords Go.Proofs.YtnfglkgkdechlaaW.PrintLast Go.Proofs.YtnfglkgkdechlaaW.PrintMore
open Go.Proofs.Ytnfglkgkdechlaa.PQ

/-- How many are wrong. -/
def wrongs (f : It → Bool) (s : List It) : Nat := (s.filter fun x => !f x).length
theorem wrongs_split (f : It → Bool) (s : List It) (k : Nat) : wrongs f (s.take k) + wrongs f (s.drop k) = wrongs f s := by
  unfold wrongs
  rw [← List.length_append, ← List.filter_append, List.take_append_drop]
theorem wrongs_zero (f : It → Bool) (s : List It) : wrongs f s = 0 ↔ s.all f = true := by
  unfold wrongs
  rw [List.length_eq_zero_iff, List.filter_eq_nil_iff, List.all_eq_true]
  simp
theorem wrongs_le (f : It → Bool) (s : List It) : wrongs f s ≤ s.length := List.length_filter_le _ _
theorem cnt_most (f : It → Bool) : ∀ (d : Nat) (s : List It), s.length ≤ 2 ^ d → cnt f s ≤ 1 + 2 * wrongs f s * d
  | 0, s, h => by
    rw [cnt_eq]
    split
    · omega
    · split
      · omega
      · omega
  | d + 1, s, h => by
    rw [cnt_eq]
    split
    · omega
    · split
      · omega
      · rename_i h1 h2
        split
        · omega
        · rename_i h3
          have hp : s.length ≤ 2 * 2 ^ d := by rw [Nat.pow_succ] at h; omega
          have i1 := cnt_most f d (s.take ((s.length + 1) / 2)) (by rw [List.length_take]; omega)
          have i2 := cnt_most f d (s.drop ((s.length + 1) / 2)) (by rw [List.length_drop]; omega)
          have hw := wrongs_split f s ((s.length + 1) / 2)
          have hw1 : wrongs f s ≠ 0 := fun e => h2 ((wrongs_zero f s).1 e)
          have e1 : 2 * wrongs f (s.take ((s.length + 1) / 2)) * d + 2 * wrongs f (s.drop ((s.length + 1) / 2)) * d = 2 * wrongs f s * d := by rw [← Nat.add_mul, ← Nat.mul_add, hw]
          have e2 : 2 * wrongs f s * (d + 1) = 2 * wrongs f s * d + 2 * wrongs f s := by rw [Nat.mul_add, Nat.mul_one]
          omega
theorem cnt_pos (f : It → Bool) (s : List It) (h : s.length ≠ 0) : 1 ≤ cnt f s := by
  rw [cnt_eq, if_neg h]
  split
  · exact Nat.le_refl _
  · split
    · exact Nat.le_refl _
    · omega
theorem cnt_all (f : It → Bool) (s : List It) (h : s.length ≠ 0) (ha : s.all f = true) : cnt f s = 1 := by
  rw [cnt_eq, if_neg h, if_pos ha]
theorem cnt_none (f : It → Bool) (s : List It) (h : s.length = 0) : cnt f s = 0 := by
  rw [cnt_eq, if_pos h]
theorem halv_eq : ∀ (D k n : Nat), n ≤ 2 ^ D → (D = 0 ∨ 2 ^ D < 2 * n) → n ≤ k → halv k n = D
  | 0, k, n, h, _, hk => by
    cases k with
    | zero => rfl
    | succ k =>
      unfold halv
      rw [if_pos (by simpa using h)]
  | D + 1, k, n, h, hd, hk => by
    have h1 : 2 ^ (D + 1) = 2 * 2 ^ D := by rw [Nat.pow_succ]; omega
    have h2 : 0 < 2 ^ D := Nat.pow_pos (by omega)
    have h3 : 2 ^ D < n := by omega
    obtain ⟨k, rfl⟩ : ∃ q, k = q + 1 := ⟨k - 1, by omega⟩
    rw [halv_step k n (by omega) hk, halv_eq D k (n - n / 2) (by omega) (by
      cases D with
      | zero => exact Or.inl rfl
      | succ D =>
        have h4 : 2 ^ (D + 1) = 2 * 2 ^ D := by rw [Nat.pow_succ]; omega
        exact Or.inr (by omega)) (by omega)]
theorem addK_mem {acc : List Int} {k x : Int} (h : x ∈ addK acc k) : x ∈ acc ∨ x = k := by
  unfold addK at h
  split at h
  · exact Or.inl h
  · simpa using h
theorem keysR_bd (raw : List Int) : ∀ (xs acc : List Int), (∀ x ∈ acc, 0 ≤ x ∧ x < 12) → ∀ x ∈ xs.foldl (fun acc x => addK acc (pickK x 12)) acc, 0 ≤ x ∧ x < 12
  | [], acc, h => h
  | y :: r, acc, h => by
    rw [List.foldl_cons]
    refine keysR_bd raw r _ fun x hx => ?_
    rcases addK_mem hx with h1 | h1
    · exact h x h1
    · subst h1
      exact pickK_lt y 12 (by omega)
theorem mem_ins {l : List Pr} {p x : Pr} {k : Nat} (h : x ∈ l.take k ++ p :: l.drop k) : x ∈ l ∨ x = p := by
  rw [List.mem_append, List.mem_cons] at h
  rcases h with h | h | h
  · exact Or.inl (List.mem_of_mem_take h)
  · exact Or.inr h
  · exact Or.inl (List.mem_of_mem_drop h)
theorem tokR_bd (raw : List Int) : ∀ (xs : List Int) (l : List Pr), (∀ p ∈ l, 0 ≤ p.f0 ∧ p.f0 < 12) → ∀ p ∈ xs.foldl (fun l x => insT l (rawP x)) l, 0 ≤ p.f0 ∧ p.f0 < 12
  | [], l, h => h
  | y :: r, l, h => by
    rw [List.foldl_cons]
    refine tokR_bd raw r _ fun p hp => ?_
    rcases mem_ins hp with h1 | h1
    · exact h p h1
    · subst h1
      exact pickZ_lt y 12 (by omega)
theorem signR_bd (root : Int) : ∀ (xs : List Int) (l : List Pr), (∀ k ∈ xs, 0 ≤ k ∧ k < 12) → (∀ p ∈ l, 0 ≤ p.f0 ∧ p.f0 < 12) → ∀ p ∈ xs.foldl (fun l k => withP l ⟨k, root⟩) l, 0 ≤ p.f0 ∧ p.f0 < 12
  | [], l, _, h => h
  | y :: r, l, hx, h => by
    rw [List.foldl_cons]
    refine signR_bd root r _ (fun k hk => hx k (List.mem_cons_of_mem _ hk)) fun p hp => ?_
    rcases mem_ins hp with h1 | h1
    · exact h p h1
    · subst h1
      exact hx y (List.mem_cons_self ..)
theorem wf_12 {x : Int} (h : 0 ≤ x ∧ x < 12) : (Lit.int .u64 x).wf = true := by
  simp [Lit.wf, IntKind.min, IntKind.max, IntKind.signed, IntKind.bits]
  omega
theorem okI_item (x : Rw) : okI (itemR x) := by
  have hk : ∀ y ∈ keysR x.f0, 0 ≤ y ∧ y < 12 := keysR_bd x.f0 _ [] (fun x hx => by cases hx)
  refine ⟨fun y hy => wf_12 (hk y hy), fun p hp => wf_12 ?_⟩
  have hp2 : p ∈ (if 0 < pickZ x.f3 5 then signR (pickZ x.f1 3) (keysR x.f0) else tokR x.f2) := hp
  split at hp2
  · exact signR_bd _ _ [] hk (fun p hp => by cases hp) p hp2
  · exact tokR_bd x.f2 _ [] (fun p hp => by cases hp) p hp2
theorem okI_items (raw : List Rw) : ∀ it ∈ itemsR raw, okI it := fun it h => by
  obtain ⟨x, _, rfl⟩ := List.mem_map.1 h
  exact okI_item x
end Go.Proofs.Ytnfglkgkdechlaa


/- BisectOne (chapter 15): what its code does. -/
set_option linter.unusedVariables false
set_option linter.unusedSimpArgs false
namespace Go.Proofs.Ytnfglkgkdechlaa
open Go.RowKit Go.Proofs.YtnfglkgkdechlaaW.PrintWords Go.Proofs.YtnfglkgkdechlaaW.PrintLast Go.Proofs.YtnfglkgkdechlaaW.PrintMore

open Go.Proofs.Ytnfglkgkdechlaa.PQ

theorem boolsC (A B : Option Addr) (n c m d : Nat) (a b : List Bool) (w : World) (hA : Kd.bool.C w A n a) (hc : n ≤ c) (hB : Kd.bool.C w B m b) (hd : m ≤ d) (hl : n ≤ 1000000) (h : a = b) : Calls Try.prog 13 #[.slice A n c, .slice B m d] w fun e w' => e = .returned (.bool true) ∧ Below w.heap.size w w' := boolsE A B n c m d a b true w hA hc hB hd hl (decide_eq_true h)
attribute [local go_sem] max2_int min2_int max_two min_two
set_option maxRecDepth 100000 in
set_option maxHeartbeats 8000000 in
theorem one_calls (A : Option Addr) (n c : Nat) (raw : List Int) (B : Option Addr) (m d : Nat) (items : List Rw) (x y : Int) (w : World) (hA : (Kd.int .i64).C w A n raw) (hc : n ≤ c) (hr : ∀ x ∈ raw, In64 x) (hB : kR.C w B m items) (hd : m ≤ d) (hi : ∀ x ∈ items, OkR x) (hx : In64 x) (hy : In64 y) :
    Calls Try.prog 4 #[.slice A n c, .slice B m d, .int .i64 x, .int .i64 y] w fun e w' => e = .returned (.bool true) ∧ Below w.heap.size w w' := by
  obtain ⟨its, hits⟩ : ∃ q, itemsR items = q := ⟨_, rfl⟩
  obtain ⟨t, ht⟩ : ∃ q, tabR raw = q := ⟨_, rfl⟩
  have HLN := Aside0.mk (show its.length ≤ 20 by rw [← hits]; exact itemsR_len items)
  have HOK := Aside0.mk (show ∀ x ∈ its, okI x by rw [← hits]; exact okI_items items)
  have HA := Aside0.mk hA
  have HBC := Aside0.mk hB
  have HR := Aside0.mk hr
  have HI := Aside0.mk hi
  have HT := Aside0.mk ht
  have HIT := Aside0.mk hits
  have HB := Aside0.mk (Below.refl w.heap.size w)
  clear hA hB hr hi ht hits
  go_enter Try.func4, Try.ntmps4
  go_wp2_with fail
  refine (awake_calls _).mono ?_
  rintro e w1 ⟨rfl, hb_⟩
  have ZHA := Aside0.mk (Kd.C_below (by repeat (with_reducible first | exact HA.out | apply C_alloc | apply C_drew)) hb_); clear HA; have HA := ZHA; clear ZHA
  have ZHBC := Aside0.mk (Kd.C_below (by repeat (with_reducible first | exact HBC.out | apply C_alloc | apply C_drew)) hb_); clear HBC; have HBC := ZHBC; clear ZHBC
  have n_ := Aside0.mk (below_step (by repeat (first | exact HB.out | apply below_alloc | apply pw_below_drewN | apply below_drew1 | refine below_set ?_ (by first | omega | (simp; omega)))) hb_); clear HB hb_; have HB := n_; clear n_
  go_wp2_with fail
  refine (tableC A n c raw t _ HA.out hc HR.out HT.out).mono ?_
  rintro e w2 ⟨T, kt, rfl, hkt, hT, hb_⟩
  have ZHBC := Aside0.mk (Kd.C_below (by repeat (with_reducible first | exact HBC.out | apply C_alloc | apply C_drew)) hb_); clear HBC; have HBC := ZHBC; clear ZHBC
  have n_ := Aside0.mk (below_step (by repeat (first | exact HB.out | apply below_alloc | apply pw_below_drewN | apply below_drew1 | refine below_set ?_ (by first | omega | (simp; omega)))) hb_); clear HB hb_; have HB := n_; clear n_
  have HTC := Aside0.mk hT
  clear hT HA HR HT
  go_wp2_with fail
  refine (itemsC B m d items its _ HBC.out hd HI.out HIT.out).mono ?_
  rintro e w3 ⟨I, ki, rfl, hki, hI, hb_⟩
  have ZHTC := Aside0.mk (Kd.C_below (by repeat (with_reducible first | exact HTC.out | apply C_alloc | apply C_drew)) hb_); clear HTC; have HTC := ZHTC; clear ZHTC
  have n_ := Aside0.mk (below_step (by repeat (first | exact HB.out | apply below_alloc | apply pw_below_drewN | apply below_drew1 | refine below_set ?_ (by first | omega | (simp; omega)))) hb_); clear HB hb_; have HB := n_; clear n_
  have HIC := Aside0.mk hI
  clear hI HBC HI HIT
  obtain ⟨bs, hbs⟩ : ∃ q, its.map (chk t) = q := ⟨_, rfl⟩
  obtain ⟨k0, hk0⟩ : ∃ q, cnt (chk t) its = q := ⟨_, rfl⟩
  have hl := HLN.out
  have HBS := Aside0.mk hbs
  go_wp2_with fail
  refine (findC T _ kt t I _ ki its bs k0 _ HTC.out hkt HIC.out hki HOK.out (by omega) hbs hk0).mono ?_
  rintro e w4 ⟨Q, rfl, hQ, hb_⟩
  have ZHTC := Aside0.mk (Kd.C_below (by repeat (with_reducible first | exact HTC.out | apply C_alloc | apply C_drew)) hb_); clear HTC; have HTC := ZHTC; clear ZHTC
  have ZHIC := Aside0.mk (Kd.C_below (by repeat (with_reducible first | exact HIC.out | apply C_alloc | apply C_drew)) hb_); clear HIC; have HIC := ZHIC; clear ZHIC
  have n_ := Aside0.mk (below_step (by repeat (first | exact HB.out | apply below_alloc | apply pw_below_drewN | apply below_drew1 | refine below_set ?_ (by first | omega | (simp; omega)))) hb_); clear HB hb_; have HB := n_; clear n_
  have HQC := Aside0.mk hQ
  clear hQ hbs hk0
  generalize hnn : its.length = N at *
  have HNN := Aside0.mk hnn
  clear hnn
  have hN20 : N ≤ 20 := hl
  clear hl HLN
  go_wp2
  go_loopw [14] (fun v14 wx => ∃ i : Nat, i ≤ N ∧ v14 = .int .i64 (i : Int) ∧ Below w.heap.size w wx ∧ Below w4.heap.size w4 wx) (fun v14 _ => N - (intOf v14).toNat)
  case atStart => exact ⟨0, by omega, rfl, HB.out, Below.refl _ _⟩
  case round =>
    obtain ⟨i, hiN, rfl, hb, hb4⟩ := hrel
    have HB := Aside0.mk hb
    have HB4 := Aside0.mk hb4
    clear hb hb4
    by_cases hlt : i < N
    · have hil : i < its.length := by rw [HNN.out]; exact hlt
      have HXK := Aside0.mk (show rdI its (i : Int) ∈ its by rw [rdI_eq hil]; exact List.getElem_mem hil)
      obtain ⟨r, hr⟩ : ∃ r, bs.getD i false = r := ⟨_, rfl⟩
      have HRE := Aside0.mk (show chk t (rdI its (i : Int)) = r by
        rw [← hr, ← HBS.out, rdI_eq hil, List.getD_eq_getElem?_getD, List.getElem?_eq_getElem (by simpa using hil), List.getElem_map]
        rfl)
      obtain ⟨aq, hq, rE⟩ := at_B (Kd.C_below HQC.out HB4.out) i hlt
      obtain rfl : Q = aq := Option.some.inj hq
      rw [hr] at rE
      clear hq hr
      obtain ⟨z, hz⟩ : ∃ z : Int, (i : Int) = z := ⟨_, rfl⟩
      have hzi : i = z.toNat := by omega
      rw [hzi] at rE
      rw [hz] at HXK HRE ⊢
      have hz0 : 0 ≤ z := by omega
      have hz1 : z < (N : Int) := by omega
      have hdz : decide (z < (N : Int)) = true := decide_eq_true hz1
      have HZ := Aside0.mk hz
      obtain ⟨ad, K0, ck, P, cp, rfl, rC, rD, rG, rH, hck, hK, hcp, hP⟩ := at_I (Kd.C_below HIC.out HB4.out) z hz0 hz1
      obtain ⟨it, hit⟩ : ∃ it, rdI its z = it := ⟨_, rfl⟩
      rw [hit] at rC rD rG rH hck hK hcp hP HXK HRE
      have HKW := Aside0.mk hK
      have HPW := Aside0.mk hP
      have HTW := Aside0.mk (Kd.C_below HTC.out HB4.out)
      have kE := cell_lt rE
      have kC := cell_lt rC
      have kD := cell_lt rD
      have kG := cell_lt rG
      have kH := cell_lt rH
      clear hit hz hzi hK hP hil hlt
      go_upto_region 10 with (fail)
      refine wp_region_held_drew (S := (fun w' => Below wr.heap.size wr w' ∧ (w'.cell? ((Q.add z.toNat)) = some (.bool r)) ∧ (w'.cell? ((ad.add (z.toNat * 4))) = some (.slice K0 it.f0.length ck)) ∧ (w'.cell? ((⟨(ad.add (z.toNat * 4)).block, (ad.add (z.toNat * 4)).off + 1, none⟩ : Addr)) = some (.int .u64 it.f1)) ∧ (w'.cell? ((⟨(ad.add (z.toNat * 4)).block, (ad.add (z.toNat * 4)).off + 2, none⟩ : Addr)) = some (.bool it.f2.f0)) ∧ (w'.cell? ((⟨(ad.add (z.toNat * 4)).block, (ad.add (z.toNat * 4)).off + 3, none⟩ : Addr)) = some (.slice P it.f2.f1.length cp)))) (by kernel_rfl) ?hS18x0 (fun hHeld => ?hR18x0)
      case hS18x0 => ((try dsimp only); (first | exact ⟨below_drew1 (Below.refl _ _), rE, rC, rD, rG, rH⟩ | exact ⟨below_drew1 b0_, rE, rC, rD, rG, rH⟩ | exact ⟨j0, jE, jC, jD, jG, jH⟩ | exact ⟨below_alloc j0 _, (cell_alloc_oldp (Nat.lt_of_lt_of_le kE j0.size)).trans jE, (cell_alloc_oldp (Nat.lt_of_lt_of_le kC j0.size)).trans jC, (cell_alloc_oldp (Nat.lt_of_lt_of_le kD j0.size)).trans jD, (cell_alloc_oldp (Nat.lt_of_lt_of_le kG j0.size)).trans jG, (cell_alloc_oldp (Nat.lt_of_lt_of_le kH j0.size)).trans jH⟩ | exact ⟨below_alloc (below_drew1 (Below.refl _ _)) _, (cell_alloc_oldp kE).trans rE, (cell_alloc_oldp kC).trans rC, (cell_alloc_oldp kD).trans rD, (cell_alloc_oldp kG).trans rG, (cell_alloc_oldp kH).trans rH⟩ | assumption))
      refine wpAnyH_take (i := 0) (oi := ⟨some 47, _, _, _, _, _⟩) (v := ?_) rfl (by kernel_rfl) (by kernel_rfl) (by kernel_rfl) (fun _ _ _ h => h) (Or.inl ⟨by rfl, ?hY18x2⟩) (by assumption) ?hR18x2
      case hY18x2 => (intro w hSw; (try dsimp only at hSw); go_simp; try with_reducible rfl)
      (try simp only [Act.put, List.setIfInBounds_toArray, List.set_cons_zero, List.set_cons_succ])
      refine wpAnyH_take (i := 1) (oi := ⟨some 48, _, _, _, _, _⟩) (v := ?_) rfl (by kernel_rfl) (by kernel_rfl) (by kernel_rfl) (fun _ _ _ h => h) (Or.inl ⟨by rfl, ?hY18x3⟩) (by assumption) ?hR18x3
      case hY18x3 => (intro w hSw; (try dsimp only at hSw); go_simp; try with_reducible rfl)
      (try simp only [Act.put, List.setIfInBounds_toArray, List.set_cons_zero, List.set_cons_succ])
      refine wpAnyH_take (i := 2) (oi := ⟨some 49, _, _, _, _, _⟩) (v := ?_) rfl (by kernel_rfl) (by kernel_rfl) (by kernel_rfl) (fun _ _ _ h => h) (Or.inl ⟨by rfl, ?hY18x4⟩) (by assumption) ?hR18x4
      case hY18x4 => (intro w hSw; (try dsimp only at hSw); go_simp; try with_reducible rfl)
      (try simp only [Act.put, List.setIfInBounds_toArray, List.set_cons_zero, List.set_cons_succ])
      refine wpAnyH_take (i := 3) (oi := ⟨some 50, _, _, _, _, _⟩) (v := ?_) rfl (by kernel_rfl) (by kernel_rfl) (by kernel_rfl) (fun _ _ _ h => h) (Or.inl ⟨by rfl, ?hY18x5⟩) (by assumption) ?hR18x5
      case hY18x5 => (intro w hSw; (try dsimp only at hSw); go_simp; try with_reducible rfl)
      (try simp only [Act.put, List.setIfInBounds_toArray, List.set_cons_zero, List.set_cons_succ])
      refine wpAnyH_take (i := 4) (oi := ⟨some 51, _, _, _, _, _⟩) (v := ?_) rfl (by kernel_rfl) (by kernel_rfl) (by kernel_rfl) (fun _ _ _ h => h) (Or.inl ⟨by rfl, ?hY18x6⟩) (by assumption) ?hR18x6
      case hY18x6 => (intro w hSw; (try dsimp only at hSw); go_simp; try with_reducible rfl)
      (try simp only [Act.put, List.setIfInBounds_toArray, List.set_cons_zero, List.set_cons_succ])
      refine wpAnyH_take (i := 5) (oi := ⟨some 52, _, _, _, _, _⟩) (v := ?_) rfl (by kernel_rfl) (by kernel_rfl) (by kernel_rfl) (fun _ _ _ h => h) (Or.inl ⟨by rfl, ?hY18x7⟩) (by assumption) ?hR18x7
      case hY18x7 => (intro w hSw; (try dsimp only at hSw); go_simp; try with_reducible rfl)
      (try simp only [Act.put, List.setIfInBounds_toArray, List.set_cons_zero, List.set_cons_succ])
      refine wpAnyH_take (i := 6) (oi := ⟨some 53, _, _, _, _, _⟩) (v := ?_) rfl (by kernel_rfl) (by kernel_rfl) (by kernel_rfl) (fun _ _ _ h => h) (Or.inl ⟨by rfl, ?hY18x8⟩) (by assumption) ?hR18x8
      case hY18x8 => (intro w hSw; (try dsimp only at hSw); go_simp; try with_reducible rfl)
      (try simp only [Act.put, List.setIfInBounds_toArray, List.set_cons_zero, List.set_cons_succ])
      refine wpAnyH_take (i := 7) (oi := ⟨some 54, _, _, _, _, _⟩) (v := ?_) rfl (by kernel_rfl) (by kernel_rfl) (by kernel_rfl) (fun _ _ _ h => h) (Or.inl ⟨by rfl, ?hY18x9⟩) (by assumption) ?hR18x9
      case hY18x9 => (intro w hSw; (try dsimp only at hSw); go_simp; try with_reducible rfl)
      (try simp only [Act.put, List.setIfInBounds_toArray, List.set_cons_zero, List.set_cons_succ])
      refine wpAnyH_take (i := 8) (oi := ⟨some 55, _, _, _, _, _⟩) (v := ?_) rfl (by kernel_rfl) (by kernel_rfl) (by kernel_rfl) (fun _ _ _ h => h) (Or.inl ⟨by rfl, ?hY18x10⟩) (by assumption) ?hR18x10
      case hY18x10 => (intro w hSw; (try dsimp only at hSw); go_simp; try with_reducible rfl)
      (try simp only [Act.put, List.setIfInBounds_toArray, List.set_cons_zero, List.set_cons_succ])
      refine wpAnyH_ready (rs := [9]) (by kernel_rfl) (by simp) ?_
      refine AllReadyH.cons (o := ⟨some 56, _, _, _, _, _⟩) rfl (fun K hK => ?hT18x11) ?hM18x11
      case hM18x11 => exact AllReadyH.nil
      go_simp
      (first | (go_at_call 17; obtain ⟨g0, gE, gC, gD, gG, gH⟩ := ‹Below wr.heap.size wr _ ∧ _›; ((with_reducible refine (oCheckE T _ kt t K0 _ ck P _ cp it r _ (Kd.C_below HTW.out g0) hkt (Kd.C_below HKW.out g0) hck (Kd.C_below HPW.out g0) hcp (HOK.out it HXK.out) HRE.out).mono ?_));  rintro e w5 ⟨rfl, hb_⟩; have j0 := below_step g0 hb_; have s5 := j0.size; have jE := (j0.cell (p := (Q.add z.toNat)) kE).trans rE; have jC := (j0.cell (p := (ad.add (z.toNat * 4))) kC).trans rC; have jD := (j0.cell (p := (⟨(ad.add (z.toNat * 4)).block, (ad.add (z.toNat * 4)).off + 1, none⟩ : Addr)) kD).trans rD; have jG := (j0.cell (p := (⟨(ad.add (z.toNat * 4)).block, (ad.add (z.toNat * 4)).off + 2, none⟩ : Addr)) kG).trans rG; have jH := (j0.cell (p := (⟨(ad.add (z.toNat * 4)).block, (ad.add (z.toNat * 4)).off + 3, none⟩ : Addr)) kH).trans rH))
      (try go_wp2_with fail)
      refine hK.out _ _ ?hS18x11 (fun hHeld => ?hR18x11)
      case hS18x11 => ((try dsimp only); (first | exact ⟨below_drew1 (Below.refl _ _), rE, rC, rD, rG, rH⟩ | exact ⟨below_drew1 b0_, rE, rC, rD, rG, rH⟩ | exact ⟨j0, jE, jC, jD, jG, jH⟩ | exact ⟨below_alloc j0 _, (cell_alloc_oldp (Nat.lt_of_lt_of_le kE j0.size)).trans jE, (cell_alloc_oldp (Nat.lt_of_lt_of_le kC j0.size)).trans jC, (cell_alloc_oldp (Nat.lt_of_lt_of_le kD j0.size)).trans jD, (cell_alloc_oldp (Nat.lt_of_lt_of_le kG j0.size)).trans jG, (cell_alloc_oldp (Nat.lt_of_lt_of_le kH j0.size)).trans jH⟩ | exact ⟨below_alloc (below_drew1 (Below.refl _ _)) _, (cell_alloc_oldp kE).trans rE, (cell_alloc_oldp kC).trans rC, (cell_alloc_oldp kD).trans rD, (cell_alloc_oldp kG).trans rG, (cell_alloc_oldp kH).trans rH⟩ | assumption))
      clear hK K
      (try simp only [Act.put, List.setIfInBounds_toArray, List.set_cons_zero, List.set_cons_succ])
      refine wpAnyH_take (i := 10) (oi := ⟨some 57, _, _, _, _, _⟩) (v := ?_) rfl (by kernel_rfl) (by kernel_rfl) (by kernel_rfl) (fun _ _ _ h => h) (Or.inl ⟨by rfl, ?hY18x12⟩) (by assumption) ?hR18x12
      case hY18x12 => (intro w hSw; (try dsimp only at hSw); go_simp; try with_reducible rfl)
      (try simp only [Act.put, List.setIfInBounds_toArray, List.set_cons_zero, List.set_cons_succ])
      refine wpAnyH_done (by kernel_rfl) ?_ _
      go_wp2
      go_roundw
      case rel => exact ⟨i + 1, by have := HZ.out; omega, by have := HZ.out; subst this; go_num, below_step HB.out j0, below_step HB4.out j0⟩
      case measure =>
        have := HZ.out
        simp [intOf]
        omega
    · have hdf : decide ((i : Int) < (N : Int)) = false := decide_eq_false (by omega)
      have hdg : decide (i < N) = false := decide_eq_false hlt
      have HTW := Aside0.mk (Kd.C_below HTC.out HB4.out)
      have HIW := Aside0.mk (Kd.C_below HIC.out HB4.out)
      have HQW := Aside0.mk (Kd.C_below HQC.out HB4.out)
      clear HB4 HTC HIC HQC
      have hw1 : IntKind.i64.wrap ((N : Int) + 1) = (N : Int) + 1 := by rw [IntKind.wrap_i64]; omega
      obtain ⟨p0, hp0⟩ : ∃ p, pickZ x ((N : Int) + 1) = p := ⟨_, rfl⟩
      obtain ⟨q0, hq0⟩ : ∃ p, pickZ y ((N : Int) + 1) = p := ⟨_, rfl⟩
      have pl := pickZ_lt x ((N : Int) + 1) (by omega)
      have ql := pickZ_lt y ((N : Int) + 1) (by omega)
      rw [hp0] at pl
      rw [hq0] at ql
      go_wp2_with fail
      refine (pick15E x ((N : Int) + 1) p0 hx (by omega) _ hp0).mono ?_
      rintro e w6 ⟨rfl, hb_⟩
      have ZHTW := Aside0.mk (Kd.C_below (by repeat (with_reducible first | exact HTW.out | apply C_alloc | apply C_drew)) hb_); clear HTW; have HTW := ZHTW; clear ZHTW
      have ZHIW := Aside0.mk (Kd.C_below (by repeat (with_reducible first | exact HIW.out | apply C_alloc | apply C_drew)) hb_); clear HIW; have HIW := ZHIW; clear ZHIW
      have ZHQW := Aside0.mk (Kd.C_below (by repeat (with_reducible first | exact HQW.out | apply C_alloc | apply C_drew)) hb_); clear HQW; have HQW := ZHQW; clear ZHQW
      have n_ := Aside0.mk (below_step (by repeat (first | exact HB.out | apply below_alloc | apply pw_below_drewN | apply below_drew1 | refine below_set ?_ (by first | omega | (simp; omega)))) hb_); clear HB hb_; have HB := n_; clear n_
      go_wp2_with fail
      refine (pick15E y ((N : Int) + 1) q0 hy (by omega) _ hq0).mono ?_
      rintro e w7 ⟨rfl, hb_⟩
      have ZHTW := Aside0.mk (Kd.C_below (by repeat (with_reducible first | exact HTW.out | apply C_alloc | apply C_drew)) hb_); clear HTW; have HTW := ZHTW; clear ZHTW
      have ZHIW := Aside0.mk (Kd.C_below (by repeat (with_reducible first | exact HIW.out | apply C_alloc | apply C_drew)) hb_); clear HIW; have HIW := ZHIW; clear ZHIW
      have ZHQW := Aside0.mk (Kd.C_below (by repeat (with_reducible first | exact HQW.out | apply C_alloc | apply C_drew)) hb_); clear HQW; have HQW := ZHQW; clear ZHQW
      have n_ := Aside0.mk (below_step (by repeat (first | exact HB.out | apply below_alloc | apply pw_below_drewN | apply below_drew1 | refine below_set ?_ (by first | omega | (simp; omega)))) hb_); clear HB hb_; have HB := n_; clear n_
      obtain ⟨lo, hlo⟩ : ∃ k : Int, (if q0 < p0 then q0 else p0) = k := ⟨_, rfl⟩
      obtain ⟨hi, hhi⟩ : ∃ k : Int, (if p0 < q0 then q0 else p0) = k := ⟨_, rfl⟩
      have hlh : 0 ≤ lo ∧ lo ≤ hi ∧ hi ≤ (N : Int) := by
        rw [← hlo, ← hhi]
        (repeat' split) <;> omega
      clear hp0 hq0 hw1 pl ql
      obtain ⟨u1, rfl⟩ := Int.eq_ofNat_of_zero_le hlh.1
      obtain ⟨u2, rfl⟩ := Int.eq_ofNat_of_zero_le (Int.le_trans hlh.1 hlh.2.1)
      have hu1 : u1 ≤ u2 := by omega
      have hu2 : u2 ≤ N := by omega
      have hs1 : (0 : Int) ≤ (u1 : Int) := by omega
      have hs2 : (u1 : Int) ≤ (ki : Int) := by omega
      have hs3 : (u1 : Int) ≤ (u2 : Int) := by omega
      have hs4 : (u2 : Int) ≤ (ki : Int) := by omega
      have hs5 : (0 : Int) ≤ (u2 : Int) := by omega
      have hs6 : (u2 : Int) ≤ (N : Int) := by omega
      have hs7 : (u1 : Int) ≤ (N : Int) := by omega
      obtain ⟨x1, hx1⟩ : ∃ q, its.take u1 = q := ⟨_, rfl⟩
      obtain ⟨x2, hx2⟩ : ∃ q, seg its u1 u2 = q := ⟨_, rfl⟩
      obtain ⟨x3, hx3⟩ : ∃ q, its.drop u2 = q := ⟨_, rfl⟩
      obtain ⟨b1, hb1⟩ : ∃ q, x1.map (chk t) = q := ⟨_, rfl⟩
      obtain ⟨b2, hb2⟩ : ∃ q, x2.map (chk t) = q := ⟨_, rfl⟩
      obtain ⟨b3, hb3⟩ : ∃ q, x3.map (chk t) = q := ⟨_, rfl⟩
      have HEQ := Aside0.mk (show b1 ++ b2 ++ b3 = bs by
        rw [← hb1, ← hb2, ← hb3, ← HBS.out, ← List.map_append, ← List.map_append, ← hx1, ← hx2, ← hx3]
        congr 1
        unfold seg
        have e := List.take_append_drop u1 (its.take u2)
        rw [List.take_take, Nat.min_eq_left hu1] at e
        rw [e, List.take_append_drop])
      have HO1 := Aside0.mk (show ∀ x ∈ x1, okI x by rw [← hx1]; exact fun x hx => HOK.out x (List.mem_of_mem_take hx))
      have HO2 := Aside0.mk (show ∀ x ∈ x2, okI x by rw [← hx2]; exact fun x hx => HOK.out x (List.mem_of_mem_take (List.mem_of_mem_drop hx)))
      have HO3 := Aside0.mk (show ∀ x ∈ x3, okI x by rw [← hx3]; exact fun x hx => HOK.out x (List.mem_of_mem_drop hx))
      have HM1 := Aside0.mk hb1
      have HM2 := Aside0.mk hb2
      have HM3 := Aside0.mk hb3
      have HS1 := Aside0.mk (show kI.C w7 I u1 x1 by rw [← hx1]; exact C_takeG HIW.out (by omega))
      have HS2 := Aside0.mk (show kI.C w7 (if ki = u1 then I else I.map (·.add (u1 * 4))) (u2 - u1) x2 by rw [← hx2]; exact C_seg HIW.out hki hu1 hu2)
      have HS3 := Aside0.mk (show kI.C w7 (if ki = u2 then I else I.map (·.add (u2 * 4))) (N - u2) x3 by
        have e := C_seg HIW.out hki hu2 (Nat.le_refl _)
        rw [show seg its u2 N = its.drop u2 by unfold seg; rw [List.take_of_length_le (by rw [HNN.out]; exact Nat.le_refl _)], hx3] at e
        exact e)
      clear hb1 hb2 hb3 hx1 hx2 hx3 HIW hlh
      go_wp2_with fail
      refine (findC T _ kt t _ _ _ x1 b1 _ _ HTW.out hkt HS1.out (by omega) HO1.out (by omega) HM1.out rfl).mono ?_
      rintro e w8 ⟨Q8, rfl, hQ8, hb_⟩
      have ZHTW := Aside0.mk (Kd.C_below (by repeat (with_reducible first | exact HTW.out | apply C_alloc | apply C_drew)) hb_); clear HTW; have HTW := ZHTW; clear ZHTW
      have ZHS2 := Aside0.mk (Kd.C_below (by repeat (with_reducible first | exact HS2.out | apply C_alloc | apply C_drew)) hb_); clear HS2; have HS2 := ZHS2; clear ZHS2
      have ZHS3 := Aside0.mk (Kd.C_below (by repeat (with_reducible first | exact HS3.out | apply C_alloc | apply C_drew)) hb_); clear HS3; have HS3 := ZHS3; clear ZHS3
      have ZHQW := Aside0.mk (Kd.C_below (by repeat (with_reducible first | exact HQW.out | apply C_alloc | apply C_drew)) hb_); clear HQW; have HQW := ZHQW; clear ZHQW
      have n_ := Aside0.mk (below_step (by repeat (first | exact HB.out | apply below_alloc | apply pw_below_drewN | apply below_drew1 | refine below_set ?_ (by first | omega | (simp; omega)))) hb_); clear HB hb_; have HB := n_; clear n_
      have HQ8 := Aside0.mk hQ8
      clear hQ8 HO1 HS1 HM1 hlo hhi
      have hcase : (ki = u1 ∧ u1 = u2) ∨ (ki = u2 ∧ ¬ ki = u1) ∨ (¬ ki = u1 ∧ ¬ ki = u2) := by omega
      rcases hcase with ⟨e1, e2⟩ | ⟨e2, e1⟩ | ⟨e1, e2⟩
      case' inl => subst e2 e1
      case' inr.inl => subst e2
      all_goals
        go_wp2_with fail
        refine (findC T _ kt t _ _ _ x2 b2 _ _ HTW.out hkt ?hseg ?hm HO2.out ?hm2 HM2.out rfl).mono ?_
        (case hm => omega); (case hm2 => omega); (case hseg => have e := HS2.out; first | exact e | (rw [if_neg e1] at e; exact e) | (simp only [if_true, Nat.sub_self] at e; first | exact e | (rw [show N - ki = 0 by omega] at e; exact e)))
        rintro e w9 ⟨Q9, rfl, hQ9, hb_⟩
        have ZHTW := Aside0.mk (Kd.C_below (by repeat (with_reducible first | exact HTW.out | apply C_alloc | apply C_drew)) hb_); clear HTW; have HTW := ZHTW; clear ZHTW
        have ZHS3 := Aside0.mk (Kd.C_below (by repeat (with_reducible first | exact HS3.out | apply C_alloc | apply C_drew)) hb_); clear HS3; have HS3 := ZHS3; clear ZHS3
        have ZHQW := Aside0.mk (Kd.C_below (by repeat (with_reducible first | exact HQW.out | apply C_alloc | apply C_drew)) hb_); clear HQW; have HQW := ZHQW; clear ZHQW
        have ZHQ8 := Aside0.mk (Kd.C_below (by repeat (with_reducible first | exact HQ8.out | apply C_alloc | apply C_drew)) hb_); clear HQ8; have HQ8 := ZHQ8; clear ZHQ8
        have n_ := Aside0.mk (below_step (by repeat (first | exact HB.out | apply below_alloc | apply pw_below_drewN | apply below_drew1 | refine below_set ?_ (by first | omega | (simp; omega)))) hb_); clear HB hb_; have HB := n_; clear n_
        have HQ9 := Aside0.mk hQ9
        clear hQ9 HO2 HS2 HM2
        go_wp2_with fail
        refine (findC T _ kt t _ _ _ x3 b3 _ _ HTW.out hkt ?hseg ?hm HO3.out ?hm2 HM3.out rfl).mono ?_
        (case hm => omega); (case hm2 => omega); (case hseg => have e := HS3.out; first | exact e | (rw [if_neg e2] at e; exact e) | (simp only [if_true, Nat.sub_self] at e; first | exact e | (rw [show N - ki = 0 by omega] at e; exact e)))
        rintro e w10 ⟨Q10, rfl, hQ10, hb_⟩
        have ZHQW := Aside0.mk (Kd.C_below (by repeat (with_reducible first | exact HQW.out | apply C_alloc | apply C_drew)) hb_); clear HQW; have HQW := ZHQW; clear ZHQW
        have ZHQ8 := Aside0.mk (Kd.C_below (by repeat (with_reducible first | exact HQ8.out | apply C_alloc | apply C_drew)) hb_); clear HQ8; have HQ8 := ZHQ8; clear ZHQ8
        have ZHQ9 := Aside0.mk (Kd.C_below (by repeat (with_reducible first | exact HQ9.out | apply C_alloc | apply C_drew)) hb_); clear HQ9; have HQ9 := ZHQ9; clear ZHQ9
        have n_ := Aside0.mk (below_step (by repeat (first | exact HB.out | apply below_alloc | apply pw_below_drewN | apply below_drew1 | refine below_set ?_ (by first | omega | (simp; omega)))) hb_); clear HB hb_; have HB := n_; clear n_
        have HQ10 := Aside0.mk hQ10
        clear hQ10 HO3 HS3 HM3 HTW
        have hl1 := Kd.C_len HQ8.out
        have hl2 := Kd.C_len HQ9.out
        have hl3 := Kd.C_len HQ10.out
        have hl4 : b1.length ≤ 20 := by omega
        have hl5 : b2.length ≤ 20 := by omega
        have hl6 : b3.length ≤ 20 := by omega
        have HW := HB
        clear HB
        have HB := Aside0.mk (Below.refl w10.heap.size w10)
        have HO := Aside0.mk True.intro
        go_wp2_with (first | ((with_reducible refine gate_builtin (b := .append) (xs := #[.const (.slice none 0 0), .tmp 101]) rfl ?_); (try (refine gate_guard (by rfl) ?_; dsimp only)); at_builtin; go_must (refine Kd.R_append_rows (Kd.bool) (w0 := w10) w10.heap.size rfl (.const (.slice none 0 0)) (.tmp 101) 37 4 (.bool false) 1 rfl Try.underlying37 info4 rfl (by decide) (by omega) _ ([]) (b1) (_) (_) (_) (fun _ => True) (fun _ => False) rfl rfl ?aO HQ8.out ?aK (fun _ hk => hk.elim) ?aF ?aB ?aS ?aL ?_; (case aK => exact (fun x cs h => h)); (case aB => exact (by repeat (first | exact HB.out | apply below_alloc | apply pw_below_drewN | apply below_drew1 | refine below_set ?_ (by first | omega | (simp; omega))))); (case aF => exact (fun _ _ => trivial)); (case aO => exact (Kd.R_nil _ _ _ _ _)); (case aS => exact below_size (by repeat (first | exact HB.out | apply below_alloc | apply pw_below_drewN | apply below_drew1 | refine below_set ?_ (by first | omega | (simp; omega))))); (case aL => first | omega | (simp; omega)); intro v1 w1 ho_ hb_ hg_ hat_; skip; clear HB; clear HO; have HB := Aside0.mk hb_; have HO := Aside0.mk ho_; clear ho_ hb_ hg_ hat_; )) | ((with_reducible refine gate_builtin (b := .append) (xs := #[.tmp 102, .tmp 103]) rfl ?_); (try (refine gate_guard (by rfl) ?_; dsimp only)); at_builtin; go_must (refine Kd.R_append_rows (Kd.bool) (w0 := w10) w10.heap.size rfl (.tmp 102) (.tmp 103) 37 4 (.bool false) 1 rfl Try.underlying37 info4 rfl (by decide) (by omega) _ (b1) (b2) (_) (_) (_) (fun _ => True) (fun _ => False) rfl rfl ?aO (Aside0.mk (Kd.C_below HQ9.out HB.out)).out ?aK (fun _ hk => hk.elim) ?aF ?aB ?aS ?aL ?_; (case aK => exact (fun _ _ hh => hh)); (case aB => exact (by repeat (first | exact HB.out | apply below_alloc | apply pw_below_drewN | apply below_drew1 | refine below_set ?_ (by first | omega | (simp; omega))))); (case aF => exact (fun _ _ => trivial)); (case aO => exact (by (with_reducible repeat (first | apply Kd.R_alloc | apply Kd.R_drewN | apply Kd.R_drew)); exact HO.out)); (case aS => exact below_size (by repeat (first | exact HB.out | apply below_alloc | apply pw_below_drewN | apply below_drew1 | refine below_set ?_ (by first | omega | (simp; omega))))); (case aL => first | omega | (simp; omega)); intro v1 w1 ho_ hb_ hg_ hat_; skip; clear HB; clear HO; have HB := Aside0.mk hb_; have HO := Aside0.mk ho_; clear ho_ hb_ hg_ hat_; )) | ((with_reducible refine gate_builtin (b := .append) (xs := #[.tmp 104, .tmp 105]) rfl ?_); (try (refine gate_guard (by rfl) ?_; dsimp only)); at_builtin; go_must (refine Kd.R_append_rows (Kd.bool) (w0 := w10) w10.heap.size rfl (.tmp 104) (.tmp 105) 37 4 (.bool false) 1 rfl Try.underlying37 info4 rfl (by decide) (by omega) _ (b1 ++ b2) (b3) (_) (_) (_) (fun _ => True) (fun _ => False) rfl rfl ?aO (Aside0.mk (Kd.C_below HQ10.out HB.out)).out ?aK (fun _ hk => hk.elim) ?aF ?aB ?aS ?aL ?_; (case aK => exact (fun _ _ hh => hh)); (case aB => exact (by repeat (first | exact HB.out | apply below_alloc | apply pw_below_drewN | apply below_drew1 | refine below_set ?_ (by first | omega | (simp; omega))))); (case aF => exact (fun _ _ => trivial)); (case aO => exact (by (with_reducible repeat (first | apply Kd.R_alloc | apply Kd.R_drewN | apply Kd.R_drew)); exact HO.out)); (case aS => exact below_size (by repeat (first | exact HB.out | apply below_alloc | apply pw_below_drewN | apply below_drew1 | refine below_set ?_ (by first | omega | (simp; omega))))); (case aL => first | omega | (simp; omega)); intro v1 w1 ho_ hb_ hg_ hat_; skip; clear HB; clear HO; have HB := Aside0.mk hb_; have HO := Aside0.mk ho_; clear ho_ hb_ hg_ hat_; )))
        obtain ⟨Av, cv, rfl⟩ := Kd.R_slice HO.out
        refine (boolsC Av (some Q) _ cv N N _ bs _ (Kd.R_reads' HO.out).2.2 (Kd.R_reads' HO.out).2.1 (Kd.C_below HQW.out HB.out) (Nat.le_refl _) ?hl HEQ.out).mono ?_
        case hl => rw [HEQ.out, Kd.C_len HQW.out]; omega
        rintro e w11 ⟨rfl, hb_⟩
        go_wp2
        go_ret
        exact ⟨rfl, below_step (below_step HW.out HB.out) hb_⟩
end Go.Proofs.Ytnfglkgkdechlaa


/- Rows by their bare cells: what is appended by copying cells, whatever the cells point to. -/
set_option linter.unusedVariables false
set_option linter.unusedSimpArgs false
namespace Go.Proofs.Ytnfglkgkdechlaa
open Go.RowKit Go.Proofs.YtnfglkgkdechlaaW.PrintWords Go.Proofs.YtnfglkgkdechlaaW.PrintLast Go.Proofs.YtnfglkgkdechlaaW.PrintMore
open Go.Proofs.Ytnfglkgkdechlaa.PQ

def RowV (n : Nat) : Type := {cs : List Value // cs.length = n ∧ ∀ u ∈ cs, u.oneCell' = true}
/-- The kind whose elements are their cells. -/
def kV (n : Nat) : Kd (RowV n) where
  sz := n
  E := []
  K := fun _ x cs => cs = x.1
  M := fun _ _ _ x cs => cs = x.1
  K_len := fun {_ x cs} h => by subst h; exact x.2.1
  K_one := fun {_ x cs} h => by subst h; exact x.2.2
  K_below := fun _ h => h
  K_of_M := fun h => h
  M_mono := fun _ h => h
  M_bound := fun h => h
  M_move := fun _ h => h
  M_lower := fun _ h => h
/-- Bare rows that are such elements' rows. -/
def Fits {α : Type} (d : Kd α) (w : World) (xs : List α) (rs : List (RowV d.sz)) : Prop := xs.length = rs.length ∧ ∀ (i : Nat) (x : α), xs[i]? = some x → ∃ r, rs[i]? = some r ∧ d.K w x r.1
section
variable {α : Type} {d : Kd α} {w w1 : World} {xs ys : List α} {rs qs : List (RowV d.sz)}
theorem Fits.below (h : Fits d w xs rs) (hb : Below w.heap.size w w1) : Fits d w1 xs rs := ⟨h.1, fun i x hx => by
  obtain ⟨r, h1, h2⟩ := h.2 i x hx
  exact ⟨r, h1, d.K_below hb h2⟩⟩
theorem Fits.nil : Fits d w [] [] := ⟨rfl, fun i x hx => by cases hx⟩
theorem Fits.append (h : Fits d w xs rs) (g : Fits d w ys qs) : Fits d w (xs ++ ys) (rs ++ qs) := by
  refine ⟨by rw [List.length_append, List.length_append, h.1, g.1], fun i x hx => ?_⟩
  rcases Nat.lt_or_ge i xs.length with hi | hi
  · rw [List.getElem?_append_left hi] at hx
    obtain ⟨r, h1, h2⟩ := h.2 i x hx
    exact ⟨r, by rw [List.getElem?_append_left (by rw [← h.1]; exact hi)]; exact h1, h2⟩
  · rw [List.getElem?_append_right hi] at hx
    obtain ⟨r, h1, h2⟩ := g.2 _ x hx
    exact ⟨r, by rw [List.getElem?_append_right (by rw [← h.1]; exact hi), ← h.1]; exact h1, h2⟩
theorem Fits.one {x : α} {r : RowV d.sz} (h : d.K w x r.1) : Fits d w [x] [r] := ⟨rfl, fun i y hy => by
  match i, hy with
  | 0, hy =>
    obtain rfl : x = y := by simpa using hy
    exact ⟨r, rfl, h⟩
  | i + 1, hy => simp at hy⟩
theorem fits_lift {A : Option Addr} {n : Nat} (h : (kV d.sz).C w A n rs) (hf : Fits d w xs rs) : d.C w A n xs := by
  refine ⟨by rw [hf.1]; exact h.1, h.2.1, fun hn => ?_⟩
  obtain ⟨a, ha, hc⟩ := h.2.2 hn
  refine ⟨a, ha, fun j x hx => ?_⟩
  obtain ⟨r, h1, h2⟩ := hf.2 j x hx
  obtain ⟨row, g1, g2, g3⟩ := hc j r h1
  have g4 : row = r.1 := g2
  subst g4
  exact ⟨r.1, g1, h2, g3⟩
theorem fits_of {A : Option Addr} {n : Nat} (h : d.C w A n xs) : ∃ rs, (kV d.sz).C w A n rs ∧ Fits d w xs rs := by
  have hl := h.1
  rcases Nat.eq_zero_or_pos n with h0 | h0
  · subst h0
    have : xs = [] := List.eq_nil_of_length_eq_zero hl
    subst this
    exact ⟨[], ⟨rfl, by omega, fun hn => absurd hn (by omega)⟩, Fits.nil⟩
  · obtain ⟨a, ha, hc⟩ := h.2.2 h0
    have hrow : ∀ i : Nat, i < xs.length → ∃ r : RowV d.sz, (∀ x, xs[i]? = some x → d.K w x r.1) ∧ ∀ j u, r.1[j]? = some u → w.cell? (a.add (i * d.sz + j)) = some u := fun i hi => by
      obtain ⟨row, g1, g2, g3⟩ := hc i xs[i] (List.getElem?_eq_getElem hi)
      refine ⟨⟨row, g1, d.K_one g2⟩, fun x hx => ?_, g3⟩
      rw [List.getElem?_eq_getElem hi] at hx
      obtain rfl := Option.some.inj hx
      exact g2
    obtain ⟨r0, _⟩ := hrow 0 (by omega)
    have hget : ∀ (j : Nat) (p : RowV d.sz), ((List.range xs.length).map (fun i => if h : i < xs.length then (hrow i h).choose else r0))[j]? = some p → ∃ hj : j < xs.length, p = (hrow j hj).choose := fun j p hj => by
      rw [List.getElem?_map] at hj
      obtain ⟨i, hi1, rfl⟩ := Option.map_eq_some_iff.1 hj
      have hi2 : i = j ∧ j < xs.length := by
        rw [List.getElem?_eq_some_iff] at hi1
        obtain ⟨h1, h2⟩ := hi1
        rw [List.getElem_range] at h2
        rw [List.length_range] at h1
        exact ⟨h2.symm, h1⟩
      obtain ⟨rfl, hjn⟩ := hi2
      exact ⟨hjn, by rw [dif_pos hjn]⟩
    refine ⟨(List.range xs.length).map (fun i => if h : i < xs.length then (hrow i h).choose else r0), ⟨by simpa using hl, h.2.1, fun _ => ⟨a, ha, fun j p hj => ?_⟩⟩, by simp, fun i x hx => ?_⟩
    · obtain ⟨hjn, rfl⟩ := hget j p hj
      exact ⟨_, (hrow j hjn).choose.2.1, rfl, (hrow j hjn).choose_spec.2⟩
    · have hi := (List.getElem?_eq_some_iff.1 hx).1
      refine ⟨(hrow i hi).choose, ?_, (hrow i hi).choose_spec.1 x hx⟩
      rw [List.getElem?_map, List.getElem?_range hi, Option.map_some, dif_pos hi]
end
/-- One bare row in a box. -/
theorem C_oneV {n : Nat} {W : World} {vb : Nat} {cs : Array Value} {T : TypeId} (r : RowV n) (h : Box W vb cs T) (hr : r.1 = cs.toList) : (kV n).C W (some ⟨vb, 0, none⟩) 1 [r] := by
  refine ⟨rfl, by omega, fun _ => ⟨_, rfl, fun j p hj => ?_⟩⟩
  have hj0 : j = 0 := by
    rcases Nat.eq_zero_or_pos j with h | h
    · exact h
    · rw [List.getElem?_eq_none (by simp; omega)] at hj
      cases hj
  subst hj0
  obtain rfl : r = p := by simpa using hj
  refine ⟨r.1, r.2.1, rfl, fun i u hu => ?_⟩
  have h2 := h.cell i
  rw [show ((⟨vb, 0, none⟩ : Addr).add (0 * (kV n).sz + i)) = ⟨vb, i, none⟩ by rw [Nat.zero_mul, Nat.zero_add]; unfold Addr.add; split <;> simp_all, h2]
  rw [hr] at hu
  simpa using hu
end Go.Proofs.Ytnfglkgkdechlaa


/- BisectAdd (chapter 15): what its code does. -/
set_option linter.unusedVariables false
set_option linter.unusedSimpArgs false
namespace Go.Proofs.Ytnfglkgkdechlaa
open Go.RowKit Go.Proofs.YtnfglkgkdechlaaW.PrintWords Go.Proofs.YtnfglkgkdechlaaW.PrintLast Go.Proofs.YtnfglkgkdechlaaW.PrintMore

open Go.Proofs.Ytnfglkgkdechlaa.PQ

theorem itemC (K0 : Option Addr) (nk ck : Nat) (P : Option Addr) (np cp : Nat) (x : Rw) (it : It) (w : World) (hK : (Kd.int .i64).C w K0 nk x.f0) (hck : nk ≤ ck) (hP : (Kd.int .i64).C w P np x.f2) (hcp : np ≤ cp) (ho : OkR x) (h : itemR x = it) :
    Calls Try.prog 18 #[.agg #[.slice K0 nk ck, .int .i64 x.f1, .slice P np cp, .int .i64 x.f3]] w
      fun r w' => ∃ A0 c0 A3 c3, r = .returned (.agg #[.slice A0 it.f0.length c0, .int .u64 it.f1, .bool it.f2.f0, .slice A3 it.f2.f1.length c3]) ∧ kI.K w' it [.slice A0 it.f0.length c0, .int .u64 it.f1, .bool it.f2.f0, .slice A3 it.f2.f1.length c3] ∧ Below w.heap.size w w' := by
  refine (lItemE K0 nk ck P np cp x it w hK hck hP hcp ho h).mono fun r w' hh => ?_
  obtain ⟨v0, v3, rfl, h0, h3, hb⟩ := hh
  obtain ⟨A0, c0, rfl⟩ := Kd.R_slice h0
  obtain ⟨A3, c3, rfl⟩ := Kd.R_slice h3
  exact ⟨A0, c0, A3, c3, rfl, k32_mk w' it (Kd.R_reads' h0).2.1 (Kd.R_reads' h0).2.2 (Kd.R_reads' h3).2.1 (Kd.R_reads' h3).2.2, hb⟩
theorem findC2 (A : Option Addr) (n c : Nat) (t : List Pr) (I : Option Addr) (m mc : Nat) (its : List It) (bs : List Bool) (k : Nat) (w : World) (hA : kP.C w A n t) (hc : n ≤ c) (hI : kI.C w I m its) (hm : m ≤ mc) (ho : ∀ x ∈ its, okI x) (hm0 : m ≤ 1000000000000) (hb : its.map (chk t) = bs) (hk : cnt (chk t) its = k) :
    Calls Try.prog 11 #[.slice A n c, .slice I m mc] w fun e w' => ∃ B, e = .returned (.tuple #[.slice (some B) m m, .int .i64 (k : Int)]) ∧ Kd.bool.C w' (some B) m bs ∧ Below w.heap.size w w' ∧ Below w.heap.size w w' :=
  (findC A n c t I m mc its bs k w hA hc hI hm ho hm0 hb hk).mono fun e w' hh => by
    obtain ⟨B, h1, h2, h3⟩ := hh
    exact ⟨B, h1, h2, h3, h3⟩
def FitI (w : World) (its : List It) (rs : List (RowV 4)) : Prop := Fits kI w its rs
theorem FitI.below {w w1 : World} {its : List It} {rs : List (RowV 4)} (h : FitI w its rs) (hb : Below w.heap.size w w1) : FitI w1 its rs := Fits.below h hb
theorem FitI.append {w : World} {a b : List It} {rs qs : List (RowV 4)} (h : FitI w a rs) (g : FitI w b qs) : FitI w (a ++ b) (rs ++ qs) := Fits.append h g
theorem FitI.one {w : World} {x : It} {r : RowV 4} (h : kI.K w x r.1) : FitI w [x] [r] := Fits.one h
theorem fitI_of {w : World} {A : Option Addr} {n : Nat} {its : List It} (h : kI.C w A n its) : ∃ rs : List (RowV 4), (kV 4).C w A n rs ∧ FitI w its rs := fits_of h
theorem liftI {w : World} {A : Option Addr} {n : Nat} {its : List It} {rs : List (RowV 4)} (h : (kV 4).C w A n rs) (hf : FitI w its rs) : kI.C w A n its := fits_lift (d := kI) h hf
theorem cnt_one (f : It → Bool) (x : It) : cnt f [x] = 1 := by
  rw [cnt_eq, if_neg (by simp)]
  split
  · rfl
  · rw [if_pos (by simp)]
theorem findR (A : Option Addr) (n c : Nat) (t : List Pr) (I : Option Addr) (m mc : Nat) (its : List It) (bs : List Bool) (k : Nat) (w : World) (rs : List (RowV 4)) {e base : Nat} {ok : Nat → Prop} (hA : kP.C w A n t) (hc : n ≤ c) (hI : (kV 4).R e w base ok (.slice I m mc) rs) (hf : FitI w its rs) (ho : ∀ x ∈ its, okI x) (hm0 : rs.length ≤ 1000000000000) (hb : its.map (chk t) = bs) (hk : cnt (chk t) its = k) :
    Calls Try.prog 11 #[.slice A n c, .slice I m mc] w fun e w' => ∃ B, e = .returned (.tuple #[.slice (some B) m m, .int .i64 (k : Int)]) ∧ Kd.bool.C w' (some B) m bs ∧ Below w.heap.size w w' := by
  obtain ⟨h1, h2, h3⟩ := Kd.R_reads' hI
  subst h1
  exact findC A n c t I _ mc its bs k w hA hc (fits_lift (d := kI) h3 hf) h2 ho hm0 hb hk
set_option maxRecDepth 100000 in
set_option maxHeartbeats 8000000 in
theorem add_calls (A : Option Addr) (n c : Nat) (raw : List Int) (B : Option Addr) (m d : Nat) (items : List Rw) (K0 : Option Addr) (ck : Nat) (P : Option Addr) (cp : Nat) (x : Rw) (w : World) (hA : (Kd.int .i64).C w A n raw) (hc : n ≤ c) (hr : ∀ x ∈ raw, In64 x) (hB : kR.C w B m items) (hd : m ≤ d) (hi : ∀ x ∈ items, OkR x) (hK : (Kd.int .i64).C w K0 x.f0.length x.f0) (hck : x.f0.length ≤ ck) (hP : (Kd.int .i64).C w P x.f2.length x.f2) (hcp : x.f2.length ≤ cp) (ho : OkR x) :
    Calls Try.prog 6 #[.slice A n c, .slice B m d, .agg #[.slice K0 x.f0.length ck, .int .i64 x.f1, .slice P x.f2.length cp, .int .i64 x.f3]] w fun e w' => e = .returned (.bool true) ∧ Below w.heap.size w w' := by
  obtain ⟨its, hits⟩ : ∃ q, itemsR items = q := ⟨_, rfl⟩
  obtain ⟨t, ht⟩ : ∃ q, tabR raw = q := ⟨_, rfl⟩
  obtain ⟨it, hit⟩ : ∃ q, itemR x = q := ⟨_, rfl⟩
  have HLN := Aside0.mk (show its.length ≤ 20 by rw [← hits]; exact itemsR_len items)
  have HOK := Aside0.mk (show ∀ x ∈ its, okI x by rw [← hits]; exact okI_items items)
  have HOI := Aside0.mk (show okI it by rw [← hit]; exact okI_item x)
  have HA := Aside0.mk hA
  have HBC := Aside0.mk hB
  have HKC := Aside0.mk hK
  have HPC := Aside0.mk hP
  have HR := Aside0.mk hr
  have HI := Aside0.mk hi
  have HO := Aside0.mk ho
  have HT := Aside0.mk ht
  have HIT := Aside0.mk hits
  have HIX := Aside0.mk hit
  have HB := Aside0.mk (Below.refl w.heap.size w)
  clear hA hB hr hi ht hits hK hP ho hit
  go_enter Try.func6, Try.ntmps6
  go_wp2_with fail
  refine (awake_calls _).mono ?_
  rintro e w1 ⟨rfl, hb_⟩
  have YE : Box w1 (w.heap.size) _ _ := Box.below (by repeat (with_reducible first | exact XE.out | exact Box.new | exact Box.new1 | exact Box.new2 | exact Box.new3 | apply Box.alloc | apply Box.drew | apply Box.drewN | apply Box.set)) hb_
  (try clear XE rE kE fE); have XE := Aside0.mk YE; have rE := YE.cell; have fE := YE.frozen; have kE := YE.lt; clear YE
  have ZHA := Aside0.mk (Kd.C_below (by repeat (with_reducible first | exact HA.out | apply C_alloc | apply C_drew)) hb_); clear HA; have HA := ZHA; clear ZHA
  have ZHBC := Aside0.mk (Kd.C_below (by repeat (with_reducible first | exact HBC.out | apply C_alloc | apply C_drew)) hb_); clear HBC; have HBC := ZHBC; clear ZHBC
  have ZHKC := Aside0.mk (Kd.C_below (by repeat (with_reducible first | exact HKC.out | apply C_alloc | apply C_drew)) hb_); clear HKC; have HKC := ZHKC; clear ZHKC
  have ZHPC := Aside0.mk (Kd.C_below (by repeat (with_reducible first | exact HPC.out | apply C_alloc | apply C_drew)) hb_); clear HPC; have HPC := ZHPC; clear ZHPC
  have n_ := Aside0.mk (below_step (by repeat (first | exact HB.out | apply below_alloc | apply pw_below_drewN | apply below_drew1 | refine below_set ?_ (by first | omega | (simp; omega)))) hb_); clear HB hb_; have HB := n_; clear n_
  go_wp2_with fail
  refine (tableC A n c raw t _ HA.out hc HR.out HT.out).mono ?_
  rintro e w2 ⟨T, kt, rfl, hkt, hT, hb_⟩
  have YE : Box w2 (w.heap.size) _ _ := Box.below (by repeat (with_reducible first | exact XE.out | exact Box.new | exact Box.new1 | exact Box.new2 | exact Box.new3 | apply Box.alloc | apply Box.drew | apply Box.drewN | apply Box.set)) hb_
  (try clear XE rE kE fE); have XE := Aside0.mk YE; have rE := YE.cell; have fE := YE.frozen; have kE := YE.lt; clear YE
  have ZHBC := Aside0.mk (Kd.C_below (by repeat (with_reducible first | exact HBC.out | apply C_alloc | apply C_drew)) hb_); clear HBC; have HBC := ZHBC; clear ZHBC
  have ZHKC := Aside0.mk (Kd.C_below (by repeat (with_reducible first | exact HKC.out | apply C_alloc | apply C_drew)) hb_); clear HKC; have HKC := ZHKC; clear ZHKC
  have ZHPC := Aside0.mk (Kd.C_below (by repeat (with_reducible first | exact HPC.out | apply C_alloc | apply C_drew)) hb_); clear HPC; have HPC := ZHPC; clear ZHPC
  have n_ := Aside0.mk (below_step (by repeat (first | exact HB.out | apply below_alloc | apply pw_below_drewN | apply below_drew1 | refine below_set ?_ (by first | omega | (simp; omega)))) hb_); clear HB hb_; have HB := n_; clear n_
  have HTC := Aside0.mk hT
  clear hT HA HR HT
  go_wp2_with fail
  refine (itemsC B m d items its _ HBC.out hd HI.out HIT.out).mono ?_
  rintro e w3 ⟨I, ki, rfl, hki, hI, hb_⟩
  have YE : Box w3 (w.heap.size) _ _ := Box.below (by repeat (with_reducible first | exact XE.out | exact Box.new | exact Box.new1 | exact Box.new2 | exact Box.new3 | apply Box.alloc | apply Box.drew | apply Box.drewN | apply Box.set)) hb_
  (try clear XE rE kE fE); have XE := Aside0.mk YE; have rE := YE.cell; have fE := YE.frozen; have kE := YE.lt; clear YE
  have ZHTC := Aside0.mk (Kd.C_below (by repeat (with_reducible first | exact HTC.out | apply C_alloc | apply C_drew)) hb_); clear HTC; have HTC := ZHTC; clear ZHTC
  have ZHKC := Aside0.mk (Kd.C_below (by repeat (with_reducible first | exact HKC.out | apply C_alloc | apply C_drew)) hb_); clear HKC; have HKC := ZHKC; clear ZHKC
  have ZHPC := Aside0.mk (Kd.C_below (by repeat (with_reducible first | exact HPC.out | apply C_alloc | apply C_drew)) hb_); clear HPC; have HPC := ZHPC; clear ZHPC
  have n_ := Aside0.mk (below_step (by repeat (first | exact HB.out | apply below_alloc | apply pw_below_drewN | apply below_drew1 | refine below_set ?_ (by first | omega | (simp; omega)))) hb_); clear HB hb_; have HB := n_; clear n_
  have HIC := Aside0.mk hI
  clear hI HBC HI HIT
  go_wp2_with fail
  refine (itemC K0 _ ck P _ cp x it _ HKC.out hck HPC.out hcp HO.out HIX.out).mono ?_
  rintro e w4 ⟨A0, c0, A3, c3, rfl, hk, hb_⟩
  have ZHTC := Aside0.mk (Kd.C_below (by repeat (with_reducible first | exact HTC.out | apply C_alloc | apply C_drew)) hb_); clear HTC; have HTC := ZHTC; clear ZHTC
  have ZHIC := Aside0.mk (Kd.C_below (by repeat (with_reducible first | exact HIC.out | apply C_alloc | apply C_drew)) hb_); clear HIC; have HIC := ZHIC; clear ZHIC
  have n_ := Aside0.mk (below_step (by repeat (first | exact HB.out | apply below_alloc | apply pw_below_drewN | apply below_drew1 | refine below_set ?_ (by first | omega | (simp; omega)))) hb_); clear HB hb_; have HB := n_; clear n_
  have HKI := Aside0.mk hk
  clear hk HKC HPC HO HIX
  (try clear XE rE kE fE)
  obtain ⟨row, hrow⟩ : ∃ r : RowV 4, r.1 = [.slice A0 it.f0.length c0, .int .u64 it.f1, .bool it.f2.f0, .slice A3 it.f2.f1.length c3] := ⟨⟨_, rfl, by intro u hu; simp only [List.mem_cons, List.not_mem_nil, or_false] at hu; rcases hu with rfl | rfl | rfl | rfl <;> rfl⟩, rfl⟩
  have HROW := Aside0.mk hrow
  have HKR := Aside0.mk (show kI.K w4 it row.1 by rw [hrow]; exact HKI.out)
  clear hrow HKI
  obtain ⟨bs, hbs⟩ : ∃ q, its.map (chk t) = q := ⟨_, rfl⟩
  obtain ⟨r, hr⟩ : ∃ q, chk t it = q := ⟨_, rfl⟩
  have hl := HLN.out
  have HBS := Aside0.mk hbs
  have HRE := Aside0.mk hr
  clear hbs hr
  generalize hnn : its.length = N at *
  have HNN := Aside0.mk hnn
  clear hnn
  obtain ⟨vb, hvb⟩ : ∃ b, w4.heap.size = b := ⟨_, rfl⟩
  go_wp2_with fail
  refine (findC2 T _ kt t I N ki its bs _ _ (C_alloc HTC.out) hkt (C_alloc HIC.out) hki HOK.out (by omega) HBS.out rfl).mono ?_
  rintro e w15 ⟨Q, rfl, hQ, hb2, hb_⟩
  have YE : Box w15 (w4.heap.size) _ _ := Box.below (by repeat (with_reducible first | exact XE.out | exact Box.new | exact Box.new1 | exact Box.new2 | exact Box.new3 | apply Box.alloc | apply Box.drew | apply Box.drewN | apply Box.set)) hb_
  (try clear XE rE kE fE); have XE := Aside0.mk YE; have rE := YE.cell; have fE := YE.frozen; have kE := YE.lt; clear YE
  have ZHTC := Aside0.mk (Kd.C_below (by repeat (with_reducible first | exact HTC.out | apply C_alloc | apply C_drew)) hb_); clear HTC; have HTC := ZHTC; clear ZHTC
  have ZHIC := Aside0.mk (Kd.C_below (by repeat (with_reducible first | exact HIC.out | apply C_alloc | apply C_drew)) hb_); clear HIC; have HIC := ZHIC; clear ZHIC
  have n_ := Aside0.mk (below_step (by repeat (first | exact HB.out | apply below_alloc | apply pw_below_drewN | apply below_drew1 | refine below_set ?_ (by first | omega | (simp; omega)))) hb_); clear HB hb_; have HB := n_; clear n_
  have HQC := Aside0.mk hQ
  have HKW := Aside0.mk (show kI.K w15 it row.1 from kI.K_below hb2 (kI.K_below (below_alloc (Below.refl _ _) _) HKR.out))
  clear hQ hb2 HKR
  rw [hvb] at *
  clear hvb
  obtain ⟨rs, hrs, hf⟩ := fitI_of HIC.out
  have HRS := Aside0.mk (show (kV 4).C w15 I N rs from hrs)
  have HF := Aside0.mk hf
  have HFA := Aside0.mk (FitI.append HF.out (FitI.one HKW.out))
  have hrl : rs.length = N := Kd.C_len hrs
  have hrl2 : (rs ++ [row]).length ≤ 1000000000000 := by simp [hrl]; omega
  have HOA := Aside0.mk (show ∀ x ∈ its ++ [it], okI x by
    intro x hx
    rw [List.mem_append, List.mem_singleton] at hx
    rcases hx with hx | rfl
    · exact HOK.out x hx
    · exact HOI.out)
  have HMA := Aside0.mk (show (its ++ [it]).map (chk t) = bs ++ [r] by rw [List.map_append, HBS.out, ← HRE.out]; rfl)
  have hlen1 : (rs ++ [row]).length = N + 1 := by simp [hrl]
  clear hrs hf
  go_upto_region 6 with (fail)
  refine wp_region_held_drew (S := (fun w' => Below w15.heap.size w15 w' ∧ (∀ j, w'.cell? ⟨vb, j, none⟩ = (#[.slice A0 it.f0.length c0, .int .u64 it.f1, .bool it.f2.f0, .slice A3 it.f2.f1.length c3] : Array Value)[j]?))) (by kernel_rfl) ?hS19x0 (fun hHeld => ?hR19x0)
  case hS19x0 => ((try dsimp only); (first | exact ⟨below_drew1 (Below.refl _ _), rE⟩ | exact ⟨below_drew1 b0_, rE⟩ | exact ⟨j0, jE⟩ | exact ⟨below_alloc j0 _, fun j => (cell_alloc_old (Nat.lt_of_lt_of_le kE j0.size)).trans (jE j)⟩ | exact ⟨below_alloc (below_drew1 (Below.refl _ _)) _, fun j => (cell_alloc_old kE).trans (rE j)⟩ | assumption))
  refine wpAnyH_take (i := 0) (oi := ⟨some 33, _, _, _, _, _⟩) (v := ?_) rfl (by kernel_rfl) (by kernel_rfl) (by kernel_rfl) (fun _ _ _ h => h) (Or.inl ⟨by rfl, ?hY19x2⟩) (by assumption) ?hR19x2
  case hY19x2 => (intro w hSw; (try dsimp only at hSw); go_simp; try with_reducible rfl)
  (try simp only [Act.put, List.setIfInBounds_toArray, List.set_cons_zero, List.set_cons_succ])
  refine wpAnyH_take (i := 1) (oi := ⟨some 34, _, _, _, _, _⟩) (v := ?_) rfl (by kernel_rfl) (by kernel_rfl) (by kernel_rfl) (fun _ _ _ h => h) (Or.inl ⟨by rfl, ?hY19x3⟩) (by assumption) ?hR19x3
  case hY19x3 => (intro w hSw; (try dsimp only at hSw); go_simp; try with_reducible rfl)
  (try simp only [Act.put, List.setIfInBounds_toArray, List.set_cons_zero, List.set_cons_succ])
  refine wpAnyH_take (i := 3) (oi := ⟨some 36, _, _, _, _, _⟩) (v := ?_) rfl (by kernel_rfl) (by kernel_rfl) (by kernel_rfl) (fun _ _ _ h => h) (Or.inl ⟨by rfl, ?hY19x4⟩) (by assumption) ?hR19x4
  case hY19x4 => (intro w hSw; (try dsimp only at hSw); go_simp; try with_reducible rfl)
  (try simp only [Act.put, List.setIfInBounds_toArray, List.set_cons_zero, List.set_cons_succ])
  refine wpAnyH_ready (rs := [2, 4]) (by kernel_rfl) (by simp) ?_
  refine AllReadyH.cons (o := ⟨some 35, _, _, _, _, _⟩) rfl (fun K hK => ?hT19x5) (AllReadyH.cons (o := ⟨some 37, _, _, _, _, _⟩) rfl (fun K hK => ?hM19x5) AllReadyH.nil)
  case hT19x5 =>
    (obtain ⟨g0, gE⟩ := ‹Below w15.heap.size w15 _ ∧ _›; refine Kd.R_append_rows_step (kV 4) (w0 := w15) w15.heap.size (by rfl) (.const (.slice none 0 0)) (.tmp 34) 25 32 (.agg #[.slice none 0 0, .int .u64 0, .bool false, .slice none 0 0]) 64 rfl Try.underlying25 info32 rfl (by decide) (by omega) (.slice none 0 0) ([]) (rs) _ _ _ (fun _ => True) (fun _ => False) rfl rfl (Kd.R_nil _ _ _ _ _) (Kd.C_below HRS.out g0) (fun x cs h => (fun _ _ h => h) x cs h) (fun _ hk => hk.elim) (fun _ _ => trivial) g0 g0.size (by first | omega | (simp; omega)) ?_; (intro v2 w2 ho_ hb_ hg_ hat_; have HO2 := Aside0.mk ho_; have HG2 := Aside0.mk ((Below.refl _ _).grown (row := none) hg_ (Nat.le_refl _) (fun k hk => by cases hk)); clear ho_ hg_ hat_; have j0 := hb_; have jE := fun j => (j0.cell (p := ⟨vb, j, none⟩) kE).trans (rE j)))
    refine hK.out _ _ ?hS19x6 (fun hHeld => ?hR19x6)
    case hS19x6 => ((try dsimp only); (first | exact ⟨below_drew1 (Below.refl _ _), rE⟩ | exact ⟨below_drew1 b0_, rE⟩ | exact ⟨j0, jE⟩ | exact ⟨below_alloc j0 _, fun j => (cell_alloc_old (Nat.lt_of_lt_of_le kE j0.size)).trans (jE j)⟩ | exact ⟨below_alloc (below_drew1 (Below.refl _ _)) _, fun j => (cell_alloc_old kE).trans (rE j)⟩ | assumption))
    clear hK K
    (try simp only [Act.put, List.setIfInBounds_toArray, List.set_cons_zero, List.set_cons_succ])
    refine wpAnyH_ready (rs := [4]) (by kernel_rfl) (by simp) ?_
    refine AllReadyH.cons (o := ⟨some 37, _, _, _, _, _⟩) rfl (fun K hK => ?hT19x7) ?hM19x7
    case hM19x7 => exact AllReadyH.nil
    go_simp
    (try go_wp2_with fail)
    refine hK.out _ _ ?hS19x7 (fun hHeld => ?hR19x7)
    case hS19x7 => ((try dsimp only); (first | exact ⟨below_drew1 (Below.refl _ _), rE⟩ | exact ⟨below_drew1 b0_, rE⟩ | exact ⟨j0, jE⟩ | exact ⟨below_alloc j0 _, fun j => (cell_alloc_old (Nat.lt_of_lt_of_le kE j0.size)).trans (jE j)⟩ | exact ⟨below_alloc (below_drew1 (Below.refl _ _)) _, fun j => (cell_alloc_old kE).trans (rE j)⟩ | assumption))
    clear hK K
    (try simp only [Act.put, List.setIfInBounds_toArray, List.set_cons_zero, List.set_cons_succ])
    refine wpAnyH_ready (rs := [5]) (by kernel_rfl) (by simp) ?_
    refine AllReadyH.cons (o := ⟨some 38, _, _, _, _, _⟩) rfl (fun K hK => ?hT19x8) ?hM19x8
    case hM19x8 => exact AllReadyH.nil
    (obtain ⟨g0, gE⟩ := ‹Below w15.heap.size w15 _ ∧ _›; refine Kd.R_append_rows_step (kV 4) (w0 := w15) w15.heap.size (by rfl) (.tmp 35) (.tmp 37) 25 32 (.agg #[.slice none 0 0, .int .u64 0, .bool false, .slice none 0 0]) 64 rfl Try.underlying25 info32 rfl (by decide) (by omega) (v2) (rs) ([row]) _ _ _ (fun _ => True) (fun _ => False) rfl rfl ((by (with_reducible repeat (first | apply Kd.R_alloc | apply Kd.R_drewN | apply Kd.R_drew)); exact HO2.out)) (by first | exact (fun h => C_oneV row h HROW.out) Box.new | exact (fun h => C_oneV row h HROW.out) (Box.drew Box.new) | exact (fun h => C_oneV row h HROW.out) (Box.below (Box.drew Box.new) HG2.out) | exact (fun h => C_oneV row h HROW.out) (Box.below Box.new HG2.out)) (fun x cs h => (fun _ _ h => h) x cs h) (fun _ hk => hk.elim) (fun _ _ => trivial) g0 g0.size (by first | omega | (simp; omega)) ?_; (intro v5 w5 ho_ hb_ hg_ hat_; have HO5 := Aside0.mk ho_; clear ho_ hg_ hat_; have j0 := hb_; have jE := fun j => (j0.cell (p := ⟨vb, j, none⟩) kE).trans (rE j)); obtain ⟨A5, c5, rfl⟩ := Kd.R_slice HO5.out; rw [hlen1] at HO5)
    refine hK.out _ _ ?hS19x8 (fun hHeld => ?hR19x8)
    case hS19x8 => ((try dsimp only); (first | exact ⟨below_drew1 (Below.refl _ _), rE⟩ | exact ⟨below_drew1 b0_, rE⟩ | exact ⟨j0, jE⟩ | exact ⟨below_alloc j0 _, fun j => (cell_alloc_old (Nat.lt_of_lt_of_le kE j0.size)).trans (jE j)⟩ | exact ⟨below_alloc (below_drew1 (Below.refl _ _)) _, fun j => (cell_alloc_old kE).trans (rE j)⟩ | assumption))
    clear hK K
    (try simp only [Act.put, List.setIfInBounds_toArray, List.set_cons_zero, List.set_cons_succ])
    refine wpAnyH_ready (rs := [6]) (by kernel_rfl) (by simp) ?_
    refine AllReadyH.cons (o := ⟨some 39, _, _, _, _, _⟩) rfl (fun K hK => ?hT19x9) ?hM19x9
    case hM19x9 => exact AllReadyH.nil
    go_simp
    (first | (go_at_call 11; obtain ⟨g0, gE⟩ := ‹Below w15.heap.size w15 _ ∧ _›; ((with_reducible refine (findR T _ kt t A5 _ c5 (its ++ [it]) (bs ++ [r]) _ _ (rs ++ [row]) (Kd.C_below HTC.out g0) hkt (by (with_reducible repeat (first | apply Kd.R_alloc | apply Kd.R_drewN | apply Kd.R_drew)); exact HO5.out) (HFA.out.below g0) HOA.out hrl2 HMA.out rfl).mono ?_));  rintro e w6 ⟨Q6, rfl, hQ6, hb_⟩; have j0 := below_step g0 hb_; have s6 := j0.size; have jE := fun j => (j0.cell (p := ⟨vb, j, none⟩) kE).trans (rE j)))
    (try go_wp2_with fail)
    refine hK.out _ _ ?hS19x9 (fun hHeld => ?hR19x9)
    case hS19x9 => ((try dsimp only); (first | exact ⟨below_drew1 (Below.refl _ _), rE⟩ | exact ⟨below_drew1 b0_, rE⟩ | exact ⟨j0, jE⟩ | exact ⟨below_alloc j0 _, fun j => (cell_alloc_old (Nat.lt_of_lt_of_le kE j0.size)).trans (jE j)⟩ | exact ⟨below_alloc (below_drew1 (Below.refl _ _)) _, fun j => (cell_alloc_old kE).trans (rE j)⟩ | assumption))
    clear hK K
    (try simp only [Act.put, List.setIfInBounds_toArray, List.set_cons_zero, List.set_cons_succ])
    refine wpAnyH_take (i := 7) (oi := ⟨some 32, _, _, _, _, _⟩) (v := ?_) rfl (by kernel_rfl) (by kernel_rfl) (by kernel_rfl) (fun _ _ _ h => h) (Or.inl ⟨by rfl, ?hY19x10⟩) (by assumption) ?hR19x10
    case hY19x10 => (intro w hSw; (try dsimp only at hSw); go_simp; try with_reducible rfl)
    (try simp only [Act.put, List.setIfInBounds_toArray, List.set_cons_zero, List.set_cons_succ])
    refine wpAnyH_take (i := 8) (oi := ⟨some 40, _, _, _, _, _⟩) (v := ?_) rfl (by kernel_rfl) (by kernel_rfl) (by kernel_rfl) (fun _ _ _ h => h) (Or.inl ⟨by rfl, ?hY19x11⟩) (by assumption) ?hR19x11
    case hY19x11 => (intro w hSw; (try dsimp only at hSw); go_simp; try with_reducible rfl)
    (try simp only [Act.put, List.setIfInBounds_toArray, List.set_cons_zero, List.set_cons_succ])
    refine wpAnyH_take (i := 9) (oi := ⟨some 41, _, _, _, _, _⟩) (v := ?_) rfl (by kernel_rfl) (by kernel_rfl) (by kernel_rfl) (fun _ _ _ h => h) (Or.inl ⟨by rfl, ?hY19x12⟩) (by assumption) ?hR19x12
    case hY19x12 => (intro w hSw; (try dsimp only at hSw); go_simp; try with_reducible rfl)
    (try simp only [Act.put, List.setIfInBounds_toArray, List.set_cons_zero, List.set_cons_succ])
    refine wpAnyH_take (i := 10) (oi := ⟨some 13, _, _, _, _, _⟩) (v := ?_) rfl (by kernel_rfl) (by kernel_rfl) (by kernel_rfl) (fun _ _ _ h => h) (Or.inl ⟨by rfl, ?hY19x13⟩) (by assumption) ?hR19x13
    case hY19x13 => (intro w hSw; (try dsimp only at hSw); go_simp; try with_reducible rfl)
    (try simp only [Act.put, List.setIfInBounds_toArray, List.set_cons_zero, List.set_cons_succ])
    refine wpAnyH_take (i := 11) (oi := ⟨some 14, _, _, _, _, _⟩) (v := ?_) rfl (by kernel_rfl) (by kernel_rfl) (by kernel_rfl) (fun _ _ _ h => h) (Or.inl ⟨by rfl, ?hY19x14⟩) (by assumption) ?hR19x14
    case hY19x14 => (intro w hSw; (try dsimp only at hSw); go_simp; try with_reducible rfl)
    (try simp only [Act.put, List.setIfInBounds_toArray, List.set_cons_zero, List.set_cons_succ])
    refine wpAnyH_done (by kernel_rfl) ?_ _
    have HQ6 := Aside0.mk hQ6
    have HT6 := Aside0.mk (Kd.C_below HTC.out j0)
    have HQ0 := Aside0.mk (Kd.C_below HQC.out j0)
    have HK6 := Aside0.mk (kI.K_below j0 HKW.out)
    have HR6 := Aside0.mk (Kd.C_below HRS.out j0)
    have HF6 := Aside0.mk (HF.out.below j0)
    have n_ := Aside0.mk (below_step HB.out j0)
    clear HB hQ6 HTC HQC HKW HRS HF HIC XE rE fE kE
    have HB := n_
    clear n_
    have HOI1 := Aside0.mk (show ∀ x ∈ [it], okI x by intro x hx; obtain rfl := List.mem_singleton.1 hx; exact HOI.out)
    have HMI1 := Aside0.mk (show [it].map (chk t) = [r] by rw [← HRE.out]; rfl)
    go_wp2_with fail
    refine (findC T _ kt t _ 1 1 [it] [r] 1 _ (C_alloc HT6.out) hkt (liftI (C_oneV row Box.new HROW.out) (FitI.one (kI.K_below (below_alloc (Below.refl _ _) _) HK6.out))) (by omega) HOI1.out (by omega) HMI1.out (cnt_one _ _)).mono ?_
    rintro e w7 ⟨Q7, rfl, hQ7, hb_⟩
    have HT7 := Aside0.mk (Kd.C_below (C_alloc HT6.out) hb_)
    have HR7 := Aside0.mk (Kd.C_below (C_alloc HR6.out) hb_)
    have HQ07 := Aside0.mk (Kd.C_below (C_alloc HQ0.out) hb_)
    have HQ67 := Aside0.mk (Kd.C_below (C_alloc HQ6.out) hb_)
    have HQ7 := Aside0.mk hQ7
    have HF7 := Aside0.mk ((HF6.out.below (below_alloc (Below.refl _ _) _)).below hb_)
    have HW7 := Aside0.mk (below_step (below_alloc HB.out _) hb_)
    have HOD := Aside0.mk (show ∀ x ∈ its ++ its, okI x from fun x hx => by
      rcases List.mem_append.1 hx with hx | hx
      · exact HOK.out x hx
      · exact HOK.out x hx)
    have HMD := Aside0.mk (show (its ++ its).map (chk t) = bs ++ bs by rw [List.map_append, HBS.out])
    have hrl3 : (rs ++ rs).length ≤ 1000000000000 := by simp [hrl]; omega
    clear HB hb_ hQ7 HT6 HR6 HQ0 HQ6 HK6 HF6 HOI1 HMI1 HOA HMA HFA
    have HB := Aside0.mk (Below.refl w7.heap.size w7)
    have HO := Aside0.mk True.intro
    go_wp2_with (first | ((with_reducible refine gate_builtin (b := .append) (xs := #[.const (.slice none 0 0), .tmp 51]) rfl ?_); (try (refine gate_guard (by rfl) ?_; dsimp only)); at_builtin; go_must (refine Kd.R_append_rows (kV 4) (w0 := w7) w7.heap.size rfl (.const (.slice none 0 0)) (.tmp 51) 25 32 (.agg #[.slice none 0 0, .int .u64 0, .bool false, .slice none 0 0]) 64 rfl Try.underlying25 info32 rfl (by decide) (by omega) _ ([]) (rs) (_) (_) (_) (fun _ => True) (fun _ => False) rfl rfl ?aO HR7.out ?aK (fun _ hk => hk.elim) ?aF ?aB ?aS ?aL ?_; (case aK => exact (fun _ _ h => h)); (case aB => exact (by repeat (first | exact HB.out | apply below_alloc | apply pw_below_drewN | apply below_drew1 | refine below_set ?_ (by first | omega | (simp; omega))))); (case aF => exact (fun _ _ => trivial)); (case aO => exact (Kd.R_nil _ _ _ _ _)); (case aS => exact below_size (by repeat (first | exact HB.out | apply below_alloc | apply pw_below_drewN | apply below_drew1 | refine below_set ?_ (by first | omega | (simp; omega))))); (case aL => first | omega | (simp; omega)); intro v1 w1 ho_ hb_ hg_ hat_; skip; clear HB; clear HO; have HB := Aside0.mk hb_; have HO := Aside0.mk ho_; clear ho_ hb_ hg_ hat_; )) | ((with_reducible refine gate_builtin (b := .append) (xs := #[.tmp 52, .tmp 53]) rfl ?_); (try (refine gate_guard (by rfl) ?_; dsimp only)); at_builtin; go_must (refine Kd.R_append_rows (kV 4) (w0 := w7) w7.heap.size rfl (.tmp 52) (.tmp 53) 25 32 (.agg #[.slice none 0 0, .int .u64 0, .bool false, .slice none 0 0]) 64 rfl Try.underlying25 info32 rfl (by decide) (by omega) _ (rs) (rs) (_) (_) (_) (fun _ => True) (fun _ => False) rfl rfl ?aO (Aside0.mk (Kd.C_below HR7.out HB.out)).out ?aK (fun _ hk => hk.elim) ?aF ?aB ?aS ?aL ?_; (case aK => exact (fun _ _ hh => hh)); (case aB => exact (by repeat (first | exact HB.out | apply below_alloc | apply pw_below_drewN | apply below_drew1 | refine below_set ?_ (by first | omega | (simp; omega))))); (case aF => exact (fun _ _ => trivial)); (case aO => exact (by (with_reducible repeat (first | apply Kd.R_alloc | apply Kd.R_drewN | apply Kd.R_drew)); exact HO.out)); (case aS => exact below_size (by repeat (first | exact HB.out | apply below_alloc | apply pw_below_drewN | apply below_drew1 | refine below_set ?_ (by first | omega | (simp; omega))))); (case aL => first | omega | (simp; omega)); intro v1 w1 ho_ hb_ hg_ hat_; skip; clear HB; clear HO; have HB := Aside0.mk hb_; have HO := Aside0.mk ho_; clear ho_ hb_ hg_ hat_; )))
    obtain ⟨A8, c8, rfl⟩ := Kd.R_slice HO.out
    refine (findR T _ kt t A8 _ c8 (its ++ its) (bs ++ bs) _ _ (rs ++ rs) (Kd.C_below HT7.out HB.out) hkt HO.out ((HF7.out.below HB.out).append (HF7.out.below HB.out)) HOD.out hrl3 HMD.out rfl).mono ?_
    rintro e w8 ⟨Q8, rfl, hQ8, hb_⟩
    have hrl4 : (rs ++ rs).length = N + N := by simp [hrl]
    rw [hrl4] at hQ8 ⊢
    have HQ8 := Aside0.mk hQ8
    have HQ08 := Aside0.mk (Kd.C_below (Kd.C_below HQ07.out HB.out) hb_)
    have HQ68 := Aside0.mk (Kd.C_below (Kd.C_below HQ67.out HB.out) hb_)
    have HQ78 := Aside0.mk (Kd.C_below (Kd.C_below HQ7.out HB.out) hb_)
    have HB8 := Aside0.mk (below_step (below_step HW7.out HB.out) hb_)
    have hbl := Kd.C_len HQ08.out
    clear HB hb_ hQ8 HQ07 HQ67 HQ7 HT7 HR7 HF7 HW7 HO
    have HB := HB8
    clear HB8
    have HW := HB
    clear HB
    have HB := Aside0.mk (Below.refl w8.heap.size w8)
    have HO := Aside0.mk True.intro
    go_wp2_with (first | ((with_reducible refine gate_builtin (b := .append) (xs := #[.const (.slice none 0 0), .tmp 70]) rfl ?_); (try (refine gate_guard (by rfl) ?_; dsimp only)); at_builtin; go_must (refine Kd.R_append_rows (Kd.bool) (w0 := w8) w8.heap.size rfl (.const (.slice none 0 0)) (.tmp 70) 37 4 (.bool false) 1 rfl Try.underlying37 info4 rfl (by decide) (by omega) _ ([]) (bs) (_) (_) (_) (fun _ => True) (fun _ => False) rfl rfl ?aO HQ08.out ?aK (fun _ hk => hk.elim) ?aF ?aB ?aS ?aL ?_; (case aK => exact (fun x cs h => h)); (case aB => exact (by repeat (first | exact HB.out | apply below_alloc | apply pw_below_drewN | apply below_drew1 | refine below_set ?_ (by first | omega | (simp; omega))))); (case aF => exact (fun _ _ => trivial)); (case aO => exact (Kd.R_nil _ _ _ _ _)); (case aS => exact below_size (by repeat (first | exact HB.out | apply below_alloc | apply pw_below_drewN | apply below_drew1 | refine below_set ?_ (by first | omega | (simp; omega))))); (case aL => first | omega | (simp; omega)); intro v1 w1 ho_ hb_ hg_ hat_; skip; clear HB; clear HO; have HB := Aside0.mk hb_; have HO := Aside0.mk ho_; clear ho_ hb_ hg_ hat_; )) | ((with_reducible refine gate_builtin (b := .append) (xs := #[.tmp 71, .tmp 72]) rfl ?_); (try (refine gate_guard (by rfl) ?_; dsimp only)); at_builtin; go_must (refine Kd.R_append_rows (Kd.bool) (w0 := w8) w8.heap.size rfl (.tmp 71) (.tmp 72) 37 4 (.bool false) 1 rfl Try.underlying37 info4 rfl (by decide) (by omega) _ (bs) ([r]) (_) (_) (_) (fun _ => True) (fun _ => False) rfl rfl ?aO (Aside0.mk (Kd.C_below HQ78.out HB.out)).out ?aK (fun _ hk => hk.elim) ?aF ?aB ?aS ?aL ?_; (case aK => exact (fun _ _ hh => hh)); (case aB => exact (by repeat (first | exact HB.out | apply below_alloc | apply pw_below_drewN | apply below_drew1 | refine below_set ?_ (by first | omega | (simp; omega))))); (case aF => exact (fun _ _ => trivial)); (case aO => exact (by (with_reducible repeat (first | apply Kd.R_alloc | apply Kd.R_drewN | apply Kd.R_drew)); exact HO.out)); (case aS => exact below_size (by repeat (first | exact HB.out | apply below_alloc | apply pw_below_drewN | apply below_drew1 | refine below_set ?_ (by first | omega | (simp; omega))))); (case aL => first | omega | (simp; omega)); intro v1 w1 ho_ hb_ hg_ hat_; skip; clear HB; clear HO; have HB := Aside0.mk hb_; have HO := Aside0.mk ho_; clear ho_ hb_ hg_ hat_; )))
    obtain ⟨Av, cv, rfl⟩ := Kd.R_slice HO.out
    refine (boolsC (some Q6) Av (N + 1) (N + 1) _ cv _ _ _ (Kd.C_below HQ68.out HB.out) (Nat.le_refl _) (Kd.R_reads' HO.out).2.2 (Kd.R_reads' HO.out).2.1 (by omega) rfl).mono ?_
    rintro e w9 ⟨rfl, hb_⟩
    have HQ09 := Aside0.mk (Kd.C_below (Kd.C_below HQ08.out HB.out) hb_)
    have HQ89 := Aside0.mk (Kd.C_below (Kd.C_below HQ8.out HB.out) hb_)
    have HB9 := Aside0.mk (below_step (below_step HW.out HB.out) hb_)
    clear HB HW HO HQ08 HQ8 HQ68 HQ78 hb_
    have HB := HB9
    clear HB9
    have HW := HB
    clear HB
    have HB := Aside0.mk (Below.refl w9.heap.size w9)
    have HO := Aside0.mk True.intro
    go_wp2_with (first | ((with_reducible refine gate_builtin (b := .append) (xs := #[.const (.slice none 0 0), .tmp 78]) rfl ?_); (try (refine gate_guard (by rfl) ?_; dsimp only)); at_builtin; go_must (refine Kd.R_append_rows (Kd.bool) (w0 := w9) w9.heap.size rfl (.const (.slice none 0 0)) (.tmp 78) 37 4 (.bool false) 1 rfl Try.underlying37 info4 rfl (by decide) (by omega) _ ([]) (bs) (_) (_) (_) (fun _ => True) (fun _ => False) rfl rfl ?aO HQ09.out ?aK (fun _ hk => hk.elim) ?aF ?aB ?aS ?aL ?_; (case aK => exact (fun x cs h => h)); (case aB => exact (by repeat (first | exact HB.out | apply below_alloc | apply pw_below_drewN | apply below_drew1 | refine below_set ?_ (by first | omega | (simp; omega))))); (case aF => exact (fun _ _ => trivial)); (case aO => exact (Kd.R_nil _ _ _ _ _)); (case aS => exact below_size (by repeat (first | exact HB.out | apply below_alloc | apply pw_below_drewN | apply below_drew1 | refine below_set ?_ (by first | omega | (simp; omega))))); (case aL => first | omega | (simp; omega)); intro v1 w1 ho_ hb_ hg_ hat_; skip; clear HB; clear HO; have HB := Aside0.mk hb_; have HO := Aside0.mk ho_; clear ho_ hb_ hg_ hat_; )) | ((with_reducible refine gate_builtin (b := .append) (xs := #[.tmp 79, .tmp 80]) rfl ?_); (try (refine gate_guard (by rfl) ?_; dsimp only)); at_builtin; go_must (refine Kd.R_append_rows (Kd.bool) (w0 := w9) w9.heap.size rfl (.tmp 79) (.tmp 80) 37 4 (.bool false) 1 rfl Try.underlying37 info4 rfl (by decide) (by omega) _ (bs) (bs) (_) (_) (_) (fun _ => True) (fun _ => False) rfl rfl ?aO (Aside0.mk (Kd.C_below HQ09.out HB.out)).out ?aK (fun _ hk => hk.elim) ?aF ?aB ?aS ?aL ?_; (case aK => exact (fun _ _ hh => hh)); (case aB => exact (by repeat (first | exact HB.out | apply below_alloc | apply pw_below_drewN | apply below_drew1 | refine below_set ?_ (by first | omega | (simp; omega))))); (case aF => exact (fun _ _ => trivial)); (case aO => exact (by (with_reducible repeat (first | apply Kd.R_alloc | apply Kd.R_drewN | apply Kd.R_drew)); exact HO.out)); (case aS => exact below_size (by repeat (first | exact HB.out | apply below_alloc | apply pw_below_drewN | apply below_drew1 | refine below_set ?_ (by first | omega | (simp; omega))))); (case aL => first | omega | (simp; omega)); intro v1 w1 ho_ hb_ hg_ hat_; skip; clear HB; clear HO; have HB := Aside0.mk hb_; have HO := Aside0.mk ho_; clear ho_ hb_ hg_ hat_; )))
    obtain ⟨Av, cv, rfl⟩ := Kd.R_slice HO.out
    refine (boolsC (some Q8) Av (N + N) (N + N) _ cv _ _ _ (Kd.C_below HQ89.out HB.out) (Nat.le_refl _) (Kd.R_reads' HO.out).2.2 (Kd.R_reads' HO.out).2.1 (by omega) rfl).mono ?_
    rintro e w10 ⟨rfl, hb_⟩
    go_wp2
    go_ret
    exact ⟨rfl, below_step (below_step HW.out HB.out) hb_⟩
  case hM19x5 =>
    go_simp
    (try go_wp2_with fail)
    refine hK.out _ _ ?hS19x15 (fun hHeld => ?hR19x15)
    case hS19x15 => ((try dsimp only); (first | exact ⟨below_drew1 (Below.refl _ _), rE⟩ | exact ⟨below_drew1 b0_, rE⟩ | exact ⟨j0, jE⟩ | exact ⟨below_alloc j0 _, fun j => (cell_alloc_old (Nat.lt_of_lt_of_le kE j0.size)).trans (jE j)⟩ | exact ⟨below_alloc (below_drew1 (Below.refl _ _)) _, fun j => (cell_alloc_old kE).trans (rE j)⟩ | assumption))
    clear hK K
    (try simp only [Act.put, List.setIfInBounds_toArray, List.set_cons_zero, List.set_cons_succ])
    refine wpAnyH_ready (rs := [2]) (by kernel_rfl) (by simp) ?_
    refine AllReadyH.cons (o := ⟨some 35, _, _, _, _, _⟩) rfl (fun K hK => ?hT19x16) ?hM19x16
    case hM19x16 => exact AllReadyH.nil
    (obtain ⟨g0, gE⟩ := ‹Below w15.heap.size w15 _ ∧ _›; refine Kd.R_append_rows_step (kV 4) (w0 := w15) w15.heap.size (by rfl) (.const (.slice none 0 0)) (.tmp 34) 25 32 (.agg #[.slice none 0 0, .int .u64 0, .bool false, .slice none 0 0]) 64 rfl Try.underlying25 info32 rfl (by decide) (by omega) (.slice none 0 0) ([]) (rs) _ _ _ (fun _ => True) (fun _ => False) rfl rfl (Kd.R_nil _ _ _ _ _) (Kd.C_below HRS.out g0) (fun x cs h => (fun _ _ h => h) x cs h) (fun _ hk => hk.elim) (fun _ _ => trivial) g0 g0.size (by first | omega | (simp; omega)) ?_; (intro v2 w2 ho_ hb_ hg_ hat_; have HO2 := Aside0.mk ho_; have HG2 := Aside0.mk ((Below.refl _ _).grown (row := none) hg_ (Nat.le_refl _) (fun k hk => by cases hk)); clear ho_ hg_ hat_; have j0 := hb_; have jE := fun j => (j0.cell (p := ⟨vb, j, none⟩) kE).trans (rE j)))
    refine hK.out _ _ ?hS19x16 (fun hHeld => ?hR19x16)
    case hS19x16 => ((try dsimp only); (first | exact ⟨below_drew1 (Below.refl _ _), rE⟩ | exact ⟨below_drew1 b0_, rE⟩ | exact ⟨j0, jE⟩ | exact ⟨below_alloc j0 _, fun j => (cell_alloc_old (Nat.lt_of_lt_of_le kE j0.size)).trans (jE j)⟩ | exact ⟨below_alloc (below_drew1 (Below.refl _ _)) _, fun j => (cell_alloc_old kE).trans (rE j)⟩ | assumption))
    clear hK K
    (try simp only [Act.put, List.setIfInBounds_toArray, List.set_cons_zero, List.set_cons_succ])
    refine wpAnyH_ready (rs := [5]) (by kernel_rfl) (by simp) ?_
    refine AllReadyH.cons (o := ⟨some 38, _, _, _, _, _⟩) rfl (fun K hK => ?hT19x17) ?hM19x17
    case hM19x17 => exact AllReadyH.nil
    (obtain ⟨g0, gE⟩ := ‹Below w15.heap.size w15 _ ∧ _›; refine Kd.R_append_rows_step (kV 4) (w0 := w15) w15.heap.size (by rfl) (.tmp 35) (.tmp 37) 25 32 (.agg #[.slice none 0 0, .int .u64 0, .bool false, .slice none 0 0]) 64 rfl Try.underlying25 info32 rfl (by decide) (by omega) (v2) (rs) ([row]) _ _ _ (fun _ => True) (fun _ => False) rfl rfl ((by (with_reducible repeat (first | apply Kd.R_alloc | apply Kd.R_drewN | apply Kd.R_drew)); exact HO2.out)) (by first | exact (fun h => C_oneV row h HROW.out) Box.new | exact (fun h => C_oneV row h HROW.out) (Box.drew Box.new) | exact (fun h => C_oneV row h HROW.out) (Box.below (Box.drew Box.new) HG2.out) | exact (fun h => C_oneV row h HROW.out) (Box.below Box.new HG2.out)) (fun x cs h => (fun _ _ h => h) x cs h) (fun _ hk => hk.elim) (fun _ _ => trivial) g0 g0.size (by first | omega | (simp; omega)) ?_; (intro v5 w5 ho_ hb_ hg_ hat_; have HO5 := Aside0.mk ho_; clear ho_ hg_ hat_; have j0 := hb_; have jE := fun j => (j0.cell (p := ⟨vb, j, none⟩) kE).trans (rE j)); obtain ⟨A5, c5, rfl⟩ := Kd.R_slice HO5.out; rw [hlen1] at HO5)
    refine hK.out _ _ ?hS19x17 (fun hHeld => ?hR19x17)
    case hS19x17 => ((try dsimp only); (first | exact ⟨below_drew1 (Below.refl _ _), rE⟩ | exact ⟨below_drew1 b0_, rE⟩ | exact ⟨j0, jE⟩ | exact ⟨below_alloc j0 _, fun j => (cell_alloc_old (Nat.lt_of_lt_of_le kE j0.size)).trans (jE j)⟩ | exact ⟨below_alloc (below_drew1 (Below.refl _ _)) _, fun j => (cell_alloc_old kE).trans (rE j)⟩ | assumption))
    clear hK K
    (try simp only [Act.put, List.setIfInBounds_toArray, List.set_cons_zero, List.set_cons_succ])
    refine wpAnyH_ready (rs := [6]) (by kernel_rfl) (by simp) ?_
    refine AllReadyH.cons (o := ⟨some 39, _, _, _, _, _⟩) rfl (fun K hK => ?hT19x18) ?hM19x18
    case hM19x18 => exact AllReadyH.nil
    go_simp
    (first | (go_at_call 11; obtain ⟨g0, gE⟩ := ‹Below w15.heap.size w15 _ ∧ _›; ((with_reducible refine (findR T _ kt t A5 _ c5 (its ++ [it]) (bs ++ [r]) _ _ (rs ++ [row]) (Kd.C_below HTC.out g0) hkt (by (with_reducible repeat (first | apply Kd.R_alloc | apply Kd.R_drewN | apply Kd.R_drew)); exact HO5.out) (HFA.out.below g0) HOA.out hrl2 HMA.out rfl).mono ?_));  rintro e w6 ⟨Q6, rfl, hQ6, hb_⟩; have j0 := below_step g0 hb_; have s6 := j0.size; have jE := fun j => (j0.cell (p := ⟨vb, j, none⟩) kE).trans (rE j)))
    (try go_wp2_with fail)
    refine hK.out _ _ ?hS19x18 (fun hHeld => ?hR19x18)
    case hS19x18 => ((try dsimp only); (first | exact ⟨below_drew1 (Below.refl _ _), rE⟩ | exact ⟨below_drew1 b0_, rE⟩ | exact ⟨j0, jE⟩ | exact ⟨below_alloc j0 _, fun j => (cell_alloc_old (Nat.lt_of_lt_of_le kE j0.size)).trans (jE j)⟩ | exact ⟨below_alloc (below_drew1 (Below.refl _ _)) _, fun j => (cell_alloc_old kE).trans (rE j)⟩ | assumption))
    clear hK K
    (try simp only [Act.put, List.setIfInBounds_toArray, List.set_cons_zero, List.set_cons_succ])
    refine wpAnyH_take (i := 7) (oi := ⟨some 32, _, _, _, _, _⟩) (v := ?_) rfl (by kernel_rfl) (by kernel_rfl) (by kernel_rfl) (fun _ _ _ h => h) (Or.inl ⟨by rfl, ?hY19x19⟩) (by assumption) ?hR19x19
    case hY19x19 => (intro w hSw; (try dsimp only at hSw); go_simp; try with_reducible rfl)
    (try simp only [Act.put, List.setIfInBounds_toArray, List.set_cons_zero, List.set_cons_succ])
    refine wpAnyH_take (i := 8) (oi := ⟨some 40, _, _, _, _, _⟩) (v := ?_) rfl (by kernel_rfl) (by kernel_rfl) (by kernel_rfl) (fun _ _ _ h => h) (Or.inl ⟨by rfl, ?hY19x20⟩) (by assumption) ?hR19x20
    case hY19x20 => (intro w hSw; (try dsimp only at hSw); go_simp; try with_reducible rfl)
    (try simp only [Act.put, List.setIfInBounds_toArray, List.set_cons_zero, List.set_cons_succ])
    refine wpAnyH_take (i := 9) (oi := ⟨some 41, _, _, _, _, _⟩) (v := ?_) rfl (by kernel_rfl) (by kernel_rfl) (by kernel_rfl) (fun _ _ _ h => h) (Or.inl ⟨by rfl, ?hY19x21⟩) (by assumption) ?hR19x21
    case hY19x21 => (intro w hSw; (try dsimp only at hSw); go_simp; try with_reducible rfl)
    (try simp only [Act.put, List.setIfInBounds_toArray, List.set_cons_zero, List.set_cons_succ])
    refine wpAnyH_take (i := 10) (oi := ⟨some 13, _, _, _, _, _⟩) (v := ?_) rfl (by kernel_rfl) (by kernel_rfl) (by kernel_rfl) (fun _ _ _ h => h) (Or.inl ⟨by rfl, ?hY19x22⟩) (by assumption) ?hR19x22
    case hY19x22 => (intro w hSw; (try dsimp only at hSw); go_simp; try with_reducible rfl)
    (try simp only [Act.put, List.setIfInBounds_toArray, List.set_cons_zero, List.set_cons_succ])
    refine wpAnyH_take (i := 11) (oi := ⟨some 14, _, _, _, _, _⟩) (v := ?_) rfl (by kernel_rfl) (by kernel_rfl) (by kernel_rfl) (fun _ _ _ h => h) (Or.inl ⟨by rfl, ?hY19x23⟩) (by assumption) ?hR19x23
    case hY19x23 => (intro w hSw; (try dsimp only at hSw); go_simp; try with_reducible rfl)
    (try simp only [Act.put, List.setIfInBounds_toArray, List.set_cons_zero, List.set_cons_succ])
    refine wpAnyH_done (by kernel_rfl) ?_ _
    have HQ6 := Aside0.mk hQ6
    have HT6 := Aside0.mk (Kd.C_below HTC.out j0)
    have HQ0 := Aside0.mk (Kd.C_below HQC.out j0)
    have HK6 := Aside0.mk (kI.K_below j0 HKW.out)
    have HR6 := Aside0.mk (Kd.C_below HRS.out j0)
    have HF6 := Aside0.mk (HF.out.below j0)
    have n_ := Aside0.mk (below_step HB.out j0)
    clear HB hQ6 HTC HQC HKW HRS HF HIC XE rE fE kE
    have HB := n_
    clear n_
    have HOI1 := Aside0.mk (show ∀ x ∈ [it], okI x by intro x hx; obtain rfl := List.mem_singleton.1 hx; exact HOI.out)
    have HMI1 := Aside0.mk (show [it].map (chk t) = [r] by rw [← HRE.out]; rfl)
    go_wp2_with fail
    refine (findC T _ kt t _ 1 1 [it] [r] 1 _ (C_alloc HT6.out) hkt (liftI (C_oneV row Box.new HROW.out) (FitI.one (kI.K_below (below_alloc (Below.refl _ _) _) HK6.out))) (by omega) HOI1.out (by omega) HMI1.out (cnt_one _ _)).mono ?_
    rintro e w7 ⟨Q7, rfl, hQ7, hb_⟩
    have HT7 := Aside0.mk (Kd.C_below (C_alloc HT6.out) hb_)
    have HR7 := Aside0.mk (Kd.C_below (C_alloc HR6.out) hb_)
    have HQ07 := Aside0.mk (Kd.C_below (C_alloc HQ0.out) hb_)
    have HQ67 := Aside0.mk (Kd.C_below (C_alloc HQ6.out) hb_)
    have HQ7 := Aside0.mk hQ7
    have HF7 := Aside0.mk ((HF6.out.below (below_alloc (Below.refl _ _) _)).below hb_)
    have HW7 := Aside0.mk (below_step (below_alloc HB.out _) hb_)
    have HOD := Aside0.mk (show ∀ x ∈ its ++ its, okI x from fun x hx => by
      rcases List.mem_append.1 hx with hx | hx
      · exact HOK.out x hx
      · exact HOK.out x hx)
    have HMD := Aside0.mk (show (its ++ its).map (chk t) = bs ++ bs by rw [List.map_append, HBS.out])
    have hrl3 : (rs ++ rs).length ≤ 1000000000000 := by simp [hrl]; omega
    clear HB hb_ hQ7 HT6 HR6 HQ0 HQ6 HK6 HF6 HOI1 HMI1 HOA HMA HFA
    have HB := Aside0.mk (Below.refl w7.heap.size w7)
    have HO := Aside0.mk True.intro
    go_wp2_with (first | ((with_reducible refine gate_builtin (b := .append) (xs := #[.const (.slice none 0 0), .tmp 51]) rfl ?_); (try (refine gate_guard (by rfl) ?_; dsimp only)); at_builtin; go_must (refine Kd.R_append_rows (kV 4) (w0 := w7) w7.heap.size rfl (.const (.slice none 0 0)) (.tmp 51) 25 32 (.agg #[.slice none 0 0, .int .u64 0, .bool false, .slice none 0 0]) 64 rfl Try.underlying25 info32 rfl (by decide) (by omega) _ ([]) (rs) (_) (_) (_) (fun _ => True) (fun _ => False) rfl rfl ?aO HR7.out ?aK (fun _ hk => hk.elim) ?aF ?aB ?aS ?aL ?_; (case aK => exact (fun _ _ h => h)); (case aB => exact (by repeat (first | exact HB.out | apply below_alloc | apply pw_below_drewN | apply below_drew1 | refine below_set ?_ (by first | omega | (simp; omega))))); (case aF => exact (fun _ _ => trivial)); (case aO => exact (Kd.R_nil _ _ _ _ _)); (case aS => exact below_size (by repeat (first | exact HB.out | apply below_alloc | apply pw_below_drewN | apply below_drew1 | refine below_set ?_ (by first | omega | (simp; omega))))); (case aL => first | omega | (simp; omega)); intro v1 w1 ho_ hb_ hg_ hat_; skip; clear HB; clear HO; have HB := Aside0.mk hb_; have HO := Aside0.mk ho_; clear ho_ hb_ hg_ hat_; )) | ((with_reducible refine gate_builtin (b := .append) (xs := #[.tmp 52, .tmp 53]) rfl ?_); (try (refine gate_guard (by rfl) ?_; dsimp only)); at_builtin; go_must (refine Kd.R_append_rows (kV 4) (w0 := w7) w7.heap.size rfl (.tmp 52) (.tmp 53) 25 32 (.agg #[.slice none 0 0, .int .u64 0, .bool false, .slice none 0 0]) 64 rfl Try.underlying25 info32 rfl (by decide) (by omega) _ (rs) (rs) (_) (_) (_) (fun _ => True) (fun _ => False) rfl rfl ?aO (Aside0.mk (Kd.C_below HR7.out HB.out)).out ?aK (fun _ hk => hk.elim) ?aF ?aB ?aS ?aL ?_; (case aK => exact (fun _ _ hh => hh)); (case aB => exact (by repeat (first | exact HB.out | apply below_alloc | apply pw_below_drewN | apply below_drew1 | refine below_set ?_ (by first | omega | (simp; omega))))); (case aF => exact (fun _ _ => trivial)); (case aO => exact (by (with_reducible repeat (first | apply Kd.R_alloc | apply Kd.R_drewN | apply Kd.R_drew)); exact HO.out)); (case aS => exact below_size (by repeat (first | exact HB.out | apply below_alloc | apply pw_below_drewN | apply below_drew1 | refine below_set ?_ (by first | omega | (simp; omega))))); (case aL => first | omega | (simp; omega)); intro v1 w1 ho_ hb_ hg_ hat_; skip; clear HB; clear HO; have HB := Aside0.mk hb_; have HO := Aside0.mk ho_; clear ho_ hb_ hg_ hat_; )))
    obtain ⟨A8, c8, rfl⟩ := Kd.R_slice HO.out
    refine (findR T _ kt t A8 _ c8 (its ++ its) (bs ++ bs) _ _ (rs ++ rs) (Kd.C_below HT7.out HB.out) hkt HO.out ((HF7.out.below HB.out).append (HF7.out.below HB.out)) HOD.out hrl3 HMD.out rfl).mono ?_
    rintro e w8 ⟨Q8, rfl, hQ8, hb_⟩
    have hrl4 : (rs ++ rs).length = N + N := by simp [hrl]
    rw [hrl4] at hQ8 ⊢
    have HQ8 := Aside0.mk hQ8
    have HQ08 := Aside0.mk (Kd.C_below (Kd.C_below HQ07.out HB.out) hb_)
    have HQ68 := Aside0.mk (Kd.C_below (Kd.C_below HQ67.out HB.out) hb_)
    have HQ78 := Aside0.mk (Kd.C_below (Kd.C_below HQ7.out HB.out) hb_)
    have HB8 := Aside0.mk (below_step (below_step HW7.out HB.out) hb_)
    have hbl := Kd.C_len HQ08.out
    clear HB hb_ hQ8 HQ07 HQ67 HQ7 HT7 HR7 HF7 HW7 HO
    have HB := HB8
    clear HB8
    have HW := HB
    clear HB
    have HB := Aside0.mk (Below.refl w8.heap.size w8)
    have HO := Aside0.mk True.intro
    go_wp2_with (first | ((with_reducible refine gate_builtin (b := .append) (xs := #[.const (.slice none 0 0), .tmp 70]) rfl ?_); (try (refine gate_guard (by rfl) ?_; dsimp only)); at_builtin; go_must (refine Kd.R_append_rows (Kd.bool) (w0 := w8) w8.heap.size rfl (.const (.slice none 0 0)) (.tmp 70) 37 4 (.bool false) 1 rfl Try.underlying37 info4 rfl (by decide) (by omega) _ ([]) (bs) (_) (_) (_) (fun _ => True) (fun _ => False) rfl rfl ?aO HQ08.out ?aK (fun _ hk => hk.elim) ?aF ?aB ?aS ?aL ?_; (case aK => exact (fun x cs h => h)); (case aB => exact (by repeat (first | exact HB.out | apply below_alloc | apply pw_below_drewN | apply below_drew1 | refine below_set ?_ (by first | omega | (simp; omega))))); (case aF => exact (fun _ _ => trivial)); (case aO => exact (Kd.R_nil _ _ _ _ _)); (case aS => exact below_size (by repeat (first | exact HB.out | apply below_alloc | apply pw_below_drewN | apply below_drew1 | refine below_set ?_ (by first | omega | (simp; omega))))); (case aL => first | omega | (simp; omega)); intro v1 w1 ho_ hb_ hg_ hat_; skip; clear HB; clear HO; have HB := Aside0.mk hb_; have HO := Aside0.mk ho_; clear ho_ hb_ hg_ hat_; )) | ((with_reducible refine gate_builtin (b := .append) (xs := #[.tmp 71, .tmp 72]) rfl ?_); (try (refine gate_guard (by rfl) ?_; dsimp only)); at_builtin; go_must (refine Kd.R_append_rows (Kd.bool) (w0 := w8) w8.heap.size rfl (.tmp 71) (.tmp 72) 37 4 (.bool false) 1 rfl Try.underlying37 info4 rfl (by decide) (by omega) _ (bs) ([r]) (_) (_) (_) (fun _ => True) (fun _ => False) rfl rfl ?aO (Aside0.mk (Kd.C_below HQ78.out HB.out)).out ?aK (fun _ hk => hk.elim) ?aF ?aB ?aS ?aL ?_; (case aK => exact (fun _ _ hh => hh)); (case aB => exact (by repeat (first | exact HB.out | apply below_alloc | apply pw_below_drewN | apply below_drew1 | refine below_set ?_ (by first | omega | (simp; omega))))); (case aF => exact (fun _ _ => trivial)); (case aO => exact (by (with_reducible repeat (first | apply Kd.R_alloc | apply Kd.R_drewN | apply Kd.R_drew)); exact HO.out)); (case aS => exact below_size (by repeat (first | exact HB.out | apply below_alloc | apply pw_below_drewN | apply below_drew1 | refine below_set ?_ (by first | omega | (simp; omega))))); (case aL => first | omega | (simp; omega)); intro v1 w1 ho_ hb_ hg_ hat_; skip; clear HB; clear HO; have HB := Aside0.mk hb_; have HO := Aside0.mk ho_; clear ho_ hb_ hg_ hat_; )))
    obtain ⟨Av, cv, rfl⟩ := Kd.R_slice HO.out
    refine (boolsC (some Q6) Av (N + 1) (N + 1) _ cv _ _ _ (Kd.C_below HQ68.out HB.out) (Nat.le_refl _) (Kd.R_reads' HO.out).2.2 (Kd.R_reads' HO.out).2.1 (by omega) rfl).mono ?_
    rintro e w9 ⟨rfl, hb_⟩
    have HQ09 := Aside0.mk (Kd.C_below (Kd.C_below HQ08.out HB.out) hb_)
    have HQ89 := Aside0.mk (Kd.C_below (Kd.C_below HQ8.out HB.out) hb_)
    have HB9 := Aside0.mk (below_step (below_step HW.out HB.out) hb_)
    clear HB HW HO HQ08 HQ8 HQ68 HQ78 hb_
    have HB := HB9
    clear HB9
    have HW := HB
    clear HB
    have HB := Aside0.mk (Below.refl w9.heap.size w9)
    have HO := Aside0.mk True.intro
    go_wp2_with (first | ((with_reducible refine gate_builtin (b := .append) (xs := #[.const (.slice none 0 0), .tmp 78]) rfl ?_); (try (refine gate_guard (by rfl) ?_; dsimp only)); at_builtin; go_must (refine Kd.R_append_rows (Kd.bool) (w0 := w9) w9.heap.size rfl (.const (.slice none 0 0)) (.tmp 78) 37 4 (.bool false) 1 rfl Try.underlying37 info4 rfl (by decide) (by omega) _ ([]) (bs) (_) (_) (_) (fun _ => True) (fun _ => False) rfl rfl ?aO HQ09.out ?aK (fun _ hk => hk.elim) ?aF ?aB ?aS ?aL ?_; (case aK => exact (fun x cs h => h)); (case aB => exact (by repeat (first | exact HB.out | apply below_alloc | apply pw_below_drewN | apply below_drew1 | refine below_set ?_ (by first | omega | (simp; omega))))); (case aF => exact (fun _ _ => trivial)); (case aO => exact (Kd.R_nil _ _ _ _ _)); (case aS => exact below_size (by repeat (first | exact HB.out | apply below_alloc | apply pw_below_drewN | apply below_drew1 | refine below_set ?_ (by first | omega | (simp; omega))))); (case aL => first | omega | (simp; omega)); intro v1 w1 ho_ hb_ hg_ hat_; skip; clear HB; clear HO; have HB := Aside0.mk hb_; have HO := Aside0.mk ho_; clear ho_ hb_ hg_ hat_; )) | ((with_reducible refine gate_builtin (b := .append) (xs := #[.tmp 79, .tmp 80]) rfl ?_); (try (refine gate_guard (by rfl) ?_; dsimp only)); at_builtin; go_must (refine Kd.R_append_rows (Kd.bool) (w0 := w9) w9.heap.size rfl (.tmp 79) (.tmp 80) 37 4 (.bool false) 1 rfl Try.underlying37 info4 rfl (by decide) (by omega) _ (bs) (bs) (_) (_) (_) (fun _ => True) (fun _ => False) rfl rfl ?aO (Aside0.mk (Kd.C_below HQ09.out HB.out)).out ?aK (fun _ hk => hk.elim) ?aF ?aB ?aS ?aL ?_; (case aK => exact (fun _ _ hh => hh)); (case aB => exact (by repeat (first | exact HB.out | apply below_alloc | apply pw_below_drewN | apply below_drew1 | refine below_set ?_ (by first | omega | (simp; omega))))); (case aF => exact (fun _ _ => trivial)); (case aO => exact (by (with_reducible repeat (first | apply Kd.R_alloc | apply Kd.R_drewN | apply Kd.R_drew)); exact HO.out)); (case aS => exact below_size (by repeat (first | exact HB.out | apply below_alloc | apply pw_below_drewN | apply below_drew1 | refine below_set ?_ (by first | omega | (simp; omega))))); (case aL => first | omega | (simp; omega)); intro v1 w1 ho_ hb_ hg_ hat_; skip; clear HB; clear HO; have HB := Aside0.mk hb_; have HO := Aside0.mk ho_; clear ho_ hb_ hg_ hat_; )))
    obtain ⟨Av, cv, rfl⟩ := Kd.R_slice HO.out
    refine (boolsC (some Q8) Av (N + N) (N + N) _ cv _ _ _ (Kd.C_below HQ89.out HB.out) (Nat.le_refl _) (Kd.R_reads' HO.out).2.2 (Kd.R_reads' HO.out).2.1 (by omega) rfl).mono ?_
    rintro e w10 ⟨rfl, hb_⟩
    go_wp2
    go_ret
    exact ⟨rfl, below_step (below_step HW.out HB.out) hb_⟩
end Go.Proofs.Ytnfglkgkdechlaa


/- Items that are all wrong, or one of them (chapter 15), in plain Lean. -/
set_option linter.unusedVariables false
set_option linter.unusedSimpArgs false
namespace Go.Proofs.Ytnfglkgkdechlaa
open Go.RowKit Go.Proofs.YtnfglkgkdechlaaW.PrintWords Go.Proofs.YtnfglkgkdechlaaW.PrintLast Go.Proofs.YtnfglkgkdechlaaW.PrintMore
open Go.Proofs.Ytnfglkgkdechlaa.PQ

def forge (x : It) : It := { x with f2 := { x.f2 with f0 := true } }
def forgeN (i : Nat) (its : List It) : List It := (its.take i).map forge ++ its.drop i
theorem forgeN_len (i : Nat) (its : List It) : (forgeN i its).length = its.length := by
  unfold forgeN
  rw [List.length_append, List.length_map, List.length_take, List.length_drop]
  omega
theorem forgeN_zero (its : List It) : forgeN 0 its = its := by
  unfold forgeN
  rfl
theorem forgeN_all (its : List It) : forgeN its.length its = its.map forge := by
  unfold forgeN
  rw [List.take_length, List.drop_length, List.append_nil]
theorem forgeN_get (i : Nat) (its : List It) (hi : i < its.length) (z : It) : (forgeN i its).getD i z = its[i] := by
  unfold forgeN
  rw [List.getD_eq_getElem?_getD, List.getElem?_append_right (by rw [List.length_map, List.length_take]; omega), List.length_map, List.length_take, Nat.min_eq_left (by omega), Nat.sub_self, List.getElem?_drop, Nat.add_zero, List.getElem?_eq_getElem hi]
  rfl
theorem forgeN_set (i : Nat) (its : List It) (hi : i < its.length) : (forgeN i its).set i (forge its[i]) = forgeN (i + 1) its := by
  unfold forgeN
  rw [List.set_append, if_neg (by rw [List.length_map, List.length_take]; omega), List.length_map, List.length_take, Nat.min_eq_left (by omega), Nat.sub_self, List.drop_eq_getElem_cons hi, List.set_cons_zero, List.take_succ_eq_append_getElem hi, List.map_append, List.append_assoc]
  rfl
theorem okI_forge {x : It} (h : okI x) : okI (forge x) := h
theorem okI_forges {its : List It} (h : ∀ x ∈ its, okI x) : ∀ x ∈ its.map forge, okI x := fun x hx => by
  obtain ⟨y, hy, rfl⟩ := List.mem_map.1 hx
  exact okI_forge (h y hy)
theorem chk_forge (t : List Pr) (x : It) : chk t (forge x) = false := by
  unfold chk
  split
  · rfl
  · rw [if_pos (Or.inl (show (forge x).f2.f0 = true from rfl))]
theorem chk_forges (t : List Pr) (its : List It) : (its.map forge).map (chk t) = List.replicate its.length false := by
  rw [List.map_map]
  apply List.ext_getElem
  · simp
  · intro i h1 h2
    simp [chk_forge]
theorem cnt_wrong (f : It → Bool) : ∀ (n : Nat) (s : List It), s.length ≤ n → (∀ x ∈ s, f x = false) → cnt f s = 2 * s.length - 1
  | 0, s, h, _ => by
    rw [cnt_eq, if_pos (by omega)]
    omega
  | n + 1, s, h, hf => by
    rw [cnt_eq]
    split
    · omega
    · rename_i h0
      rw [if_neg (by
        rw [List.all_eq_true]
        intro ha
        have hm : s[0]'(by omega) ∈ s := List.getElem_mem (by omega)
        have h1 := ha _ hm
        rw [hf _ hm] at h1
        cases h1)]
      split
      · omega
      · rw [cnt_wrong f n (s.take _) (by rw [List.length_take]; omega) (fun x hx => hf x (List.mem_of_mem_take hx)), cnt_wrong f n (s.drop _) (by rw [List.length_drop]; omega) (fun x hx => hf x (List.mem_of_mem_drop hx)), List.length_take, List.length_drop]
        omega
theorem cnt_forges (t : List Pr) (its : List It) : cnt (chk t) (its.map forge) = 2 * its.length - 1 := by
  rw [cnt_wrong (chk t) _ _ (Nat.le_refl _) (fun x hx => by
    obtain ⟨y, _, rfl⟩ := List.mem_map.1 hx
    exact chk_forge t y), List.length_map]
theorem cnt_odd (f : It → Bool) : ∀ (n : Nat) (s : List It), s.length ≤ n → s.length ≠ 0 → cnt f s % 2 = 1
  | 0, s, h, h0 => absurd (by omega) h0
  | n + 1, s, h, h0 => by
    rw [cnt_eq, if_neg h0]
    split
    · rfl
    · split
      · rfl
      · have h1 := cnt_odd f n (s.take ((s.length + 1) / 2)) (by rw [List.length_take]; omega) (by rw [List.length_take]; omega)
        have h2 := cnt_odd f n (s.drop ((s.length + 1) / 2)) (by rw [List.length_drop]; omega) (by rw [List.length_drop]; omega)
        omega
theorem halv_pow : ∀ (j n : Nat), n ≤ j → n ≤ 2 ^ halv j n
  | 0, n, h => by
    have := Nat.pow_pos (n := halv 0 n) (show 0 < 2 by omega)
    omega
  | j + 1, n, h => by
    by_cases h1 : n ≤ 1
    · have := Nat.pow_pos (n := halv (j + 1) n) (show 0 < 2 by omega)
      omega
    · rw [halv_step j n (by omega) h, Nat.pow_succ]
      have := halv_pow j (n - n / 2) (by omega)
      omega
theorem cnt_mostF (f : It → Bool) (s : List It) (k : Nat) (hl : s.length = k) (hk : 1 ≤ k) (hw : wrongs f s ≤ 1) : (cnt f s : Int) ≤ mostF (k : Int) 1 := by
  have h1 := cnt_most f (halv k k) s (by rw [hl]; exact halv_pow k k (Nat.le_refl _))
  unfold mostF
  rw [if_neg (by omega), Int.toNat_natCast]
  have h2 : 2 * wrongs f s * halv k k ≤ 2 * halv k k := Nat.mul_le_mul_right _ (by omega)
  omega
def tbW : List Pr := [⟨1, 7⟩]
def itq (b : Bool) : It := ⟨[1], 7, ⟨b, tbW⟩⟩
def qs (k w : Nat) : List It := (List.range k).map fun i => itq (decide (i = w))
theorem qs_len (k w : Nat) : (qs k w).length = k := by simp [qs]
theorem qs_succ (k w : Nat) : qs (k + 1) w = qs k w ++ [itq (decide (k = w))] := by
  unfold qs
  rw [List.range_succ, List.map_append]
  rfl
theorem chk_itq (b : Bool) : chk tbW (itq b) = !b := by cases b <;> decide
theorem chk_qs (k w : Nat) : (qs k w).map (chk tbW) = (List.range k).map fun i => !decide (i = w) := by
  unfold qs
  rw [List.map_map]
  apply List.map_congr_left
  intro i _
  exact chk_itq _
theorem wrongs_qs : ∀ (k w : Nat), wrongs (chk tbW) (qs k w) = if w < k then 1 else 0
  | 0, w => by
    rw [if_neg (by omega)]
    rfl
  | k + 1, w => by
    have h := wrongs_qs k w
    have h2 : wrongs (chk tbW) (qs (k + 1) w) = wrongs (chk tbW) (qs k w) + wrongs (chk tbW) [itq (decide (k = w))] := by
      rw [qs_succ]
      unfold wrongs
      rw [List.filter_append, List.length_append]
    have h3 : wrongs (chk tbW) [itq (decide (k = w))] = if k = w then 1 else 0 := by
      unfold wrongs
      simp only [List.filter_cons, chk_itq, Bool.not_not, List.filter_nil]
      by_cases e : k = w <;> simp [e]
    rw [h2, h, h3]
    (repeat' split) <;> omega
theorem wrongs_qs1 (k w : Nat) : wrongs (chk tbW) (qs k w) ≤ 1 := by
  rw [wrongs_qs]
  split <;> omega
theorem okI_qs (k w : Nat) : ∀ x ∈ qs k w, okI x := by
  intro x hx
  obtain ⟨i, _, rfl⟩ := List.mem_map.1 hx
  refine ⟨fun x hx => ?_, fun p hp => ?_⟩
  · obtain rfl : x = 1 := by simpa [itq] using hx
    rfl
  · obtain rfl : p = ⟨1, 7⟩ := by simpa [itq, tbW] using hp
    rfl
/-- An element of the items is forged: all that is known of them stays. -/
theorem S_forge {e base : Nat} {W : World} {ok : Nat → Prop} {A : Option Addr} {n c : Nat} {its : List It} (i : Nat) (h : Kd.S kI e W base ok (.slice A n c) (forgeN i its)) (hi : i < its.length) :
    ∃ g u, A = some ⟨g, 0, none⟩ ∧ base ≤ g ∧ W.cell? ⟨g, i * 4 + 2, none⟩ = some (.bool u) ∧ W.frozen? ⟨g, i * 4 + 2, none⟩ = false ∧ Kd.S kI e (W.setCell ⟨g, i * 4 + 2, none⟩ (.bool true)) base ok (.slice A n c) (forgeN (i + 1) its) := by
  have hl := forgeN_len i its
  obtain ⟨g, cap, hv, hg, hgl, _⟩ := Kd.S_form h (by omega)
  obtain ⟨rfl, rfl, rfl⟩ : A = some ⟨g, 0, none⟩ ∧ n = (forgeN i its).length ∧ c = cap := by
    injection hv with h1 h2 h3
    exact ⟨h1, h2, h3⟩
  obtain ⟨oki, cs, hcl, hM, hcc, hfr, hoki, hH⟩ := Kd.S_elem h its[i] (i : Int) (by omega) (by omega)
  rw [Int.toNat_natCast] at hM hcc hfr
  rw [forgeN_get i its hi] at hM
  obtain ⟨v0, v3, rfl, g0, g3⟩ := k32_openM hM
  have h1 := (Kd.S_seg0 (seg := [.bool true]) (j := 2) (x' := forge its[i]) hH (by omega) (by omega) (by show 2 + 1 ≤ 4; omega) (k32_mkM W base oki (forge its[i]) g0 g3) (fun _ hk => hk)).1
  rw [Int.toNat_natCast, forgeN_set i its hi] at h1
  exact ⟨g, _, rfl, hg, hcc 2 _ rfl, hfr 2, h1⟩
/-- A row of one element in a box. -/
theorem R_box1 {α : Type} {d : Kd α} {W : World} {b T base : Nat} {ok : Nat → Prop} {x : α} {cs : List Value} (h : Box W b cs.toArray T) (hb : base ≤ b) (hok : ok b) (hM : d.M W base (fun k => ok k ∧ some k ≠ some b) x cs) : d.R T W base ok (.slice (some ⟨b, 0, none⟩) 1 1) [x] := by
  have hl := d.K_len (d.K_of_M hM)
  refine ⟨fun k hk => ?_, cs, ⟨by simp [hl], Or.inr ⟨b, 1, cs.toArray, rfl, hb, h, Nat.le_refl _, by unfold maxLen; omega, by simp [hl], by rw [List.length_singleton, Nat.one_mul, List.take_of_length_le (by rw [← hl]; exact Nat.le_refl _)]⟩⟩, ?_⟩
  · injection hk with hk
    subst hk
    exact hok
  · have h1 := Reps.snoc (Reps.none (d.M W base (fun k => ok k ∧ some k ≠ some b)) d.sz) hM hl
    rw [List.nil_append, List.nil_append] at h1
    exact h1
theorem itq_M {W : World} {base sz tb : Nat} (bq : Bool) (h1 : Box W sz #[.int .u64 1] 28) (h2 : Box W tb #[.int .u64 1, .int .u64 7] 52) (g1 : base ≤ sz) (g2 : base ≤ tb) :
    kI.M W base (fun k => k = sz ∨ k = tb) (itq bq) [.slice (some ⟨sz, 0, none⟩) 1 1, .int .u64 7, .bool bq, .slice (some ⟨tb, 0, none⟩) 1 1] := by
  refine k32_mkM W base _ (itq bq) (R_box1 (cs := [.int .u64 1]) h1 g1 (Or.inl rfl) rfl) (R_box1 (cs := [.int .u64 1, .int .u64 7]) h2 g2 (Or.inr rfl) (k52_mkM _ _ _ _))
end Go.Proofs.Ytnfglkgkdechlaa


/- BisectWrong (chapter 15): what its code does. -/
set_option linter.unusedVariables false
set_option linter.unusedSimpArgs false
namespace Go.Proofs.Ytnfglkgkdechlaa
open Go.RowKit Go.Proofs.YtnfglkgkdechlaaW.PrintWords Go.Proofs.YtnfglkgkdechlaaW.PrintLast Go.Proofs.YtnfglkgkdechlaaW.PrintMore

open Go.Proofs.Ytnfglkgkdechlaa.PQ

theorem itemsS (A : Option Addr) (n c : Nat) (raw : List Rw) (its : List It) (w : World) (hA : kR.C w A n raw) (hc : n ≤ c) (ho : ∀ x ∈ raw, OkR x) (hi : itemsR raw = its) : Calls Try.prog 10 #[.slice A n c] w
    fun r w' => ∃ I k, r = .returned (.slice I its.length k) ∧ its.length ≤ k ∧ Kd.S kI 32 w' w.heap.size (fun _ => True) (.slice I its.length k) its ∧ Below w.heap.size w w' := by
  subst hi
  refine (lItems A n c raw w hA hc ho).mono fun r w' hh => ?_
  obtain ⟨v, rfl, hR, hb⟩ := hh
  obtain ⟨T, k, rfl⟩ := Kd.S_slice hR
  exact ⟨T, k, rfl, (Kd.S_reads' hR).2.1, hR, hb⟩
theorem mostW (n wrong r : Int) (w : World) (hn : 0 ≤ n ∧ n ≤ 4294967296) (hw : 0 ≤ wrong ∧ wrong ≤ 4294967296) (h : mostF n wrong = r) : Calls Try.prog 15 #[.int .i64 n, .int .i64 wrong] w fun e w' => e = .returned (.int .i64 r) ∧ Below w.heap.size w w' := h ▸ bMost n wrong w hn.2 hw.2 (by omega) (by omega)
attribute [local go_sem] max2_int min2_int max_two min_two
set_option maxRecDepth 100000 in
set_option maxHeartbeats 8000000 in
theorem wrong_calls (B : Option Addr) (m d : Nat) (items : List Rw) (x y : Int) (w : World) (hB : kR.C w B m items) (hd : m ≤ d) (hi : ∀ x ∈ items, OkR x) (hx : In64 x) (hy : In64 y) :
    Calls Try.prog 7 #[.slice B m d, .int .i64 x, .int .i64 y] w fun e w' => e = .returned (.bool true) ∧ Below w.heap.size w w' := by
  obtain ⟨its, hits⟩ : ∃ q, itemsR items = q := ⟨_, rfl⟩
  have HLN := Aside0.mk (show its.length ≤ 20 by rw [← hits]; exact itemsR_len items)
  have HOK := Aside0.mk (show ∀ x ∈ its, okI x by rw [← hits]; exact okI_items items)
  have HBC := Aside0.mk hB
  have HI := Aside0.mk hi
  have HIT := Aside0.mk hits
  have HB := Aside0.mk (Below.refl w.heap.size w)
  clear hB hi hits
  go_enter Try.func7, Try.ntmps7
  go_wp2_with fail
  refine (awake_calls _).mono ?_
  rintro e w1 ⟨rfl, hb_⟩
  have ZHBC := Aside0.mk (Kd.C_below (by repeat (with_reducible first | exact HBC.out | apply C_alloc | apply C_drew)) hb_); clear HBC; have HBC := ZHBC; clear ZHBC
  have n_ := Aside0.mk (below_step (by repeat (first | exact HB.out | apply below_alloc | apply pw_below_drewN | apply below_drew1 | refine below_set ?_ (by first | omega | (simp; omega)))) hb_); clear HB hb_; have HB := n_; clear n_
  obtain ⟨vb, hvb⟩ : ∃ b, w1.heap.size = b := ⟨_, rfl⟩
  have HVB := Aside0.mk (show w.heap.size ≤ vb by rw [← hvb]; exact below_size HB.out)
  go_wp2_with fail
  refine (itemsS B m d items its _ HBC.out hd HI.out HIT.out).mono ?_
  rintro e w3 ⟨I, ki, rfl, hki, hI, hb_⟩
  have n_ := Aside0.mk (below_step (by repeat (first | exact HB.out | apply below_alloc | apply pw_below_drewN | apply below_drew1 | refine below_set ?_ (by first | omega | (simp; omega)))) hb_); clear HB hb_; have HB := n_; clear n_
  rw [hvb] at hI
  have HIC := Aside0.mk hI
  clear hI HBC HI HIT hvb
  have hl := HLN.out
  generalize hnn : its.length = N at *
  have HNN := Aside0.mk hnn
  clear hnn
  have hN20 : N ≤ 20 := hl
  clear hl HLN
  go_wp2
  go_loopw [9] (fun v9 wx => ∃ i : Nat, i ≤ N ∧ v9 = .int .i64 (i : Int) ∧ Kd.S kI 32 wx vb (fun _ => True) (.slice I N ki) (forgeN i its) ∧ Below w.heap.size w wx) (fun v9 _ => N - (intOf v9).toNat)
  case atStart => exact ⟨0, by omega, rfl, HIC.out, HB.out⟩
  case round =>
    obtain ⟨i, hiN, rfl, hS, hb⟩ := hrel
    clear HB HIC
    have HB := Aside0.mk hb
    have HS := Aside0.mk hS
    clear hb hS
    by_cases hlt : i < N
    · obtain ⟨g, u, hIe, hg, c2, f2, hS2⟩ := S_forge i HS.out (by rw [HNN.out]; exact hlt)
      subst hIe
      have HG := Aside0.mk hg
      have HG2 := Aside0.mk hg
      obtain ⟨z, hz⟩ : ∃ z : Int, (i : Int) = z := ⟨_, rfl⟩
      have hzi : i = z.toNat := by omega
      have hS3 : Kd.S kI 32 (wr.setCell ⟨g, z.toNat * 4 + 2, none⟩ (.bool true)) vb (fun _ => True) (.slice (some ⟨g, 0, none⟩) N ki) (forgeN (i + 1) its) := by rw [← hzi]; exact hS2
      have HS2 := Aside0.mk hS3
      rw [hzi] at c2 f2
      rw [hz]
      have hz0 : 0 ≤ z := by omega
      have hz1 : z < (N : Int) := by omega
      have hdz : decide (z < (N : Int)) = true := decide_eq_true hz1
      have HZ := Aside0.mk hz
      clear hz hzi hlt hS3 hS2 HS hg
      go_wp2
      go_roundw
      case rel => exact ⟨i + 1, by have := HZ.out; omega, by have := HZ.out; subst this; go_num, HS2.out, below_set HB.out (Nat.le_trans HVB.out HG.out)⟩
      case measure =>
        have := HZ.out
        simp [intOf]
        omega
    · have hdf : decide ((i : Int) < (N : Int)) = false := decide_eq_false (by omega)
      have hdg : decide (i < N) = false := decide_eq_false hlt
      obtain rfl : N = i := by omega
      have HFI := Aside0.mk (show kI.C wr I N (its.map forge) by
        have h1 := (Kd.S_reads' HS.out)
        have h2 := forgeN_all its
        rw [HNN.out] at h2
        rw [h2] at h1
        rw [h1.1]
        exact h1.2.2)
      go_wp2_with fail
      refine (findC none 0 0 [] I N ki (its.map forge) (List.replicate N false) (2 * N - 1) _ ⟨rfl, by simp, fun h => absurd h (by simp)⟩ (Nat.le_refl _) HFI.out hki (okI_forges HOK.out) (by omega) (by rw [chk_forges, HNN.out]) (by rw [cnt_forges, HNN.out])).mono ?_
      rintro e w4 ⟨Q, rfl, hQ, hb_⟩
      have n_ := Aside0.mk (below_step (by repeat (first | exact HB.out | apply below_alloc | apply pw_below_drewN | apply below_drew1 | refine below_set ?_ (by first | omega | (simp; omega)))) hb_); clear HB hb_; have HB := n_; clear n_
      obtain ⟨rp, hrp⟩ : ∃ q, List.replicate N false = q := ⟨_, rfl⟩
      have HRP := Aside0.mk (show ∀ j : Nat, rp.getD j false = false by
        intro j
        rw [← hrp, List.getD_eq_getElem?_getD, List.getElem?_replicate]
        split <;> rfl)
      rw [hrp] at hQ
      have HQC := Aside0.mk hQ
      obtain ⟨kk, hkk⟩ : ∃ q : Int, ((2 * N - 1 : Nat) : Int) = q := ⟨_, rfl⟩
      rw [hkk]
      have HMX := Aside0.mk (show 0 ≤ kk ∧ kk ≤ 40 ∧ (kk = 2 * (N : Int) - 1 ∨ (N = 0 ∧ kk = 0)) by omega)
      clear hQ hrp hkk HFI HS hdf hdg hiN
      go_wp2
      go_loopw [12] (fun v12 wx => ∃ i : Nat, i ≤ N ∧ v12 = .int .i64 (i : Int) ∧ Below w.heap.size w wx ∧ Below w4.heap.size w4 wx) (fun v12 _ => N - (intOf v12).toNat)
      case atStart => exact ⟨0, by omega, rfl, HB.out, Below.refl _ _⟩
      case round =>
        obtain ⟨i, hiN, rfl, hb, hb4⟩ := hrel
        clear HB
        have HB := Aside0.mk hb
        have HB4 := Aside0.mk hb4
        clear hb hb4
        by_cases hlt : i < N
        · obtain ⟨aq, hq, rE⟩ := at_B (Kd.C_below HQC.out HB4.out) i hlt
          obtain rfl : Q = aq := Option.some.inj hq
          rw [HRP.out i] at rE
          clear hq
          obtain ⟨z, hz⟩ : ∃ z : Int, (i : Int) = z := ⟨_, rfl⟩
          have hzi : i = z.toNat := by omega
          rw [hzi] at rE
          rw [hz]
          have hz0 : 0 ≤ z := by omega
          have hz1 : z < (N : Int) := by omega
          have hdz : decide (z < (N : Int)) = true := decide_eq_true hz1
          have HZ := Aside0.mk hz
          clear hz hzi hlt
          go_wp2
          go_roundw
          case rel => exact ⟨i + 1, by have := HZ.out; omega, by have := HZ.out; subst this; go_num, HB.out, HB4.out⟩
          case measure =>
            have := HZ.out
            simp [intOf]
            omega
        · have hdf : decide ((i : Int) < (N : Int)) = false := decide_eq_false (by omega)
          have hdg : decide (i < N) = false := decide_eq_false hlt
          obtain rfl : N = i := by omega
          clear HB4 HQC
          have HBw := HB
          have hmx : (if 2 * (N : Int) - 1 < 0 then 0 else 2 * (N : Int) - 1) = kk := by have := HMX.out; split <;> omega
          obtain ⟨p0, hp0⟩ : ∃ p, pickZ x 32 = p := ⟨_, rfl⟩
          have pl := pickZ_lt x 32 (by omega)
          rw [hp0] at pl
          go_wp2_with fail
          refine (pick15E x 32 p0 hx (by omega) _ hp0).mono ?_
          rintro e w6 ⟨rfl, hb_⟩
          have YT : Box w6 (wr.heap.size) _ _ := Box.below (by repeat (with_reducible first | exact XT.out | exact Box.new | exact Box.new1 | exact Box.new2 | exact Box.new3 | apply Box.alloc | apply Box.drew | apply Box.drewN | apply Box.set)) hb_
          (try clear XT rT kT fT); have XT := Aside0.mk YT; have rT := YT.cell; have fT := YT.frozen; have kT := YT.lt; clear YT
          have n_ := Aside0.mk (below_step (by repeat (first | exact HB.out | apply below_alloc | apply pw_below_drewN | apply below_drew1 | refine below_set ?_ (by first | omega | (simp; omega)))) hb_); clear HB hb_; have HB := n_; clear n_
          have htw : w.heap.size ≤ wr.heap.size := below_size HBw.out
          clear rT kT fT hmx hp0 hdf hdg hiN hd hki HOK HNN HBw
          obtain ⟨tb, htb⟩ : ∃ b, wr.heap.size = b := ⟨_, rfl⟩
          rw [htb] at XT htw ⊢
          obtain ⟨k, hk⟩ : ∃ k : Nat, 1 + p0 = (k : Int) := ⟨(1 + p0).toNat, by omega⟩
          have hk1 : 1 ≤ k := by omega
          have hk2 : k ≤ 32 := by omega
          obtain ⟨q0, hq0⟩ : ∃ p, pickZ y (k : Int) = p := ⟨_, rfl⟩
          have ql := pickZ_lt y (k : Int) (by omega)
          rw [hq0] at ql
          go_wp2_with fail
          refine (pick15E y k q0 hy (by omega) _ hq0).mono ?_
          rintro e w8 ⟨rfl, hb_⟩
          have YT : Box w8 (tb) _ _ := Box.below (by repeat (with_reducible first | exact XT.out | exact Box.new | exact Box.new1 | exact Box.new2 | exact Box.new3 | apply Box.alloc | apply Box.drew | apply Box.drewN | apply Box.set)) hb_
          (try clear XT rT kT fT); have XT := Aside0.mk YT; have rT := YT.cell; have fT := YT.frozen; have kT := YT.lt; clear YT
          have n_ := Aside0.mk (below_step (by repeat (first | exact HB.out | apply below_alloc | apply pw_below_drewN | apply below_drew1 | refine below_set ?_ (by first | omega | (simp; omega)))) hb_); clear HB hb_; have HB := n_; clear n_
          obtain ⟨wn, rfl⟩ := Int.eq_ofNat_of_zero_le ql.1
          have hwn : wn < k := by omega
          clear hq0 ql hk pl htb rT kT fT
          go_wp2
          go_loopw [16, 17, 18] (fun v16 v17 v18 wx => ∃ (i : Nat), i ≤ k ∧ v17 = .int .i64 (i : Int) ∧ kI.R 32 wx w.heap.size (fun _ => True) v16 (qs i wn) ∧ Box wx tb #[.int .u64 1, .int .u64 7] 52 ∧ Below w.heap.size w wx) (fun _ v17 _ _ => k - (intOf v17).toNat)
          case atStart => exact ⟨0, by omega, rfl, Kd.R_nil _ _ _ _ _, XT.out, HB.out⟩
          case round =>
            obtain ⟨i, hiN, rfl, hR, hT, hb⟩ := hrel
            obtain ⟨Av, cv, rfl⟩ := Kd.R_slice hR
            clear HB XT
            have HB := Aside0.mk hb
            have HO := Aside0.mk hR
            have HT := Aside0.mk hT
            have HQL := Aside0.mk (qs_len i wn)
            have HQN := Aside0.mk (qs_succ i wn)
            clear hb hR hT
            by_cases hlt : i < k
            · have hdz : decide ((i : Int) < (k : Int)) = true := decide_eq_true (by omega)
              obtain ⟨bq, hbq⟩ : ∃ b, decide (i = wn) = b := ⟨_, rfl⟩
              have hbz : ((i : Int) == (wn : Int)) = bq := by
                rw [← hbq, Bool.eq_iff_iff, beq_iff_eq, decide_eq_true_iff]
                omega
              rw [hbq] at HQN
              generalize qs i wn = ql at *
              have HLT := Aside0.mk hlt
              have hql : ql.length ≤ 32 := by rw [HQL.out]; omega
              have hz1 : (i : Int) < (k : Int) := by omega
              clear hbq hlt
              have HN1 := Aside0.mk (show some wr.heap.size ≠ (Value.slice Av ql.length cv).ownBlock from Kd.R_ne_new HO.out 0)
              have HN2 := Aside0.mk (show some tb ≠ (Value.slice Av ql.length cv).ownBlock from Kd.R_ne HO.out HT.out (by decide))
              have HKK := Aside0.mk (show ∀ q, (q = wr.heap.size ∨ q = tb) → True ∧ some q ≠ (Value.slice Av ql.length cv).ownBlock by
                rintro q (rfl | rfl)
                · exact ⟨trivial, HN1.out⟩
                · exact ⟨trivial, HN2.out⟩)
              have HWL := Aside0.mk (below_size HB.out)
              have HTL := Aside0.mk HT.out.lt
              go_wp2_with (first | (with_reducible refine gate_builtin (b := .append) (xs := #[.tmp 85, .tmp 87]) rfl ?_); at_builtin; go_must (refine Kd.R_append kI (w0 := w) w.heap.size rfl (.tmp 85) (.tmp 87) 25 32 (.agg #[.slice none 0 0, .int .u64 0, .bool false, .slice none 0 0]) 64 rfl Try.underlying25 info32 rfl (by decide) (by omega) (.slice Av ql.length cv) ql (itq bq) [.slice (some ⟨wr.heap.size, 0, none⟩) 1 1, .int .u64 7, .bool bq, .slice (some ⟨tb, 0, none⟩) 1 1] (fun _ => True) (fun k => k = wr.heap.size ∨ k = tb) ?aV ?aX (itq_M bq (Box.alloc Box.new) (Box.alloc (Box.alloc HT.out)) HWL.out htw) HKK.out (fun _ _ => trivial) (Kd.R_alloc (Kd.R_alloc HO.out _) _) (below_alloc (below_alloc HB.out _) _) (below_size (below_alloc (below_alloc HB.out _) _)) (by omega) ?_; (case aV => rfl); (case aX => simp only [size_alloc]; rfl); (intro v1 w1 ho_ hb_ hg_ hat_; have HT2 := Aside0.mk (show Box w1 tb _ _ from (hg_.block tb (by have := HTL.out; simp only [size_alloc]; omega) HN2.out).trans (Box.alloc (Box.alloc HT.out))); clear HB HO; have HB := Aside0.mk hb_; have HO := Aside0.mk ho_; clear ho_ hb_ hg_ hat_)))
              go_wp2
              go_roundw
              case rel => exact ⟨i + 1, by have := HLT.out; omega, by go_num, by rw [HQN.out]; exact HO.out, HT2.out, HB.out⟩
              case measure =>
                have := HLT.out
                simp [intOf]
                omega
            · have hdf : decide ((i : Int) < (k : Int)) = false := decide_eq_false (by omega)
              have hdg : decide (i < k) = false := decide_eq_false hlt
              obtain rfl : k = i := by omega
              obtain ⟨m, hm⟩ : ∃ q, cnt (chk tbW) (qs k wn) = q := ⟨_, rfl⟩
              obtain ⟨qb, hqb⟩ : ∃ q, (List.range k).map (fun j => !decide (j = wn)) = q := ⟨_, rfl⟩
              have hR := Kd.R_reads' HO.out
              have HQI := Aside0.mk (show kI.C wr Av k (qs k wn) by
                have h1 := hR.2.2
                rw [HQL.out] at h1
                exact h1)
              have hcv : k ≤ cv := by rw [← HQL.out]; exact hR.2.1
              have HQB := Aside0.mk (show ∀ j : Nat, j < k → qb.getD j false = !decide (j = wn) by
                intro j hj
                rw [← hqb, List.getD_eq_getElem?_getD, List.getElem?_map, List.getElem?_range hj]
                rfl)
              have HMO := Aside0.mk (show (m : Int) ≤ mostF (k : Int) 1 by rw [← hm]; exact cnt_mostF _ _ k HQL.out hk1 (wrongs_qs1 k wn))
              have HM1 := Aside0.mk (show m % 2 = 1 by rw [← hm]; exact cnt_odd _ _ _ (Nat.le_refl _) (by rw [HQL.out]; omega))
              have HM2 := Aside0.mk (show k = 1 → m = 1 by
                intro h1
                rw [← hm]
                obtain ⟨x, hx⟩ := List.length_eq_one_iff.1 (HQL.out.trans h1)
                rw [hx]
                exact cnt_one _ _)
              have HMB := Aside0.mk (show m ≤ 64 by
                rw [← hm]
                have := cnt_le (chk tbW) k (qs k wn) (by rw [HQL.out]; exact Nat.le_refl _)
                rw [HQL.out] at this
                omega)
              rw [HQL.out]
              go_wp2_with fail
              refine (findC (some ⟨tb, 0, none⟩) 1 1 tbW Av k cv (qs k wn) qb m _ (C_oneP HT.out) (Nat.le_refl _) HQI.out hcv (okI_qs k wn) (by omega) ((chk_qs k wn).trans hqb) hm).mono ?_
              rintro e w9 ⟨Q2, rfl, hQ2, hb_⟩
              have n_ := Aside0.mk (below_step (by repeat (first | exact HB.out | apply below_alloc | apply pw_below_drewN | apply below_drew1 | refine below_set ?_ (by first | omega | (simp; omega)))) hb_); clear HB hb_; have HB := n_; clear n_
              have HQC := Aside0.mk hQ2
              clear hQ2 hm hqb hR HQI HQL HQN HT HO
              go_wp2
              go_loopw [21] (fun v21 wx => ∃ i : Nat, i ≤ k ∧ v21 = .int .i64 (i : Int) ∧ Below w.heap.size w wx ∧ Below w9.heap.size w9 wx) (fun v21 _ => k - (intOf v21).toNat)
              case atStart => exact ⟨0, by omega, rfl, HB.out, Below.refl _ _⟩
              case round =>
                obtain ⟨i, hiN, rfl, hb, hb9⟩ := hrel
                clear HB
                have HB := Aside0.mk hb
                have HB9 := Aside0.mk hb9
                clear hb hb9
                by_cases hlt : i < k
                · obtain ⟨aq, hq, rE⟩ := at_B (Kd.C_below HQC.out HB9.out) i hlt
                  obtain rfl : Q2 = aq := Option.some.inj hq
                  rw [HQB.out i hlt] at rE
                  clear hq
                  obtain ⟨bq, hbq⟩ : ∃ b, decide (i = wn) = b := ⟨_, rfl⟩
                  have hbz : ((i : Int) == (wn : Int)) = bq := by
                    rw [← hbq, Bool.eq_iff_iff, beq_iff_eq, decide_eq_true_iff]
                    omega
                  have hne : ((!bq) == bq) = false := by cases bq <;> rfl
                  rw [hbq] at rE
                  obtain ⟨z, hz⟩ : ∃ z : Int, (i : Int) = z := ⟨_, rfl⟩
                  have hzi : i = z.toNat := by omega
                  rw [hzi] at rE
                  rw [hz] at hbz
                  rw [hz]
                  have hz0 : 0 ≤ z := by omega
                  have hz1 : z < (k : Int) := by omega
                  have hdz : decide (z < (k : Int)) = true := decide_eq_true hz1
                  have HZ := Aside0.mk hz
                  clear hz hzi hlt hbq
                  go_wp2
                  go_roundw
                  case rel => exact ⟨i + 1, by have := HZ.out; omega, by have := HZ.out; subst this; go_num, HB.out, HB9.out⟩
                  case measure =>
                    have := HZ.out
                    simp [intOf]
                    omega
                · have hdf : decide ((i : Int) < (k : Int)) = false := decide_eq_false (by omega)
                  have hdg : decide (i < k) = false := decide_eq_false hlt
                  obtain rfl : k = i := by omega
                  obtain ⟨mo, hmo⟩ : ∃ q, mostF (k : Int) 1 = q := ⟨_, rfl⟩
                  have h1 := HMO.out
                  rw [hmo] at h1
                  have h2 : decide ((m : Int) ≤ mo) = true := decide_eq_true h1
                  have h3 : Int.tmod (m : Int) 2 = 1 := by have := HM1.out; rw [Int.tmod_eq_emod_of_nonneg (by omega)]; omega
                  have HK := Aside0.mk (show (1 : Int) < (k : Int) ∨ (k = 1 ∧ m = 1) by
                    rcases Nat.lt_or_ge 1 k with h | h
                    · exact Or.inl (by omega)
                    · exact Or.inr ⟨by omega, HM2.out (by omega)⟩)
                  clear HMO hdf hdg hiN
                  go_wp2_with fail
                  refine (mostW (k : Int) 1 mo _ (by omega) (by omega) hmo).mono ?_
                  rintro e w10 ⟨rfl, hb_⟩
                  have n_ := Aside0.mk (below_step (by repeat (first | exact HB.out | apply below_alloc | apply pw_below_drewN | apply below_drew1 | refine below_set ?_ (by first | omega | (simp; omega)))) hb_); clear HB hb_; have HB := n_; clear n_
                  rcases HK.out with h4 | ⟨h4, h5⟩
                  · have h6 : decide ((1 : Int) < (k : Int)) = true := decide_eq_true h4
                    go_wp2
                    go_ret
                    exact ⟨rfl, HB.out⟩
                  · subst h4 h5
                    go_wp2
                    go_ret
                    exact ⟨rfl, HB.out⟩
end Go.Proofs.Ytnfglkgkdechlaa

