import Derived.Test.YtnfglkgkdechlaaF2
import Derived.Deep.RegionHeld3
import Derived.Test.YtnfglkgkdechlaaF3

/- Contracts in the form in which the statements use them (chapter 15). -/
set_option linter.unusedVariables false
set_option linter.unusedSimpArgs false
namespace Go.Proofs.Ytnfglkgkdechlaa
open Go.RowKit Go.Proofs.YtnfglkgkdechlaaW.PrintWords Go.Proofs.YtnfglkgkdechlaaW.PrintLast Go.Proofs.YtnfglkgkdechlaaW.PrintMore
open Go.Proofs.Ytnfglkgkdechlaa.PQ

theorem tableC (A : Option Addr) (n c : Nat) (raw : List Int) (t : List Pr) (w : World) (hA : (Kd.int .i64).C w A n raw) (hc : n ≤ c) (hi : ∀ x ∈ raw, In64 x) (ht : tabR raw = t) : Calls Try.prog 9 #[.slice A n c] w
    fun r w' => ∃ T k, r = .returned (.slice T t.length k) ∧ t.length ≤ k ∧ kP.C w' T t.length t ∧ Below w.heap.size w w' := by
  subst ht
  refine (lTable A n c raw w hA hc hi).mono fun r w' hh => ?_
  obtain ⟨v, rfl, hR, hb⟩ := hh
  obtain ⟨T, k, rfl⟩ := Kd.R_slice hR
  exact ⟨T, k, rfl, (Kd.R_reads' hR).2.1, (Kd.R_reads' hR).2.2, hb⟩
theorem itemsC (A : Option Addr) (n c : Nat) (raw : List Rw) (its : List It) (w : World) (hA : kR.C w A n raw) (hc : n ≤ c) (ho : ∀ x ∈ raw, OkR x) (hi : itemsR raw = its) : Calls Try.prog 10 #[.slice A n c] w
    fun r w' => ∃ I k, r = .returned (.slice I its.length k) ∧ its.length ≤ k ∧ kI.C w' I its.length its ∧ Below w.heap.size w w' := by
  subst hi
  refine (lItems A n c raw w hA hc ho).mono fun r w' hh => ?_
  obtain ⟨v, rfl, hR, hb⟩ := hh
  obtain ⟨T, k, rfl⟩ := Kd.S_slice hR
  exact ⟨T, k, rfl, (Kd.S_reads' hR).2.1, (Kd.S_reads' hR).2.2, hb⟩
theorem rng_map {α β : Type} (l : List α) (f : Nat → β) (g : α → β) (h : ∀ (i : Nat) (hi : i < l.length), f i = g l[i]) : (List.range l.length).map f = l.map g := by
  apply List.ext_getElem
  · simp
  · intro i h1 h2
    rw [List.getElem_map, List.getElem_map, List.getElem_range]
    exact h i (by simpa using h1)
theorem out_its (t : List Pr) (its : List It) : (List.range its.length).map (fun j : Nat => chk t (rdI its (j : Int))) = its.map (chk t) := rng_map its _ _ fun i h => by rw [rdI_eq h]
theorem findC (A : Option Addr) (n c : Nat) (t : List Pr) (I : Option Addr) (m mc : Nat) (its : List It) (bs : List Bool) (k : Nat) (w : World) (hA : kP.C w A n t) (hc : n ≤ c) (hI : kI.C w I m its) (hm : m ≤ mc) (ho : ∀ x ∈ its, okI x) (hm0 : m ≤ 1000000000000) (hb : its.map (chk t) = bs) (hk : cnt (chk t) its = k) :
    Calls Try.prog 11 #[.slice A n c, .slice I m mc] w fun e w' => ∃ B, e = .returned (.tuple #[.slice (some B) m m, .int .i64 (k : Int)]) ∧ Kd.bool.C w' (some B) m bs ∧ Below w.heap.size w w' := by
  subst hk hb
  obtain rfl := Kd.C_len hI
  refine (bFind A n c t I _ mc its w hA hc hI hm ho hm0).mono fun e w' hh => ⟨_, hh.1, ?_, hh.2.2⟩
  have h1 := hh.2.1
  rw [outC_map, out_its] at h1
  have h2 := C_bl h1 (by simp; omega)
  rw [List.length_map] at h2
  exact h2
theorem at_B {w : World} {A : Option Addr} {n : Nat} {l : List Bool} (h : Kd.bool.C w A n l) (i : Nat) (hi : i < n) : ∃ ad, A = some ad ∧ w.cell? (ad.add i) = some (.bool (l.getD i false)) := by
  obtain ⟨a, rfl, hc⟩ := h.2.2 (by omega)
  have hl := Kd.C_len h
  have hg : l[i]? = some (l.getD i false) := by
    rw [List.getD_eq_getElem?_getD, List.getElem?_eq_getElem (by omega)]
    rfl
  generalize l.getD i false = x at *
  obtain ⟨row, h1, h2, h3⟩ := hc i x hg
  have h4 : row = [.bool x] := h2
  subst h4
  have h5 := h3 0 _ rfl
  have hs : i * Kd.bool.sz + 0 = i := by show i * 1 + 0 = i; omega
  rw [hs] at h5
  exact ⟨a, rfl, h5⟩
end Go.Proofs.Ytnfglkgkdechlaa


/- BisectOne (chapter 15): what its code does. -/
set_option linter.unusedVariables false
set_option linter.unusedSimpArgs false
namespace Go.Proofs.Ytnfglkgkdechlaa
open Go.RowKit Go.Proofs.YtnfglkgkdechlaaW.PrintWords Go.Proofs.YtnfglkgkdechlaaW.PrintLast Go.Proofs.YtnfglkgkdechlaaW.PrintMore

open Go.Proofs.Ytnfglkgkdechlaa.PQ

theorem boolsC (A B : Option Addr) (n c m d : Nat) (a b : List Bool) (w : World) (hA : Kd.bool.C w A n a) (hc : n ≤ c) (hB : Kd.bool.C w B m b) (hd : m ≤ d) (hl : n ≤ 1000000) (h : a = b) : Calls Try.prog 13 #[.slice A n c, .slice B m d] w fun e w' => e = .returned (.bool true) ∧ Below w.heap.size w w' := boolsE A B n c m d a b true w hA hc hB hd hl (decide_eq_true h)
attribute [local go_sem] max2_int min2_int max_two min_two
set_option maxRecDepth 100000 in
set_option maxHeartbeats 8000000 in
theorem one_calls (A : Option Addr) (n c : Nat) (raw : List Int) (B : Option Addr) (m d : Nat) (items : List Rw) (x y : Int) (w : World) (hA : (Kd.int .i64).C w A n raw) (hc : n ≤ c) (hr : ∀ x ∈ raw, In64 x) (hB : kR.C w B m items) (hd : m ≤ d) (hi : ∀ x ∈ items, OkR x) (hx : In64 x) (hy : In64 y) :
    Calls Try.prog 4 #[.slice A n c, .slice B m d, .int .i64 x, .int .i64 y] w fun e w' => e = .returned (.bool true) ∧ Below w.heap.size w w' := by
  obtain ⟨its, hits⟩ : ∃ q, itemsR items = q := ⟨_, rfl⟩
  obtain ⟨t, ht⟩ : ∃ q, tabR raw = q := ⟨_, rfl⟩
  have HLN := Aside0.mk (show its.length ≤ 20 by rw [← hits]; exact itemsR_len items)
  have HOK := Aside0.mk (show ∀ x ∈ its, okI x by rw [← hits]; exact okI_items items)
  have HA := Aside0.mk hA
  have HBC := Aside0.mk hB
  have HR := Aside0.mk hr
  have HI := Aside0.mk hi
  have HT := Aside0.mk ht
  have HIT := Aside0.mk hits
  have HB := Aside0.mk (Below.refl w.heap.size w)
  clear hA hB hr hi ht hits
  go_enter Try.func4, Try.ntmps4
  go_wp2_with fail
  refine (awake_calls _).mono ?_
  rintro e w1 ⟨rfl, hb_⟩
  have ZHA := Aside0.mk (Kd.C_below (by repeat (with_reducible first | exact HA.out | apply C_alloc | apply C_drew)) hb_); clear HA; have HA := ZHA; clear ZHA
  have ZHBC := Aside0.mk (Kd.C_below (by repeat (with_reducible first | exact HBC.out | apply C_alloc | apply C_drew)) hb_); clear HBC; have HBC := ZHBC; clear ZHBC
  have n_ := Aside0.mk (below_step (by repeat (first | exact HB.out | apply below_alloc | apply pw_below_drewN | apply below_drew1 | refine below_set ?_ (by first | omega | (simp; omega)))) hb_); clear HB hb_; have HB := n_; clear n_
  go_wp2_with fail
  refine (tableC A n c raw t _ HA.out hc HR.out HT.out).mono ?_
  rintro e w2 ⟨T, kt, rfl, hkt, hT, hb_⟩
  have ZHBC := Aside0.mk (Kd.C_below (by repeat (with_reducible first | exact HBC.out | apply C_alloc | apply C_drew)) hb_); clear HBC; have HBC := ZHBC; clear ZHBC
  have n_ := Aside0.mk (below_step (by repeat (first | exact HB.out | apply below_alloc | apply pw_below_drewN | apply below_drew1 | refine below_set ?_ (by first | omega | (simp; omega)))) hb_); clear HB hb_; have HB := n_; clear n_
  have HTC := Aside0.mk hT
  clear hT HA HR HT
  go_wp2_with fail
  refine (itemsC B m d items its _ HBC.out hd HI.out HIT.out).mono ?_
  rintro e w3 ⟨I, ki, rfl, hki, hI, hb_⟩
  have ZHTC := Aside0.mk (Kd.C_below (by repeat (with_reducible first | exact HTC.out | apply C_alloc | apply C_drew)) hb_); clear HTC; have HTC := ZHTC; clear ZHTC
  have n_ := Aside0.mk (below_step (by repeat (first | exact HB.out | apply below_alloc | apply pw_below_drewN | apply below_drew1 | refine below_set ?_ (by first | omega | (simp; omega)))) hb_); clear HB hb_; have HB := n_; clear n_
  have HIC := Aside0.mk hI
  clear hI HBC HI HIT
  obtain ⟨bs, hbs⟩ : ∃ q, its.map (chk t) = q := ⟨_, rfl⟩
  obtain ⟨k0, hk0⟩ : ∃ q, cnt (chk t) its = q := ⟨_, rfl⟩
  have hl := HLN.out
  have HBS := Aside0.mk hbs
  go_wp2_with fail
  refine (findC T _ kt t I _ ki its bs k0 _ HTC.out hkt HIC.out hki HOK.out (by omega) hbs hk0).mono ?_
  rintro e w4 ⟨Q, rfl, hQ, hb_⟩
  have ZHTC := Aside0.mk (Kd.C_below (by repeat (with_reducible first | exact HTC.out | apply C_alloc | apply C_drew)) hb_); clear HTC; have HTC := ZHTC; clear ZHTC
  have ZHIC := Aside0.mk (Kd.C_below (by repeat (with_reducible first | exact HIC.out | apply C_alloc | apply C_drew)) hb_); clear HIC; have HIC := ZHIC; clear ZHIC
  have n_ := Aside0.mk (below_step (by repeat (first | exact HB.out | apply below_alloc | apply pw_below_drewN | apply below_drew1 | refine below_set ?_ (by first | omega | (simp; omega)))) hb_); clear HB hb_; have HB := n_; clear n_
  have HQC := Aside0.mk hQ
  clear hQ hbs hk0
  generalize hnn : its.length = N at *
  have HNN := Aside0.mk hnn
  clear hnn
  have hN20 : N ≤ 20 := hl
  clear hl HLN
  go_wp2
  go_loopw [14] (fun v14 wx => ∃ i : Nat, i ≤ N ∧ v14 = .int .i64 (i : Int) ∧ Below w.heap.size w wx ∧ Below w4.heap.size w4 wx) (fun v14 _ => N - (intOf v14).toNat)
  case atStart => exact ⟨0, by omega, rfl, HB.out, Below.refl _ _⟩
  case round =>
    obtain ⟨i, hiN, rfl, hb, hb4⟩ := hrel
    have HB := Aside0.mk hb
    have HB4 := Aside0.mk hb4
    clear hb hb4
    by_cases hlt : i < N
    · have hil : i < its.length := by rw [HNN.out]; exact hlt
      have HXK := Aside0.mk (show rdI its (i : Int) ∈ its by rw [rdI_eq hil]; exact List.getElem_mem hil)
      obtain ⟨r, hr⟩ : ∃ r, bs.getD i false = r := ⟨_, rfl⟩
      have HRE := Aside0.mk (show chk t (rdI its (i : Int)) = r by
        rw [← hr, ← HBS.out, rdI_eq hil, List.getD_eq_getElem?_getD, List.getElem?_eq_getElem (by simpa using hil), List.getElem_map]
        rfl)
      obtain ⟨aq, hq, rE⟩ := at_B (Kd.C_below HQC.out HB4.out) i hlt
      obtain rfl : Q = aq := Option.some.inj hq
      rw [hr] at rE
      clear hq hr
      obtain ⟨z, hz⟩ : ∃ z : Int, (i : Int) = z := ⟨_, rfl⟩
      have hzi : i = z.toNat := by omega
      rw [hzi] at rE
      rw [hz] at HXK HRE ⊢
      have hz0 : 0 ≤ z := by omega
      have hz1 : z < (N : Int) := by omega
      have hdz : decide (z < (N : Int)) = true := decide_eq_true hz1
      have HZ := Aside0.mk hz
      obtain ⟨ad, K0, ck, P, cp, rfl, rC, rD, rG, rH, hck, hK, hcp, hP⟩ := at_I (Kd.C_below HIC.out HB4.out) z hz0 hz1
      obtain ⟨it, hit⟩ : ∃ it, rdI its z = it := ⟨_, rfl⟩
      rw [hit] at rC rD rG rH hck hK hcp hP HXK HRE
      have HKW := Aside0.mk hK
      have HPW := Aside0.mk hP
      have HTW := Aside0.mk (Kd.C_below HTC.out HB4.out)
      have kE := cell_lt rE
      have kC := cell_lt rC
      have kD := cell_lt rD
      have kG := cell_lt rG
      have kH := cell_lt rH
      clear hit hz hzi hK hP hil hlt
      go_upto_region 10 with (fail)
      refine wp_region_held_drew (S := (fun w' => Below wr.heap.size wr w' ∧ (w'.cell? ((Q.add z.toNat)) = some (.bool r)) ∧ (w'.cell? ((ad.add (z.toNat * 4))) = some (.slice K0 it.f0.length ck)) ∧ (w'.cell? ((⟨(ad.add (z.toNat * 4)).block, (ad.add (z.toNat * 4)).off + 1, none⟩ : Addr)) = some (.int .u64 it.f1)) ∧ (w'.cell? ((⟨(ad.add (z.toNat * 4)).block, (ad.add (z.toNat * 4)).off + 2, none⟩ : Addr)) = some (.bool it.f2.f0)) ∧ (w'.cell? ((⟨(ad.add (z.toNat * 4)).block, (ad.add (z.toNat * 4)).off + 3, none⟩ : Addr)) = some (.slice P it.f2.f1.length cp)))) (by kernel_rfl) ?hS1x0 (fun hHeld => ?hR1x0)
      case hS1x0 => ((try dsimp only); (first | exact ⟨below_drew1 (Below.refl _ _), rE, rC, rD, rG, rH⟩ | exact ⟨below_drew1 b0_, rE, rC, rD, rG, rH⟩ | exact ⟨j0, jE, jC, jD, jG, jH⟩ | exact ⟨below_alloc j0 _, (cell_alloc_oldp (Nat.lt_of_lt_of_le kE j0.size)).trans jE, (cell_alloc_oldp (Nat.lt_of_lt_of_le kC j0.size)).trans jC, (cell_alloc_oldp (Nat.lt_of_lt_of_le kD j0.size)).trans jD, (cell_alloc_oldp (Nat.lt_of_lt_of_le kG j0.size)).trans jG, (cell_alloc_oldp (Nat.lt_of_lt_of_le kH j0.size)).trans jH⟩ | exact ⟨below_alloc (below_drew1 (Below.refl _ _)) _, (cell_alloc_oldp kE).trans rE, (cell_alloc_oldp kC).trans rC, (cell_alloc_oldp kD).trans rD, (cell_alloc_oldp kG).trans rG, (cell_alloc_oldp kH).trans rH⟩ | assumption))
      refine wpAnyH_take (i := 0) (oi := ⟨some 47, _, _, _, _, _⟩) (v := ?_) rfl (by kernel_rfl) (by kernel_rfl) (by kernel_rfl) (fun _ _ _ h => h) (Or.inl ⟨by rfl, ?hY1x2⟩) (by assumption) ?hR1x2
      case hY1x2 => (intro w hSw; (try dsimp only at hSw); go_simp; try with_reducible rfl)
      (try simp only [Act.put, List.setIfInBounds_toArray, List.set_cons_zero, List.set_cons_succ])
      refine wpAnyH_take (i := 1) (oi := ⟨some 48, _, _, _, _, _⟩) (v := ?_) rfl (by kernel_rfl) (by kernel_rfl) (by kernel_rfl) (fun _ _ _ h => h) (Or.inl ⟨by rfl, ?hY1x3⟩) (by assumption) ?hR1x3
      case hY1x3 => (intro w hSw; (try dsimp only at hSw); go_simp; try with_reducible rfl)
      (try simp only [Act.put, List.setIfInBounds_toArray, List.set_cons_zero, List.set_cons_succ])
      refine wpAnyH_take (i := 2) (oi := ⟨some 49, _, _, _, _, _⟩) (v := ?_) rfl (by kernel_rfl) (by kernel_rfl) (by kernel_rfl) (fun _ _ _ h => h) (Or.inl ⟨by rfl, ?hY1x4⟩) (by assumption) ?hR1x4
      case hY1x4 => (intro w hSw; (try dsimp only at hSw); go_simp; try with_reducible rfl)
      (try simp only [Act.put, List.setIfInBounds_toArray, List.set_cons_zero, List.set_cons_succ])
      refine wpAnyH_take (i := 3) (oi := ⟨some 50, _, _, _, _, _⟩) (v := ?_) rfl (by kernel_rfl) (by kernel_rfl) (by kernel_rfl) (fun _ _ _ h => h) (Or.inl ⟨by rfl, ?hY1x5⟩) (by assumption) ?hR1x5
      case hY1x5 => (intro w hSw; (try dsimp only at hSw); go_simp; try with_reducible rfl)
      (try simp only [Act.put, List.setIfInBounds_toArray, List.set_cons_zero, List.set_cons_succ])
      refine wpAnyH_take (i := 4) (oi := ⟨some 51, _, _, _, _, _⟩) (v := ?_) rfl (by kernel_rfl) (by kernel_rfl) (by kernel_rfl) (fun _ _ _ h => h) (Or.inl ⟨by rfl, ?hY1x6⟩) (by assumption) ?hR1x6
      case hY1x6 => (intro w hSw; (try dsimp only at hSw); go_simp; try with_reducible rfl)
      (try simp only [Act.put, List.setIfInBounds_toArray, List.set_cons_zero, List.set_cons_succ])
      refine wpAnyH_take (i := 5) (oi := ⟨some 52, _, _, _, _, _⟩) (v := ?_) rfl (by kernel_rfl) (by kernel_rfl) (by kernel_rfl) (fun _ _ _ h => h) (Or.inl ⟨by rfl, ?hY1x7⟩) (by assumption) ?hR1x7
      case hY1x7 => (intro w hSw; (try dsimp only at hSw); go_simp; try with_reducible rfl)
      (try simp only [Act.put, List.setIfInBounds_toArray, List.set_cons_zero, List.set_cons_succ])
      refine wpAnyH_take (i := 6) (oi := ⟨some 53, _, _, _, _, _⟩) (v := ?_) rfl (by kernel_rfl) (by kernel_rfl) (by kernel_rfl) (fun _ _ _ h => h) (Or.inl ⟨by rfl, ?hY1x8⟩) (by assumption) ?hR1x8
      case hY1x8 => (intro w hSw; (try dsimp only at hSw); go_simp; try with_reducible rfl)
      (try simp only [Act.put, List.setIfInBounds_toArray, List.set_cons_zero, List.set_cons_succ])
      refine wpAnyH_take (i := 7) (oi := ⟨some 54, _, _, _, _, _⟩) (v := ?_) rfl (by kernel_rfl) (by kernel_rfl) (by kernel_rfl) (fun _ _ _ h => h) (Or.inl ⟨by rfl, ?hY1x9⟩) (by assumption) ?hR1x9
      case hY1x9 => (intro w hSw; (try dsimp only at hSw); go_simp; try with_reducible rfl)
      (try simp only [Act.put, List.setIfInBounds_toArray, List.set_cons_zero, List.set_cons_succ])
      refine wpAnyH_take (i := 8) (oi := ⟨some 55, _, _, _, _, _⟩) (v := ?_) rfl (by kernel_rfl) (by kernel_rfl) (by kernel_rfl) (fun _ _ _ h => h) (Or.inl ⟨by rfl, ?hY1x10⟩) (by assumption) ?hR1x10
      case hY1x10 => (intro w hSw; (try dsimp only at hSw); go_simp; try with_reducible rfl)
      (try simp only [Act.put, List.setIfInBounds_toArray, List.set_cons_zero, List.set_cons_succ])
      refine wpAnyH_ready (rs := [9]) (by kernel_rfl) (by simp) ?_
      refine AllReadyH.cons (o := ⟨some 56, _, _, _, _, _⟩) rfl (fun K hK => ?hT1x11) ?hM1x11
      case hM1x11 => exact AllReadyH.nil
      go_simp
      (first | (go_at_call 17; obtain ⟨g0, gE, gC, gD, gG, gH⟩ := ‹Below wr.heap.size wr _ ∧ _›; ((with_reducible refine (oCheckE T _ kt t K0 _ ck P _ cp it r _ (Kd.C_below HTW.out g0) hkt (Kd.C_below HKW.out g0) hck (Kd.C_below HPW.out g0) hcp (HOK.out it HXK.out) HRE.out).mono ?_));  rintro e w5 ⟨rfl, hb_⟩; have j0 := below_step g0 hb_; have s5 := j0.size; have jE := (j0.cell (p := (Q.add z.toNat)) kE).trans rE; have jC := (j0.cell (p := (ad.add (z.toNat * 4))) kC).trans rC; have jD := (j0.cell (p := (⟨(ad.add (z.toNat * 4)).block, (ad.add (z.toNat * 4)).off + 1, none⟩ : Addr)) kD).trans rD; have jG := (j0.cell (p := (⟨(ad.add (z.toNat * 4)).block, (ad.add (z.toNat * 4)).off + 2, none⟩ : Addr)) kG).trans rG; have jH := (j0.cell (p := (⟨(ad.add (z.toNat * 4)).block, (ad.add (z.toNat * 4)).off + 3, none⟩ : Addr)) kH).trans rH))
      (try go_wp2_with fail)
      refine hK.out _ _ ?hS1x11 (fun hHeld => ?hR1x11)
      case hS1x11 => ((try dsimp only); (first | exact ⟨below_drew1 (Below.refl _ _), rE, rC, rD, rG, rH⟩ | exact ⟨below_drew1 b0_, rE, rC, rD, rG, rH⟩ | exact ⟨j0, jE, jC, jD, jG, jH⟩ | exact ⟨below_alloc j0 _, (cell_alloc_oldp (Nat.lt_of_lt_of_le kE j0.size)).trans jE, (cell_alloc_oldp (Nat.lt_of_lt_of_le kC j0.size)).trans jC, (cell_alloc_oldp (Nat.lt_of_lt_of_le kD j0.size)).trans jD, (cell_alloc_oldp (Nat.lt_of_lt_of_le kG j0.size)).trans jG, (cell_alloc_oldp (Nat.lt_of_lt_of_le kH j0.size)).trans jH⟩ | exact ⟨below_alloc (below_drew1 (Below.refl _ _)) _, (cell_alloc_oldp kE).trans rE, (cell_alloc_oldp kC).trans rC, (cell_alloc_oldp kD).trans rD, (cell_alloc_oldp kG).trans rG, (cell_alloc_oldp kH).trans rH⟩ | assumption))
      clear hK K
      (try simp only [Act.put, List.setIfInBounds_toArray, List.set_cons_zero, List.set_cons_succ])
      refine wpAnyH_take (i := 10) (oi := ⟨some 57, _, _, _, _, _⟩) (v := ?_) rfl (by kernel_rfl) (by kernel_rfl) (by kernel_rfl) (fun _ _ _ h => h) (Or.inl ⟨by rfl, ?hY1x12⟩) (by assumption) ?hR1x12
      case hY1x12 => (intro w hSw; (try dsimp only at hSw); go_simp; try with_reducible rfl)
      (try simp only [Act.put, List.setIfInBounds_toArray, List.set_cons_zero, List.set_cons_succ])
      refine wpAnyH_done (by kernel_rfl) ?_ _
      go_wp2
      go_roundw
      case rel => exact ⟨i + 1, by have := HZ.out; omega, by have := HZ.out; subst this; go_num, below_step HB.out j0, below_step HB4.out j0⟩
      case measure =>
        have := HZ.out
        simp [intOf]
        omega
    · have hdf : decide ((i : Int) < (N : Int)) = false := decide_eq_false (by omega)
      have hdg : decide (i < N) = false := decide_eq_false hlt
      have HTW := Aside0.mk (Kd.C_below HTC.out HB4.out)
      have HIW := Aside0.mk (Kd.C_below HIC.out HB4.out)
      have HQW := Aside0.mk (Kd.C_below HQC.out HB4.out)
      clear HB4 HTC HIC HQC
      have hw1 : IntKind.i64.wrap ((N : Int) + 1) = (N : Int) + 1 := by rw [IntKind.wrap_i64]; omega
      obtain ⟨p0, hp0⟩ : ∃ p, pickZ x ((N : Int) + 1) = p := ⟨_, rfl⟩
      obtain ⟨q0, hq0⟩ : ∃ p, pickZ y ((N : Int) + 1) = p := ⟨_, rfl⟩
      have pl := pickZ_lt x ((N : Int) + 1) (by omega)
      have ql := pickZ_lt y ((N : Int) + 1) (by omega)
      rw [hp0] at pl
      rw [hq0] at ql
      go_wp2_with fail
      refine (pick15E x ((N : Int) + 1) p0 hx (by omega) _ hp0).mono ?_
      rintro e w6 ⟨rfl, hb_⟩
      have ZHTW := Aside0.mk (Kd.C_below (by repeat (with_reducible first | exact HTW.out | apply C_alloc | apply C_drew)) hb_); clear HTW; have HTW := ZHTW; clear ZHTW
      have ZHIW := Aside0.mk (Kd.C_below (by repeat (with_reducible first | exact HIW.out | apply C_alloc | apply C_drew)) hb_); clear HIW; have HIW := ZHIW; clear ZHIW
      have ZHQW := Aside0.mk (Kd.C_below (by repeat (with_reducible first | exact HQW.out | apply C_alloc | apply C_drew)) hb_); clear HQW; have HQW := ZHQW; clear ZHQW
      have n_ := Aside0.mk (below_step (by repeat (first | exact HB.out | apply below_alloc | apply pw_below_drewN | apply below_drew1 | refine below_set ?_ (by first | omega | (simp; omega)))) hb_); clear HB hb_; have HB := n_; clear n_
      go_wp2_with fail
      refine (pick15E y ((N : Int) + 1) q0 hy (by omega) _ hq0).mono ?_
      rintro e w7 ⟨rfl, hb_⟩
      have ZHTW := Aside0.mk (Kd.C_below (by repeat (with_reducible first | exact HTW.out | apply C_alloc | apply C_drew)) hb_); clear HTW; have HTW := ZHTW; clear ZHTW
      have ZHIW := Aside0.mk (Kd.C_below (by repeat (with_reducible first | exact HIW.out | apply C_alloc | apply C_drew)) hb_); clear HIW; have HIW := ZHIW; clear ZHIW
      have ZHQW := Aside0.mk (Kd.C_below (by repeat (with_reducible first | exact HQW.out | apply C_alloc | apply C_drew)) hb_); clear HQW; have HQW := ZHQW; clear ZHQW
      have n_ := Aside0.mk (below_step (by repeat (first | exact HB.out | apply below_alloc | apply pw_below_drewN | apply below_drew1 | refine below_set ?_ (by first | omega | (simp; omega)))) hb_); clear HB hb_; have HB := n_; clear n_
      obtain ⟨lo, hlo⟩ : ∃ k : Int, (if q0 < p0 then q0 else p0) = k := ⟨_, rfl⟩
      obtain ⟨hi, hhi⟩ : ∃ k : Int, (if p0 < q0 then q0 else p0) = k := ⟨_, rfl⟩
      have hlh : 0 ≤ lo ∧ lo ≤ hi ∧ hi ≤ (N : Int) := by
        rw [← hlo, ← hhi]
        (repeat' split) <;> omega
      clear hp0 hq0 hw1 pl ql
      obtain ⟨u1, rfl⟩ := Int.eq_ofNat_of_zero_le hlh.1
      obtain ⟨u2, rfl⟩ := Int.eq_ofNat_of_zero_le (Int.le_trans hlh.1 hlh.2.1)
      have hu1 : u1 ≤ u2 := by omega
      have hu2 : u2 ≤ N := by omega
      have hs1 : (0 : Int) ≤ (u1 : Int) := by omega
      have hs2 : (u1 : Int) ≤ (ki : Int) := by omega
      have hs3 : (u1 : Int) ≤ (u2 : Int) := by omega
      have hs4 : (u2 : Int) ≤ (ki : Int) := by omega
      have hs5 : (0 : Int) ≤ (u2 : Int) := by omega
      have hs6 : (u2 : Int) ≤ (N : Int) := by omega
      have hs7 : (u1 : Int) ≤ (N : Int) := by omega
      obtain ⟨x1, hx1⟩ : ∃ q, its.take u1 = q := ⟨_, rfl⟩
      obtain ⟨x2, hx2⟩ : ∃ q, seg its u1 u2 = q := ⟨_, rfl⟩
      obtain ⟨x3, hx3⟩ : ∃ q, its.drop u2 = q := ⟨_, rfl⟩
      obtain ⟨b1, hb1⟩ : ∃ q, x1.map (chk t) = q := ⟨_, rfl⟩
      obtain ⟨b2, hb2⟩ : ∃ q, x2.map (chk t) = q := ⟨_, rfl⟩
      obtain ⟨b3, hb3⟩ : ∃ q, x3.map (chk t) = q := ⟨_, rfl⟩
      have HEQ := Aside0.mk (show b1 ++ b2 ++ b3 = bs by
        rw [← hb1, ← hb2, ← hb3, ← HBS.out, ← List.map_append, ← List.map_append, ← hx1, ← hx2, ← hx3]
        congr 1
        unfold seg
        have e := List.take_append_drop u1 (its.take u2)
        rw [List.take_take, Nat.min_eq_left hu1] at e
        rw [e, List.take_append_drop])
      have HO1 := Aside0.mk (show ∀ x ∈ x1, okI x by rw [← hx1]; exact fun x hx => HOK.out x (List.mem_of_mem_take hx))
      have HO2 := Aside0.mk (show ∀ x ∈ x2, okI x by rw [← hx2]; exact fun x hx => HOK.out x (List.mem_of_mem_take (List.mem_of_mem_drop hx)))
      have HO3 := Aside0.mk (show ∀ x ∈ x3, okI x by rw [← hx3]; exact fun x hx => HOK.out x (List.mem_of_mem_drop hx))
      have HM1 := Aside0.mk hb1
      have HM2 := Aside0.mk hb2
      have HM3 := Aside0.mk hb3
      have HS1 := Aside0.mk (show kI.C w7 I u1 x1 by rw [← hx1]; exact C_takeG HIW.out (by omega))
      have HS2 := Aside0.mk (show kI.C w7 (if ki = u1 then I else I.map (·.add (u1 * 4))) (u2 - u1) x2 by rw [← hx2]; exact C_seg HIW.out hki hu1 hu2)
      have HS3 := Aside0.mk (show kI.C w7 (if ki = u2 then I else I.map (·.add (u2 * 4))) (N - u2) x3 by
        have e := C_seg HIW.out hki hu2 (Nat.le_refl _)
        rw [show seg its u2 N = its.drop u2 by unfold seg; rw [List.take_of_length_le (by rw [HNN.out]; exact Nat.le_refl _)], hx3] at e
        exact e)
      clear hb1 hb2 hb3 hx1 hx2 hx3 HIW hlh
      go_wp2_with fail
      refine (findC T _ kt t _ _ _ x1 b1 _ _ HTW.out hkt HS1.out (by omega) HO1.out (by omega) HM1.out rfl).mono ?_
      rintro e w8 ⟨Q8, rfl, hQ8, hb_⟩
      have ZHTW := Aside0.mk (Kd.C_below (by repeat (with_reducible first | exact HTW.out | apply C_alloc | apply C_drew)) hb_); clear HTW; have HTW := ZHTW; clear ZHTW
      have ZHS2 := Aside0.mk (Kd.C_below (by repeat (with_reducible first | exact HS2.out | apply C_alloc | apply C_drew)) hb_); clear HS2; have HS2 := ZHS2; clear ZHS2
      have ZHS3 := Aside0.mk (Kd.C_below (by repeat (with_reducible first | exact HS3.out | apply C_alloc | apply C_drew)) hb_); clear HS3; have HS3 := ZHS3; clear ZHS3
      have ZHQW := Aside0.mk (Kd.C_below (by repeat (with_reducible first | exact HQW.out | apply C_alloc | apply C_drew)) hb_); clear HQW; have HQW := ZHQW; clear ZHQW
      have n_ := Aside0.mk (below_step (by repeat (first | exact HB.out | apply below_alloc | apply pw_below_drewN | apply below_drew1 | refine below_set ?_ (by first | omega | (simp; omega)))) hb_); clear HB hb_; have HB := n_; clear n_
      have HQ8 := Aside0.mk hQ8
      clear hQ8 HO1 HS1 HM1 hlo hhi
      have hcase : (ki = u1 ∧ u1 = u2) ∨ (ki = u2 ∧ ¬ ki = u1) ∨ (¬ ki = u1 ∧ ¬ ki = u2) := by omega
      rcases hcase with ⟨e1, e2⟩ | ⟨e2, e1⟩ | ⟨e1, e2⟩
      case' inl => subst e2 e1
      case' inr.inl => subst e2
      all_goals
        go_wp2_with fail
        refine (findC T _ kt t _ _ _ x2 b2 _ _ HTW.out hkt ?hseg ?hm HO2.out ?hm2 HM2.out rfl).mono ?_
        (case hm => omega); (case hm2 => omega); (case hseg => have e := HS2.out; first | exact e | (rw [if_neg e1] at e; exact e) | (simp only [if_true, Nat.sub_self] at e; first | exact e | (rw [show N - ki = 0 by omega] at e; exact e)))
        rintro e w9 ⟨Q9, rfl, hQ9, hb_⟩
        have ZHTW := Aside0.mk (Kd.C_below (by repeat (with_reducible first | exact HTW.out | apply C_alloc | apply C_drew)) hb_); clear HTW; have HTW := ZHTW; clear ZHTW
        have ZHS3 := Aside0.mk (Kd.C_below (by repeat (with_reducible first | exact HS3.out | apply C_alloc | apply C_drew)) hb_); clear HS3; have HS3 := ZHS3; clear ZHS3
        have ZHQW := Aside0.mk (Kd.C_below (by repeat (with_reducible first | exact HQW.out | apply C_alloc | apply C_drew)) hb_); clear HQW; have HQW := ZHQW; clear ZHQW
        have ZHQ8 := Aside0.mk (Kd.C_below (by repeat (with_reducible first | exact HQ8.out | apply C_alloc | apply C_drew)) hb_); clear HQ8; have HQ8 := ZHQ8; clear ZHQ8
        have n_ := Aside0.mk (below_step (by repeat (first | exact HB.out | apply below_alloc | apply pw_below_drewN | apply below_drew1 | refine below_set ?_ (by first | omega | (simp; omega)))) hb_); clear HB hb_; have HB := n_; clear n_
        have HQ9 := Aside0.mk hQ9
        clear hQ9 HO2 HS2 HM2
        go_wp2_with fail
        refine (findC T _ kt t _ _ _ x3 b3 _ _ HTW.out hkt ?hseg ?hm HO3.out ?hm2 HM3.out rfl).mono ?_
        (case hm => omega); (case hm2 => omega); (case hseg => have e := HS3.out; first | exact e | (rw [if_neg e2] at e; exact e) | (simp only [if_true, Nat.sub_self] at e; first | exact e | (rw [show N - ki = 0 by omega] at e; exact e)))
        rintro e w10 ⟨Q10, rfl, hQ10, hb_⟩
        have ZHQW := Aside0.mk (Kd.C_below (by repeat (with_reducible first | exact HQW.out | apply C_alloc | apply C_drew)) hb_); clear HQW; have HQW := ZHQW; clear ZHQW
        have ZHQ8 := Aside0.mk (Kd.C_below (by repeat (with_reducible first | exact HQ8.out | apply C_alloc | apply C_drew)) hb_); clear HQ8; have HQ8 := ZHQ8; clear ZHQ8
        have ZHQ9 := Aside0.mk (Kd.C_below (by repeat (with_reducible first | exact HQ9.out | apply C_alloc | apply C_drew)) hb_); clear HQ9; have HQ9 := ZHQ9; clear ZHQ9
        have n_ := Aside0.mk (below_step (by repeat (first | exact HB.out | apply below_alloc | apply pw_below_drewN | apply below_drew1 | refine below_set ?_ (by first | omega | (simp; omega)))) hb_); clear HB hb_; have HB := n_; clear n_
        have HQ10 := Aside0.mk hQ10
        clear hQ10 HO3 HS3 HM3 HTW
        have hl1 := Kd.C_len HQ8.out
        have hl2 := Kd.C_len HQ9.out
        have hl3 := Kd.C_len HQ10.out
        have hl4 : b1.length ≤ 20 := by omega
        have hl5 : b2.length ≤ 20 := by omega
        have hl6 : b3.length ≤ 20 := by omega
        have HW := HB
        clear HB
        have HB := Aside0.mk (Below.refl w10.heap.size w10)
        have HO := Aside0.mk True.intro
        go_wp2_with (first | ((with_reducible refine gate_builtin (b := .append) (xs := #[.const (.slice none 0 0), .tmp 101]) rfl ?_); (try (refine gate_guard (by rfl) ?_; dsimp only)); at_builtin; go_must (refine Kd.R_append_rows (Kd.bool) (w0 := w10) w10.heap.size rfl (.const (.slice none 0 0)) (.tmp 101) 37 4 (.bool false) 1 rfl Try.underlying37 info4 rfl (by decide) (by omega) _ ([]) (b1) (_) (_) (_) (fun _ => True) (fun _ => False) rfl rfl ?aO HQ8.out ?aK (fun _ hk => hk.elim) ?aF ?aB ?aS ?aL ?_; (case aK => exact (fun x cs h => h)); (case aB => exact (by repeat (first | exact HB.out | apply below_alloc | apply pw_below_drewN | apply below_drew1 | refine below_set ?_ (by first | omega | (simp; omega))))); (case aF => exact (fun _ _ => trivial)); (case aO => exact (Kd.R_nil _ _ _ _ _)); (case aS => exact below_size (by repeat (first | exact HB.out | apply below_alloc | apply pw_below_drewN | apply below_drew1 | refine below_set ?_ (by first | omega | (simp; omega))))); (case aL => first | omega | (simp; omega)); intro v1 w1 ho_ hb_ hg_ hat_; skip; clear HB; clear HO; have HB := Aside0.mk hb_; have HO := Aside0.mk ho_; clear ho_ hb_ hg_ hat_; )) | ((with_reducible refine gate_builtin (b := .append) (xs := #[.tmp 102, .tmp 103]) rfl ?_); (try (refine gate_guard (by rfl) ?_; dsimp only)); at_builtin; go_must (refine Kd.R_append_rows (Kd.bool) (w0 := w10) w10.heap.size rfl (.tmp 102) (.tmp 103) 37 4 (.bool false) 1 rfl Try.underlying37 info4 rfl (by decide) (by omega) _ (b1) (b2) (_) (_) (_) (fun _ => True) (fun _ => False) rfl rfl ?aO (Aside0.mk (Kd.C_below HQ9.out HB.out)).out ?aK (fun _ hk => hk.elim) ?aF ?aB ?aS ?aL ?_; (case aK => exact (fun _ _ hh => hh)); (case aB => exact (by repeat (first | exact HB.out | apply below_alloc | apply pw_below_drewN | apply below_drew1 | refine below_set ?_ (by first | omega | (simp; omega))))); (case aF => exact (fun _ _ => trivial)); (case aO => exact (by (with_reducible repeat (first | apply Kd.R_alloc | apply Kd.R_drewN | apply Kd.R_drew)); exact HO.out)); (case aS => exact below_size (by repeat (first | exact HB.out | apply below_alloc | apply pw_below_drewN | apply below_drew1 | refine below_set ?_ (by first | omega | (simp; omega))))); (case aL => first | omega | (simp; omega)); intro v1 w1 ho_ hb_ hg_ hat_; skip; clear HB; clear HO; have HB := Aside0.mk hb_; have HO := Aside0.mk ho_; clear ho_ hb_ hg_ hat_; )) | ((with_reducible refine gate_builtin (b := .append) (xs := #[.tmp 104, .tmp 105]) rfl ?_); (try (refine gate_guard (by rfl) ?_; dsimp only)); at_builtin; go_must (refine Kd.R_append_rows (Kd.bool) (w0 := w10) w10.heap.size rfl (.tmp 104) (.tmp 105) 37 4 (.bool false) 1 rfl Try.underlying37 info4 rfl (by decide) (by omega) _ (b1 ++ b2) (b3) (_) (_) (_) (fun _ => True) (fun _ => False) rfl rfl ?aO (Aside0.mk (Kd.C_below HQ10.out HB.out)).out ?aK (fun _ hk => hk.elim) ?aF ?aB ?aS ?aL ?_; (case aK => exact (fun _ _ hh => hh)); (case aB => exact (by repeat (first | exact HB.out | apply below_alloc | apply pw_below_drewN | apply below_drew1 | refine below_set ?_ (by first | omega | (simp; omega))))); (case aF => exact (fun _ _ => trivial)); (case aO => exact (by (with_reducible repeat (first | apply Kd.R_alloc | apply Kd.R_drewN | apply Kd.R_drew)); exact HO.out)); (case aS => exact below_size (by repeat (first | exact HB.out | apply below_alloc | apply pw_below_drewN | apply below_drew1 | refine below_set ?_ (by first | omega | (simp; omega))))); (case aL => first | omega | (simp; omega)); intro v1 w1 ho_ hb_ hg_ hat_; skip; clear HB; clear HO; have HB := Aside0.mk hb_; have HO := Aside0.mk ho_; clear ho_ hb_ hg_ hat_; )))
        obtain ⟨Av, cv, rfl⟩ := Kd.R_slice HO.out
        refine (boolsC Av (some Q) _ cv N N _ bs _ (Kd.R_reads' HO.out).2.2 (Kd.R_reads' HO.out).2.1 (Kd.C_below HQW.out HB.out) (Nat.le_refl _) ?hl HEQ.out).mono ?_
        case hl => rw [HEQ.out, Kd.C_len HQW.out]; omega
        rintro e w11 ⟨rfl, hb_⟩
        go_wp2
        go_ret
        exact ⟨rfl, below_step (below_step HW.out HB.out) hb_⟩
end Go.Proofs.Ytnfglkgkdechlaa

