
/- Where a mark stands, in the program (chapter 13): the library's BinarySearchFunc; Has. -/
import Derived.Test.YtppcojfgpjnagaaSeenWalk2
set_option linter.unusedVariables false
set_option linter.unusedSimpArgs false
namespace Go.Proofs.Ytppcojfgpjnagaa
open Go.RowKit Go.Proofs.YtppcojfgpjnagaaW.PrintWords Go.Proofs.YtppcojfgpjnagaaW.PrintLast Go.Proofs.YtppcojfgpjnagaaW.PrintMore

open Go.Proofs.Ytppcojfgpjnagaa.PQ

/-- p parts what is ahead of m from what is not. -/
def SpotM (l : List Mk) (m : Mk) (p : Nat) : Prop := p ≤ l.length ∧ (∀ k : Nat, k < p → ltM (rdM l k) m = true) ∧ ∀ k : Nat, p ≤ k → k < l.length → ltM (rdM l k) m = false
abbrev sortedM (l : List Mk) : Prop := l.Pairwise (fun a b => ltM a b = true)
theorem sorted_get {l : List Mk} (h : sortedM l) {i j : Nat} (hij : i < j) (hj : j < l.length) : ltM (rdM l i) (rdM l j) = true := by
  rw [rdM_eq hj, rdM_eq (by omega : i < l.length)]
  exact (List.pairwise_iff_getElem.1 h) i j (by omega) hj hij
theorem mem_spot {l : List Mk} {m : Mk} {p : Nat} (hs : sortedM l) (h : SpotM l m p) : m ∈ l ↔ (p < l.length ∧ rdM l p = m) := by
  obtain ⟨h0, h1, h2⟩ := h
  constructor
  · intro hm
    obtain ⟨i, hi, rfl⟩ := List.getElem_of_mem hm
    rw [← rdM_eq hi] at *
    rcases Nat.lt_trichotomy i p with h | h | h
    · have := h1 i h
      rw [ltM_irr] at this
      cases this
    · subst h
      exact ⟨hi, rfl⟩
    · have h3 := h2 p (Nat.le_refl _) (by omega)
      have h4 := sorted_get hs h hi
      rw [h4] at h3
      cases h3
  · rintro ⟨h3, h4⟩
    rw [← h4, rdM_eq h3]
    exact List.getElem_mem h3
set_option maxRecDepth 100000 in
set_option maxHeartbeats 8000000 in
theorem SearchM_calls (A : Option Addr) (n c : Nat) (l : List Mk) (m : Mk) (w : World) (hr : kM.C w A n l) : Calls Try.prog 25 #[.slice A n c, .agg #[.int .i64 m.f0, .int .i64 m.f1, .int .i64 m.f2], .func (.func 26) #[] #[]] w
    fun e w' => ∃ (p : Nat) (q : Bool), e = .returned (.tuple #[.int .i64 p, .bool q]) ∧ (sortedM l → SpotM l m p ∧ q = decide (m ∈ l)) ∧ p ≤ n ∧ Below w.heap.size w w' := by
  have hmx := Kd.C_max hr
  have HN := Aside0.mk (show n = l.length from (Kd.C_len hr).symm)
  have HX := Aside0.mk hr
  clear hr
  have HB := Aside0.mk (Below.refl w.heap.size w)
  go_enter Try.func25, Try.ntmps25
  go_upto_region 3 with (fail)
  generalize hW : w.alloc (.cells _ _) = W
  have bE : Box W w.heap.size #[.int .i64 m.f0, .int .i64 m.f1, .int .i64 m.f2] 25 := hW ▸ Box.new
  have HW := Aside0.mk (show Below w.heap.size w W from hW ▸ below_alloc HB.out _)
  have XE := Aside0.mk bE
  clear hW HB bE
  go_loopw [9, 10] (fun i j wx => ∃ lo hi : Nat, lo ≤ hi ∧ hi ≤ n ∧ i = .int .i64 lo ∧ j = .int .i64 hi ∧ (sortedM l → (∀ k : Nat, k < lo → ltM (rdM l k) m = true) ∧ (∀ k : Nat, hi ≤ k → k < l.length → ltM (rdM l k) m = false)) ∧ Below W.heap.size W wx) (fun i j _ => (intOf j).toNat - (intOf i).toNat)
  case atStart => exact ⟨0, n, by omega, by omega, rfl, rfl, fun _ => ⟨fun k hk => by omega, fun k hk hl => by rw [HN.out] at hk; omega⟩, Below.refl _ _⟩
  case round =>
    obtain ⟨lo, hi, h0, h1, rfl, rfl, hs, hbx⟩ := hrel
    rename World => wo
    have HBX := Aside0.mk hbx
    have HS := Aside0.mk hs
    clear hbx hs
    have rE := (Box.below XE.out HBX.out).cell
    have kE := (Box.below XE.out HBX.out).lt
    have HZ := Aside0.mk (below_step HW.out HBX.out)
    by_cases hlt : lo < hi
    · obtain ⟨d, hd0⟩ : ∃ d : Nat, (lo + hi) / 2 = d := ⟨_, rfl⟩
      have hdl : lo ≤ d ∧ d < hi := by omega
      have hw1 : IntKind.u64.wrap (wrap64 ((lo : Int) + hi)) = (lo : Int) + hi := by
        rw [IntKind.wrap_u64]
        unfold wrap64
        omega
      have hd : ((lo : Int) + hi) / 2 = (d : Int) := by omega
      have hw3 : wrap64 (d : Int) = d := by unfold wrap64; omega
      have hdn : d < n := by omega
      obtain ⟨ad, rfl, c0, c1, c2⟩ := at_T25 HX.out (d : Int) (by omega) (by omega)
      replace c0 := (HZ.out.cell (cell_lt c0)).trans c0
      replace c1 := (HZ.out.cell (cell_lt c1)).trans c1
      replace c2 := (HZ.out.cell (cell_lt c2)).trans c2
      rw [Int.toNat_natCast] at c0 c1 c2
      obtain ⟨y, hy⟩ : ∃ y, rdM l d = y := ⟨_, rfl⟩
      have HYY := Aside0.mk hy
      unfold rdM at hy
      rw [hy] at c0 c1 c2
      clear hy
      have rP0 := c0
      have rP1 := c1
      have rP2 := c2
      have kP0 := cell_lt c0
      have kP1 := cell_lt c1
      have kP2 := cell_lt c2
      clear c0 c1 c2
      go_upto_region 5 with (fail)
      (try rw [hw1]); (try rw [hd]); (try rw [hw3])
      have HD0 := Aside0.mk hd0
      clear hw1 hd hw3 hd0
      obtain ⟨q, hq⟩ : ∃ q, cmpM y m = q := ⟨_, rfl⟩
      have HQ := Aside0.mk hq
      have hk0 : 0 ≤ (d : Int) := by omega
      have hkn : (d : Int) < (n : Int) := by omega
      clear hq
      go_region_held3 (fun w' => Below wo.heap.size wo w' ∧ (∀ j, w'.cell? ⟨w.heap.size, j, none⟩ = (#[.int .i64 m.f0, .int .i64 m.f1, .int .i64 m.f2] : Array Value)[j]?) ∧ (w'.cell? (ad.add (d * 3)) = some (.int .i64 y.f0)) ∧ (w'.cell? ((⟨(ad.add (d * 3)).block, (ad.add (d * 3)).off + 1, none⟩ : Addr)) = some (.int .i64 y.f1)) ∧ (w'.cell? ((⟨(ad.add (d * 3)).block, (ad.add (d * 3)).off + 2, none⟩ : Addr)) = some (.int .i64 y.f2))) (first | exact ⟨below_drew1 (Below.refl _ _), rE, rP0, rP1, rP2⟩ | exact ⟨below_drew1 b0_, rE, rP0, rP1, rP2⟩ | exact ⟨j0, jE, jP0, jP1, jP2⟩ | exact ⟨below_alloc j0 _, fun j => (cell_alloc_old (Nat.lt_of_lt_of_le kE j0.size)).trans (jE j), (cell_alloc_oldp (Nat.lt_of_lt_of_le kP0 j0.size)).trans jP0, (cell_alloc_oldp (Nat.lt_of_lt_of_le kP1 j0.size)).trans jP1, (cell_alloc_oldp (Nat.lt_of_lt_of_le kP2 j0.size)).trans jP2⟩ | exact ⟨below_alloc (below_drew1 (Below.refl _ _)) _, fun j => (cell_alloc_old kE).trans (rE j), (cell_alloc_oldp kP0).trans rP0, (cell_alloc_oldp kP1).trans rP1, (cell_alloc_oldp kP2).trans rP2⟩ | assumption) (first | (go_at_call 26; obtain ⟨g0, gE, gP0, gP1, gP2⟩ := ‹Below wo.heap.size wo _ ∧ _›; ((with_reducible refine (order_v y m q _ HQ.out).mono ?_));  rintro e w6 ⟨rfl, hb_⟩; have j0 := below_step g0 hb_; have s6 := j0.size; have jE := fun j => (j0.cell (p := ⟨w.heap.size, j, none⟩) kE).trans (rE j); have jP0 := (j0.cell (p := ad.add (d * 3)) kP0).trans rP0; have jP1 := (j0.cell (p := (⟨(ad.add (d * 3)).block, (ad.add (d * 3)).off + 1, none⟩ : Addr)) kP1).trans rP1; have jP2 := (j0.cell (p := (⟨(ad.add (d * 3)).block, (ad.add (d * 3)).off + 2, none⟩ : Addr)) kP2).trans rP2))
      have HY2 := Aside0.mk (below_step HBX.out j0)
      clear rE kE rP0 rP1 rP2 kP0 kP1 kP2
      have hcl : ltM (rdM l d) m = decide (q < 0) := by rw [HYY.out, cmp_lt, HQ.out]
      have HCL := Aside0.mk hcl
      clear hcl
      rcases Int.lt_or_le q 0 with hqs | hqs
      · have hd2 : decide (q < 0) = true := decide_eq_true hqs
        have HC2 := Aside0.mk (HCL.out.trans hd2)
        go_wp2
        refine ⟨⟨d + 1, hi, by omega, h1, by go_num, rfl, fun hso => ⟨fun k hk => ?_, (HS.out hso).2⟩, HY2.out⟩, by simp [intOf]; omega⟩
        rcases Nat.lt_or_ge k d with g | g
        · exact ltM_trans (sorted_get hso g (by rw [← HN.out]; exact hdn)) HC2.out
        · rw [show k = d by omega]
          exact HC2.out
      · have hd2 : decide (q < 0) = false := decide_eq_false (by omega)
        have HC2 := Aside0.mk (HCL.out.trans hd2)
        go_wp2
        refine ⟨⟨lo, d, by omega, by omega, rfl, rfl, fun hso => ⟨(HS.out hso).1, fun k hk hl => ?_⟩, HY2.out⟩, by simp [intOf]; omega⟩
        rcases Nat.lt_or_ge d k with g | g
        · rw [← Bool.not_eq_true]
          intro hh
          have := ltM_trans (sorted_get hso g hl) hh
          rw [HC2.out] at this
          cases this
        · rw [show k = d by omega]
          exact HC2.out
    · obtain rfl : lo = hi := by omega
      have HSP := Aside0.mk (fun (hso : sortedM l) => (show SpotM l m lo from ⟨by rw [← HN.out]; exact h1, (HS.out hso).1, (HS.out hso).2⟩))
      by_cases hln : lo < n
      · obtain ⟨ad, rfl, c0, c1, c2⟩ := at_T25 HX.out (lo : Int) (by omega) (by omega)
        replace c0 := (HZ.out.cell (cell_lt c0)).trans c0
        replace c1 := (HZ.out.cell (cell_lt c1)).trans c1
        replace c2 := (HZ.out.cell (cell_lt c2)).trans c2
        rw [Int.toNat_natCast] at c0 c1 c2
        obtain ⟨y, hy⟩ : ∃ y, rdM l lo = y := ⟨_, rfl⟩
        have HYY := Aside0.mk hy
        unfold rdM at hy
        rw [hy] at c0 c1 c2
        clear hy
        have rP0 := c0
        have rP1 := c1
        have rP2 := c2
        have kP0 := cell_lt c0
        have kP1 := cell_lt c1
        have kP2 := cell_lt c2
        clear c0 c1 c2
        go_upto_region 8 with (fail)
        obtain ⟨q, hq⟩ : ∃ q, cmpM y m = q := ⟨_, rfl⟩
        have HQ := Aside0.mk hq
        clear hq
        have hln2 : decide (lo < n) = true := decide_eq_true hln
        have hk0 : 0 ≤ (lo : Int) := by omega
        have hkn : (lo : Int) < (n : Int) := by omega
        refine wp_region_held_drew (S := (fun w' => Below wo.heap.size wo w' ∧ (∀ j, w'.cell? ⟨w.heap.size, j, none⟩ = (#[.int .i64 m.f0, .int .i64 m.f1, .int .i64 m.f2] : Array Value)[j]?) ∧ (w'.cell? (ad.add (lo * 3)) = some (.int .i64 y.f0)) ∧ (w'.cell? ((⟨(ad.add (lo * 3)).block, (ad.add (lo * 3)).off + 1, none⟩ : Addr)) = some (.int .i64 y.f1)) ∧ (w'.cell? ((⟨(ad.add (lo * 3)).block, (ad.add (lo * 3)).off + 2, none⟩ : Addr)) = some (.int .i64 y.f2)))) (by kernel_rfl) ?hS4x0 (fun hHeld => ?hR4x0)
        case hS4x0 => ((try dsimp only); (first | exact ⟨below_drew1 (Below.refl _ _), rE, rP0, rP1, rP2⟩ | exact ⟨below_drew1 b0_, rE, rP0, rP1, rP2⟩ | exact ⟨j0, jE, jP0, jP1, jP2⟩ | exact ⟨below_alloc j0 _, fun j => (cell_alloc_old (Nat.lt_of_lt_of_le kE j0.size)).trans (jE j), (cell_alloc_oldp (Nat.lt_of_lt_of_le kP0 j0.size)).trans jP0, (cell_alloc_oldp (Nat.lt_of_lt_of_le kP1 j0.size)).trans jP1, (cell_alloc_oldp (Nat.lt_of_lt_of_le kP2 j0.size)).trans jP2⟩ | exact ⟨below_alloc (below_drew1 (Below.refl _ _)) _, fun j => (cell_alloc_old kE).trans (rE j), (cell_alloc_oldp kP0).trans rP0, (cell_alloc_oldp kP1).trans rP1, (cell_alloc_oldp kP2).trans rP2⟩ | assumption))
        refine wpAnyH_take (i := 0) (oi := ⟨some 35, _, _, _, _, _⟩) (v := ?_) rfl (by kernel_rfl) (by kernel_rfl) (by kernel_rfl) (fun _ _ _ h => h) (Or.inl ⟨by rfl, ?hY4x2⟩) (by assumption) ?hR4x2
        case hY4x2 => (intro w hSw; (try dsimp only at hSw); go_simp; try with_reducible rfl)
        (try simp only [Act.put, List.setIfInBounds_toArray, List.set_cons_zero, List.set_cons_succ])
        refine wpAnyH_take (i := 1) (oi := ⟨some 36, _, _, _, _, _⟩) (v := ?_) rfl (by kernel_rfl) (by kernel_rfl) (by kernel_rfl) (fun _ _ _ h => h) (Or.inl ⟨by rfl, ?hY4x3⟩) (by assumption) ?hR4x3
        case hY4x3 => (intro w hSw; (try dsimp only at hSw); go_simp; try with_reducible rfl)
        (try simp only [Act.put, List.setIfInBounds_toArray, List.set_cons_zero, List.set_cons_succ])
        refine wpAnyH_take (i := 2) (oi := ⟨some 37, _, _, _, _, _⟩) (v := ?_) rfl (by kernel_rfl) (by kernel_rfl) (by kernel_rfl) (fun _ _ _ h => h) (Or.inl ⟨by rfl, ?hY4x4⟩) (by assumption) ?hR4x4
        case hY4x4 => (intro w hSw; (try dsimp only at hSw); go_simp; try with_reducible rfl)
        (try simp only [Act.put, List.setIfInBounds_toArray, List.set_cons_zero, List.set_cons_succ])
        refine wpAnyH_take (i := 3) (oi := ⟨some 38, _, _, _, _, _⟩) (v := ?_) rfl (by kernel_rfl) (by kernel_rfl) (by kernel_rfl) (fun _ _ _ h => h) (Or.inl ⟨by rfl, ?hY4x5⟩) (by assumption) ?hR4x5
        case hY4x5 => (intro w hSw; (try dsimp only at hSw); go_simp; try with_reducible rfl)
        (try simp only [Act.put, List.setIfInBounds_toArray, List.set_cons_zero, List.set_cons_succ])
        refine wpAnyH_take (i := 4) (oi := ⟨some 39, _, _, _, _, _⟩) (v := ?_) rfl (by kernel_rfl) (by kernel_rfl) (by kernel_rfl) (fun _ _ _ h => h) (Or.inl ⟨by rfl, ?hY4x6⟩) (by assumption) ?hR4x6
        case hY4x6 => (intro w hSw; (try dsimp only at hSw); go_simp; try with_reducible rfl)
        (try simp only [Act.put, List.setIfInBounds_toArray, List.set_cons_zero, List.set_cons_succ])
        refine wpAnyH_take (i := 5) (oi := ⟨some 40, _, _, _, _, _⟩) (v := ?_) rfl (by kernel_rfl) (by kernel_rfl) (by kernel_rfl) (fun _ _ _ h => h) (Or.inl ⟨by rfl, ?hY4x7⟩) (by assumption) ?hR4x7
        case hY4x7 => (intro w hSw; (try dsimp only at hSw); go_simp; try with_reducible rfl)
        (try simp only [Act.put, List.setIfInBounds_toArray, List.set_cons_zero, List.set_cons_succ])
        refine wpAnyH_take (i := 6) (oi := ⟨some 41, _, _, _, _, _⟩) (v := ?_) rfl (by kernel_rfl) (by kernel_rfl) (by kernel_rfl) (fun _ _ _ h => h) (Or.inl ⟨by rfl, ?hY4x8⟩) (by assumption) ?hR4x8
        case hY4x8 => (intro w hSw; (try dsimp only at hSw); go_simp; try with_reducible rfl)
        (try simp only [Act.put, List.setIfInBounds_toArray, List.set_cons_zero, List.set_cons_succ])
        refine wpAnyH_take (i := 7) (oi := ⟨some 42, _, _, _, _, _⟩) (v := ?_) rfl (by kernel_rfl) (by kernel_rfl) (by kernel_rfl) (fun _ _ _ h => h) (Or.inl ⟨by rfl, ?hY4x9⟩) (by assumption) ?hR4x9
        case hY4x9 => (intro w hSw; (try dsimp only at hSw); go_simp; try with_reducible rfl)
        (try simp only [Act.put, List.setIfInBounds_toArray, List.set_cons_zero, List.set_cons_succ])
        refine wpAnyH_take (i := 8) (oi := ⟨some 43, _, _, _, _, _⟩) (v := ?_) rfl (by kernel_rfl) (by kernel_rfl) (by kernel_rfl) (fun _ _ _ h => h) (Or.inl ⟨by rfl, ?hY4x10⟩) (by assumption) ?hR4x10
        case hY4x10 => (intro w hSw; (try dsimp only at hSw); go_simp; try with_reducible rfl)
        (try simp only [Act.put, List.setIfInBounds_toArray, List.set_cons_zero, List.set_cons_succ])
        refine wpAnyH_take (i := 9) (oi := ⟨some 44, _, _, _, _, _⟩) (v := ?_) rfl (by kernel_rfl) (by kernel_rfl) (by kernel_rfl) (fun _ _ _ h => h) (Or.inl ⟨by rfl, ?hY4x11⟩) (by assumption) ?hR4x11
        case hY4x11 => (intro w hSw; (try dsimp only at hSw); go_simp; try with_reducible rfl)
        (try simp only [Act.put, List.setIfInBounds_toArray, List.set_cons_zero, List.set_cons_succ])
        refine wpAnyH_take (i := 10) (oi := ⟨some 45, _, _, _, _, _⟩) (v := ?_) rfl (by kernel_rfl) (by kernel_rfl) (by kernel_rfl) (fun _ _ _ h => h) (Or.inl ⟨by rfl, ?hY4x12⟩) (by assumption) ?hR4x12
        case hY4x12 => (intro w hSw; (try dsimp only at hSw); go_simp; try with_reducible rfl)
        (try simp only [Act.put, List.setIfInBounds_toArray, List.set_cons_zero, List.set_cons_succ])
        refine wpAnyH_ready (rs := [11]) (by kernel_rfl) (by simp) ?_
        refine AllReadyH.cons (o := ⟨some 46, _, _, _, _, _⟩) rfl (fun K hK => ?hT4x13) ?hM4x13
        case hM4x13 => exact AllReadyH.nil
        go_simp
        (first | (go_at_call 26; obtain ⟨g0, gE, gP0, gP1, gP2⟩ := ‹Below wo.heap.size wo _ ∧ _›; ((with_reducible refine (order_v y m q _ HQ.out).mono ?_));  rintro e w6 ⟨rfl, hb_⟩; have j0 := below_step g0 hb_; have s6 := j0.size; have jE := fun j => (j0.cell (p := ⟨w.heap.size, j, none⟩) kE).trans (rE j); have jP0 := (j0.cell (p := ad.add (lo * 3)) kP0).trans rP0; have jP1 := (j0.cell (p := (⟨(ad.add (lo * 3)).block, (ad.add (lo * 3)).off + 1, none⟩ : Addr)) kP1).trans rP1; have jP2 := (j0.cell (p := (⟨(ad.add (lo * 3)).block, (ad.add (lo * 3)).off + 2, none⟩ : Addr)) kP2).trans rP2))
        (try go_wp2_with fail)
        refine hK.out _ _ ?hS4x13 (fun hHeld => ?hR4x13)
        case hS4x13 => ((try dsimp only); (first | exact ⟨below_drew1 (Below.refl _ _), rE, rP0, rP1, rP2⟩ | exact ⟨below_drew1 b0_, rE, rP0, rP1, rP2⟩ | exact ⟨j0, jE, jP0, jP1, jP2⟩ | exact ⟨below_alloc j0 _, fun j => (cell_alloc_old (Nat.lt_of_lt_of_le kE j0.size)).trans (jE j), (cell_alloc_oldp (Nat.lt_of_lt_of_le kP0 j0.size)).trans jP0, (cell_alloc_oldp (Nat.lt_of_lt_of_le kP1 j0.size)).trans jP1, (cell_alloc_oldp (Nat.lt_of_lt_of_le kP2 j0.size)).trans jP2⟩ | exact ⟨below_alloc (below_drew1 (Below.refl _ _)) _, fun j => (cell_alloc_old kE).trans (rE j), (cell_alloc_oldp kP0).trans rP0, (cell_alloc_oldp kP1).trans rP1, (cell_alloc_oldp kP2).trans rP2⟩ | assumption))
        clear hK K
        (try simp only [Act.put, List.setIfInBounds_toArray, List.set_cons_zero, List.set_cons_succ])
        refine wpAnyH_take (i := 12) (oi := ⟨some 47, _, _, _, _, _⟩) (v := ?_) rfl (by kernel_rfl) (by kernel_rfl) (by kernel_rfl) (fun _ _ _ h => h) (Or.inl ⟨by rfl, ?hY4x14⟩) (by assumption) ?hR4x14
        case hY4x14 => (intro w hSw; (try dsimp only at hSw); go_simp; try with_reducible rfl)
        (try simp only [Act.put, List.setIfInBounds_toArray, List.set_cons_zero, List.set_cons_succ])
        refine wpAnyH_take (i := 13) (oi := ⟨some 48, _, _, _, _, _⟩) (v := ?_) rfl (by kernel_rfl) (by kernel_rfl) (by kernel_rfl) (fun _ _ _ h => h) (Or.inl ⟨by rfl, ?hY4x15⟩) (by assumption) ?hR4x15
        case hY4x15 => (intro w hSw; (try dsimp only at hSw); go_simp; try with_reducible rfl)
        (try simp only [Act.put, List.setIfInBounds_toArray, List.set_cons_zero, List.set_cons_succ])
        refine wpAnyH_take (i := 14) (oi := ⟨some 6, _, _, _, _, _⟩) (v := ?_) rfl (by kernel_rfl) (by kernel_rfl) (by kernel_rfl) (fun _ _ _ h => h) (Or.inl ⟨by rfl, ?hY4x16⟩) (by assumption) ?hR4x16
        case hY4x16 => (intro w hSw; (try dsimp only at hSw); go_simp; try with_reducible rfl)
        (try simp only [Act.put, List.setIfInBounds_toArray, List.set_cons_zero, List.set_cons_succ])
        refine wpAnyH_take (i := 15) (oi := ⟨some 7, _, _, _, _, _⟩) (v := ?_) rfl (by kernel_rfl) (by kernel_rfl) (by kernel_rfl) (fun _ _ _ h => h) (Or.inl ⟨by rfl, ?hY4x17⟩) (by assumption) ?hR4x17
        case hY4x17 => (intro w hSw; (try dsimp only at hSw); go_simp; try with_reducible rfl)
        (try simp only [Act.put, List.setIfInBounds_toArray, List.set_cons_zero, List.set_cons_succ])
        refine wpAnyH_done (by kernel_rfl) ?_ _
        have HY2 := Aside0.mk (below_step HZ.out j0)
        have HL := Aside0.mk hln
        clear rE kE rP0 rP1 rP2 kP0 kP1 kP2 hln2
        rcases cmpM_cases y m with ⟨g1, g2⟩ | ⟨g1, g2⟩ | ⟨g1, g2⟩
        all_goals
          have G1 := Aside0.mk g1
          obtain rfl : q = _ := HQ.out.symm.trans g2
          clear g1 g2
          go_wp2
          go_ret2
          refine ⟨lo, _, rfl, fun hso => ⟨HSP.out hso, ?_⟩, h1, HY2.out⟩
          have hms := mem_spot hso (HSP.out hso)
          rw [HYY.out, ← HN.out] at hms
          rw [eq_comm]
        · refine decide_eq_false (fun hm => ?_)
          have := (hms.1 hm).2
          rw [this, ltM_irr] at G1
          cases G1.out
        · exact decide_eq_true (hms.2 ⟨HL.out, G1.out⟩)
        · refine decide_eq_false (fun hm => ?_)
          have := (hms.1 hm).2
          rw [this, ltM_irr] at G1
          cases G1.out
      · have HL := Aside0.mk hln
        have hln2 : decide (lo < n) = false := decide_eq_false hln
        go_upto_region 8 with (fail)
        refine wp_region_held_drew (S := (fun w' => Below wo.heap.size wo w' ∧ (∀ j, w'.cell? ⟨w.heap.size, j, none⟩ = (#[.int .i64 m.f0, .int .i64 m.f1, .int .i64 m.f2] : Array Value)[j]?))) (by kernel_rfl) ?hS5x0 (fun hHeld => ?hR5x0)
        case hS5x0 => ((try dsimp only); (first | exact ⟨below_drew1 (Below.refl _ _), rE⟩ | exact ⟨below_drew1 b0_, rE⟩ | exact ⟨j0, jE⟩ | exact ⟨below_alloc j0 _, fun j => (cell_alloc_old (Nat.lt_of_lt_of_le kE j0.size)).trans (jE j)⟩ | exact ⟨below_alloc (below_drew1 (Below.refl _ _)) _, fun j => (cell_alloc_old kE).trans (rE j)⟩ | assumption))
        refine wpAnyH_take (i := 0) (oi := ⟨some 35, _, _, _, _, _⟩) (v := ?_) rfl (by kernel_rfl) (by kernel_rfl) (by kernel_rfl) (fun _ _ _ h => h) (Or.inl ⟨by rfl, ?hY5x2⟩) (by assumption) ?hR5x2
        case hY5x2 => (intro w hSw; (try dsimp only at hSw); go_simp; try with_reducible rfl)
        (try simp only [Act.put, List.setIfInBounds_toArray, List.set_cons_zero, List.set_cons_succ])
        refine wpAnyH_take (i := 1) (oi := ⟨some 36, _, _, _, _, _⟩) (v := ?_) rfl (by kernel_rfl) (by kernel_rfl) (by kernel_rfl) (fun _ _ _ h => h) (Or.inl ⟨by rfl, ?hY5x3⟩) (by assumption) ?hR5x3
        case hY5x3 => (intro w hSw; (try dsimp only at hSw); go_simp; try with_reducible rfl)
        (try simp only [Act.put, List.setIfInBounds_toArray, List.set_cons_zero, List.set_cons_succ])
        refine wpAnyH_take (i := 2) (oi := ⟨some 37, _, _, _, _, _⟩) (v := ?_) rfl (by kernel_rfl) (by kernel_rfl) (by kernel_rfl) (fun _ _ _ h => h) (Or.inl ⟨by rfl, ?hY5x4⟩) (by assumption) ?hR5x4
        case hY5x4 => (intro w hSw; (try dsimp only at hSw); go_simp; try with_reducible rfl)
        (try simp only [Act.put, List.setIfInBounds_toArray, List.set_cons_zero, List.set_cons_succ])
        refine wpAnyH_take (i := 3) (oi := ⟨some 38, _, _, _, _, _⟩) (v := ?_) rfl (by kernel_rfl) (by kernel_rfl) (by kernel_rfl) (fun _ _ _ h => h) (Or.inl ⟨by rfl, ?hY5x5⟩) (by assumption) ?hR5x5
        case hY5x5 => (intro w hSw; (try dsimp only at hSw); go_simp; try with_reducible rfl)
        (try simp only [Act.put, List.setIfInBounds_toArray, List.set_cons_zero, List.set_cons_succ])
        refine wpAnyH_take (i := 4) (oi := ⟨some 39, _, _, _, _, _⟩) (v := ?_) rfl (by kernel_rfl) (by kernel_rfl) (by kernel_rfl) (fun _ _ _ h => h) (Or.inl ⟨by rfl, ?hY5x6⟩) (by assumption) ?hR5x6
        case hY5x6 => (intro w hSw; (try dsimp only at hSw); go_simp; try with_reducible rfl)
        (try simp only [Act.put, List.setIfInBounds_toArray, List.set_cons_zero, List.set_cons_succ])
        refine wpAnyH_take (i := 5) (oi := ⟨some 40, _, _, _, _, _⟩) (v := undef) rfl (by kernel_rfl) (by kernel_rfl) (by kernel_rfl) (fun _ _ _ h => h) (Or.inr ⟨by rfl, rfl⟩) (by assumption) ?_
        (try simp only [Act.put, List.setIfInBounds_toArray, List.set_cons_zero, List.set_cons_succ])
        refine wpAnyH_take (i := 6) (oi := ⟨some 41, _, _, _, _, _⟩) (v := undef) rfl (by kernel_rfl) (by kernel_rfl) (by kernel_rfl) (fun _ _ _ h => h) (Or.inr ⟨by rfl, rfl⟩) (by assumption) ?_
        (try simp only [Act.put, List.setIfInBounds_toArray, List.set_cons_zero, List.set_cons_succ])
        refine wpAnyH_take (i := 7) (oi := ⟨some 42, _, _, _, _, _⟩) (v := undef) rfl (by kernel_rfl) (by kernel_rfl) (by kernel_rfl) (fun _ _ _ h => h) (Or.inr ⟨by rfl, rfl⟩) (by assumption) ?_
        (try simp only [Act.put, List.setIfInBounds_toArray, List.set_cons_zero, List.set_cons_succ])
        refine wpAnyH_take (i := 8) (oi := ⟨some 43, _, _, _, _, _⟩) (v := undef) rfl (by kernel_rfl) (by kernel_rfl) (by kernel_rfl) (fun _ _ _ h => h) (Or.inr ⟨by rfl, rfl⟩) (by assumption) ?_
        (try simp only [Act.put, List.setIfInBounds_toArray, List.set_cons_zero, List.set_cons_succ])
        refine wpAnyH_take (i := 9) (oi := ⟨some 44, _, _, _, _, _⟩) (v := undef) rfl (by kernel_rfl) (by kernel_rfl) (by kernel_rfl) (fun _ _ _ h => h) (Or.inr ⟨by rfl, rfl⟩) (by assumption) ?_
        (try simp only [Act.put, List.setIfInBounds_toArray, List.set_cons_zero, List.set_cons_succ])
        refine wpAnyH_take (i := 10) (oi := ⟨some 45, _, _, _, _, _⟩) (v := undef) rfl (by kernel_rfl) (by kernel_rfl) (by kernel_rfl) (fun _ _ _ h => h) (Or.inr ⟨by rfl, rfl⟩) (by assumption) ?_
        (try simp only [Act.put, List.setIfInBounds_toArray, List.set_cons_zero, List.set_cons_succ])
        refine wpAnyH_take (i := 11) (oi := ⟨some 46, _, _, _, _, _⟩) (v := undef) rfl (by kernel_rfl) (by kernel_rfl) (by kernel_rfl) (fun _ _ _ h => h) (Or.inr ⟨by rfl, rfl⟩) (by assumption) ?_
        (try simp only [Act.put, List.setIfInBounds_toArray, List.set_cons_zero, List.set_cons_succ])
        refine wpAnyH_take (i := 12) (oi := ⟨some 47, _, _, _, _, _⟩) (v := undef) rfl (by kernel_rfl) (by kernel_rfl) (by kernel_rfl) (fun _ _ _ h => h) (Or.inr ⟨by rfl, rfl⟩) (by assumption) ?_
        (try simp only [Act.put, List.setIfInBounds_toArray, List.set_cons_zero, List.set_cons_succ])
        refine wpAnyH_take (i := 13) (oi := ⟨some 48, _, _, _, _, _⟩) (v := ?_) rfl (by kernel_rfl) (by kernel_rfl) (by kernel_rfl) (fun _ _ _ h => h) (Or.inl ⟨by rfl, ?hY5x15⟩) (by assumption) ?hR5x15
        case hY5x15 => (intro w hSw; (try dsimp only at hSw); go_simp; try with_reducible rfl)
        (try simp only [Act.put, List.setIfInBounds_toArray, List.set_cons_zero, List.set_cons_succ])
        refine wpAnyH_take (i := 14) (oi := ⟨some 6, _, _, _, _, _⟩) (v := ?_) rfl (by kernel_rfl) (by kernel_rfl) (by kernel_rfl) (fun _ _ _ h => h) (Or.inl ⟨by rfl, ?hY5x16⟩) (by assumption) ?hR5x16
        case hY5x16 => (intro w hSw; (try dsimp only at hSw); go_simp; try with_reducible rfl)
        (try simp only [Act.put, List.setIfInBounds_toArray, List.set_cons_zero, List.set_cons_succ])
        refine wpAnyH_take (i := 15) (oi := ⟨some 7, _, _, _, _, _⟩) (v := ?_) rfl (by kernel_rfl) (by kernel_rfl) (by kernel_rfl) (fun _ _ _ h => h) (Or.inl ⟨by rfl, ?hY5x17⟩) (by assumption) ?hR5x17
        case hY5x17 => (intro w hSw; (try dsimp only at hSw); go_simp; try with_reducible rfl)
        (try simp only [Act.put, List.setIfInBounds_toArray, List.set_cons_zero, List.set_cons_succ])
        refine wpAnyH_done (by kernel_rfl) ?_ _
        clear rE kE hln2
        go_wp2
        go_ret2
        refine ⟨lo, false, rfl, fun hso => ⟨HSP.out hso, ?_⟩, h1, pw_below_drewN HZ.out 1⟩
        have hms := mem_spot hso (HSP.out hso)
        rw [← HN.out] at hms
        exact (decide_eq_false (fun hm => HL.out (hms.1 hm).1)).symm
end Go.Proofs.Ytppcojfgpjnagaa
