
/- Whether marks may be, in the program (chapter 13): Right. -/
import Derived.Test.YtppcojfgpjnagaaSeenWalk
import Derived.Test.YtppcojfgpjnagaaBoxes
set_option linter.unusedVariables false
set_option linter.unusedSimpArgs false
namespace Go.Proofs.Ytppcojfgpjnagaa
open Go.RowKit Go.Proofs.YtppcojfgpjnagaaW.PrintWords Go.Proofs.YtppcojfgpjnagaaW.PrintLast Go.Proofs.YtppcojfgpjnagaaW.PrintMore

open Go.Proofs.Ytppcojfgpjnagaa.PQ

theorem smay_calls (a : Mk) (b : Bool) (w : World) (h : mayM a = b) : Calls Try.prog 24 #[.agg #[.int .i64 a.f0, .int .i64 a.f1, .int .i64 a.f2]] w fun e w' => e = .returned (.bool b) ∧ Below w.heap.size w w' :=
  seen_may.calls a.f0 a.f1 a.f2 b w (by rw [smay_f, h])
theorem order_v (a b : Mk) (c : Int) (w : World) (h : cmpM a b = c) : Calls Try.prog 26 #[.agg #[.int .i64 a.f0, .int .i64 a.f1, .int .i64 a.f2], .agg #[.int .i64 b.f0, .int .i64 b.f1, .int .i64 b.f2]] w fun e w' => e = .returned (.int .i64 c) ∧ Below w.heap.size w w' := h ▸ order_calls a b w
theorem cmp_lt {a b : Mk} : ltM a b = decide (cmpM a b < 0) := by
  rcases cmpM_cases a b with ⟨h, e⟩ | ⟨h, e⟩ | ⟨h, e⟩
  · rw [h, e]; rfl
  · rw [e, h, ltM_irr]; rfl
  · rw [ltM_asymm h, e]; rfl
set_option maxRecDepth 100000 in
set_option maxHeartbeats 8000000 in
theorem SRight_calls (A : Option Addr) (n c : Nat) (l : List Mk) (w : World) (hr : kM.C w A n l) : Calls Try.prog 22 #[.slice A n c] w fun e w' => e = .returned (.bool (rightM l)) ∧ Below w.heap.size w w' := by
  obtain rfl := Kd.C_len hr
  have hmx := Kd.C_max hr
  have HX := Aside0.mk hr
  clear hr
  have HB := Aside0.mk (Below.refl w.heap.size w)
  obtain ⟨R, hR⟩ : ∃ R, rightM l = R := ⟨_, rfl⟩
  have HR := Aside0.mk hR
  rw [hR]
  clear hR
  obtain ⟨n, hn⟩ : ∃ n, l.length = n := ⟨_, rfl⟩
  have HN := Aside0.mk hn
  rw [hn] at HX hmx ⊢
  clear hn
  go_enter Try.func22, Try.ntmps22
  go_wp2
  go_loopw [7] (fun iv wx => ∃ i : Nat, i ≤ n ∧ iv = .int .i64 i ∧ (∀ j, j < i → okAt l j = true) ∧ Below w.heap.size w wx) (fun iv _ => n - (intOf iv).toNat)
  case atStart => exact ⟨0, by omega, rfl, fun j hj => by omega, HB.out⟩
  case round =>
    clear HB
    obtain ⟨i, hi, rfl, hok, hbx⟩ := hrel
    rename World => wo
    have HBX := Aside0.mk hbx
    have HOK := Aside0.mk hok
    clear hbx hok
    by_cases hlt : i < n
    · obtain ⟨ad, rfl, c0, c1, c2⟩ := at_T25 HX.out (i : Int) (by omega) (by omega)
      replace c0 := (HBX.out.cell (cell_lt c0)).trans c0
      replace c1 := (HBX.out.cell (cell_lt c1)).trans c1
      replace c2 := (HBX.out.cell (cell_lt c2)).trans c2
      rw [Int.toNat_natCast] at c0 c1 c2
      obtain ⟨x, hx⟩ : ∃ x, rdM l i = x := ⟨_, rfl⟩
      have HXX := Aside0.mk hx
      unfold rdM at hx
      rw [hx] at c0 c1 c2
      clear hx
      go_upto_region 4 with (fail)
      clear c0 c1 c2
      generalize hV : wo.alloc (.cells _ _) = V
      have XM : Box V wo.heap.size #[.int .i64 x.f0, .int .i64 x.f1, .int .i64 x.f2] 25 := hV ▸ Box.new
      have HV := Aside0.mk (show Below w.heap.size w V from hV ▸ below_alloc HBX.out _)
      have rE := XM.cell
      have kE := XM.lt
      clear hV XM
      rcases Bool.eq_false_or_eq_true (mayM x) with hm | hm
      · have HM := Aside0.mk hm
        clear hm
        rcases Nat.eq_zero_or_pos i with h0 | h0
        · have HOI := Aside0.mk (show okAt l i = true by unfold okAt; rw [HXX.out, HM.out, h0]; rfl)
          subst h0
          refine wp_region_held_drew (S := (fun w' => Below V.heap.size V w' ∧ (∀ j, w'.cell? ⟨wo.heap.size, j, none⟩ = (#[.int .i64 x.f0, .int .i64 x.f1, .int .i64 x.f2] : Array Value)[j]?))) (by kernel_rfl) ?hS1x0 (fun hHeld => ?hR1x0)
          case hS1x0 => ((try dsimp only); (first | exact ⟨below_drew1 (Below.refl _ _), rE⟩ | exact ⟨below_drew1 b0_, rE⟩ | exact ⟨j0, jE⟩ | exact ⟨below_alloc j0 _, fun j => (cell_alloc_old (Nat.lt_of_lt_of_le kE j0.size)).trans (jE j)⟩ | exact ⟨below_alloc (below_drew1 (Below.refl _ _)) _, fun j => (cell_alloc_old kE).trans (rE j)⟩ | assumption))
          refine wpAnyH_take (i := 0) (oi := ⟨some 12, _, _, _, _, _⟩) (v := ?_) rfl (by kernel_rfl) (by kernel_rfl) (by kernel_rfl) (fun _ _ _ h => h) (Or.inl ⟨by rfl, ?hY1x2⟩) (by assumption) ?hR1x2
          case hY1x2 => (intro w hSw; (try dsimp only at hSw); go_simp; try with_reducible rfl)
          (try simp only [Act.put, List.setIfInBounds_toArray, List.set_cons_zero, List.set_cons_succ])
          refine wpAnyH_ready (rs := [1]) (by kernel_rfl) (by simp) ?_
          refine AllReadyH.cons (o := ⟨some 13, _, _, _, _, _⟩) rfl (fun K hK => ?hT1x3) ?hM1x3
          case hM1x3 => exact AllReadyH.nil
          go_simp
          (first | (go_at_call 24; obtain ⟨g0, gE⟩ := ‹Below V.heap.size V _ ∧ _›; ((with_reducible refine (smay_calls x true _ HM.out).mono ?_));  rintro e w5 ⟨rfl, hb_⟩; have j0 := below_step g0 hb_; have s5 := j0.size; have jE := fun j => (j0.cell (p := ⟨wo.heap.size, j, none⟩) kE).trans (rE j)))
          (try go_wp2_with fail)
          refine hK.out _ _ ?hS1x3 (fun hHeld => ?hR1x3)
          case hS1x3 => ((try dsimp only); (first | exact ⟨below_drew1 (Below.refl _ _), rE⟩ | exact ⟨below_drew1 b0_, rE⟩ | exact ⟨j0, jE⟩ | exact ⟨below_alloc j0 _, fun j => (cell_alloc_old (Nat.lt_of_lt_of_le kE j0.size)).trans (jE j)⟩ | exact ⟨below_alloc (below_drew1 (Below.refl _ _)) _, fun j => (cell_alloc_old kE).trans (rE j)⟩ | assumption))
          clear hK K
          (try simp only [Act.put, List.setIfInBounds_toArray, List.set_cons_zero, List.set_cons_succ])
          refine wpAnyH_take (i := 2) (oi := ⟨some 14, _, _, _, _, _⟩) (v := ?_) rfl (by kernel_rfl) (by kernel_rfl) (by kernel_rfl) (fun _ _ _ h => h) (Or.inl ⟨by rfl, ?hY1x4⟩) (by assumption) ?hR1x4
          case hY1x4 => (intro w hSw; (try dsimp only at hSw); go_simp; try with_reducible rfl)
          (try simp only [Act.put, List.setIfInBounds_toArray, List.set_cons_zero, List.set_cons_succ])
          refine wpAnyH_take (i := 3) (oi := ⟨some 15, _, _, _, _, _⟩) (v := ?_) rfl (by kernel_rfl) (by kernel_rfl) (by kernel_rfl) (fun _ _ _ h => h) (Or.inl ⟨by rfl, ?hY1x5⟩) (by assumption) ?hR1x5
          case hY1x5 => (intro w hSw; (try dsimp only at hSw); go_simp; try with_reducible rfl)
          (try simp only [Act.put, List.setIfInBounds_toArray, List.set_cons_zero, List.set_cons_succ])
          refine wpAnyH_take (i := 4) (oi := ⟨some 16, _, _, _, _, _⟩) (v := ?_) rfl (by kernel_rfl) (by kernel_rfl) (by kernel_rfl) (fun _ _ _ h => h) (Or.inl ⟨by rfl, ?hY1x6⟩) (by assumption) ?hR1x6
          case hY1x6 => (intro w hSw; (try dsimp only at hSw); go_simp; try with_reducible rfl)
          (try simp only [Act.put, List.setIfInBounds_toArray, List.set_cons_zero, List.set_cons_succ])
          refine wpAnyH_take (i := 5) (oi := ⟨some 17, _, _, _, _, _⟩) (v := ?_) rfl (by kernel_rfl) (by kernel_rfl) (by kernel_rfl) (fun _ _ _ h => h) (Or.inl ⟨by rfl, ?hY1x7⟩) (by assumption) ?hR1x7
          case hY1x7 => (intro w hSw; (try dsimp only at hSw); go_simp; try with_reducible rfl)
          (try simp only [Act.put, List.setIfInBounds_toArray, List.set_cons_zero, List.set_cons_succ])
          refine wpAnyH_take (i := 6) (oi := ⟨some 18, _, _, _, _, _⟩) (v := ?_) rfl (by kernel_rfl) (by kernel_rfl) (by kernel_rfl) (fun _ _ _ h => h) (Or.inl ⟨by rfl, ?hY1x8⟩) (by assumption) ?hR1x8
          case hY1x8 => (intro w hSw; (try dsimp only at hSw); go_simp; try with_reducible rfl)
          (try simp only [Act.put, List.setIfInBounds_toArray, List.set_cons_zero, List.set_cons_succ])
          refine wpAnyH_take (i := 7) (oi := ⟨some 19, _, _, _, _, _⟩) (v := undef) rfl (by kernel_rfl) (by kernel_rfl) (by kernel_rfl) (fun _ _ _ h => h) (Or.inr ⟨by rfl, rfl⟩) (by assumption) ?_
          (try simp only [Act.put, List.setIfInBounds_toArray, List.set_cons_zero, List.set_cons_succ])
          refine wpAnyH_take (i := 8) (oi := ⟨some 20, _, _, _, _, _⟩) (v := undef) rfl (by kernel_rfl) (by kernel_rfl) (by kernel_rfl) (fun _ _ _ h => h) (Or.inr ⟨by rfl, rfl⟩) (by assumption) ?_
          (try simp only [Act.put, List.setIfInBounds_toArray, List.set_cons_zero, List.set_cons_succ])
          refine wpAnyH_take (i := 9) (oi := ⟨some 21, _, _, _, _, _⟩) (v := undef) rfl (by kernel_rfl) (by kernel_rfl) (by kernel_rfl) (fun _ _ _ h => h) (Or.inr ⟨by rfl, rfl⟩) (by assumption) ?_
          (try simp only [Act.put, List.setIfInBounds_toArray, List.set_cons_zero, List.set_cons_succ])
          refine wpAnyH_take (i := 10) (oi := ⟨some 22, _, _, _, _, _⟩) (v := undef) rfl (by kernel_rfl) (by kernel_rfl) (by kernel_rfl) (fun _ _ _ h => h) (Or.inr ⟨by rfl, rfl⟩) (by assumption) ?_
          (try simp only [Act.put, List.setIfInBounds_toArray, List.set_cons_zero, List.set_cons_succ])
          refine wpAnyH_take (i := 11) (oi := ⟨some 23, _, _, _, _, _⟩) (v := undef) rfl (by kernel_rfl) (by kernel_rfl) (by kernel_rfl) (fun _ _ _ h => h) (Or.inr ⟨by rfl, rfl⟩) (by assumption) ?_
          (try simp only [Act.put, List.setIfInBounds_toArray, List.set_cons_zero, List.set_cons_succ])
          refine wpAnyH_take (i := 12) (oi := ⟨some 24, _, _, _, _, _⟩) (v := undef) rfl (by kernel_rfl) (by kernel_rfl) (by kernel_rfl) (fun _ _ _ h => h) (Or.inr ⟨by rfl, rfl⟩) (by assumption) ?_
          (try simp only [Act.put, List.setIfInBounds_toArray, List.set_cons_zero, List.set_cons_succ])
          refine wpAnyH_take (i := 13) (oi := ⟨some 25, _, _, _, _, _⟩) (v := undef) rfl (by kernel_rfl) (by kernel_rfl) (by kernel_rfl) (fun _ _ _ h => h) (Or.inr ⟨by rfl, rfl⟩) (by assumption) ?_
          (try simp only [Act.put, List.setIfInBounds_toArray, List.set_cons_zero, List.set_cons_succ])
          refine wpAnyH_take (i := 14) (oi := ⟨some 26, _, _, _, _, _⟩) (v := undef) rfl (by kernel_rfl) (by kernel_rfl) (by kernel_rfl) (fun _ _ _ h => h) (Or.inr ⟨by rfl, rfl⟩) (by assumption) ?_
          (try simp only [Act.put, List.setIfInBounds_toArray, List.set_cons_zero, List.set_cons_succ])
          refine wpAnyH_take (i := 15) (oi := ⟨some 27, _, _, _, _, _⟩) (v := ?_) rfl (by kernel_rfl) (by kernel_rfl) (by kernel_rfl) (fun _ _ _ h => h) (Or.inl ⟨by rfl, ?hY1x17⟩) (by assumption) ?hR1x17
          case hY1x17 => (intro w hSw; (try dsimp only at hSw); go_simp; try with_reducible rfl)
          (try simp only [Act.put, List.setIfInBounds_toArray, List.set_cons_zero, List.set_cons_succ])
          refine wpAnyH_take (i := 16) (oi := ⟨some 28, _, _, _, _, _⟩) (v := ?_) rfl (by kernel_rfl) (by kernel_rfl) (by kernel_rfl) (fun _ _ _ h => h) (Or.inl ⟨by rfl, ?hY1x18⟩) (by assumption) ?hR1x18
          case hY1x18 => (intro w hSw; (try dsimp only at hSw); go_simp; try with_reducible rfl)
          (try simp only [Act.put, List.setIfInBounds_toArray, List.set_cons_zero, List.set_cons_succ])
          refine wpAnyH_done (by kernel_rfl) ?_ _
          have HZ := Aside0.mk (below_step HV.out j0)
          go_wp2
          go_roundw
          case rel => exact ⟨1, by omega, by go_num, fun j hj => (by rw [show j = 0 by omega]; exact HOI.out), HZ.out⟩
          case measure => simp [intOf]; omega
        · obtain ⟨k, hk⟩ : ∃ k, k + 1 = i := ⟨i - 1, by omega⟩
          obtain ⟨ad2, e2, c0, c1, c2⟩ := at_T25 HX.out (k : Int) (by omega) (by omega)
          obtain rfl : ad = ad2 := by injection e2
          clear e2
          replace c0 := (HV.out.cell (cell_lt c0)).trans c0
          replace c1 := (HV.out.cell (cell_lt c1)).trans c1
          replace c2 := (HV.out.cell (cell_lt c2)).trans c2
          rw [Int.toNat_natCast] at c0 c1 c2
          obtain ⟨y, hy⟩ : ∃ y, rdM l k = y := ⟨_, rfl⟩
          have HYY := Aside0.mk hy
          unfold rdM at hy
          rw [hy] at c0 c1 c2
          clear hy
          have rP0 := c0
          have rP1 := c1
          have rP2 := c2
          have kP0 := cell_lt c0
          have kP1 := cell_lt c1
          have kP2 := cell_lt c2
          clear c0 c1 c2
          have hw : IntKind.i64.wrap ((i : Int) - 1) = (k : Int) := by rw [IntWalk.i64_in _ (by omega)]; omega
          have hgt : decide (0 < i) = true := decide_eq_true h0
          have HOI : okAt l i = decide (cmpM y x < 0) := by
            unfold okAt
            rw [HXX.out, HM.out, show (i == 0) = false by rw [beq_eq_false_iff_ne]; omega, show (i : Int) - 1 = (k : Int) by omega, HYY.out, cmp_lt]
            simp
          have HO := Aside0.mk HOI
          clear HOI
          obtain ⟨q, hq⟩ : ∃ q, cmpM y x = q := ⟨_, rfl⟩
          have HQ := Aside0.mk hq
          rw [hq] at HO
          have hk0 : 0 ≤ (k : Int) := by omega
          have hkn : (k : Int) < (n : Int) := by omega
          have HI := Aside0.mk hk
          clear hq hk h0
          refine wp_region_held_drew (S := (fun w' => Below V.heap.size V w' ∧ (∀ j, w'.cell? ⟨wo.heap.size, j, none⟩ = (#[.int .i64 x.f0, .int .i64 x.f1, .int .i64 x.f2] : Array Value)[j]?) ∧ (w'.cell? (ad.add (k * 3)) = some (.int .i64 y.f0)) ∧ (w'.cell? ((⟨(ad.add (k * 3)).block, (ad.add (k * 3)).off + 1, none⟩ : Addr)) = some (.int .i64 y.f1)) ∧ (w'.cell? ((⟨(ad.add (k * 3)).block, (ad.add (k * 3)).off + 2, none⟩ : Addr)) = some (.int .i64 y.f2)))) (by kernel_rfl) ?hS2x0 (fun hHeld => ?hR2x0)
          case hS2x0 => ((try dsimp only); (first | exact ⟨below_drew1 (Below.refl _ _), rE, rP0, rP1, rP2⟩ | exact ⟨below_drew1 b0_, rE, rP0, rP1, rP2⟩ | exact ⟨j0, jE, jP0, jP1, jP2⟩ | exact ⟨below_alloc j0 _, fun j => (cell_alloc_old (Nat.lt_of_lt_of_le kE j0.size)).trans (jE j), (cell_alloc_oldp (Nat.lt_of_lt_of_le kP0 j0.size)).trans jP0, (cell_alloc_oldp (Nat.lt_of_lt_of_le kP1 j0.size)).trans jP1, (cell_alloc_oldp (Nat.lt_of_lt_of_le kP2 j0.size)).trans jP2⟩ | exact ⟨below_alloc (below_drew1 (Below.refl _ _)) _, fun j => (cell_alloc_old kE).trans (rE j), (cell_alloc_oldp kP0).trans rP0, (cell_alloc_oldp kP1).trans rP1, (cell_alloc_oldp kP2).trans rP2⟩ | assumption))
          refine wpAnyH_take (i := 0) (oi := ⟨some 12, _, _, _, _, _⟩) (v := ?_) rfl (by kernel_rfl) (by kernel_rfl) (by kernel_rfl) (fun _ _ _ h => h) (Or.inl ⟨by rfl, ?hY2x2⟩) (by assumption) ?hR2x2
          case hY2x2 => (intro w hSw; (try dsimp only at hSw); go_simp; try with_reducible rfl)
          (try simp only [Act.put, List.setIfInBounds_toArray, List.set_cons_zero, List.set_cons_succ])
          refine wpAnyH_ready (rs := [1]) (by kernel_rfl) (by simp) ?_
          refine AllReadyH.cons (o := ⟨some 13, _, _, _, _, _⟩) rfl (fun K hK => ?hT2x3) ?hM2x3
          case hM2x3 => exact AllReadyH.nil
          go_simp
          (first | (go_at_call 24; obtain ⟨g0, gE, gP0, gP1, gP2⟩ := ‹Below V.heap.size V _ ∧ _›; ((with_reducible refine (smay_calls x true _ HM.out).mono ?_));  rintro e w5 ⟨rfl, hb_⟩; have j0 := below_step g0 hb_; have s5 := j0.size; have jE := fun j => (j0.cell (p := ⟨wo.heap.size, j, none⟩) kE).trans (rE j); have jP0 := (j0.cell (p := ad.add (k * 3)) kP0).trans rP0; have jP1 := (j0.cell (p := (⟨(ad.add (k * 3)).block, (ad.add (k * 3)).off + 1, none⟩ : Addr)) kP1).trans rP1; have jP2 := (j0.cell (p := (⟨(ad.add (k * 3)).block, (ad.add (k * 3)).off + 2, none⟩ : Addr)) kP2).trans rP2) | (go_at_call 26; obtain ⟨g0, gE, gP0, gP1, gP2⟩ := ‹Below V.heap.size V _ ∧ _›; ((with_reducible refine (order_v y x q _ HQ.out).mono ?_));  rintro e w6 ⟨rfl, hb_⟩; have j0 := below_step g0 hb_; have s6 := j0.size; have jE := fun j => (j0.cell (p := ⟨wo.heap.size, j, none⟩) kE).trans (rE j); have jP0 := (j0.cell (p := ad.add (k * 3)) kP0).trans rP0; have jP1 := (j0.cell (p := (⟨(ad.add (k * 3)).block, (ad.add (k * 3)).off + 1, none⟩ : Addr)) kP1).trans rP1; have jP2 := (j0.cell (p := (⟨(ad.add (k * 3)).block, (ad.add (k * 3)).off + 2, none⟩ : Addr)) kP2).trans rP2))
          (try go_wp2_with fail)
          refine hK.out _ _ ?hS2x3 (fun hHeld => ?hR2x3)
          case hS2x3 => ((try dsimp only); (first | exact ⟨below_drew1 (Below.refl _ _), rE, rP0, rP1, rP2⟩ | exact ⟨below_drew1 b0_, rE, rP0, rP1, rP2⟩ | exact ⟨j0, jE, jP0, jP1, jP2⟩ | exact ⟨below_alloc j0 _, fun j => (cell_alloc_old (Nat.lt_of_lt_of_le kE j0.size)).trans (jE j), (cell_alloc_oldp (Nat.lt_of_lt_of_le kP0 j0.size)).trans jP0, (cell_alloc_oldp (Nat.lt_of_lt_of_le kP1 j0.size)).trans jP1, (cell_alloc_oldp (Nat.lt_of_lt_of_le kP2 j0.size)).trans jP2⟩ | exact ⟨below_alloc (below_drew1 (Below.refl _ _)) _, fun j => (cell_alloc_old kE).trans (rE j), (cell_alloc_oldp kP0).trans rP0, (cell_alloc_oldp kP1).trans rP1, (cell_alloc_oldp kP2).trans rP2⟩ | assumption))
          clear hK K
          (try simp only [Act.put, List.setIfInBounds_toArray, List.set_cons_zero, List.set_cons_succ])
          refine wpAnyH_take (i := 2) (oi := ⟨some 14, _, _, _, _, _⟩) (v := ?_) rfl (by kernel_rfl) (by kernel_rfl) (by kernel_rfl) (fun _ _ _ h => h) (Or.inl ⟨by rfl, ?hY2x4⟩) (by assumption) ?hR2x4
          case hY2x4 => (intro w hSw; (try dsimp only at hSw); go_simp; try with_reducible rfl)
          (try simp only [Act.put, List.setIfInBounds_toArray, List.set_cons_zero, List.set_cons_succ])
          refine wpAnyH_take (i := 3) (oi := ⟨some 15, _, _, _, _, _⟩) (v := ?_) rfl (by kernel_rfl) (by kernel_rfl) (by kernel_rfl) (fun _ _ _ h => h) (Or.inl ⟨by rfl, ?hY2x5⟩) (by assumption) ?hR2x5
          case hY2x5 => (intro w hSw; (try dsimp only at hSw); go_simp; try with_reducible rfl)
          (try simp only [Act.put, List.setIfInBounds_toArray, List.set_cons_zero, List.set_cons_succ])
          refine wpAnyH_take (i := 4) (oi := ⟨some 16, _, _, _, _, _⟩) (v := ?_) rfl (by kernel_rfl) (by kernel_rfl) (by kernel_rfl) (fun _ _ _ h => h) (Or.inl ⟨by rfl, ?hY2x6⟩) (by assumption) ?hR2x6
          case hY2x6 => (intro w hSw; (try dsimp only at hSw); go_simp; try with_reducible rfl)
          (try simp only [Act.put, List.setIfInBounds_toArray, List.set_cons_zero, List.set_cons_succ])
          refine wpAnyH_take (i := 5) (oi := ⟨some 17, _, _, _, _, _⟩) (v := ?_) rfl (by kernel_rfl) (by kernel_rfl) (by kernel_rfl) (fun _ _ _ h => h) (Or.inl ⟨by rfl, ?hY2x7⟩) (by assumption) ?hR2x7
          case hY2x7 => (intro w hSw; (try dsimp only at hSw); go_simp; try with_reducible rfl)
          (try simp only [Act.put, List.setIfInBounds_toArray, List.set_cons_zero, List.set_cons_succ])
          refine wpAnyH_take (i := 6) (oi := ⟨some 18, _, _, _, _, _⟩) (v := ?_) rfl (by kernel_rfl) (by kernel_rfl) (by kernel_rfl) (fun _ _ _ h => h) (Or.inl ⟨by rfl, ?hY2x8⟩) (by assumption) ?hR2x8
          case hY2x8 => (intro w hSw; (try dsimp only at hSw); go_simp; try with_reducible rfl)
          (try simp only [Act.put, List.setIfInBounds_toArray, List.set_cons_zero, List.set_cons_succ])
          refine wpAnyH_take (i := 7) (oi := ⟨some 19, _, _, _, _, _⟩) (v := ?_) rfl (by kernel_rfl) (by kernel_rfl) (by kernel_rfl) (fun _ _ _ h => h) (Or.inl ⟨by rfl, ?hY2x9⟩) (by assumption) ?hR2x9
          case hY2x9 => (intro w hSw; (try dsimp only at hSw); go_simp; try with_reducible rfl)
          (try simp only [Act.put, List.setIfInBounds_toArray, List.set_cons_zero, List.set_cons_succ])
          refine wpAnyH_take (i := 8) (oi := ⟨some 20, _, _, _, _, _⟩) (v := ?_) rfl (by kernel_rfl) (by kernel_rfl) (by kernel_rfl) (fun _ _ _ h => h) (Or.inl ⟨by rfl, ?hY2x10⟩) (by assumption) ?hR2x10
          case hY2x10 => (intro w hSw; (try dsimp only at hSw); go_simp; try with_reducible rfl)
          (try simp only [Act.put, List.setIfInBounds_toArray, List.set_cons_zero, List.set_cons_succ])
          refine wpAnyH_take (i := 9) (oi := ⟨some 21, _, _, _, _, _⟩) (v := ?_) rfl (by kernel_rfl) (by kernel_rfl) (by kernel_rfl) (fun _ _ _ h => h) (Or.inl ⟨by rfl, ?hY2x11⟩) (by assumption) ?hR2x11
          case hY2x11 => (intro w hSw; (try dsimp only at hSw); go_simp; try with_reducible rfl)
          (try simp only [Act.put, List.setIfInBounds_toArray, List.set_cons_zero, List.set_cons_succ])
          refine wpAnyH_take (i := 10) (oi := ⟨some 22, _, _, _, _, _⟩) (v := ?_) rfl (by kernel_rfl) (by kernel_rfl) (by kernel_rfl) (fun _ _ _ h => h) (Or.inl ⟨by rfl, ?hY2x12⟩) (by assumption) ?hR2x12
          case hY2x12 => (intro w hSw; (try dsimp only at hSw); go_simp; try with_reducible rfl)
          (try simp only [Act.put, List.setIfInBounds_toArray, List.set_cons_zero, List.set_cons_succ])
          refine wpAnyH_take (i := 11) (oi := ⟨some 23, _, _, _, _, _⟩) (v := ?_) rfl (by kernel_rfl) (by kernel_rfl) (by kernel_rfl) (fun _ _ _ h => h) (Or.inl ⟨by rfl, ?hY2x13⟩) (by assumption) ?hR2x13
          case hY2x13 => (intro w hSw; (try dsimp only at hSw); go_simp; try with_reducible rfl)
          (try simp only [Act.put, List.setIfInBounds_toArray, List.set_cons_zero, List.set_cons_succ])
          refine wpAnyH_take (i := 12) (oi := ⟨some 24, _, _, _, _, _⟩) (v := ?_) rfl (by kernel_rfl) (by kernel_rfl) (by kernel_rfl) (fun _ _ _ h => h) (Or.inl ⟨by rfl, ?hY2x14⟩) (by assumption) ?hR2x14
          case hY2x14 => (intro w hSw; (try dsimp only at hSw); go_simp; try with_reducible rfl)
          (try simp only [Act.put, List.setIfInBounds_toArray, List.set_cons_zero, List.set_cons_succ])
          refine wpAnyH_ready (rs := [13]) (by kernel_rfl) (by simp) ?_
          refine AllReadyH.cons (o := ⟨some 25, _, _, _, _, _⟩) rfl (fun K hK => ?hT2x15) ?hM2x15
          case hM2x15 => exact AllReadyH.nil
          go_simp
          (first | (go_at_call 24; obtain ⟨g0, gE, gP0, gP1, gP2⟩ := ‹Below V.heap.size V _ ∧ _›; ((with_reducible refine (smay_calls x true _ HM.out).mono ?_));  rintro e w5 ⟨rfl, hb_⟩; have j0 := below_step g0 hb_; have s5 := j0.size; have jE := fun j => (j0.cell (p := ⟨wo.heap.size, j, none⟩) kE).trans (rE j); have jP0 := (j0.cell (p := ad.add (k * 3)) kP0).trans rP0; have jP1 := (j0.cell (p := (⟨(ad.add (k * 3)).block, (ad.add (k * 3)).off + 1, none⟩ : Addr)) kP1).trans rP1; have jP2 := (j0.cell (p := (⟨(ad.add (k * 3)).block, (ad.add (k * 3)).off + 2, none⟩ : Addr)) kP2).trans rP2) | (go_at_call 26; obtain ⟨g0, gE, gP0, gP1, gP2⟩ := ‹Below V.heap.size V _ ∧ _›; ((with_reducible refine (order_v y x q _ HQ.out).mono ?_));  rintro e w6 ⟨rfl, hb_⟩; have j0 := below_step g0 hb_; have s6 := j0.size; have jE := fun j => (j0.cell (p := ⟨wo.heap.size, j, none⟩) kE).trans (rE j); have jP0 := (j0.cell (p := ad.add (k * 3)) kP0).trans rP0; have jP1 := (j0.cell (p := (⟨(ad.add (k * 3)).block, (ad.add (k * 3)).off + 1, none⟩ : Addr)) kP1).trans rP1; have jP2 := (j0.cell (p := (⟨(ad.add (k * 3)).block, (ad.add (k * 3)).off + 2, none⟩ : Addr)) kP2).trans rP2))
          (try go_wp2_with fail)
          refine hK.out _ _ ?hS2x15 (fun hHeld => ?hR2x15)
          case hS2x15 => ((try dsimp only); (first | exact ⟨below_drew1 (Below.refl _ _), rE, rP0, rP1, rP2⟩ | exact ⟨below_drew1 b0_, rE, rP0, rP1, rP2⟩ | exact ⟨j0, jE, jP0, jP1, jP2⟩ | exact ⟨below_alloc j0 _, fun j => (cell_alloc_old (Nat.lt_of_lt_of_le kE j0.size)).trans (jE j), (cell_alloc_oldp (Nat.lt_of_lt_of_le kP0 j0.size)).trans jP0, (cell_alloc_oldp (Nat.lt_of_lt_of_le kP1 j0.size)).trans jP1, (cell_alloc_oldp (Nat.lt_of_lt_of_le kP2 j0.size)).trans jP2⟩ | exact ⟨below_alloc (below_drew1 (Below.refl _ _)) _, fun j => (cell_alloc_old kE).trans (rE j), (cell_alloc_oldp kP0).trans rP0, (cell_alloc_oldp kP1).trans rP1, (cell_alloc_oldp kP2).trans rP2⟩ | assumption))
          clear hK K
          (try simp only [Act.put, List.setIfInBounds_toArray, List.set_cons_zero, List.set_cons_succ])
          refine wpAnyH_take (i := 14) (oi := ⟨some 26, _, _, _, _, _⟩) (v := ?_) rfl (by kernel_rfl) (by kernel_rfl) (by kernel_rfl) (fun _ _ _ h => h) (Or.inl ⟨by rfl, ?hY2x16⟩) (by assumption) ?hR2x16
          case hY2x16 => (intro w hSw; (try dsimp only at hSw); go_simp; try with_reducible rfl)
          (try simp only [Act.put, List.setIfInBounds_toArray, List.set_cons_zero, List.set_cons_succ])
          refine wpAnyH_take (i := 15) (oi := ⟨some 27, _, _, _, _, _⟩) (v := ?_) rfl (by kernel_rfl) (by kernel_rfl) (by kernel_rfl) (fun _ _ _ h => h) (Or.inl ⟨by rfl, ?hY2x17⟩) (by assumption) ?hR2x17
          case hY2x17 => (intro w hSw; (try dsimp only at hSw); go_simp; try with_reducible rfl)
          (try simp only [Act.put, List.setIfInBounds_toArray, List.set_cons_zero, List.set_cons_succ])
          refine wpAnyH_take (i := 16) (oi := ⟨some 28, _, _, _, _, _⟩) (v := ?_) rfl (by kernel_rfl) (by kernel_rfl) (by kernel_rfl) (fun _ _ _ h => h) (Or.inl ⟨by rfl, ?hY2x18⟩) (by assumption) ?hR2x18
          case hY2x18 => (intro w hSw; (try dsimp only at hSw); go_simp; try with_reducible rfl)
          (try simp only [Act.put, List.setIfInBounds_toArray, List.set_cons_zero, List.set_cons_succ])
          refine wpAnyH_done (by kernel_rfl) ?_ _
          have HZ := Aside0.mk (below_step HV.out j0)
          rcases Int.lt_or_le q 0 with hqs | hqs
          · have hd : decide (0 ≤ q) = false := decide_eq_false (by omega)
            have HO2 := Aside0.mk (HO.out.trans (decide_eq_true hqs))
            clear hgt hw
            go_wp2
            refine ⟨⟨i + 1, by omega, by go_num, fun j hj => ?_, HZ.out⟩, by simp [intOf]; omega⟩
            rcases Nat.lt_or_ge j i with h | h
            · exact HOK.out j h
            · rw [show j = i by omega]
              exact HO2.out
          · have hd : decide (0 ≤ q) = true := decide_eq_true hqs
            have HRR : Aside0 (false = R) := Aside0.mk <| by
              rw [← HR.out, eq_comm, ← Bool.not_eq_true]
              intro hh
              unfold rightM at hh
              rw [rightFrom_iff] at hh
              have := hh i (Nat.zero_le _) (by have := HN.out; omega)
              rw [HO.out, decide_eq_true_eq] at this
              omega
            clear hgt hw
            go_wp2
            go_ret
            exact ⟨ret_bool HRR.out, HZ.out⟩
      · have HM := Aside0.mk hm
        have HRR : Aside0 (false = R) := Aside0.mk <| by
          rw [← HR.out, eq_comm, ← Bool.not_eq_true]
          intro hh
          unfold rightM at hh
          rw [rightFrom_iff] at hh
          have := hh i (Nat.zero_le _) (by have := HN.out; omega)
          unfold okAt at this
          rw [HXX.out, HM.out] at this
          cases this
        clear hm
        refine wp_region_held_drew (S := (fun w' => Below V.heap.size V w' ∧ (∀ j, w'.cell? ⟨wo.heap.size, j, none⟩ = (#[.int .i64 x.f0, .int .i64 x.f1, .int .i64 x.f2] : Array Value)[j]?))) (by kernel_rfl) ?hS3x0 (fun hHeld => ?hR3x0)
        case hS3x0 => ((try dsimp only); (first | exact ⟨below_drew1 (Below.refl _ _), rE⟩ | exact ⟨below_drew1 b0_, rE⟩ | exact ⟨j0, jE⟩ | exact ⟨below_alloc j0 _, fun j => (cell_alloc_old (Nat.lt_of_lt_of_le kE j0.size)).trans (jE j)⟩ | exact ⟨below_alloc (below_drew1 (Below.refl _ _)) _, fun j => (cell_alloc_old kE).trans (rE j)⟩ | assumption))
        refine wpAnyH_take (i := 0) (oi := ⟨some 12, _, _, _, _, _⟩) (v := ?_) rfl (by kernel_rfl) (by kernel_rfl) (by kernel_rfl) (fun _ _ _ h => h) (Or.inl ⟨by rfl, ?hY3x2⟩) (by assumption) ?hR3x2
        case hY3x2 => (intro w hSw; (try dsimp only at hSw); go_simp; try with_reducible rfl)
        (try simp only [Act.put, List.setIfInBounds_toArray, List.set_cons_zero, List.set_cons_succ])
        refine wpAnyH_ready (rs := [1]) (by kernel_rfl) (by simp) ?_
        refine AllReadyH.cons (o := ⟨some 13, _, _, _, _, _⟩) rfl (fun K hK => ?hT3x3) ?hM3x3
        case hM3x3 => exact AllReadyH.nil
        go_simp
        (first | (go_at_call 24; obtain ⟨g0, gE⟩ := ‹Below V.heap.size V _ ∧ _›; ((with_reducible refine (smay_calls x false _ HM.out).mono ?_));  rintro e w5 ⟨rfl, hb_⟩; have j0 := below_step g0 hb_; have s5 := j0.size; have jE := fun j => (j0.cell (p := ⟨wo.heap.size, j, none⟩) kE).trans (rE j)))
        (try go_wp2_with fail)
        refine hK.out _ _ ?hS3x3 (fun hHeld => ?hR3x3)
        case hS3x3 => ((try dsimp only); (first | exact ⟨below_drew1 (Below.refl _ _), rE⟩ | exact ⟨below_drew1 b0_, rE⟩ | exact ⟨j0, jE⟩ | exact ⟨below_alloc j0 _, fun j => (cell_alloc_old (Nat.lt_of_lt_of_le kE j0.size)).trans (jE j)⟩ | exact ⟨below_alloc (below_drew1 (Below.refl _ _)) _, fun j => (cell_alloc_old kE).trans (rE j)⟩ | assumption))
        clear hK K
        (try simp only [Act.put, List.setIfInBounds_toArray, List.set_cons_zero, List.set_cons_succ])
        refine wpAnyH_take (i := 2) (oi := ⟨some 14, _, _, _, _, _⟩) (v := ?_) rfl (by kernel_rfl) (by kernel_rfl) (by kernel_rfl) (fun _ _ _ h => h) (Or.inl ⟨by rfl, ?hY3x4⟩) (by assumption) ?hR3x4
        case hY3x4 => (intro w hSw; (try dsimp only at hSw); go_simp; try with_reducible rfl)
        (try simp only [Act.put, List.setIfInBounds_toArray, List.set_cons_zero, List.set_cons_succ])
        refine wpAnyH_take (i := 3) (oi := ⟨some 15, _, _, _, _, _⟩) (v := ?_) rfl (by kernel_rfl) (by kernel_rfl) (by kernel_rfl) (fun _ _ _ h => h) (Or.inl ⟨by rfl, ?hY3x5⟩) (by assumption) ?hR3x5
        case hY3x5 => (intro w hSw; (try dsimp only at hSw); go_simp; try with_reducible rfl)
        (try simp only [Act.put, List.setIfInBounds_toArray, List.set_cons_zero, List.set_cons_succ])
        refine wpAnyH_take (i := 4) (oi := ⟨some 16, _, _, _, _, _⟩) (v := undef) rfl (by kernel_rfl) (by kernel_rfl) (by kernel_rfl) (fun _ _ _ h => h) (Or.inr ⟨by rfl, rfl⟩) (by assumption) ?_
        (try simp only [Act.put, List.setIfInBounds_toArray, List.set_cons_zero, List.set_cons_succ])
        refine wpAnyH_take (i := 5) (oi := ⟨some 17, _, _, _, _, _⟩) (v := undef) rfl (by kernel_rfl) (by kernel_rfl) (by kernel_rfl) (fun _ _ _ h => h) (Or.inr ⟨by rfl, rfl⟩) (by assumption) ?_
        (try simp only [Act.put, List.setIfInBounds_toArray, List.set_cons_zero, List.set_cons_succ])
        refine wpAnyH_take (i := 6) (oi := ⟨some 18, _, _, _, _, _⟩) (v := undef) rfl (by kernel_rfl) (by kernel_rfl) (by kernel_rfl) (fun _ _ _ h => h) (Or.inr ⟨by rfl, rfl⟩) (by assumption) ?_
        (try simp only [Act.put, List.setIfInBounds_toArray, List.set_cons_zero, List.set_cons_succ])
        refine wpAnyH_take (i := 7) (oi := ⟨some 19, _, _, _, _, _⟩) (v := undef) rfl (by kernel_rfl) (by kernel_rfl) (by kernel_rfl) (fun _ _ _ h => h) (Or.inr ⟨by rfl, rfl⟩) (by assumption) ?_
        (try simp only [Act.put, List.setIfInBounds_toArray, List.set_cons_zero, List.set_cons_succ])
        refine wpAnyH_take (i := 8) (oi := ⟨some 20, _, _, _, _, _⟩) (v := undef) rfl (by kernel_rfl) (by kernel_rfl) (by kernel_rfl) (fun _ _ _ h => h) (Or.inr ⟨by rfl, rfl⟩) (by assumption) ?_
        (try simp only [Act.put, List.setIfInBounds_toArray, List.set_cons_zero, List.set_cons_succ])
        refine wpAnyH_take (i := 9) (oi := ⟨some 21, _, _, _, _, _⟩) (v := undef) rfl (by kernel_rfl) (by kernel_rfl) (by kernel_rfl) (fun _ _ _ h => h) (Or.inr ⟨by rfl, rfl⟩) (by assumption) ?_
        (try simp only [Act.put, List.setIfInBounds_toArray, List.set_cons_zero, List.set_cons_succ])
        refine wpAnyH_take (i := 10) (oi := ⟨some 22, _, _, _, _, _⟩) (v := undef) rfl (by kernel_rfl) (by kernel_rfl) (by kernel_rfl) (fun _ _ _ h => h) (Or.inr ⟨by rfl, rfl⟩) (by assumption) ?_
        (try simp only [Act.put, List.setIfInBounds_toArray, List.set_cons_zero, List.set_cons_succ])
        refine wpAnyH_take (i := 11) (oi := ⟨some 23, _, _, _, _, _⟩) (v := undef) rfl (by kernel_rfl) (by kernel_rfl) (by kernel_rfl) (fun _ _ _ h => h) (Or.inr ⟨by rfl, rfl⟩) (by assumption) ?_
        (try simp only [Act.put, List.setIfInBounds_toArray, List.set_cons_zero, List.set_cons_succ])
        refine wpAnyH_take (i := 12) (oi := ⟨some 24, _, _, _, _, _⟩) (v := undef) rfl (by kernel_rfl) (by kernel_rfl) (by kernel_rfl) (fun _ _ _ h => h) (Or.inr ⟨by rfl, rfl⟩) (by assumption) ?_
        (try simp only [Act.put, List.setIfInBounds_toArray, List.set_cons_zero, List.set_cons_succ])
        refine wpAnyH_take (i := 13) (oi := ⟨some 25, _, _, _, _, _⟩) (v := undef) rfl (by kernel_rfl) (by kernel_rfl) (by kernel_rfl) (fun _ _ _ h => h) (Or.inr ⟨by rfl, rfl⟩) (by assumption) ?_
        (try simp only [Act.put, List.setIfInBounds_toArray, List.set_cons_zero, List.set_cons_succ])
        refine wpAnyH_take (i := 14) (oi := ⟨some 26, _, _, _, _, _⟩) (v := undef) rfl (by kernel_rfl) (by kernel_rfl) (by kernel_rfl) (fun _ _ _ h => h) (Or.inr ⟨by rfl, rfl⟩) (by assumption) ?_
        (try simp only [Act.put, List.setIfInBounds_toArray, List.set_cons_zero, List.set_cons_succ])
        refine wpAnyH_take (i := 15) (oi := ⟨some 27, _, _, _, _, _⟩) (v := undef) rfl (by kernel_rfl) (by kernel_rfl) (by kernel_rfl) (fun _ _ _ h => h) (Or.inr ⟨by rfl, rfl⟩) (by assumption) ?_
        (try simp only [Act.put, List.setIfInBounds_toArray, List.set_cons_zero, List.set_cons_succ])
        refine wpAnyH_take (i := 16) (oi := ⟨some 28, _, _, _, _, _⟩) (v := ?_) rfl (by kernel_rfl) (by kernel_rfl) (by kernel_rfl) (fun _ _ _ h => h) (Or.inl ⟨by rfl, ?hY3x18⟩) (by assumption) ?hR3x18
        case hY3x18 => (intro w hSw; (try dsimp only at hSw); go_simp; try with_reducible rfl)
        (try simp only [Act.put, List.setIfInBounds_toArray, List.set_cons_zero, List.set_cons_succ])
        refine wpAnyH_done (by kernel_rfl) ?_ _
        have HZ := Aside0.mk (below_step HV.out j0)
        go_wp2
        go_ret
        exact ⟨ret_bool HRR.out, HZ.out⟩
    · have HRR : Aside0 (true = R) := Aside0.mk <| by
        rw [← HR.out, eq_comm]
        unfold rightM
        rw [rightFrom_iff]
        intro j _ hj
        exact HOK.out j (by have := HN.out; omega)
      go_wp2
      go_ret
      exact ⟨ret_bool HRR.out, HBX.out⟩
end Go.Proofs.Ytppcojfgpjnagaa
