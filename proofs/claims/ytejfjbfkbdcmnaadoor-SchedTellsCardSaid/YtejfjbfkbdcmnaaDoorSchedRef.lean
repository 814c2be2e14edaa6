
/- What the document's own answer (mootbellref11) computes. -/
import Derived.StillTailTactics
import Derived.Deep.RegionHeld3
import Derived.Laws.Bits64b
import Derived.Test.YtejfjbfkbdcmnaaDoorSchedLawBase
import Derived.Test.YtejfjbfkbdcmnaaDoorSchedPure2
set_option linter.unusedVariables false
set_option linter.unusedSimpArgs false
namespace Go.Proofs.YtejfjbfkbdcmnaaDoor
open Go.RowKit Go.Proofs.YtejfjbfkbdcmnaaDoorW.PrintWords Go.Proofs.YtejfjbfkbdcmnaaDoorW.PrintLast Go.Proofs.YtejfjbfkbdcmnaaDoorW.PrintMore

theorem RFold2_calls (x y : Int) (b : Nat) (T : TypeId) (w : World) (hb : Box w b #[.int .u64 x, .int .u64 y] T) (hx : 0 ≤ x) (hy : 0 ≤ y) :
    Calls Tryd.prog 30 #[.slice (some ⟨b, 0, none⟩) 2 2] w fun e w' => e = .returned (.int .u64 (foldF [x, y])) ∧ Below w.heap.size w w' :=
  RFold_calls _ 2 2 [x, y] w (C_box .u64 w b T [x, y] (by simp) hb) (by omega) (by simp; exact ⟨hx, hy⟩)
theorem RPlace_y (n m seed i : Int) (w : World) (h : mayB n m i = true) (hs : 0 ≤ seed) : Calls Tryd.prog 32 #[.int .i64 n, .int .i64 m, .int .u64 seed, .int .i64 i] w fun e w' =>
    e = .returned (.tuple #[.int .i64 (placeF n seed m.toNat i), .int .i64 0]) ∧ Below w.heap.size w w' := by
  obtain ⟨hn, hm, hi⟩ := (may_iff n m i).1 h
  obtain ⟨k, rfl⟩ := Int.eq_ofNat_of_zero_le hm.1
  exact RPlace_yes n seed i k w h hs
set_option maxHeartbeats 2000000 in
theorem RSFits_calls (p : PlanV) (w : World) : Calls Tryd.prog 12 #[.agg #[.int .u64 p.no, .int .i64 p.ke, .int .i64 p.pe]] w fun e w' => e = .returned (.bool (fitsP p)) ∧ Below w.heap.size w w' := by
  have HB := Aside0.mk (Below.refl w.heap.size w)
  by_cases h1 : 0 ≤ p.ke
  · by_cases h2 : p.ke ≤ 64
    · by_cases h3 : 1 ≤ p.pe
      · by_cases h4 : p.pe ≤ 256
        · have hf := Aside0.mk ((fitsP_iff p).2 ⟨⟨h1, h2⟩, ⟨h3, h4⟩⟩)
          have d1 : decide (p.pe ≤ 256) = true := decide_eq_true h4
          go_enter Tryd.func12, Tryd.ntmps12
          go_wp2
          go_ret
          exact ⟨ret_bool (by first | exact hf.out.symm | (rw [hf.out]; done) | (rw [hf.out]; simp [h4])), below_alloc HB.out _⟩
        · have hf := Aside0.mk (show fitsP p = false by rw [← Bool.not_eq_true, fitsP_iff]; omega)
          have d1 : decide (p.pe ≤ 256) = false := decide_eq_false h4
          go_enter Tryd.func12, Tryd.ntmps12
          go_wp2
          go_ret
          exact ⟨ret_bool (by first | exact hf.out.symm | (rw [hf.out]; done) | (rw [hf.out]; exact d1) | (rw [hf.out]; simp [h4]) | (rw [hf.out]; simp; omega)), below_alloc HB.out _⟩
      · have hf := Aside0.mk (show fitsP p = false by rw [← Bool.not_eq_true, fitsP_iff]; omega)
        go_enter Tryd.func12, Tryd.ntmps12
        go_wp2
        go_ret
        exact ⟨ret_bool hf.out.symm, below_alloc HB.out _⟩
    · have hf := Aside0.mk (show fitsP p = false by rw [← Bool.not_eq_true, fitsP_iff]; omega)
      go_enter Tryd.func12, Tryd.ntmps12
      go_wp2
      go_ret
      exact ⟨ret_bool hf.out.symm, below_alloc HB.out _⟩
  · have hf := Aside0.mk (show fitsP p = false by rw [← Bool.not_eq_true, fitsP_iff]; omega)
    go_enter Tryd.func12, Tryd.ntmps12
    go_wp2
    go_ret
    exact ⟨ret_bool hf.out.symm, below_alloc HB.out _⟩
set_option maxHeartbeats 2000000 in
theorem RBlock_calls (p : PlanV) (e : Int) (w : World) (hp : fitsP p = true) (he : 0 ≤ e ∧ e ≤ 2199023255552) (hno : 0 ≤ p.no) : Calls Tryd.prog 31 #[.agg #[.int .u64 p.no, .int .i64 p.ke, .int .i64 p.pe], .int .i64 e] w fun e' w' => e' = .returned (.int .i64 (blockP p e)) ∧ Below w.heap.size w w' := by
  obtain ⟨h1, h2⟩ := (fitsP_iff p).1 hp
  have a := Int.emod_nonneg p.no (show p.pe ≠ 0 by omega)
  have b := Int.emod_lt_of_pos p.no (show 0 < p.pe by omega)
  have hu : IntKind.u64.wrap p.pe = p.pe := by rw [IntKind.wrap_u64]; omega
  have hm : p.no.tmod p.pe = p.no % p.pe := Int.tmod_eq_emod_of_nonneg hno
  have hq : (e + p.no % p.pe).tdiv p.pe = blockP p e := Int.tdiv_eq_ediv_of_nonneg (by omega)
  have hpe : ¬ p.pe = 0 := by omega
  have hw : IntKind.i64.wrap (p.no % p.pe) = p.no % p.pe := IntWalk.i64_in _ (by omega)
  have hbp := Int.ediv_nonneg (show 0 ≤ e + p.no % p.pe by omega) (show 0 ≤ p.pe by omega)
  have hbq := Int.ediv_le_self p.pe (show 0 ≤ e + p.no % p.pe by omega)
  have eb : blockP p e = (e + p.no % p.pe) / p.pe := rfl
  rw [← eb] at hbp hbq
  clear eb
  have hw2 : IntKind.i64.wrap (e + p.no % p.pe) = e + p.no % p.pe := IntWalk.i64_in _ (by omega)
  have hw3 : IntKind.i64.wrap (blockP p e) = blockP p e := IntWalk.i64_in _ (by omega)
  go_enter Tryd.func31, Tryd.ntmps31
  go_upto_region 1 with (fail)
  obtain ⟨W, hW⟩ : ∃ W, w.alloc (.cells #[.int .u64 p.no, .int .i64 p.ke, .int .i64 p.pe] 26) = W := ⟨_, rfl⟩
  have bP : Box W w.heap.size #[.int .u64 p.no, .int .i64 p.ke, .int .i64 p.pe] 26 := hW ▸ Box.new
  have HB := Aside0.mk (show Below w.heap.size w W from hW ▸ below_alloc (Below.refl _ _) _)
  rw [hW]
  clear hW
  have XP := Aside0.mk bP; have rP := bP.cell; have fP := bP.frozen; have kP := bP.lt; clear bP
  go_region_held3 (fun w' => Below W.heap.size W w' ∧ (∀ j, w'.cell? ⟨w.heap.size, j, none⟩ = (#[.int .u64 p.no, .int .i64 p.ke, .int .i64 p.pe] : Array Value)[j]?)) (first | exact ⟨below_drew1 (Below.refl _ _), rP⟩ | exact ⟨below_drew1 b0_, rP⟩ | exact ⟨j0, jP⟩ | exact ⟨below_alloc j0 _, fun j => (cell_alloc_old (Nat.lt_of_lt_of_le kP j0.size)).trans (jP j)⟩ | exact ⟨below_alloc (below_drew1 (Below.refl _ _)) _, fun j => (cell_alloc_old kP).trans (rP j)⟩ | exact ⟨below_set (below_alloc j0 _) (by first | omega | (simp only; omega)), fun j => (cell_far (by first | omega | (simp only; omega))).trans ((cell_alloc_old (Nat.lt_of_lt_of_le kP j0.size)).trans (jP j))⟩ | exact ⟨below_set (j0) (by first | omega | (simp only; omega)), fun j => (cell_far (by first | omega | (simp only; omega))).trans ((jP j))⟩ | exact ⟨below_set (below_set (below_alloc j0 _) (by first | omega | (simp only; omega))) (by first | omega | (simp only; omega)), fun j => (cell_far (by first | omega | (simp only; omega))).trans ((cell_far (by first | omega | (simp only; omega))).trans ((cell_alloc_old (Nat.lt_of_lt_of_le kP j0.size)).trans (jP j)))⟩ | exact ⟨below_set (below_set (j0) (by first | omega | (simp only; omega))) (by first | omega | (simp only; omega)), fun j => (cell_far (by first | omega | (simp only; omega))).trans ((cell_far (by first | omega | (simp only; omega))).trans ((jP j)))⟩ | exact ⟨below_set (below_set (below_set (below_alloc j0 _) (by first | omega | (simp only; omega))) (by first | omega | (simp only; omega))) (by first | omega | (simp only; omega)), fun j => (cell_far (by first | omega | (simp only; omega))).trans ((cell_far (by first | omega | (simp only; omega))).trans ((cell_far (by first | omega | (simp only; omega))).trans ((cell_alloc_old (Nat.lt_of_lt_of_le kP j0.size)).trans (jP j))))⟩ | exact ⟨below_set (below_set (below_set (j0) (by first | omega | (simp only; omega))) (by first | omega | (simp only; omega))) (by first | omega | (simp only; omega)), fun j => (cell_far (by first | omega | (simp only; omega))).trans ((cell_far (by first | omega | (simp only; omega))).trans ((cell_far (by first | omega | (simp only; omega))).trans ((jP j))))⟩ | assumption) (fail)
  go_wp2
  go_ret
  exact ⟨rfl, below_drew1 HB.out⟩
theorem Rmay_calls (c : ChainV) (p : PlanV) (e : Int) (w : World) : Calls Tryd.prog 29 #[.agg #[.int .i64 c.va, .int .i64 c.sl, .int .i64 c.co, .int .i64 c.su, .int .i64 c.ti, .int .i64 c.di, .int .i64 c.ra, .int .i64 c.ro, .int .i64 c.ag, .int .u64 c.se], .agg #[.int .u64 p.no, .int .i64 p.ke, .int .i64 p.pe], .int .i64 e] w fun e' w' => e' = .returned (.bool (mayP c p e)) ∧ Below w.heap.size w w' := by
  have HB := Aside0.mk (Below.refl w.heap.size w)
  have e0 : mayP c p e = (fitsC c && (fitsP p && (decide (0 ≤ e) && decide (e ≤ 1099511627776)))) := by
    unfold mayP win
    rw [Bool.decide_and]
  rw [e0]
  have H8 : ∀ w, Calls Tryd.prog 43 #[.agg #[.int .i64 c.va, .int .i64 c.sl, .int .i64 c.co, .int .i64 c.su, .int .i64 c.ti, .int .i64 c.di, .int .i64 c.ra, .int .i64 c.ro, .int .i64 c.ag, .int .u64 c.se]] w fun e w' => e = .returned (.bool (fitsC c)) ∧ Below w.heap.size w w' := fun w => r8Fits_calls c w
  have H1 : ∀ w, Calls Tryd.prog 12 #[.agg #[.int .u64 p.no, .int .i64 p.ke, .int .i64 p.pe]] w fun e w' => e = .returned (.bool (fitsP p)) ∧ Below w.heap.size w w' := fun w => RSFits_calls p w
  generalize fitsC c = a at *
  generalize fitsP p = b at *
  have HH8 := Aside0.mk H8
  have HH1 := Aside0.mk H1
  clear H8 H1 e0
  cases a <;> cases b
  all_goals
    go_enter Tryd.func29, Tryd.ntmps29
    go_wp2_with fail
    refine (HH8.out _).mono ?_
    rintro e w1 ⟨rfl, hb_⟩
    have YP : Box w1 (w.heap.size + 1) _ _ := Box.below (by repeat (with_reducible first | exact XP.out | exact Box.new | exact Box.new1 | exact Box.new2 | exact Box.new3 | apply Box.alloc | apply Box.drew | apply Box.drewN | apply Box.set)) hb_
    (try clear XP rP kP fP); have XP := Aside0.mk YP; have rP := YP.cell; have fP := YP.frozen; have kP := YP.lt; clear YP
    have n_ := Aside0.mk (below_step (by repeat (first | exact HB.out | apply below_alloc | apply pw_below_drewN | apply below_drew1 | refine below_set ?_ (by first | omega | (simp; omega)))) hb_); clear HB hb_; have HB := n_; clear n_
    go_wp2_with fail
    refine (HH1.out _).mono ?_
    rintro e w2 ⟨rfl, hb_⟩
    have n_ := Aside0.mk (below_step (by repeat (first | exact HB.out | apply below_alloc | apply pw_below_drewN | apply below_drew1 | refine below_set ?_ (by first | omega | (simp; omega)))) hb_); clear HB hb_; have HB := n_; clear n_
    go_wp2
    all_goals go_ret
    all_goals exact ⟨ret_bool (by first | rfl | (simp; try omega)), HB.out⟩
set_option maxHeartbeats 1000000 in
theorem RNext_no (c : ChainV) (p : PlanV) (e : Int) (w : World) (h : mayP c p e = false) : Calls Tryd.prog 17 #[.agg #[.int .i64 c.va, .int .i64 c.sl, .int .i64 c.co, .int .i64 c.su, .int .i64 c.ti, .int .i64 c.di, .int .i64 c.ra, .int .i64 c.ro, .int .i64 c.ag, .int .u64 c.se], .agg #[.int .u64 p.no, .int .i64 p.ke, .int .i64 p.pe], .int .i64 e] w fun e' w' =>
    e' = .returned (.tuple #[.int .i64 0, .int .i64 1]) ∧ Below w.heap.size w w' := by
  have HB := Aside0.mk (Below.refl w.heap.size w)
  have H1 : ∀ w, Calls Tryd.prog 29 #[.agg #[.int .i64 c.va, .int .i64 c.sl, .int .i64 c.co, .int .i64 c.su, .int .i64 c.ti, .int .i64 c.di, .int .i64 c.ra, .int .i64 c.ro, .int .i64 c.ag, .int .u64 c.se], .agg #[.int .u64 p.no, .int .i64 p.ke, .int .i64 p.pe], .int .i64 e] w fun e' w' => e' = .returned (.bool false) ∧ Below w.heap.size w w' := fun w => h ▸ Rmay_calls c p e w
  have HM := Aside0.mk H1
  clear H1 h
  go_enter Tryd.func17, Tryd.ntmps17
  go_wp2_with fail
  refine (HM.out _).mono ?_
  rintro e w1 ⟨rfl, hb_⟩
  have n_ := Aside0.mk (below_step (by repeat (first | exact HB.out | apply below_alloc | apply pw_below_drewN | apply below_drew1 | refine below_set ?_ (by first | omega | (simp; omega)))) hb_); clear HB hb_; have HB := n_; clear n_
  go_wp2
  go_ret2
  exact ⟨rfl, HB.out⟩
set_option maxRecDepth 100000 in
set_option maxHeartbeats 4000000 in
theorem RNext_yes (c : ChainV) (p : PlanV) (e : Int) (w : World) (h : mayP c p e = true) (hno : 0 ≤ p.no) : Calls Tryd.prog 17 #[.agg #[.int .i64 c.va, .int .i64 c.sl, .int .i64 c.co, .int .i64 c.su, .int .i64 c.ti, .int .i64 c.di, .int .i64 c.ra, .int .i64 c.ro, .int .i64 c.ag, .int .u64 c.se], .agg #[.int .u64 p.no, .int .i64 p.ke, .int .i64 p.pe], .int .i64 e] w fun e' w' =>
    e' = .returned (.tuple #[.int .i64 (nextP p e), .int .i64 0]) ∧ Below w.heap.size w w' := by
  obtain ⟨hf, hp, he⟩ := (mayP_iff c p e).1 h
  obtain ⟨nb1, nb2⟩ := next_bd p e hp he
  obtain ⟨p1, p2⟩ := (fitsP_iff p).1 hp
  have HB := Aside0.mk (Below.refl w.heap.size w)
  have H1 : ∀ w, Calls Tryd.prog 29 #[.agg #[.int .i64 c.va, .int .i64 c.sl, .int .i64 c.co, .int .i64 c.su, .int .i64 c.ti, .int .i64 c.di, .int .i64 c.ra, .int .i64 c.ro, .int .i64 c.ag, .int .u64 c.se], .agg #[.int .u64 p.no, .int .i64 p.ke, .int .i64 p.pe], .int .i64 e] w fun e' w' => e' = .returned (.bool true) ∧ Below w.heap.size w w' := fun w => h ▸ Rmay_calls c p e w
  have HM := Aside0.mk H1
  have HS := Aside0.mk (fun (y : Int) (h1 : e ≤ y) (h2 : y < nextP p e) => block_same p e y hp he h1 h2)
  have HX := Aside0.mk (block_next p e hp)
  clear H1 h
  go_enter Tryd.func17, Tryd.ntmps17
  go_wp2_with fail
  refine (HM.out _).mono ?_
  rintro e w8 ⟨rfl, hb_⟩
  have YP : Box w8 (w.heap.size + 1) _ _ := Box.below (by repeat (with_reducible first | exact XP.out | exact Box.new | exact Box.new1 | exact Box.new2 | exact Box.new3 | apply Box.alloc | apply Box.drew | apply Box.drewN | apply Box.set)) hb_
  (try clear XP rP kP fP); have XP := Aside0.mk YP; have rP := YP.cell; have fP := YP.frozen; have kP := YP.lt; clear YP
  have n_ := Aside0.mk (below_step (by repeat (first | exact HB.out | apply below_alloc | apply pw_below_drewN | apply below_drew1 | refine below_set ?_ (by first | omega | (simp; omega)))) hb_); clear HB hb_; have HB := n_; clear n_
  have HW8 := Aside0.mk (Below.refl w8.heap.size w8)
  go_wp2
  go_loopw [9] (fun iv wx => ∃ m : Int, e < m ∧ m ≤ nextP p e ∧ iv = .int .i64 m ∧ Below w8.heap.size w8 wx) (fun iv _ => (nextP p e - intOf iv).toNat)
  case atStart => exact ⟨e + 1, by omega, by omega, rfl, HW8.out⟩
  case round =>
    obtain ⟨m, hm0, hm1, rfl, hb8⟩ := hrel
    have bP := XP.out.below hb8
    have HB8 := Aside0.mk hb8
    have HB2 := Aside0.mk (below_step HB.out hb8)
    clear HB XP rP fP kP hb8
    have HB := HB2
    clear HB2
    have XP := Aside0.mk bP; have rP := bP.cell; have fP := bP.frozen; have kP := bP.lt; clear bP
    rcases Int.lt_or_le m (nextP p e) with hlt | hge
    · have HE := Aside0.mk (HS.out m (by omega) hlt)
      go_upto_region 5 with (fail)
      go_region_held3 (fun w' => Below wr.heap.size wr w' ∧ (∀ j, w'.cell? ⟨w.heap.size + 1, j, none⟩ = (#[.int .u64 p.no, .int .i64 p.ke, .int .i64 p.pe] : Array Value)[j]?)) (first | exact ⟨below_drew1 (Below.refl _ _), rP⟩ | exact ⟨below_drew1 b0_, rP⟩ | exact ⟨j0, jP⟩ | exact ⟨below_alloc j0 _, fun j => (cell_alloc_old (Nat.lt_of_lt_of_le kP j0.size)).trans (jP j)⟩ | exact ⟨below_alloc (below_drew1 (Below.refl _ _)) _, fun j => (cell_alloc_old kP).trans (rP j)⟩ | exact ⟨below_set (below_alloc j0 _) (by first | omega | (simp only; omega)), fun j => (cell_far (by first | omega | (simp only; omega))).trans ((cell_alloc_old (Nat.lt_of_lt_of_le kP j0.size)).trans (jP j))⟩ | exact ⟨below_set (j0) (by first | omega | (simp only; omega)), fun j => (cell_far (by first | omega | (simp only; omega))).trans ((jP j))⟩ | exact ⟨below_set (below_set (below_alloc j0 _) (by first | omega | (simp only; omega))) (by first | omega | (simp only; omega)), fun j => (cell_far (by first | omega | (simp only; omega))).trans ((cell_far (by first | omega | (simp only; omega))).trans ((cell_alloc_old (Nat.lt_of_lt_of_le kP j0.size)).trans (jP j)))⟩ | exact ⟨below_set (below_set (j0) (by first | omega | (simp only; omega))) (by first | omega | (simp only; omega)), fun j => (cell_far (by first | omega | (simp only; omega))).trans ((cell_far (by first | omega | (simp only; omega))).trans ((jP j)))⟩ | exact ⟨below_set (below_set (below_set (below_alloc j0 _) (by first | omega | (simp only; omega))) (by first | omega | (simp only; omega))) (by first | omega | (simp only; omega)), fun j => (cell_far (by first | omega | (simp only; omega))).trans ((cell_far (by first | omega | (simp only; omega))).trans ((cell_far (by first | omega | (simp only; omega))).trans ((cell_alloc_old (Nat.lt_of_lt_of_le kP j0.size)).trans (jP j))))⟩ | exact ⟨below_set (below_set (below_set (j0) (by first | omega | (simp only; omega))) (by first | omega | (simp only; omega))) (by first | omega | (simp only; omega)), fun j => (cell_far (by first | omega | (simp only; omega))).trans ((cell_far (by first | omega | (simp only; omega))).trans ((cell_far (by first | omega | (simp only; omega))).trans ((jP j))))⟩ | assumption) (first | (go_at_call 31; obtain ⟨g0, gP⟩ := ‹Below wr.heap.size wr _ ∧ _›; ((with_reducible refine (RBlock_calls p m _ hp (by omega) hno).mono ?_));  rintro e w5 ⟨rfl, hb_⟩; have j0 := below_step g0 hb_; have s5 := j0.size; have jP := fun j => (hb_.cell (p := ⟨w.heap.size + 1, j, none⟩) (Nat.lt_of_lt_of_le kP g0.size)).trans (gP j)) | (go_at_call 31; obtain ⟨g0, gP⟩ := ‹Below wr.heap.size wr _ ∧ _›; ((with_reducible refine (RBlock_calls p e _ hp (by omega) hno).mono ?_));  rintro e w6 ⟨rfl, hb_⟩; have j0 := below_step g0 hb_; have s6 := j0.size; have jP := fun j => (hb_.cell (p := ⟨w.heap.size + 1, j, none⟩) (Nat.lt_of_lt_of_le kP g0.size)).trans (gP j)))
      all_goals
        have hbj := below_step HB8.out j0
        rw [HE.out]
        go_wp2
        go_roundw
        case rel => exact ⟨m + 1, by omega, by omega, rfl, hbj⟩
        case measure => simp [intOf]; omega
    · obtain rfl : m = nextP p e := by omega
      have HE := Aside0.mk HX.out
      go_upto_region 5 with (fail)
      go_region_held3 (fun w' => Below wr.heap.size wr w' ∧ (∀ j, w'.cell? ⟨w.heap.size + 1, j, none⟩ = (#[.int .u64 p.no, .int .i64 p.ke, .int .i64 p.pe] : Array Value)[j]?)) (first | exact ⟨below_drew1 (Below.refl _ _), rP⟩ | exact ⟨below_drew1 b0_, rP⟩ | exact ⟨j0, jP⟩ | exact ⟨below_alloc j0 _, fun j => (cell_alloc_old (Nat.lt_of_lt_of_le kP j0.size)).trans (jP j)⟩ | exact ⟨below_alloc (below_drew1 (Below.refl _ _)) _, fun j => (cell_alloc_old kP).trans (rP j)⟩ | exact ⟨below_set (below_alloc j0 _) (by first | omega | (simp only; omega)), fun j => (cell_far (by first | omega | (simp only; omega))).trans ((cell_alloc_old (Nat.lt_of_lt_of_le kP j0.size)).trans (jP j))⟩ | exact ⟨below_set (j0) (by first | omega | (simp only; omega)), fun j => (cell_far (by first | omega | (simp only; omega))).trans ((jP j))⟩ | exact ⟨below_set (below_set (below_alloc j0 _) (by first | omega | (simp only; omega))) (by first | omega | (simp only; omega)), fun j => (cell_far (by first | omega | (simp only; omega))).trans ((cell_far (by first | omega | (simp only; omega))).trans ((cell_alloc_old (Nat.lt_of_lt_of_le kP j0.size)).trans (jP j)))⟩ | exact ⟨below_set (below_set (j0) (by first | omega | (simp only; omega))) (by first | omega | (simp only; omega)), fun j => (cell_far (by first | omega | (simp only; omega))).trans ((cell_far (by first | omega | (simp only; omega))).trans ((jP j)))⟩ | exact ⟨below_set (below_set (below_set (below_alloc j0 _) (by first | omega | (simp only; omega))) (by first | omega | (simp only; omega))) (by first | omega | (simp only; omega)), fun j => (cell_far (by first | omega | (simp only; omega))).trans ((cell_far (by first | omega | (simp only; omega))).trans ((cell_far (by first | omega | (simp only; omega))).trans ((cell_alloc_old (Nat.lt_of_lt_of_le kP j0.size)).trans (jP j))))⟩ | exact ⟨below_set (below_set (below_set (j0) (by first | omega | (simp only; omega))) (by first | omega | (simp only; omega))) (by first | omega | (simp only; omega)), fun j => (cell_far (by first | omega | (simp only; omega))).trans ((cell_far (by first | omega | (simp only; omega))).trans ((cell_far (by first | omega | (simp only; omega))).trans ((jP j))))⟩ | assumption) (first | (go_at_call 31; obtain ⟨g0, gP⟩ := ‹Below wr.heap.size wr _ ∧ _›; ((with_reducible refine (RBlock_calls p (nextP p e) _ hp (by omega) hno).mono ?_));  rintro e w5 ⟨rfl, hb_⟩; have j0 := below_step g0 hb_; have s5 := j0.size; have jP := fun j => (hb_.cell (p := ⟨w.heap.size + 1, j, none⟩) (Nat.lt_of_lt_of_le kP g0.size)).trans (gP j)) | (go_at_call 31; obtain ⟨g0, gP⟩ := ‹Below wr.heap.size wr _ ∧ _›; ((with_reducible refine (RBlock_calls p e _ hp (by omega) hno).mono ?_));  rintro e w6 ⟨rfl, hb_⟩; have j0 := below_step g0 hb_; have s6 := j0.size; have jP := fun j => (hb_.cell (p := ⟨w.heap.size + 1, j, none⟩) (Nat.lt_of_lt_of_le kP g0.size)).trans (gP j)))
      all_goals
        have hbj := below_step HB.out j0
        rw [HE.out]
        have hne : ¬ blockP p e + 1 = blockP p e := by omega
        go_wp2
        go_ret2
        exact ⟨rfl, hbj⟩
end Go.Proofs.YtejfjbfkbdcmnaaDoor
