
/- LagMedian: for every input the call of the statement returns true and leaves its arguments as they were. Conditions: none beyond the row's own. -/
import Derived.Test.YtcgonhnfpnmlcaaShellG
import Derived.Test.YtcgonhnfpnmlcaaLagOrderLaw
import Derived.Test.YtcgonhnfpnmlcaaLagMed2
set_option linter.unusedVariables false
set_option linter.unusedSimpArgs false
namespace Go.Proofs.Ytcgonhnfpnmlcaa
open Go.RowKit Go.Proofs.YtcgonhnfpnmlcaaW.PrintWords Go.Proofs.YtcgonhnfpnmlcaaW.PrintLast Go.Proofs.YtcgonhnfpnmlcaaW.PrintMore
open Go.ChangeShapes Go.WideShapes Go.ChangeAt
open Go.ChangeMaps (open_string shut_string)

/-- Which rank is in the middle. -/
def midR (x y z m : Nat) : Prop := (m = x ∨ m = y ∨ m = z) ∧ ¬ (x < m ∧ y < m) ∧ ¬ (x < m ∧ z < m) ∧ ¬ (y < m ∧ z < m) ∧ ¬ (m < x ∧ m < y) ∧ ¬ (m < x ∧ m < z) ∧ ¬ (m < y ∧ m < z)
theorem midR_a {x y z : Nat} (h : midP x y z) : midR x y z x := by
  unfold midP at h
  unfold midR
  omega
theorem midR_b {x y z : Nat} (h1 : ¬ midP x y z) (h : midP y x z) : midR x y z y := by
  unfold midP at h h1
  unfold midR
  omega
theorem midR_c {x y z : Nat} (h1 : ¬ midP x y z) (h : ¬ midP y x z) : midR x y z z := by
  unfold midP at h h1
  unfold midR
  omega
theorem midR_eq {x y z m n : Nat} (h1 : midR x y z m) (h2 : midR x y z n) : m = n := by
  unfold midR at h1 h2
  omega
theorem midR_1 {x y z m : Nat} (h : midR x y z m) : midR y x z m := by unfold midR at *; omega
theorem midR_2 {x y z m : Nat} (h : midR x y z m) : midR x z y m := by unfold midR at *; omega
theorem midR_3 {x y z m : Nat} (h : midR x y z m) : midR z y x m := by unfold midR at *; omega
theorem midR_4 {x y z m : Nat} (h : midR x y z m) : midR y z x m := by unfold midR at *; omega
theorem midR_5 {x y z m : Nat} (h : midR x y z m) : midR z x y m := by unfold midR at *; omega
theorem midR_s (x y : Nat) : midP x x y := by unfold midP; omega
theorem med_rank (a b c : Nat) (ha : a < 18446744073709551616) (hb : b < 18446744073709551616) (hc : c < 18446744073709551616) : ∃ x, x < 18446744073709551616 ∧ medF a b c = plainF x ∧ midR (rankF a) (rankF b) (rankF c) (rankF x) := by
  unfold medF
  by_cases h1 : midP (rankF a) (rankF b) (rankF c)
  · exact ⟨a, ha, if_pos h1, midR_a h1⟩
  · by_cases h2 : midP (rankF b) (rankF a) (rankF c)
    · exact ⟨b, hb, by rw [if_neg h1, if_pos h2], midR_b h1 h2⟩
    · exact ⟨c, hc, by rw [if_neg h1, if_neg h2], midR_c h1 h2⟩
theorem med_same (a b c a' b' c' : Nat) (ha : a < 18446744073709551616) (hb : b < 18446744073709551616) (hc : c < 18446744073709551616) (ha' : a' < 18446744073709551616) (hb' : b' < 18446744073709551616) (hc' : c' < 18446744073709551616)
    (h : ∀ m, midR (rankF a) (rankF b) (rankF c) m → midR (rankF a') (rankF b') (rankF c') m) : medF a' b' c' = medF a b c := by
  obtain ⟨x, hx, e1, r1⟩ := med_rank a b c ha hb hc
  obtain ⟨y, hy, e2, r2⟩ := med_rank a' b' c' ha' hb' hc'
  have r3 := midR_eq r2 (h _ r1)
  rw [e1, e2]
  exact rank_inj y x hy hx r3
theorem Median_v (a b c m : Nat) (ha : a < 18446744073709551616) (hb : b < 18446744073709551616) (hc : c < 18446744073709551616) (w : World) (h : medF a b c = m) :
    Calls Try.prog 20 #[.int .u64 a, .int .u64 b, .int .u64 c] w fun e w' => e = .returned (.int .u64 m) ∧ Below w.heap.size w w' := h ▸ Median_calls a b c ha hb hc w
/-- How many so far. -/
def cntN (f : Nat → Bool) : Nat → Nat
  | 0 => 0
  | k + 1 => cntN f k + if f k = true then 1 else 0
theorem cntN_le (f : Nat → Bool) (k : Nat) : cntN f k ≤ k := by
  induction k with
  | zero => exact Nat.le_refl _
  | succ k ih =>
    rw [cntN]
    split <;> omega
def el3 (a b c : Nat) (j : Nat) : Nat := if j = 0 then a else if j = 1 then b else c
theorem cnt3 (f : Nat → Bool) (h1 : ¬ (f 0 = true ∧ f 1 = true)) (h2 : ¬ (f 0 = true ∧ f 2 = true)) (h3 : ¬ (f 1 = true ∧ f 2 = true)) : cntN f 3 ≤ 1 := by
  simp only [cntN]
  cases h4 : f 0 <;> cases h5 : f 1 <;> cases h6 : f 2 <;> simp_all
set_option maxRecDepth 100000 in
set_option maxHeartbeats 8000000 in
theorem LagMedian_calls (a b c : Nat) (ha : a < 18446744073709551616) (hb : b < 18446744073709551616) (hc : c < 18446744073709551616) (w : World) : Calls Try.prog 6 #[.int .u64 a, .int .u64 b, .int .u64 c] w fun e w' => e = .returned (.bool true) ∧ Below w.heap.size w w' := by
  obtain ⟨x, hx, em, hr⟩ := med_rank a b c ha hb hc
  have hm0 := plain_bd x hx
  have rm := rank_plain x
  have P1 := med_same a b c b a c ha hb hc hb ha hc (fun m h => midR_1 h)
  have P2 := med_same a b c a c b ha hb hc ha hc hb (fun m h => midR_2 h)
  have P3 := med_same a b c c b a ha hb hc hc hb ha (fun m h => midR_3 h)
  have P4 := med_same a b c b c a ha hb hc hb hc ha (fun m h => midR_4 h)
  have P5 := med_same a b c c a b ha hb hc hc ha hb (fun m h => midR_5 h)
  have P6 : medF a a b = plainF a := med_a (midR_s _ _)
  rw [em] at P1 P2 P3 P4 P5
  rw [← rm] at hr
  have hp : ∀ y, y < 18446744073709551616 → rankF (plainF x) = rankF y → ((plainF x : Int) == plainF y) = true := fun y hy h => by
    rw [rm] at h
    rw [rank_inj x y hx hy h]
    simp
  have hq : ∀ y, y < 18446744073709551616 → rankF (plainF x) ≠ rankF y → ((plainF x : Int) == plainF y) = false := fun y hy h => by
    rw [beq_eq_false_iff_ne]
    intro e
    have e2 : plainF x = plainF y := by omega
    apply h
    rw [e2, rank_plain]
  clear rm
  generalize plainF x = m at *
  have H0 := Aside0.mk em
  have H1 := Aside0.mk P1
  have H2 := Aside0.mk P2
  have H3 := Aside0.mk P3
  have H4 := Aside0.mk P4
  have H5 := Aside0.mk P5
  have H6 := Aside0.mk P6
  have HP := Aside0.mk hp
  have HQ := Aside0.mk hq
  have HRR := Aside0.mk hr
  have hr2 := hr
  unfold midR at hr2
  have HL := Aside0.mk (cnt3 (fun j => lessF (el3 a b c j) m) (by simp only [el3, lessF, decide_eq_true_eq]; simp; omega) (by simp only [el3, lessF, decide_eq_true_eq]; simp; omega) (by simp only [el3, lessF, decide_eq_true_eq]; simp; omega))
  have HGR := Aside0.mk (cnt3 (fun j => lessF m (el3 a b c j)) (by simp only [el3, lessF, decide_eq_true_eq]; simp; omega) (by simp only [el3, lessF, decide_eq_true_eq]; simp; omega) (by simp only [el3, lessF, decide_eq_true_eq]; simp; omega))
  clear em P1 P2 P3 P4 P5 P6 hp hq hr hr2
  have HB := Aside0.mk (Below.refl w.heap.size w)
  go_enter Try.func6, Try.ntmps6
  go_wp2_with fail
  refine (lawake_calls _).mono ?_
  rintro e w1 ⟨rfl, hb_⟩
  have n_ := Aside0.mk (below_step (by repeat (first | exact HB.out | apply below_alloc | apply pw_below_drewN | apply below_drew1 | refine below_set ?_ (by first | omega | (simp; omega)))) hb_); clear HB hb_; have HB := n_; clear n_
  go_wp2_with fail
  refine (Median_v a b c m ha hb hc _ H0.out).mono ?_
  rintro e w2 ⟨rfl, hb_⟩
  have n_ := Aside0.mk (below_step (by repeat (first | exact HB.out | apply below_alloc | apply pw_below_drewN | apply below_drew1 | refine below_set ?_ (by first | omega | (simp; omega)))) hb_); clear HB hb_; have HB := n_; clear n_
  go_upto_region 6 with (fail)
  generalize hW : w2.alloc (.cells _ _) = W
  have bE : Box W w2.heap.size #[.int .u64 a, .int .u64 b, .int .u64 c] 22 := hW ▸ Box.new
  have HB2 := Aside0.mk (show Below w.heap.size w W from hW ▸ below_alloc HB.out _)
  clear hW HB
  have HB := HB2
  clear HB2
  have XE := Aside0.mk bE; have rE := bE.cell; have fE := bE.frozen; have kE := bE.lt; clear bE
  go_loopw [9, 10, 23] (fun lv gv iv wx => ∃ j : Nat, j ≤ 3 ∧ iv = .int .i64 j ∧ lv = .int .i64 (cntN (fun j => lessF (el3 a b c j) m) j) ∧ gv = .int .i64 (cntN (fun j => lessF m (el3 a b c j)) j) ∧ wx = W) (fun _ _ iv _ => 3 - (intOf iv).toNat)
  case atStart => exact ⟨0, by omega, rfl, rfl, rfl, rfl⟩
  case round =>
    obtain ⟨j, hj, rfl, rfl, rfl, rfl⟩ := hrel
    rcases Nat.lt_or_ge j 3 with hlt | hge
    · have hcz : wr.cell? ⟨w2.heap.size, j, none⟩ = some (.int .u64 (el3 a b c j)) := by
        rw [rE j]
        have hv : j = 0 ∨ j = 1 ∨ j = 2 := by omega
        rcases hv with rfl | rfl | rfl <;> rfl
      have hel : el3 a b c j < 18446744073709551616 := by
        unfold el3
        (repeat' split) <;> assumption
      have l1 : cntN (fun j => lessF (el3 a b c j) m) (j + 1) = cntN (fun j => lessF (el3 a b c j) m) j + if lessF (el3 a b c j) m = true then 1 else 0 := rfl
      have l2 : cntN (fun j => lessF m (el3 a b c j)) (j + 1) = cntN (fun j => lessF m (el3 a b c j)) j + if lessF m (el3 a b c j) = true then 1 else 0 := rfl
      have l3 := cntN_le (fun j => lessF (el3 a b c j) m) j
      have l4 := cntN_le (fun j => lessF m (el3 a b c j)) j
      have HE := Aside0.mk hel
      have HE1 := Aside0.mk l1
      have HE2 := Aside0.mk l2
      clear l1 l2 rE hel
      generalize cntN (fun j => lessF (el3 a b c j) m) j = cl at *
      generalize cntN (fun j => lessF m (el3 a b c j)) j = cg at *
      generalize el3 a b c j = y at *
      rcases Bool.eq_false_or_eq_true (lessF y m) with g1 | g1
      all_goals rcases Bool.eq_false_or_eq_true (lessF m y) with g2 | g2
      all_goals
        rw [g1] at HE1
        rw [g2] at HE2
        have G1 := Aside0.mk g1
        have G2 := Aside0.mk g2
        clear g1 g2
        go_wp2_with (go_at_call 15; first | ((with_reducible refine (Less_v y m _ HE.out hm0 _ G1.out).mono ?_); rintro e w_ ⟨rfl, rfl⟩) | ((with_reducible refine (Less_v m y _ hm0 HE.out _ G2.out).mono ?_); rintro e w_ ⟨rfl, rfl⟩))
        go_roundw
        case rel => exact ⟨j + 1, by omega, by go_num, by rw [HE1.out]; simp, by rw [HE2.out]; simp, by trivial⟩
        case measure => simp [intOf]; omega
    · obtain rfl : j = 3 := by omega
      have hl1 : ((cntN (fun j => lessF (el3 a b c j) m) 3 : Nat) : Int) ≤ 1 := by have := HL.out; omega
      have hl2 : ((cntN (fun j => lessF m (el3 a b c j)) 3 : Nat) : Int) ≤ 1 := by have := HGR.out; omega
      generalize cntN (fun j => lessF (el3 a b c j) m) 3 = cl at *
      generalize cntN (fun j => lessF m (el3 a b c j)) 3 = cg at *
      by_cases ea : rankF m = rankF a
      · have h1 := HP.out a ha ea
        clear ea
        go_wp2_with (first | (go_at_call 20; first | ((with_reducible refine (Median_v b a c m hb ha hc _ H1.out).mono ?_); rintro e w9 ⟨rfl, hb_⟩; have n_ := Aside0.mk (below_step (by repeat (first | exact HB.out | apply below_alloc | apply pw_below_drewN | apply below_drew1 | refine below_set ?_ (by first | omega | (simp; omega)))) hb_); clear HB hb_; have HB := n_; clear n_) | ((with_reducible refine (Median_v a c b m ha hc hb _ H2.out).mono ?_); rintro e w9 ⟨rfl, hb_⟩; have n_ := Aside0.mk (below_step (by repeat (first | exact HB.out | apply below_alloc | apply pw_below_drewN | apply below_drew1 | refine below_set ?_ (by first | omega | (simp; omega)))) hb_); clear HB hb_; have HB := n_; clear n_) | ((with_reducible refine (Median_v c b a m hc hb ha _ H3.out).mono ?_); rintro e w9 ⟨rfl, hb_⟩; have n_ := Aside0.mk (below_step (by repeat (first | exact HB.out | apply below_alloc | apply pw_below_drewN | apply below_drew1 | refine below_set ?_ (by first | omega | (simp; omega)))) hb_); clear HB hb_; have HB := n_; clear n_) | ((with_reducible refine (Median_v b c a m hb hc ha _ H4.out).mono ?_); rintro e w9 ⟨rfl, hb_⟩; have n_ := Aside0.mk (below_step (by repeat (first | exact HB.out | apply below_alloc | apply pw_below_drewN | apply below_drew1 | refine below_set ?_ (by first | omega | (simp; omega)))) hb_); clear HB hb_; have HB := n_; clear n_) | ((with_reducible refine (Median_v c a b m hc ha hb _ H5.out).mono ?_); rintro e w9 ⟨rfl, hb_⟩; have n_ := Aside0.mk (below_step (by repeat (first | exact HB.out | apply below_alloc | apply pw_below_drewN | apply below_drew1 | refine below_set ?_ (by first | omega | (simp; omega)))) hb_); clear HB hb_; have HB := n_; clear n_) | ((with_reducible refine (Median_v a a b (plainF a) ha ha hb _ H6.out).mono ?_); rintro e w9 ⟨rfl, hb_⟩; have n_ := Aside0.mk (below_step (by repeat (first | exact HB.out | apply below_alloc | apply pw_below_drewN | apply below_drew1 | refine below_set ?_ (by first | omega | (simp; omega)))) hb_); clear HB hb_; have HB := n_; clear n_)) | (go_at_call 13; first | ((with_reducible refine (Plain_calls a _).mono ?_); rintro e w_ ⟨rfl, rfl⟩) | ((with_reducible refine (Plain_calls b _).mono ?_); rintro e w_ ⟨rfl, rfl⟩) | ((with_reducible refine (Plain_calls c _).mono ?_); rintro e w_ ⟨rfl, rfl⟩)))
        go_ret
        exact ⟨rfl, HB.out⟩
      · have h1 := HQ.out a ha ea
        by_cases eb : rankF m = rankF b
        · have h2 := HP.out b hb eb
          clear ea eb
          go_wp2_with (first | (go_at_call 20; first | ((with_reducible refine (Median_v b a c m hb ha hc _ H1.out).mono ?_); rintro e w9 ⟨rfl, hb_⟩; have n_ := Aside0.mk (below_step (by repeat (first | exact HB.out | apply below_alloc | apply pw_below_drewN | apply below_drew1 | refine below_set ?_ (by first | omega | (simp; omega)))) hb_); clear HB hb_; have HB := n_; clear n_) | ((with_reducible refine (Median_v a c b m ha hc hb _ H2.out).mono ?_); rintro e w9 ⟨rfl, hb_⟩; have n_ := Aside0.mk (below_step (by repeat (first | exact HB.out | apply below_alloc | apply pw_below_drewN | apply below_drew1 | refine below_set ?_ (by first | omega | (simp; omega)))) hb_); clear HB hb_; have HB := n_; clear n_) | ((with_reducible refine (Median_v c b a m hc hb ha _ H3.out).mono ?_); rintro e w9 ⟨rfl, hb_⟩; have n_ := Aside0.mk (below_step (by repeat (first | exact HB.out | apply below_alloc | apply pw_below_drewN | apply below_drew1 | refine below_set ?_ (by first | omega | (simp; omega)))) hb_); clear HB hb_; have HB := n_; clear n_) | ((with_reducible refine (Median_v b c a m hb hc ha _ H4.out).mono ?_); rintro e w9 ⟨rfl, hb_⟩; have n_ := Aside0.mk (below_step (by repeat (first | exact HB.out | apply below_alloc | apply pw_below_drewN | apply below_drew1 | refine below_set ?_ (by first | omega | (simp; omega)))) hb_); clear HB hb_; have HB := n_; clear n_) | ((with_reducible refine (Median_v c a b m hc ha hb _ H5.out).mono ?_); rintro e w9 ⟨rfl, hb_⟩; have n_ := Aside0.mk (below_step (by repeat (first | exact HB.out | apply below_alloc | apply pw_below_drewN | apply below_drew1 | refine below_set ?_ (by first | omega | (simp; omega)))) hb_); clear HB hb_; have HB := n_; clear n_) | ((with_reducible refine (Median_v a a b (plainF a) ha ha hb _ H6.out).mono ?_); rintro e w9 ⟨rfl, hb_⟩; have n_ := Aside0.mk (below_step (by repeat (first | exact HB.out | apply below_alloc | apply pw_below_drewN | apply below_drew1 | refine below_set ?_ (by first | omega | (simp; omega)))) hb_); clear HB hb_; have HB := n_; clear n_)) | (go_at_call 13; first | ((with_reducible refine (Plain_calls a _).mono ?_); rintro e w_ ⟨rfl, rfl⟩) | ((with_reducible refine (Plain_calls b _).mono ?_); rintro e w_ ⟨rfl, rfl⟩) | ((with_reducible refine (Plain_calls c _).mono ?_); rintro e w_ ⟨rfl, rfl⟩)))
          go_ret
          exact ⟨rfl, HB.out⟩
        · have h2 := HQ.out b hb eb
          have h3 := HP.out c hc (by
            have := HRR.out
            unfold midR at this
            omega)
          clear ea eb
          go_wp2_with (first | (go_at_call 20; first | ((with_reducible refine (Median_v b a c m hb ha hc _ H1.out).mono ?_); rintro e w9 ⟨rfl, hb_⟩; have n_ := Aside0.mk (below_step (by repeat (first | exact HB.out | apply below_alloc | apply pw_below_drewN | apply below_drew1 | refine below_set ?_ (by first | omega | (simp; omega)))) hb_); clear HB hb_; have HB := n_; clear n_) | ((with_reducible refine (Median_v a c b m ha hc hb _ H2.out).mono ?_); rintro e w9 ⟨rfl, hb_⟩; have n_ := Aside0.mk (below_step (by repeat (first | exact HB.out | apply below_alloc | apply pw_below_drewN | apply below_drew1 | refine below_set ?_ (by first | omega | (simp; omega)))) hb_); clear HB hb_; have HB := n_; clear n_) | ((with_reducible refine (Median_v c b a m hc hb ha _ H3.out).mono ?_); rintro e w9 ⟨rfl, hb_⟩; have n_ := Aside0.mk (below_step (by repeat (first | exact HB.out | apply below_alloc | apply pw_below_drewN | apply below_drew1 | refine below_set ?_ (by first | omega | (simp; omega)))) hb_); clear HB hb_; have HB := n_; clear n_) | ((with_reducible refine (Median_v b c a m hb hc ha _ H4.out).mono ?_); rintro e w9 ⟨rfl, hb_⟩; have n_ := Aside0.mk (below_step (by repeat (first | exact HB.out | apply below_alloc | apply pw_below_drewN | apply below_drew1 | refine below_set ?_ (by first | omega | (simp; omega)))) hb_); clear HB hb_; have HB := n_; clear n_) | ((with_reducible refine (Median_v c a b m hc ha hb _ H5.out).mono ?_); rintro e w9 ⟨rfl, hb_⟩; have n_ := Aside0.mk (below_step (by repeat (first | exact HB.out | apply below_alloc | apply pw_below_drewN | apply below_drew1 | refine below_set ?_ (by first | omega | (simp; omega)))) hb_); clear HB hb_; have HB := n_; clear n_) | ((with_reducible refine (Median_v a a b (plainF a) ha ha hb _ H6.out).mono ?_); rintro e w9 ⟨rfl, hb_⟩; have n_ := Aside0.mk (below_step (by repeat (first | exact HB.out | apply below_alloc | apply pw_below_drewN | apply below_drew1 | refine below_set ?_ (by first | omega | (simp; omega)))) hb_); clear HB hb_; have HB := n_; clear n_)) | (go_at_call 13; first | ((with_reducible refine (Plain_calls a _).mono ?_); rintro e w_ ⟨rfl, rfl⟩) | ((with_reducible refine (Plain_calls b _).mono ?_); rintro e w_ ⟨rfl, rfl⟩) | ((with_reducible refine (Plain_calls c _).mono ?_); rintro e w_ ⟨rfl, rfl⟩)))
          go_ret
          exact ⟨rfl, HB.out⟩

set_option maxRecDepth 100000 in
theorem lagMedian_lifted (os : Os) (started : os.Started) (H : Type) (enc : TypeId × Value → H) :
    ReturnsInHanded {} Try.checked os 6 .any (Rows.lagMedianSpec.pre6 enc Try.prog Try.f6 Rows.lagMedianRow.domain false) (Rows.lagMedianSpec.post enc Try.prog Try.f6 false true false false) := by
  refine returnsInHanded_of_change_sized (C := Try.checked) own started (by kernel_rfl) Try.func6
    (ChangeSpec.witness6 (enc := enc) (C := Try.checked) false ⟨#[], #[.int .u64 0, .int .u64 0, .int .u64 0], []⟩ 8 (by kernel_rfl) (by kernel_rfl) (by kernel_rfl) (by kernel_rfl)) ?_
  intro W base args ds gs before hval0 hW hcnd hsz0 _
  have hsz : (DataW.weightsEach Try.prog (Try.f6.params.toList ++ Rows.lagMedianSpec.plain.varTypes Try.prog) (ds ++ gs)).all (· ≤ reachBytes) = true := hsz0
  have hval : ∀ (j : Nat) t v, Try.f6.params[j]? = some t → args[j]? = some v → Value.okWide Try.prog W .any base t v := hval0
  have hW' := hW
  obtain ⟨p, q, hA0, hV, rfl, hfz, hnd⟩ := hW
  have hA : DataW.TrodAll enc Try.prog W 0 (fun _ => true) true Try.f6.params.toList args.toList ds p := hA0
  have hAll := hA
  rw [Try.params6] at hA hval hsz
  obtain ⟨v0, vs0, d0, ds0, p0, q0, hargs, rfl, rfl, h0, r0⟩ := trodAll_cons hA
  obtain ⟨v1, vs1, d1, ds1, p1, q1, rfl, rfl, rfl, h1, r1⟩ := trodAll_cons r0
  obtain ⟨v2, vs2, d2, ds2, p2, q2, rfl, rfl, rfl, h2, r2⟩ := trodAll_cons r1
  obtain ⟨rfl, rfl, rfl⟩ := trodAll_nil r2
  obtain rfl : args = #[v0, v1, v2] := by cases args; simp_all
  obtain ⟨rfl, rfl⟩ := trodVars_none hV
  have hlt := trodAll_lt hAll
  obtain ⟨a, rfl, rfl, rfl, w0⟩ := open_int Try.underlying22 (hval 0 22 v0 rfl rfl) h0
  obtain ⟨b, rfl, rfl, rfl, w1⟩ := open_int Try.underlying22 (hval 1 22 v1 rfl rfl) h1
  obtain ⟨c, rfl, rfl, rfl, w2⟩ := open_int Try.underlying22 (hval 2 22 v2 rfl rfl) h2
  obtain ⟨a, rfl⟩ := Int.eq_ofNat_of_zero_le (bounds_u64 w0).1
  obtain ⟨b, rfl⟩ := Int.eq_ofNat_of_zero_le (bounds_u64 w1).1
  obtain ⟨c, rfl⟩ := Int.eq_ofNat_of_zero_le (bounds_u64 w2).1
  clear hA0 hval0 hsz0 hsz
  refine (LagMedian_calls a b c (by have := (bounds_u64 w0).2; omega) (by have := (bounds_u64 w1).2; omega) (by have := (bounds_u64 w2).2; omega) W).mono fun e W' ⟨he, bel⟩ => ?_
  subst he
  exact ⟨_, rfl, _, _, _, [], _, [], hW', trodAll_mk1 (shut_bool Try.underlying4 _), below_trodAll laidOut bel (by kernel_rfl) hAll hlt, rfl, bel.frame _, fun h => by cases h⟩
theorem lagMedian_over : Rows.lagMedianRow.holds Try.pinned (OpenSpec.ofChange Rows.lagMedianSpec) :=
  OpenClaim.holds_of_wide 6 Try.f6 rfl rfl rfl rfl rfl rfl rfl ⟨rfl, rfl, rfl, rfl, rfl⟩ rfl rfl rfl rfl rfl (by kernel_rfl) Try.func6 (by kernel_rfl)
    (of_decide_eq_true (by kernel_rfl)) (by unfold Func.isWrapper; first | (rw [if_pos (by decide +kernel)]; kernel_rfl) | (rw [if_neg (by decide +kernel)]; exact ⟨rfl, rfl⟩))
    (fun os started H enc _ => lagMedian_lifted os started H enc)
theorem lagMedian_holds : Rows.LagMedianSaid := lagMedian_over
#print axioms lagMedian_holds
end Go.Proofs.Ytcgonhnfpnmlcaa
