/- What the document's own functions of chapter 18 compute. -/
import Derived.Test.YtdhgneindanbeaaScoreGen
set_option linter.unusedVariables false
set_option linter.unusedSimpArgs false
namespace Go.Proofs.Ytdhgneindanbeaa
open Go.RowKit Go.Proofs.YtdhgneindanbeaaW.PrintWords Go.Proofs.YtdhgneindanbeaaW.PrintLast Go.Proofs.YtdhgneindanbeaaW.PrintMore
attribute [local go_sem] max2_int min2_int max_two min_two

set_option maxHeartbeats 1000000 in
theorem rRight_calls (s : ScoreV) (w : World) : Calls Try.prog 21 #[.agg #[.int .i64 s.pts, .int .i64 s.good, .int .i64 s.bad, .bool s.ban]] w fun e w' => e = .returned (.bool (rightB s)) ∧ Below w.heap.size w w' := by
  have HB := Aside0.mk (Below.refl w.heap.size w)
  go_enter Try.func21, Try.ntmps21
  go_wp2
  all_goals go_ret
  all_goals exact ⟨ret_bool (by rw [Bool.eq_iff_iff, right_iff]; simp; omega), (by repeat (first | exact HB.out | apply below_alloc | apply pw_below_drewN | apply below_drew1 | refine below_set ?_ (by first | omega | (simp; omega))))⟩
set_option maxHeartbeats 2000000 in
theorem rFits_calls (r : RuleV) (w : World) : Calls Try.prog 19 #[.agg #[.int .i64 r.pen, .int .i64 r.cre, .int .i64 r.most, .int .i64 r.num, .int .i64 r.den, .int .i64 r.ban, .int .i64 r.back]] w fun e w' => e = .returned (.bool (fitsB r)) ∧ Below w.heap.size w w' := by
  have HB := Aside0.mk (Below.refl w.heap.size w)
  go_enter Try.func19, Try.ntmps19
  go_wp2
  all_goals go_ret
  all_goals exact ⟨ret_bool (by rw [Bool.eq_iff_iff, fits_iff]; simp; omega), (by repeat (first | exact HB.out | apply below_alloc | apply pw_below_drewN | apply below_drew1 | refine below_set ?_ (by first | omega | (simp; omega))))⟩

theorem judgedF_at (r : RuleV) (a b c : Int) (d : Bool) (hp : -1048576 ≤ a ∧ a ≤ 1048576) : judgedF r ⟨a, b, c, d⟩ a = ⟨a, b, c, if a < r.ban then true else if r.back ≤ a then false else d⟩ := by
  have hc : capP a = a := by unfold capP hel; omega
  unfold judgedF
  rw [hc]
set_option maxHeartbeats 1000000 in
theorem rjudged_calls (r : RuleV) (a b c : Int) (d : Bool) (w : World) (h : r.ban ≤ r.back) (hp : -1048576 ≤ a ∧ a ≤ 1048576) : Calls Try.prog 24 #[.agg #[.int .i64 r.pen, .int .i64 r.cre, .int .i64 r.most, .int .i64 r.num, .int .i64 r.den, .int .i64 r.ban, .int .i64 r.back], .agg #[.int .i64 a, .int .i64 b, .int .i64 c, .bool d]] w fun e w' =>
    e = .returned (.agg #[.int .i64 (judgedF r ⟨a, b, c, d⟩ a).pts, .int .i64 (judgedF r ⟨a, b, c, d⟩ a).good, .int .i64 (judgedF r ⟨a, b, c, d⟩ a).bad, .bool (judgedF r ⟨a, b, c, d⟩ a).ban]) ∧ Below w.heap.size w w' := by
  rw [judgedF_at r a b c d hp]
  by_cases h1 : a < r.ban
  · rw [if_pos h1]
    go_enter Try.func24, Try.ntmps24
    go_wp2
    exact bodyPost_ret (v := .agg #[.int .i64 a, .int .i64 b, .int .i64 c, .bool true]) (by simp [results, Try.results24, go_sem]) rfl ⟨rfl, (by repeat (with_reducible first | assumption | exact Below.refl _ _ | apply below_alloc | refine below_set ?_ (by first | omega | (simp; omega)) | apply pw_below_drewN | apply below_drew1))⟩
  · rw [if_neg h1]
    by_cases h2 : r.back ≤ a
    · rw [if_pos h2]
      go_enter Try.func24, Try.ntmps24
      go_wp2
      exact bodyPost_ret (v := .agg #[.int .i64 a, .int .i64 b, .int .i64 c, .bool false]) (by simp [results, Try.results24, go_sem]) rfl ⟨rfl, (by repeat (with_reducible first | assumption | exact Below.refl _ _ | apply below_alloc | refine below_set ?_ (by first | omega | (simp; omega)) | apply pw_below_drewN | apply below_drew1))⟩
    · rw [if_neg h2]
      go_enter Try.func24, Try.ntmps24
      go_wp2
      exact bodyPost_ret (v := .agg #[.int .i64 a, .int .i64 b, .int .i64 c, .bool d]) (by simp [results, Try.results24, go_sem]) rfl ⟨rfl, (by repeat (with_reducible first | assumption | exact Below.refl _ _ | apply below_alloc | refine below_set ?_ (by first | omega | (simp; omega)) | apply pw_below_drewN | apply below_drew1))⟩

set_option maxHeartbeats 1000000 in
theorem rCount_no (s : ScoreV) (good : Bool) (w : World) (h : rightB s = false) : Calls Try.prog 17 #[.agg #[.int .i64 s.pts, .int .i64 s.good, .int .i64 s.bad, .bool s.ban], .bool good] w fun e w' =>
    e = .returned (.tuple #[.agg #[.int .i64 0, .int .i64 0, .int .i64 0, .bool false], .int .i64 1]) ∧ Below w.heap.size w w' := by
  go_enter Try.func17, Try.ntmps17
  go_wp2_with (go_at_call 21; go_must (((with_reducible refine (rRight_calls s _).mono ?_)); rintro e w1 ⟨rfl, hb_⟩; obtain ⟨hc1, hf1⟩ := bcell hb_; have hz1 := hb_.size; (try simp at hz1); have k1_0 : w.heap.size < w1.heap.size := (by omega); have k1_1 : w.heap.size + 1 < w1.heap.size := (by omega); have HB1 := Aside0.mk hb_; clear hb_ hz1))
  exact bodyPost_ret (v := .tuple #[.agg #[.int .i64 0, .int .i64 0, .int .i64 0, .bool false], .int .i64 1]) (by simp [results, Try.results17, go_sem, hc1, k1_1, k1_0]) rfl ⟨rfl, (by repeat (with_reducible first | assumption | exact Below.refl _ _ | apply below_alloc | refine below_set ?_ (by first | omega | (simp; omega)) | apply pw_below_drewN | apply below_drew1 | refine below_step ?_ HB1.out))⟩
set_option maxHeartbeats 1000000 in
theorem rCount_yes (s : ScoreV) (good : Bool) (w : World) (h : rightB s = true) : Calls Try.prog 17 #[.agg #[.int .i64 s.pts, .int .i64 s.good, .int .i64 s.bad, .bool s.ban], .bool good] w fun e w' =>
    e = .returned (.tuple #[.agg #[.int .i64 (countF s good).pts, .int .i64 (countF s good).good, .int .i64 (countF s good).bad, .bool (countF s good).ban], .int .i64 0]) ∧ Below w.heap.size w w' := by
  obtain ⟨q1, q2, q3⟩ := (right_iff s).1 h
  have e1 : (if (1099511627776 : Int) < s.good + 1 then 1099511627776 else s.good + 1) = hel (s.good + 1) 0 1099511627776 := by unfold hel; split <;> omega
  have e2 : (if (1099511627776 : Int) < s.bad + 1 then 1099511627776 else s.bad + 1) = hel (s.bad + 1) 0 1099511627776 := by unfold hel; split <;> omega
  cases good
  · show Calls _ _ _ _ (fun e w' => e = .returned (.tuple #[.agg #[.int .i64 s.pts, .int .i64 s.good, .int .i64 (hel (s.bad + 1) 0 1099511627776), .bool s.ban], .int .i64 0]) ∧ Below w.heap.size w w')
    generalize hel (s.bad + 1) 0 1099511627776 = g at *
    go_enter Try.func17, Try.ntmps17
    go_wp2_with (go_at_call 21; go_must (((with_reducible refine (rRight_calls s _).mono ?_)); rintro e w1 ⟨rfl, hb_⟩; obtain ⟨hc1, hf1⟩ := bcell hb_; have hz1 := hb_.size; (try simp at hz1); have k1_0 : w.heap.size < w1.heap.size := (by omega); have k1_1 : w.heap.size + 1 < w1.heap.size := (by omega); have HB1 := Aside0.mk hb_; clear hb_ hz1))
    exact bodyPost_ret (v := .tuple #[.agg #[.int .i64 s.pts, .int .i64 s.good, .int .i64 g, .bool s.ban], .int .i64 0]) (by simp [results, Try.results17, go_sem, hc1, k1_1, k1_0]) rfl ⟨rfl, (by repeat (with_reducible first | assumption | exact Below.refl _ _ | apply below_alloc | refine below_set ?_ (by first | omega | (simp; omega)) | apply pw_below_drewN | apply below_drew1 | refine below_step ?_ HB1.out))⟩
  · show Calls _ _ _ _ (fun e w' => e = .returned (.tuple #[.agg #[.int .i64 s.pts, .int .i64 (hel (s.good + 1) 0 1099511627776), .int .i64 s.bad, .bool s.ban], .int .i64 0]) ∧ Below w.heap.size w w')
    generalize hel (s.good + 1) 0 1099511627776 = g at *
    go_enter Try.func17, Try.ntmps17
    go_wp2_with (go_at_call 21; go_must (((with_reducible refine (rRight_calls s _).mono ?_)); rintro e w1 ⟨rfl, hb_⟩; obtain ⟨hc1, hf1⟩ := bcell hb_; have hz1 := hb_.size; (try simp at hz1); have k1_0 : w.heap.size < w1.heap.size := (by omega); have k1_1 : w.heap.size + 1 < w1.heap.size := (by omega); have HB1 := Aside0.mk hb_; clear hb_ hz1))
    exact bodyPost_ret (v := .tuple #[.agg #[.int .i64 s.pts, .int .i64 g, .int .i64 s.bad, .bool s.ban], .int .i64 0]) (by simp [results, Try.results17, go_sem, hc1, k1_1, k1_0]) rfl ⟨rfl, (by repeat (with_reducible first | assumption | exact Below.refl _ _ | apply below_alloc | refine below_set ?_ (by first | omega | (simp; omega)) | apply pw_below_drewN | apply below_drew1 | refine below_step ?_ HB1.out))⟩

theorem judgedF_cap (r : RuleV) (s : ScoreV) (p : Int) : judgedF r ⟨capP p, s.good, s.bad, s.ban⟩ (capP p) = judgedF r s p := by
  have hc : capP (capP p) = capP p := by unfold capP hel; omega
  unfold judgedF
  rw [hc]
theorem capP_bd (p : Int) : -1048576 ≤ capP p ∧ capP p ≤ 1048576 := by unfold capP hel; omega
set_option maxHeartbeats 2000000 in
theorem rSettle_yes (r : RuleV) (s : ScoreV) (w : World) (h : okB r s = true) : Calls Try.prog 13 #[.agg #[.int .i64 r.pen, .int .i64 r.cre, .int .i64 r.most, .int .i64 r.num, .int .i64 r.den, .int .i64 r.ban, .int .i64 r.back], .agg #[.int .i64 s.pts, .int .i64 s.good, .int .i64 s.bad, .bool s.ban]] w fun e w' =>
    e = .returned (.tuple #[.agg #[.int .i64 (settleF r s).pts, .int .i64 (settleF r s).good, .int .i64 (settleF r s).bad, .bool (settleF r s).ban], .int .i64 0]) ∧ Below w.heap.size w w' := by
  obtain ⟨hr, hs⟩ := ok_split r s h
  clear h
  obtain ⟨a1, a2, a3, a4, a5, a6, a7⟩ := (fits_iff r).1 hr
  obtain ⟨b1, b2, b3⟩ := (right_iff s).1 hs
  obtain ⟨m1, m2⟩ := mul_bd (B := 1000) a2.1 a2.2 (show 0 ≤ min s.good r.most by omega) (by omega)
  obtain ⟨m3, m4⟩ := mul_bd a1.1 a1.2 b3.1 b3.2
  generalize hst : settleF r s = t
  have hst' : judgedF r ⟨s.pts, 0, 0, s.ban⟩ (s.pts + r.cre * min s.good r.most - r.pen * s.bad) = t := hst
  rw [← judgedF_cap] at hst'
  have hcb := capP_bd (s.pts + r.cre * min s.good r.most - r.pen * s.bad)
  clear hst
  generalize hmin : min s.good r.most = mm at hst' m1 m2 hcb
  have hmin2 : (if r.most < s.good then r.most else s.good) = mm := by split <;> omega
  have hcp : (1048576 < s.pts + r.cre * mm - r.pen * s.bad ∧ capP (s.pts + r.cre * mm - r.pen * s.bad) = 1048576) ∨ (¬ 1048576 < s.pts + r.cre * mm - r.pen * s.bad ∧ s.pts + r.cre * mm - r.pen * s.bad < -1048576 ∧ capP (s.pts + r.cre * mm - r.pen * s.bad) = -1048576) ∨ (¬ 1048576 < s.pts + r.cre * mm - r.pen * s.bad ∧ ¬ s.pts + r.cre * mm - r.pen * s.bad < -1048576 ∧ capP (s.pts + r.cre * mm - r.pen * s.bad) = s.pts + r.cre * mm - r.pen * s.bad) := by
    generalize s.pts + r.cre * mm - r.pen * s.bad = x
    unfold capP hel
    omega
  generalize capP (s.pts + r.cre * mm - r.pen * s.bad) = cp at hst' hcb hcp
  have HT := Aside0.mk hst'
  clear hst'
  have hbb := a7.1
  rcases hcp with ⟨i1, rfl⟩ | ⟨i1, i2, rfl⟩ | ⟨i1, i2, rfl⟩
  all_goals
    go_enter Try.func13, Try.ntmps13
    go_wp2_with (first
      | (go_at_call 19; go_must (((with_reducible refine (rFits_calls r _).mono ?_)); rintro e w1 ⟨rfl, hb_⟩; obtain ⟨hc1, hf1⟩ := bcell hb_; have hz1 := hb_.size; (try simp at hz1); have k1_0 : w.heap.size < w1.heap.size := (by omega); have k1_1 : w.heap.size + 1 < w1.heap.size := (by omega); have k1_2 : w.heap.size + 1 + 1 < w1.heap.size := (by omega); have HB1 := Aside0.mk hb_; clear hb_ hz1))
      | (go_at_call 21; go_must (((with_reducible refine (rRight_calls s _).mono ?_)); rintro e w2 ⟨rfl, hb_⟩; obtain ⟨hc2, hf2⟩ := bcell hb_; have hz2 := hb_.size; (try simp at hz2); have k2_0 : w.heap.size < w2.heap.size := (by omega); have k2_1 : w.heap.size + 1 < w2.heap.size := (by omega); have k2_2 : w.heap.size + 1 + 1 < w2.heap.size := (by omega); have HB2 := Aside0.mk hb_; clear hb_ hz2))
      | (go_at_call 24; refine (rjudged_calls r _ 0 0 s.ban _ hbb hcb).mono ?_; rw [HT.out]; rintro e w3 ⟨rfl, hb_⟩; obtain ⟨hc3, hf3⟩ := bcell hb_; have hz3 := hb_.size; (try simp at hz3); have k3_1 : w.heap.size + 1 < w3.heap.size := (by omega); have k3_2 : w.heap.size + 1 + 1 < w3.heap.size := (by omega); have HB3 := Aside0.mk hb_; clear hb_ hz3))
    exact bodyPost_ret (v := .tuple #[.agg #[.int .i64 t.pts, .int .i64 t.good, .int .i64 t.bad, .bool t.ban], .int .i64 0]) (by simp [results, Try.results13, go_sem, hc1, k1_1, k1_2, hc2, k2_2, k2_1, hc3, k3_1, k3_2]) rfl ⟨rfl, (by repeat (with_reducible first | assumption | exact Below.refl _ _ | apply below_alloc | refine below_set ?_ (by first | omega | (simp; omega)) | apply pw_below_drewN | apply below_drew1 | refine below_step ?_ HB1.out | refine below_step ?_ HB2.out | refine below_step ?_ HB3.out))⟩
set_option maxHeartbeats 1000000 in
theorem rSettle_no (r : RuleV) (s : ScoreV) (w : World) (h' : okB r s = false) : Calls Try.prog 13 #[.agg #[.int .i64 r.pen, .int .i64 r.cre, .int .i64 r.most, .int .i64 r.num, .int .i64 r.den, .int .i64 r.ban, .int .i64 r.back], .agg #[.int .i64 s.pts, .int .i64 s.good, .int .i64 s.bad, .bool s.ban]] w fun e w' =>
    e = .returned (.tuple #[.agg #[.int .i64 0, .int .i64 0, .int .i64 0, .bool false], .int .i64 1]) ∧ Below w.heap.size w w' := by
  have h : (fitsB r && rightB s) = false := h'
  clear h'
  rcases Bool.eq_false_or_eq_true (fitsB r) with hr | hr
  · have hs : rightB s = false := by simpa [hr] using h
    clear h
    go_enter Try.func13, Try.ntmps13
    go_wp2_with (first
      | (go_at_call 19; go_must (((with_reducible refine (rFits_calls r _).mono ?_)); rintro e w1 ⟨rfl, hb_⟩; obtain ⟨hc1, hf1⟩ := bcell hb_; have hz1 := hb_.size; (try simp at hz1); have k1_0 : w.heap.size < w1.heap.size := (by omega); have k1_1 : w.heap.size + 1 < w1.heap.size := (by omega); have k1_2 : w.heap.size + 1 + 1 < w1.heap.size := (by omega); have HB1 := Aside0.mk hb_; clear hb_ hz1))
      | (go_at_call 21; go_must (((with_reducible refine (rRight_calls s _).mono ?_)); rintro e w2 ⟨rfl, hb_⟩; obtain ⟨hc2, hf2⟩ := bcell hb_; have hz2 := hb_.size; (try simp at hz2); have k2_0 : w.heap.size < w2.heap.size := (by omega); have k2_1 : w.heap.size + 1 < w2.heap.size := (by omega); have k2_2 : w.heap.size + 1 + 1 < w2.heap.size := (by omega); have HB2 := Aside0.mk hb_; clear hb_ hz2)))
    exact bodyPost_ret (v := .tuple #[.agg #[.int .i64 0, .int .i64 0, .int .i64 0, .bool false], .int .i64 1]) (by simp [results, Try.results13, go_sem, hc1, k1_1, k1_2, hc2, k2_2, k2_1]) rfl ⟨rfl, (by repeat (with_reducible first | assumption | exact Below.refl _ _ | apply below_alloc | refine below_set ?_ (by first | omega | (simp; omega)) | apply pw_below_drewN | apply below_drew1 | refine below_step ?_ HB1.out | refine below_step ?_ HB2.out))⟩
  · clear h
    go_enter Try.func13, Try.ntmps13
    go_wp2_with (first
      | (go_at_call 19; go_must (((with_reducible refine (rFits_calls r _).mono ?_)); rintro e w1 ⟨rfl, hb_⟩; obtain ⟨hc1, hf1⟩ := bcell hb_; have hz1 := hb_.size; (try simp at hz1); have k1_0 : w.heap.size < w1.heap.size := (by omega); have k1_1 : w.heap.size + 1 < w1.heap.size := (by omega); have k1_2 : w.heap.size + 1 + 1 < w1.heap.size := (by omega); have HB1 := Aside0.mk hb_; clear hb_ hz1))
      | (go_at_call 21; go_must (((with_reducible refine (rRight_calls s _).mono ?_)); rintro e w2 ⟨rfl, hb_⟩; obtain ⟨hc2, hf2⟩ := bcell hb_; have hz2 := hb_.size; (try simp at hz2); have k2_0 : w.heap.size < w2.heap.size := (by omega); have k2_1 : w.heap.size + 1 < w2.heap.size := (by omega); have k2_2 : w.heap.size + 1 + 1 < w2.heap.size := (by omega); have HB2 := Aside0.mk hb_; clear hb_ hz2)))
    exact bodyPost_ret (v := .tuple #[.agg #[.int .i64 0, .int .i64 0, .int .i64 0, .bool false], .int .i64 1]) (by simp [results, Try.results13, go_sem, hc1, k1_1, k1_2, hc2, k2_2, k2_1]) rfl ⟨rfl, (by repeat (with_reducible first | assumption | exact Below.refl _ _ | apply below_alloc | refine below_set ?_ (by first | omega | (simp; omega)) | apply pw_below_drewN | apply below_drew1 | refine below_step ?_ HB1.out | refine below_step ?_ HB2.out))⟩
set_option maxHeartbeats 1000000 in
theorem rDecay_no (r : RuleV) (s : ScoreV) (w : World) (h' : okB r s = false) : Calls Try.prog 15 #[.agg #[.int .i64 r.pen, .int .i64 r.cre, .int .i64 r.most, .int .i64 r.num, .int .i64 r.den, .int .i64 r.ban, .int .i64 r.back], .agg #[.int .i64 s.pts, .int .i64 s.good, .int .i64 s.bad, .bool s.ban]] w fun e w' =>
    e = .returned (.tuple #[.agg #[.int .i64 0, .int .i64 0, .int .i64 0, .bool false], .int .i64 1]) ∧ Below w.heap.size w w' := by
  have h : (fitsB r && rightB s) = false := h'
  clear h'
  rcases Bool.eq_false_or_eq_true (fitsB r) with hr | hr
  · have hs : rightB s = false := by simpa [hr] using h
    clear h
    go_enter Try.func15, Try.ntmps15
    go_wp2_with (first
      | (go_at_call 19; go_must (((with_reducible refine (rFits_calls r _).mono ?_)); rintro e w1 ⟨rfl, hb_⟩; obtain ⟨hc1, hf1⟩ := bcell hb_; have hz1 := hb_.size; (try simp at hz1); have k1_0 : w.heap.size < w1.heap.size := (by omega); have k1_1 : w.heap.size + 1 < w1.heap.size := (by omega); have k1_2 : w.heap.size + 1 + 1 < w1.heap.size := (by omega); have HB1 := Aside0.mk hb_; clear hb_ hz1))
      | (go_at_call 21; go_must (((with_reducible refine (rRight_calls s _).mono ?_)); rintro e w2 ⟨rfl, hb_⟩; obtain ⟨hc2, hf2⟩ := bcell hb_; have hz2 := hb_.size; (try simp at hz2); have k2_0 : w.heap.size < w2.heap.size := (by omega); have k2_1 : w.heap.size + 1 < w2.heap.size := (by omega); have k2_2 : w.heap.size + 1 + 1 < w2.heap.size := (by omega); have HB2 := Aside0.mk hb_; clear hb_ hz2)))
    exact bodyPost_ret (v := .tuple #[.agg #[.int .i64 0, .int .i64 0, .int .i64 0, .bool false], .int .i64 1]) (by simp [results, Try.results15, go_sem, hc1, k1_1, k1_2, hc2, k2_2, k2_1]) rfl ⟨rfl, (by repeat (with_reducible first | assumption | exact Below.refl _ _ | apply below_alloc | refine below_set ?_ (by first | omega | (simp; omega)) | apply pw_below_drewN | apply below_drew1 | refine below_step ?_ HB1.out | refine below_step ?_ HB2.out))⟩
  · clear h
    go_enter Try.func15, Try.ntmps15
    go_wp2_with (first
      | (go_at_call 19; go_must (((with_reducible refine (rFits_calls r _).mono ?_)); rintro e w1 ⟨rfl, hb_⟩; obtain ⟨hc1, hf1⟩ := bcell hb_; have hz1 := hb_.size; (try simp at hz1); have k1_0 : w.heap.size < w1.heap.size := (by omega); have k1_1 : w.heap.size + 1 < w1.heap.size := (by omega); have k1_2 : w.heap.size + 1 + 1 < w1.heap.size := (by omega); have HB1 := Aside0.mk hb_; clear hb_ hz1))
      | (go_at_call 21; go_must (((with_reducible refine (rRight_calls s _).mono ?_)); rintro e w2 ⟨rfl, hb_⟩; obtain ⟨hc2, hf2⟩ := bcell hb_; have hz2 := hb_.size; (try simp at hz2); have k2_0 : w.heap.size < w2.heap.size := (by omega); have k2_1 : w.heap.size + 1 < w2.heap.size := (by omega); have k2_2 : w.heap.size + 1 + 1 < w2.heap.size := (by omega); have HB2 := Aside0.mk hb_; clear hb_ hz2)))
    exact bodyPost_ret (v := .tuple #[.agg #[.int .i64 0, .int .i64 0, .int .i64 0, .bool false], .int .i64 1]) (by simp [results, Try.results15, go_sem, hc1, k1_1, k1_2, hc2, k2_2, k2_1]) rfl ⟨rfl, (by repeat (with_reducible first | assumption | exact Below.refl _ _ | apply below_alloc | refine below_set ?_ (by first | omega | (simp; omega)) | apply pw_below_drewN | apply below_drew1 | refine below_step ?_ HB1.out | refine below_step ?_ HB2.out))⟩
theorem decay_cap {a n d : Int} (ha : -1048576 ≤ a ∧ a ≤ 1048576) (hn : 0 ≤ n) (hnd : n ≤ d) (hd : 1 ≤ d) : -1048576 ≤ (a * n).tdiv d ∧ (a * n).tdiv d ≤ 1048576 := by
  rcases Int.le_total 0 a with h | h
  · rw [Int.tdiv_eq_ediv_of_nonneg (Int.mul_nonneg h hn)]
    have p := Int.ediv_nonneg (Int.mul_nonneg h hn) (show (0 : Int) ≤ d by omega)
    have q : a * n / d ≤ a := Int.ediv_le_of_le_mul (by omega) (Int.mul_le_mul_of_nonneg_left hnd h)
    omega
  · have h' : 0 ≤ -a := by omega
    have e : (a * n).tdiv d = -((-a * n).tdiv d) := by rw [Int.neg_mul, Int.neg_tdiv, Int.neg_neg]
    rw [e, Int.tdiv_eq_ediv_of_nonneg (Int.mul_nonneg h' hn)]
    have p := Int.ediv_nonneg (Int.mul_nonneg h' hn) (show (0 : Int) ≤ d by omega)
    have q : -a * n / d ≤ -a := Int.ediv_le_of_le_mul (by omega) (Int.mul_le_mul_of_nonneg_left hnd h')
    omega
set_option maxHeartbeats 2000000 in
theorem rDecay_yes (r : RuleV) (s : ScoreV) (w : World) (h : okB r s = true) : Calls Try.prog 15 #[.agg #[.int .i64 r.pen, .int .i64 r.cre, .int .i64 r.most, .int .i64 r.num, .int .i64 r.den, .int .i64 r.ban, .int .i64 r.back], .agg #[.int .i64 s.pts, .int .i64 s.good, .int .i64 s.bad, .bool s.ban]] w fun e w' =>
    e = .returned (.tuple #[.agg #[.int .i64 (decayF r s).pts, .int .i64 (decayF r s).good, .int .i64 (decayF r s).bad, .bool (decayF r s).ban], .int .i64 0]) ∧ Below w.heap.size w w' := by
  obtain ⟨hr, hs⟩ := ok_split r s h
  clear h
  obtain ⟨a1, a2, a3, a4, a5, a6, a7⟩ := (fits_iff r).1 hr
  obtain ⟨b1, b2, b3⟩ := (right_iff s).1 hs
  obtain ⟨m1, m2⟩ := mul_bd2 b1.1 b1.2 a5.1 (show r.num ≤ 1000 by omega)
  have hcb := decay_cap b1 a5.1 a5.2 a4.1
  generalize hst : decayF r s = t
  have hst' : judgedF r ⟨s.pts, s.good, s.bad, s.ban⟩ ((s.pts * r.num).tdiv r.den) = t := hst
  rw [← judgedF_cap, show capP ((s.pts * r.num).tdiv r.den) = (s.pts * r.num).tdiv r.den by unfold capP hel; omega] at hst'
  have HT := Aside0.mk hst'
  clear hst hst'
  have hd : ¬ r.den = 0 := by omega
  have hbb := a7.1
  go_enter Try.func15, Try.ntmps15
  go_wp2_with (first
    | (go_at_call 19; go_must (((with_reducible refine (rFits_calls r _).mono ?_)); rintro e w1 ⟨rfl, hb_⟩; obtain ⟨hc1, hf1⟩ := bcell hb_; have hz1 := hb_.size; (try simp at hz1); have k1_0 : w.heap.size < w1.heap.size := (by omega); have k1_1 : w.heap.size + 1 < w1.heap.size := (by omega); have k1_2 : w.heap.size + 1 + 1 < w1.heap.size := (by omega); have HB1 := Aside0.mk hb_; clear hb_ hz1))
    | (go_at_call 21; go_must (((with_reducible refine (rRight_calls s _).mono ?_)); rintro e w2 ⟨rfl, hb_⟩; obtain ⟨hc2, hf2⟩ := bcell hb_; have hz2 := hb_.size; (try simp at hz2); have k2_0 : w.heap.size < w2.heap.size := (by omega); have k2_1 : w.heap.size + 1 < w2.heap.size := (by omega); have k2_2 : w.heap.size + 1 + 1 < w2.heap.size := (by omega); have HB2 := Aside0.mk hb_; clear hb_ hz2))
    | (go_at_call 24; go_must (((with_reducible refine (rjudged_calls r ((s.pts * r.num).tdiv r.den) s.good s.bad s.ban _ hbb hcb).mono ?_)); rw [HT.out];rintro e w3 ⟨rfl, hb_⟩; obtain ⟨hc3, hf3⟩ := bcell hb_; have hz3 := hb_.size; (try simp at hz3); have k3_0 : w.heap.size < w3.heap.size := (by omega); have k3_1 : w.heap.size + 1 < w3.heap.size := (by omega); have k3_2 : w.heap.size + 1 + 1 < w3.heap.size := (by omega); have HB3 := Aside0.mk hb_; clear hb_ hz3)))
  exact bodyPost_ret (v := .tuple #[.agg #[.int .i64 t.pts, .int .i64 t.good, .int .i64 t.bad, .bool t.ban], .int .i64 0]) (by simp [results, Try.results15, go_sem, hc1, k1_1, k1_2, hc2, k2_2, k2_1, hc3, k3_1, k3_2]) rfl ⟨rfl, (by repeat (with_reducible first | assumption | exact Below.refl _ _ | apply below_alloc | refine below_set ?_ (by first | omega | (simp; omega)) | apply pw_below_drewN | apply below_drew1 | refine below_step ?_ HB1.out | refine below_step ?_ HB2.out | refine below_step ?_ HB3.out))⟩
end Go.Proofs.Ytdhgneindanbeaa
