/- What Count, Settle and Decay of chapter 18 compute. -/
import Derived.StillTailTactics
import Derived.Deep.RegionWith
import Derived.Test.YtdhgneindanbeaaScoreWalk2
set_option linter.unusedVariables false
set_option linter.unusedSimpArgs false
namespace Go.Proofs.Ytdhgneindanbeaa
open Go.RowKit Go.Proofs.YtdhgneindanbeaaW.PrintWords Go.Proofs.YtdhgneindanbeaaW.PrintLast Go.Proofs.YtdhgneindanbeaaW.PrintMore
attribute [local go_sem] max2_int min2_int max_two min_two

def okB (r : RuleV) (s : ScoreV) : Bool := fitsB r && rightB s
def sumP (r : RuleV) (s : ScoreV) : Int := s.pts + r.cre * min s.good r.most - r.pen * s.bad
def settleF (r : RuleV) (s : ScoreV) : ScoreV := judgedF r { s with good := 0, bad := 0 } (sumP r s)
def decayF (r : RuleV) (s : ScoreV) : ScoreV := judgedF r s ((s.pts * r.num).tdiv r.den)

theorem fits_iff (r : RuleV) : fitsB r = true ↔ (0 ≤ r.pen ∧ r.pen ≤ 1000) ∧ (0 ≤ r.cre ∧ r.cre ≤ 1000) ∧ (0 ≤ r.most ∧ r.most ≤ 1000) ∧ (1 ≤ r.den ∧ r.den ≤ 1000) ∧ (0 ≤ r.num ∧ r.num ≤ r.den) ∧ (-1048576 ≤ r.ban ∧ r.ban ≤ 0) ∧ (r.ban ≤ r.back ∧ r.back ≤ 1048576) := by
  unfold fitsB
  simp only [Bool.and_eq_true, win_iff, and_assoc]
theorem right_iff (s : ScoreV) : rightB s = true ↔ (-1048576 ≤ s.pts ∧ s.pts ≤ 1048576) ∧ (0 ≤ s.good ∧ s.good ≤ 1099511627776) ∧ (0 ≤ s.bad ∧ s.bad ≤ 1099511627776) := by
  unfold rightB
  simp only [Bool.and_eq_true, win_iff, and_assoc]
theorem mul_bd {a b A B : Int} (h0 : 0 ≤ a) (h1 : a ≤ A) (h2 : 0 ≤ b) (h3 : b ≤ B) : 0 ≤ a * b ∧ a * b ≤ A * B :=
  ⟨Int.mul_nonneg h0 h2, Int.mul_le_mul h1 h3 h2 (by omega)⟩

set_option maxHeartbeats 1000000 in
theorem Count_no (s : ScoreV) (good : Bool) (w : World) (h : rightB s = false) : Calls Try.prog 16 #[.agg #[.int .i64 s.pts, .int .i64 s.good, .int .i64 s.bad, .bool s.ban], .bool good] w fun e w' =>
    e = .returned (.tuple #[.agg #[.int .i64 0, .int .i64 0, .int .i64 0, .bool false], .int .i64 1]) ∧ Below w.heap.size w w' := by
  go_enter Try.func16, Try.ntmps16
  go_wp2_with (go_at_call 20; go_must (((with_reducible refine (Right_calls s _).mono ?_)); rintro e w1 ⟨rfl, hb_⟩; obtain ⟨hc1, hf1⟩ := bcell hb_; have hz1 := hb_.size; (try simp at hz1); have k1_0 : w.heap.size < w1.heap.size := (by omega); have k1_1 : w.heap.size + 1 < w1.heap.size := (by omega); have HB1 := Aside0.mk hb_; clear hb_ hz1))
  exact bodyPost_ret (v := .tuple #[.agg #[.int .i64 0, .int .i64 0, .int .i64 0, .bool false], .int .i64 1]) (by simp [results, Try.results16, go_sem, hc1, k1_1, k1_0]) rfl ⟨rfl, (by repeat (with_reducible first | assumption | exact Below.refl _ _ | apply below_alloc | refine below_set ?_ (by first | omega | (simp; omega)) | apply pw_below_drewN | apply below_drew1 | refine below_step ?_ HB1.out))⟩
set_option maxHeartbeats 1000000 in
theorem Count_yes (s : ScoreV) (good : Bool) (w : World) (h : rightB s = true) : Calls Try.prog 16 #[.agg #[.int .i64 s.pts, .int .i64 s.good, .int .i64 s.bad, .bool s.ban], .bool good] w fun e w' =>
    e = .returned (.tuple #[.agg #[.int .i64 (countF s good).pts, .int .i64 (countF s good).good, .int .i64 (countF s good).bad, .bool (countF s good).ban], .int .i64 0]) ∧ Below w.heap.size w w' := by
  obtain ⟨q1, q2, q3⟩ := (right_iff s).1 h
  cases good
  · show Calls _ _ _ _ (fun e w' => e = .returned (.tuple #[.agg #[.int .i64 s.pts, .int .i64 s.good, .int .i64 (hel (s.bad + 1) 0 1099511627776), .bool s.ban], .int .i64 0]) ∧ Below w.heap.size w w')
    go_enter Try.func16, Try.ntmps16
    go_wp2_with (first
      | ((go_at_call 20; go_must (((with_reducible refine (Right_calls s _).mono ?_)); rintro e w1 ⟨rfl, hb_⟩; obtain ⟨hc1, hf1⟩ := bcell hb_; have hz1 := hb_.size; (try simp at hz1); have k1_0 : w.heap.size < w1.heap.size := (by omega); have k1_1 : w.heap.size + 1 < w1.heap.size := (by omega); have HB1 := Aside0.mk hb_; clear hb_ hz1)); have c0 : w1.cell? ⟨w.heap.size, 0, none⟩ = some (.int .i64 s.pts) := (by rw [hc1 _ _ (by simp; omega)]; simp); have c1 : w1.cell? ⟨w.heap.size, 1, none⟩ = some (.int .i64 s.good) := (by rw [hc1 _ _ (by simp; omega)]; simp); have c2 : w1.cell? ⟨w.heap.size, 2, none⟩ = some (.int .i64 s.bad) := (by rw [hc1 _ _ (by simp; omega)]; simp); have c3 : w1.cell? ⟨w.heap.size, 3, none⟩ = some (.bool s.ban) := (by rw [hc1 _ _ (by simp; omega)]; simp))
      | (go_at_call 25; ((with_reducible refine (held_calls _ _ _ _).mono ?_)); rintro e w_ ⟨rfl, rfl⟩))
    exact bodyPost_ret (v := .tuple #[.agg #[.int .i64 s.pts, .int .i64 s.good, .int .i64 (hel (s.bad + 1) 0 1099511627776), .bool s.ban], .int .i64 0]) (by simp [results, Try.results16, go_sem, hc1, k1_1, k1_0]) rfl ⟨rfl, (by repeat (with_reducible first | assumption | exact Below.refl _ _ | apply below_alloc | refine below_set ?_ (by first | omega | (simp; omega)) | apply pw_below_drewN | apply below_drew1 | refine below_step ?_ HB1.out))⟩
  · show Calls _ _ _ _ (fun e w' => e = .returned (.tuple #[.agg #[.int .i64 s.pts, .int .i64 (hel (s.good + 1) 0 1099511627776), .int .i64 s.bad, .bool s.ban], .int .i64 0]) ∧ Below w.heap.size w w')
    go_enter Try.func16, Try.ntmps16
    go_wp2_with (first
      | ((go_at_call 20; go_must (((with_reducible refine (Right_calls s _).mono ?_)); rintro e w1 ⟨rfl, hb_⟩; obtain ⟨hc1, hf1⟩ := bcell hb_; have hz1 := hb_.size; (try simp at hz1); have k1_0 : w.heap.size < w1.heap.size := (by omega); have k1_1 : w.heap.size + 1 < w1.heap.size := (by omega); have HB1 := Aside0.mk hb_; clear hb_ hz1)); have c0 : w1.cell? ⟨w.heap.size, 0, none⟩ = some (.int .i64 s.pts) := (by rw [hc1 _ _ (by simp; omega)]; simp); have c1 : w1.cell? ⟨w.heap.size, 1, none⟩ = some (.int .i64 s.good) := (by rw [hc1 _ _ (by simp; omega)]; simp); have c2 : w1.cell? ⟨w.heap.size, 2, none⟩ = some (.int .i64 s.bad) := (by rw [hc1 _ _ (by simp; omega)]; simp); have c3 : w1.cell? ⟨w.heap.size, 3, none⟩ = some (.bool s.ban) := (by rw [hc1 _ _ (by simp; omega)]; simp))
      | (go_at_call 25; ((with_reducible refine (held_calls _ _ _ _).mono ?_)); rintro e w_ ⟨rfl, rfl⟩))
    exact bodyPost_ret (v := .tuple #[.agg #[.int .i64 s.pts, .int .i64 (hel (s.good + 1) 0 1099511627776), .int .i64 s.bad, .bool s.ban], .int .i64 0]) (by simp [results, Try.results16, go_sem, hc1, k1_1, k1_0]) rfl ⟨rfl, (by repeat (with_reducible first | assumption | exact Below.refl _ _ | apply below_alloc | refine below_set ?_ (by first | omega | (simp; omega)) | apply pw_below_drewN | apply below_drew1 | refine below_step ?_ HB1.out))⟩

theorem judged_any (r : RuleV) (a b c : Int) (d : Bool) (p : Int) (w : World) : Calls Try.prog 23 #[.agg #[.int .i64 a, .int .i64 b, .int .i64 c, .bool d, .int .i64 r.pen, .int .i64 r.cre, .int .i64 r.most, .int .i64 r.num, .int .i64 r.den, .int .i64 r.ban, .int .i64 r.back], .int .i64 p] w fun e w' =>
    e = .returned (.agg #[.int .i64 (judgedF r ⟨a, b, c, d⟩ p).pts, .int .i64 (judgedF r ⟨a, b, c, d⟩ p).good, .int .i64 (judgedF r ⟨a, b, c, d⟩ p).bad, .bool (judgedF r ⟨a, b, c, d⟩ p).ban]) ∧ Below w.heap.size w w' :=
  judged_calls r ⟨a, b, c, d⟩ p w

set_option maxHeartbeats 2000000 in
theorem Settle_yes (r : RuleV) (s : ScoreV) (w : World) (h : okB r s = true) : Calls Try.prog 12 #[.agg #[.int .i64 r.pen, .int .i64 r.cre, .int .i64 r.most, .int .i64 r.num, .int .i64 r.den, .int .i64 r.ban, .int .i64 r.back], .agg #[.int .i64 s.pts, .int .i64 s.good, .int .i64 s.bad, .bool s.ban]] w fun e w' =>
    e = .returned (.tuple #[.agg #[.int .i64 (settleF r s).pts, .int .i64 (settleF r s).good, .int .i64 (settleF r s).bad, .bool (settleF r s).ban], .int .i64 0]) ∧ Below w.heap.size w w' := by
  have h' : fitsB r = true ∧ rightB s = true := by simpa [okB] using h
  clear h
  obtain ⟨hr, hs⟩ := h'
  obtain ⟨a1, a2, a3, a4, a5, a6, a7⟩ := (fits_iff r).1 hr
  obtain ⟨b1, b2, b3⟩ := (right_iff s).1 hs
  obtain ⟨m1, m2⟩ := mul_bd (B := 1000) a2.1 a2.2 (show 0 ≤ min s.good r.most by omega) (by omega)
  obtain ⟨m3, m4⟩ := mul_bd a1.1 a1.2 b3.1 b3.2
  generalize hst : settleF r s = t
  have hst' : judgedF r ⟨s.pts, 0, 0, s.ban⟩ (s.pts + r.cre * min s.good r.most - r.pen * s.bad) = t := hst
  have HT := Aside0.mk hst'
  clear hst hst'
  generalize hmin : min s.good r.most = mm at HT m1 m2
  have hmin2 : (if r.most < s.good then r.most else s.good) = mm := by split <;> omega
  go_enter Try.func12, Try.ntmps12
  go_wp2_with (first
    | (go_at_call 22; go_must (((with_reducible refine (of_yes r s _ hr hs).mono ?_)); rintro e w1 ⟨rfl, hb_⟩; obtain ⟨hc1, hf1⟩ := bcell hb_; have hz1 := hb_.size; (try simp at hz1); have k1_0 : w.heap.size < w1.heap.size := (by omega); have k1_1 : w.heap.size + 1 < w1.heap.size := (by omega); have k1_2 : w.heap.size + 1 + 1 < w1.heap.size := (by omega); have HB1 := Aside0.mk hb_; clear hb_ hz1))
    | (go_at_call 23; go_must (((with_reducible refine (judged_any r s.pts 0 0 s.ban (s.pts + r.cre * mm - r.pen * s.bad) _).mono ?_)); rw [HT.out];rintro e w2 ⟨rfl, hb_⟩; obtain ⟨hc2, hf2⟩ := bcell hb_; have hz2 := hb_.size; (try simp at hz2); have k2_0 : w.heap.size < w2.heap.size := (by omega); have k2_1 : w.heap.size + 1 < w2.heap.size := (by omega); have k2_2 : w.heap.size + 1 + 1 < w2.heap.size := (by omega); have k2_3 : w.heap.size + 1 + 1 + 1 < w2.heap.size := (by omega); have HB2 := Aside0.mk hb_; clear hb_ hz2)))
  exact bodyPost_ret (v := .tuple #[.agg #[.int .i64 t.pts, .int .i64 t.good, .int .i64 t.bad, .bool t.ban], .int .i64 0]) (by simp [results, Try.results12, go_sem, hc1, k1_1, k1_2, hc2, k2_2, k2_3]) rfl ⟨rfl, (by repeat (with_reducible first | assumption | exact Below.refl _ _ | apply below_alloc | refine below_set ?_ (by first | omega | (simp; omega)) | apply pw_below_drewN | apply below_drew1 | refine below_step ?_ HB1.out | refine below_step ?_ HB2.out))⟩

theorem ok_split (r : RuleV) (s : ScoreV) (h : okB r s = true) : fitsB r = true ∧ rightB s = true := by simpa [okB] using h
set_option maxHeartbeats 1000000 in
theorem Settle_no (r : RuleV) (s : ScoreV) (w : World) (h' : okB r s = false) : Calls Try.prog 12 #[.agg #[.int .i64 r.pen, .int .i64 r.cre, .int .i64 r.most, .int .i64 r.num, .int .i64 r.den, .int .i64 r.ban, .int .i64 r.back], .agg #[.int .i64 s.pts, .int .i64 s.good, .int .i64 s.bad, .bool s.ban]] w fun e w' =>
    e = .returned (.tuple #[.agg #[.int .i64 0, .int .i64 0, .int .i64 0, .bool false], .int .i64 1]) ∧ Below w.heap.size w w' := by
  have h : (fitsB r && rightB s) = false := h'
  go_enter Try.func12, Try.ntmps12
  go_wp2_with (go_at_call 22; go_must (((with_reducible refine (of_no r s _ h).mono ?_)); rintro e w1 ⟨rfl, hb_⟩; obtain ⟨hc1, hf1⟩ := bcell hb_; have hz1 := hb_.size; (try simp at hz1); have k1_0 : w.heap.size < w1.heap.size := (by omega); have k1_1 : w.heap.size + 1 < w1.heap.size := (by omega); have k1_2 : w.heap.size + 1 + 1 < w1.heap.size := (by omega); have HB1 := Aside0.mk hb_; clear hb_ hz1))
  exact bodyPost_ret (v := .tuple #[.agg #[.int .i64 0, .int .i64 0, .int .i64 0, .bool false], .int .i64 1]) (by simp [results, Try.results12, go_sem, hc1, k1_1, k1_2]) rfl ⟨rfl, (by repeat (with_reducible first | assumption | exact Below.refl _ _ | apply below_alloc | refine below_set ?_ (by first | omega | (simp; omega)) | apply pw_below_drewN | apply below_drew1 | refine below_step ?_ HB1.out))⟩
set_option maxHeartbeats 1000000 in
theorem Decay_no (r : RuleV) (s : ScoreV) (w : World) (h' : okB r s = false) : Calls Try.prog 14 #[.agg #[.int .i64 r.pen, .int .i64 r.cre, .int .i64 r.most, .int .i64 r.num, .int .i64 r.den, .int .i64 r.ban, .int .i64 r.back], .agg #[.int .i64 s.pts, .int .i64 s.good, .int .i64 s.bad, .bool s.ban]] w fun e w' =>
    e = .returned (.tuple #[.agg #[.int .i64 0, .int .i64 0, .int .i64 0, .bool false], .int .i64 1]) ∧ Below w.heap.size w w' := by
  have h : (fitsB r && rightB s) = false := h'
  go_enter Try.func14, Try.ntmps14
  go_wp2_with (go_at_call 22; go_must (((with_reducible refine (of_no r s _ h).mono ?_)); rintro e w1 ⟨rfl, hb_⟩; obtain ⟨hc1, hf1⟩ := bcell hb_; have hz1 := hb_.size; (try simp at hz1); have k1_0 : w.heap.size < w1.heap.size := (by omega); have k1_1 : w.heap.size + 1 < w1.heap.size := (by omega); have k1_2 : w.heap.size + 1 + 1 < w1.heap.size := (by omega); have HB1 := Aside0.mk hb_; clear hb_ hz1))
  exact bodyPost_ret (v := .tuple #[.agg #[.int .i64 0, .int .i64 0, .int .i64 0, .bool false], .int .i64 1]) (by simp [results, Try.results14, go_sem, hc1, k1_1, k1_2]) rfl ⟨rfl, (by repeat (with_reducible first | assumption | exact Below.refl _ _ | apply below_alloc | refine below_set ?_ (by first | omega | (simp; omega)) | apply pw_below_drewN | apply below_drew1 | refine below_step ?_ HB1.out))⟩

theorem tdiv_bd {x n : Int} (hx : -1048576000 ≤ x ∧ x ≤ 1048576000) (hn : 1 ≤ n) : -1048576000 ≤ x.tdiv n ∧ x.tdiv n ≤ 1048576000 := by
  rcases Int.le_total 0 x with h | h
  · rw [Int.tdiv_eq_ediv_of_nonneg h]
    have a := Int.ediv_nonneg h (show (0 : Int) ≤ n by omega)
    have b := Int.ediv_le_self n h
    omega
  · have e : x.tdiv n = -((-x).tdiv n) := by rw [Int.neg_tdiv, Int.neg_neg]
    rw [e, Int.tdiv_eq_ediv_of_nonneg (by omega)]
    have a := Int.ediv_nonneg (show (0 : Int) ≤ -x by omega) (show (0 : Int) ≤ n by omega)
    have b := Int.ediv_le_self n (show (0 : Int) ≤ -x by omega)
    omega
theorem mul_bd2 {a b : Int} (h0 : -1048576 ≤ a) (h1 : a ≤ 1048576) (h2 : 0 ≤ b) (h3 : b ≤ 1000) : -1048576000 ≤ a * b ∧ a * b ≤ 1048576000 := by
  have p := Int.mul_le_mul_of_nonneg_right h1 h2
  have q := Int.mul_le_mul_of_nonneg_right h0 h2
  constructor <;> omega
set_option maxHeartbeats 2000000 in
theorem Decay_yes (r : RuleV) (s : ScoreV) (w : World) (h : okB r s = true) : Calls Try.prog 14 #[.agg #[.int .i64 r.pen, .int .i64 r.cre, .int .i64 r.most, .int .i64 r.num, .int .i64 r.den, .int .i64 r.ban, .int .i64 r.back], .agg #[.int .i64 s.pts, .int .i64 s.good, .int .i64 s.bad, .bool s.ban]] w fun e w' =>
    e = .returned (.tuple #[.agg #[.int .i64 (decayF r s).pts, .int .i64 (decayF r s).good, .int .i64 (decayF r s).bad, .bool (decayF r s).ban], .int .i64 0]) ∧ Below w.heap.size w w' := by
  obtain ⟨hr, hs⟩ := ok_split r s h
  clear h
  obtain ⟨a1, a2, a3, a4, a5, a6, a7⟩ := (fits_iff r).1 hr
  obtain ⟨b1, b2, b3⟩ := (right_iff s).1 hs
  obtain ⟨m1, m2⟩ := mul_bd2 b1.1 b1.2 a5.1 (show r.num ≤ 1000 by omega)
  obtain ⟨m3, m4⟩ := tdiv_bd ⟨m1, m2⟩ a4.1
  generalize hst : decayF r s = t
  have hst' : judgedF r ⟨s.pts, s.good, s.bad, s.ban⟩ ((s.pts * r.num).tdiv r.den) = t := hst
  have HT := Aside0.mk hst'
  clear hst hst'
  have hd : ¬ r.den = 0 := by omega
  go_enter Try.func14, Try.ntmps14
  go_wp2_with (go_at_call 22; go_must (((with_reducible refine (of_yes r s _ hr hs).mono ?_)); rintro e w1 ⟨rfl, hb_⟩; obtain ⟨hc1, hf1⟩ := bcell hb_; have hz1 := hb_.size; (try simp at hz1); have k1_0 : w.heap.size < w1.heap.size := (by omega); have k1_1 : w.heap.size + 1 < w1.heap.size := (by omega); have k1_2 : w.heap.size + 1 + 1 < w1.heap.size := (by omega); have HB1 := Aside0.mk hb_; clear hb_ hz1))
  have hw1 : IntKind.i64.wrap (s.pts * r.num) = s.pts * r.num := IntWalk.i64_in _ (by omega)
  have hw2 : IntKind.i64.wrap ((s.pts * r.num).tdiv r.den) = (s.pts * r.num).tdiv r.den := IntWalk.i64_in _ (by omega)
  generalize hW : w1.alloc _ = W
  have c0 : W.cell? ⟨w1.heap.size, 0, none⟩ = some (.int .i64 s.pts) := by rw [← hW]; simp
  have c1 : W.cell? ⟨w1.heap.size, 1, none⟩ = some (.int .i64 s.good) := by rw [← hW]; simp
  have c2 : W.cell? ⟨w1.heap.size, 2, none⟩ = some (.int .i64 s.bad) := by rw [← hW]; simp
  have c3 : W.cell? ⟨w1.heap.size, 3, none⟩ = some (.bool s.ban) := by rw [← hW]; simp
  have c4 : W.cell? ⟨w1.heap.size, 4, none⟩ = some (.int .i64 r.pen) := by rw [← hW]; simp
  have c5 : W.cell? ⟨w1.heap.size, 5, none⟩ = some (.int .i64 r.cre) := by rw [← hW]; simp
  have c6 : W.cell? ⟨w1.heap.size, 6, none⟩ = some (.int .i64 r.most) := by rw [← hW]; simp
  have c7 : W.cell? ⟨w1.heap.size, 7, none⟩ = some (.int .i64 r.num) := by rw [← hW]; simp
  have c8 : W.cell? ⟨w1.heap.size, 8, none⟩ = some (.int .i64 r.den) := by rw [← hW]; simp
  have c9 : W.cell? ⟨w1.heap.size, 9, none⟩ = some (.int .i64 r.ban) := by rw [← hW]; simp
  have c10 : W.cell? ⟨w1.heap.size, 10, none⟩ = some (.int .i64 r.back) := by rw [← hW]; simp
  have d0 : W.cell? ⟨w.heap.size + 1 + 1, 0, none⟩ = some (.int .i64 0) := by (rw [← hW, cell_alloc_old k1_2, hc1]; all_goals first | (simp only [size_alloc]; omega) | simp [go_sem])
  have d1 : W.cell? ⟨w.heap.size + 1 + 1, 1, none⟩ = some (.int .i64 0) := by (rw [← hW, cell_alloc_old k1_2, hc1]; all_goals first | (simp only [size_alloc]; omega) | simp [go_sem])
  have d2 : W.cell? ⟨w.heap.size + 1 + 1, 2, none⟩ = some (.int .i64 0) := by (rw [← hW, cell_alloc_old k1_2, hc1]; all_goals first | (simp only [size_alloc]; omega) | simp [go_sem])
  have d3 : W.cell? ⟨w.heap.size + 1 + 1, 3, none⟩ = some (.bool false) := by (rw [← hW, cell_alloc_old k1_2, hc1]; all_goals first | (simp only [size_alloc]; omega) | simp [go_sem])
  have f2 : ∀ j, W.frozen? ⟨w.heap.size + 1 + 1, j, none⟩ = false := fun j => by (rw [← hW, frozen_alloc_old k1_2, hf1]; all_goals first | (simp only [size_alloc]; omega) | simp [go_sem])
  have kW : w1.heap.size < W.heap.size := by rw [← hW, size_alloc]; omega
  have kW2 : w.heap.size + 1 + 1 < W.heap.size := by omega
  have HW := Aside0.mk hW
  clear hW
  go_still_tail 12, (by kernel_rfl)
  change wpList _ _ _ _ _ W.drew
  go_wp2_with ((go_at_call 23; go_must (((with_reducible refine (judged_any r s.pts s.good s.bad s.ban ((s.pts * r.num).tdiv r.den) _).mono ?_)); rw [HT.out];rintro e w2 ⟨rfl, hb_⟩; obtain ⟨hc2, hf2⟩ := bcell hb_; have hz2 := hb_.size; (try simp at hz2); have k2_0 : w.heap.size < w2.heap.size := (by omega); have k2_1 : w.heap.size + 1 < w2.heap.size := (by omega); have k2_2 : w.heap.size + 1 + 1 < w2.heap.size := (by omega); have HB2 := Aside0.mk hb_; clear hb_ hz2)); have e0 := (hc2 (w.heap.size + 1 + 1) 0 kW2).trans d0; have e1 := (hc2 (w.heap.size + 1 + 1) 1 kW2).trans d1; have e2 := (hc2 (w.heap.size + 1 + 1) 2 kW2).trans d2; have e3 := (hc2 (w.heap.size + 1 + 1) 3 kW2).trans d3; have e4 := fun j => (hf2 (w.heap.size + 1 + 1) j kW2).trans (f2 j); clear hc2 hf2)
  refine bodyPost_ret (v := .tuple #[.agg #[.int .i64 t.pts, .int .i64 t.good, .int .i64 t.bad, .bool t.ban], .int .i64 0]) (by simp [results, Try.results14, go_sem, e0, e1, e2, e3]) rfl ⟨rfl, ?_⟩
  have B2 : Below w.heap.size w w2 := below_step (by rw [← HW.out]; exact below_drew1 (below_alloc (by repeat (with_reducible first | assumption | exact Below.refl _ _ | apply below_alloc | refine below_set ?_ (by first | omega | (simp; omega)) | apply pw_below_drewN | apply below_drew1 | refine below_step ?_ HB1.out)) _)) HB2.out
  exact (by repeat (with_reducible first | assumption | exact Below.refl _ _ | apply below_alloc | refine below_set ?_ (by first | omega | (simp; omega)) | apply pw_below_drewN | apply below_drew1))
end Go.Proofs.Ytdhgneindanbeaa
