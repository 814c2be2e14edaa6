/- ScoreLimits: for every input the call of the statement returns true and leaves its arguments as they were. Conditions: none. -/
import Derived.Test.YtdhgneindanbeaaScoreShell
import Derived.Test.YtdhgneindanbeaaScoreAwake
set_option linter.unusedVariables false
set_option linter.unusedSimpArgs false
namespace Go.Proofs.Ytdhgneindanbeaa
open Go.RowKit Go.Proofs.YtdhgneindanbeaaW.PrintWords Go.Proofs.YtdhgneindanbeaaW.PrintLast Go.Proofs.YtdhgneindanbeaaW.PrintMore
open Go.ChangeShapes Go.WideShapes Go.ChangeAt
open Go.ChangeMaps (open_string shut_string)
attribute [local go_sem] max2_int min2_int max_two min_two

theorem judged_right (r : RuleV) (s : ScoreV) (p : Int) (hs : rightB s = true) : rightB (judgedF r s p) = true := by
  obtain ⟨b1, b2, b3⟩ := (right_iff s).1 hs
  refine (right_iff _).2 ⟨?_, b2, b3⟩
  show -1048576 ≤ capP p ∧ capP p ≤ 1048576
  unfold capP hel
  omega
theorem settle_right (r : RuleV) (s : ScoreV) (hs : rightB s = true) : rightB (settleF r s) = true := by
  obtain ⟨b1, b2, b3⟩ := (right_iff s).1 hs
  exact judged_right r _ _ ((right_iff _).2 ⟨b1, by simp, by simp⟩)
theorem decay_right (r : RuleV) (s : ScoreV) (hs : rightB s = true) : rightB (decayF r s) = true := judged_right r s _ hs
theorem count_right (s : ScoreV) (good : Bool) (hs : rightB s = true) : rightB (countF s good) = true := by
  obtain ⟨b1, b2, b3⟩ := (right_iff s).1 hs
  cases good
  · refine (right_iff _).2 ⟨b1, b2, ?_⟩
    show 0 ≤ hel (s.bad + 1) 0 1099511627776 ∧ hel (s.bad + 1) 0 1099511627776 ≤ 1099511627776
    unfold hel
    omega
  · refine (right_iff _).2 ⟨b1, ?_, b3⟩
    show 0 ≤ hel (s.good + 1) 0 1099511627776 ∧ hel (s.good + 1) 0 1099511627776 ≤ 1099511627776
    unfold hel
    omega
/-- Small rules, or with the greatest three numbers. -/
theorem big_fits (n : Seven) : fitsB ⟨1000, 1000, 1000, (ruleF n).num, (ruleF n).den, (ruleF n).ban, (ruleF n).back⟩ = true := by
  have h := (fits_iff _).1 (ruleF_fits n)
  refine (fits_iff _).2 ?_
  simp only
  omega
theorem sum_law (r : RuleV) (s : ScoreV) (hr : fitsB r = true) (hs : rightB s = true) (mm : Int) (hm : min s.good r.most = mm) :
    0 ≤ r.cre * mm ∧ r.cre * mm ≤ 1000000 ∧ 0 ≤ r.pen * s.bad ∧ r.pen * s.bad ≤ 1099511627776000 ∧ (if r.most < s.good then r.most else s.good) = mm ∧
    ((1048576 < s.pts + r.cre * mm - r.pen * s.bad ∧ (settleF r s).pts = 1048576) ∨ (s.pts + r.cre * mm - r.pen * s.bad < -1048576 ∧ (settleF r s).pts = -1048576) ∨
      (-1048576 ≤ s.pts + r.cre * mm - r.pen * s.bad ∧ s.pts + r.cre * mm - r.pen * s.bad ≤ 1048576 ∧ (settleF r s).pts = s.pts + r.cre * mm - r.pen * s.bad)) := by
  obtain ⟨a1, a2, a3, a4, a5, a6, a7⟩ := (fits_iff r).1 hr
  obtain ⟨b1, b2, b3⟩ := (right_iff s).1 hs
  obtain ⟨m1, m2⟩ := mul_bd (B := 1000) a2.1 a2.2 (show 0 ≤ min s.good r.most by omega) (by omega)
  obtain ⟨m3, m4⟩ := mul_bd a1.1 a1.2 b3.1 b3.2
  rw [hm] at m1 m2
  refine ⟨m1, m2, m3, m4, by rw [← hm]; split <;> omega, ?_⟩
  show (_ ∧ capP (sumP r s) = _) ∨ (_ ∧ capP (sumP r s) = _) ∨ (_ ∧ _ ∧ capP (sumP r s) = _)
  unfold sumP
  rw [hm]
  generalize s.pts + r.cre * mm - r.pen * s.bad = x
  unfold capP hel
  omega

theorem setCell_heap (w : World) (b j : Nat) (v : Value) (cs : Array Value) (T : TypeId) (h : w.heap[b]? = some (.cells cs T (0, 0))) : (w.setCell ⟨b, j, none⟩ v).heap[b]? = some (.cells (cs.setIfInBounds j v) T (0, 0)) := by
  have hlt : b < w.heap.size := (Array.getElem?_eq_some_iff.1 h).1
  have h' : w.heap[b] = .cells cs T (0, 0) := (Array.getElem?_eq_some_iff.1 h).2
  simp [World.setCell, h, hlt, Array.getElem_modify, h']
theorem Box.set {w : World} {b j : Nat} {cs : Array Value} {T : TypeId} {v : Value} (h : Box w b cs T) : Box (w.setCell ⟨b, j, none⟩ v) b (cs.setIfInBounds j v) T := setCell_heap w b j v cs T h
theorem Right_yes (s : ScoreV) (w : World) (h : rightB s = true) : Calls Try.prog 20 #[.agg #[.int .i64 s.pts, .int .i64 s.good, .int .i64 s.bad, .bool s.ban]] w fun e w' => e = .returned (.bool true) ∧ Below w.heap.size w w' := by
  have := Right_calls s w
  rwa [h] at this
theorem lim_score (p g b : Int) : rightB ⟨pickF p 2097153 - 1048576, pickF g 1099511627777, pickF b 1099511627777, false⟩ = true := by
  have p1 := pickF_bd p 2097153 (by omega)
  have p2 := pickF_bd g 1099511627777 (by omega)
  have p3 := pickF_bd b 1099511627777 (by omega)
  refine (right_iff _).2 ?_
  simp only
  omega

set_option maxHeartbeats 4000000 in
set_option maxRecDepth 100000 in
theorem ScoreLimits_calls (n : Seven) (p g b : Int) (hp : i64ok p) (hg : i64ok g) (hb : i64ok b) (big good : Bool) (w : World) : Calls Try.prog 7 #[.agg #[.int .i64 n.a, .int .i64 n.b, .int .i64 n.c, .int .i64 n.d, .int .i64 n.e, .int .i64 n.f, .int .i64 n.g], .int .i64 p, .int .i64 g, .int .i64 b, .bool big, .bool good] w fun e w' =>
    e = .returned (.bool true) ∧ Below w.heap.size w w' := by
  obtain ⟨hp0, hp1⟩ := hp
  obtain ⟨hg0, hg1⟩ := hg
  obtain ⟨hb0, hb1⟩ := hb
  have HB := Aside0.mk (Below.refl w.heap.size w)
  have HN := Aside0.mk (ruleF_fits n)
  have HN2 := Aside0.mk (big_fits n)
  have HS := Aside0.mk (lim_score p g b)
  go_enter Try.func7, Try.ntmps7
  go_wp2_with fail
  refine (awake_calls _).mono ?_
  rintro e w1 ⟨rfl, hb_⟩
  have Y4 : Box w1 (w.heap.size) _ _ := Box.below (by repeat (with_reducible first | exact X4.out | exact Box.new | exact Box.new1 | exact Box.new2 | apply Box.alloc | apply Box.drew | apply Box.drewN | apply Box.set)) hb_
  (try clear X4 r4 k4 f4); have X4 := Aside0.mk Y4; have r4 := Y4.cell; have f4 := Y4.frozen; have k4 := Y4.lt; clear Y4
  have n_ := Aside0.mk (below_step (by repeat (first | exact HB.out | apply below_alloc | apply pw_below_drewN | apply below_drew1 | refine below_set ?_ (by first | omega | (simp; omega)))) hb_); clear HB hb_; have HB := n_; clear n_
  go_wp2_with fail
  refine (Rule_calls n _).mono ?_
  rintro e w2 ⟨rfl, hb_⟩
  have n_ := Aside0.mk (below_step (by repeat (first | exact HB.out | apply below_alloc | apply pw_below_drewN | apply below_drew1 | refine below_set ?_ (by first | omega | (simp; omega)))) hb_); clear HB hb_; have HB := n_; clear n_
  have z2 := HB.out.size
  go_upto_if 26 with (fail)
  go_cut [14] (fun v14 wc => v14 = .pointer (some ⟨w2.heap.size, 0, none⟩) ∧ ∃ r : RuleV, fitsB r = true ∧ Box wc w2.heap.size #[.int .i64 r.pen, .int .i64 r.cre, .int .i64 r.most, .int .i64 r.num, .int .i64 r.den, .int .i64 r.ban, .int .i64 r.back] 23 ∧ Below w.heap.size w wc)
  case first =>
    cases big
    · go_wp2
      go_meet
      case rel => exact ⟨rfl, ruleF n, HN.out, Box.new, (by repeat (first | exact HB.out | apply below_alloc | apply pw_below_drewN | apply below_drew1 | refine below_set ?_ (by first | omega | (simp; omega))))⟩
    · go_wp2
      go_meet
      case rel => exact ⟨rfl, ⟨1000, 1000, 1000, (ruleF n).num, (ruleF n).den, (ruleF n).ban, (ruleF n).back⟩, HN2.out, (by repeat (first | exact Box.new | apply Box.set)), (by repeat (first | exact HB.out | apply below_alloc | apply pw_below_drewN | apply below_drew1 | refine below_set ?_ (by first | omega | (simp; omega))))⟩
  case rest =>
    obtain ⟨rfl, r, hrf, X, hbl⟩ := hcut
    clear HB HN HN2
    have HN := Aside0.mk hrf
    have HB := Aside0.mk hbl
    have X6 := Aside0.mk X
    have r6 := X.cell
    have f6 := X.frozen
    have k6 := X.lt
    clear hrf hbl X X4 r4 f4 k4
    have p1 := pickF_bd p 2097153 (by omega)
    have p2 := pickF_bd g 1099511627777 (by omega)
    have p3 := pickF_bd b 1099511627777 (by omega)
    go_upto_region 8 with (go_at_call 10; ((with_reducible refine (pick_calls _ _ _ (by omega) (by omega) (by omega) (by omega)).mono ?_)); rintro e w_ ⟨rfl, rfl⟩)
    generalize pickF p 2097153 - 1048576 = sp at *
    generalize pickF g 1099511627777 = sg at *
    generalize pickF b 1099511627777 = sb at *
    have hok : okB r ⟨sp, sg, sb, false⟩ = true := by rw [okB, HN.out, HS.out]; rfl
    clear p1 p2 p3 hp0 hp1 hg0 hg1 hb0 hb1
    have zc := HB.out.size
    go_wp2_with fail
    refine (Settle_yes r ⟨sp, sg, sb, false⟩ _ hok).mono ?_
    rintro e w4 ⟨rfl, hb_⟩
    have Y6 : Box w4 (w2.heap.size) _ _ := Box.below (by repeat (with_reducible first | exact X6.out | exact Box.new | exact Box.new1 | exact Box.new2 | apply Box.alloc | apply Box.drew | apply Box.drewN | apply Box.set)) hb_
    (try clear X6 r6 k6 f6); have X6 := Aside0.mk Y6; have r6 := Y6.cell; have f6 := Y6.frozen; have k6 := Y6.lt; clear Y6
    have Y7 : Box w4 (wc.heap.size) _ _ := Box.below (by repeat (with_reducible first | exact X7.out | exact Box.new | exact Box.new1 | exact Box.new2 | apply Box.alloc | apply Box.drew | apply Box.drewN | apply Box.set)) hb_
    (try clear X7 r7 k7 f7); have X7 := Aside0.mk Y7; have r7 := Y7.cell; have f7 := Y7.frozen; have k7 := Y7.lt; clear Y7
    have n_ := Aside0.mk (below_step (by repeat (first | exact HB.out | apply below_alloc | apply pw_below_drewN | apply below_drew1 | refine below_set ?_ (by first | omega | (simp; omega)))) hb_); clear HB hb_; have HB := n_; clear n_
    obtain ⟨mm, hmm⟩ : ∃ mm, min sg r.most = mm := ⟨_, rfl⟩
    have HSum := Aside0.mk (sum_law r ⟨sp, sg, sb, false⟩ HN.out HS.out mm hmm)
    have HT := Aside0.mk (settle_right r ⟨sp, sg, sb, false⟩ HS.out)
    clear hmm
    have z4 := HB.out.size
    generalize settleF r ⟨sp, sg, sb, false⟩ = t at *
    go_wp2_with fail
    refine (Decay_yes r ⟨sp, sg, sb, false⟩ _ hok).mono ?_
    rintro e w5 ⟨rfl, hb_⟩
    have Y6 : Box w5 (w2.heap.size) _ _ := Box.below (by repeat (with_reducible first | exact X6.out | exact Box.new | exact Box.new1 | exact Box.new2 | apply Box.alloc | apply Box.drew | apply Box.drewN | apply Box.set)) hb_
    (try clear X6 r6 k6 f6); have X6 := Aside0.mk Y6; have r6 := Y6.cell; have f6 := Y6.frozen; have k6 := Y6.lt; clear Y6
    have Y7 : Box w5 (wc.heap.size) _ _ := Box.below (by repeat (with_reducible first | exact X7.out | exact Box.new | exact Box.new1 | exact Box.new2 | apply Box.alloc | apply Box.drew | apply Box.drewN | apply Box.set)) hb_
    (try clear X7 r7 k7 f7); have X7 := Aside0.mk Y7; have r7 := Y7.cell; have f7 := Y7.frozen; have k7 := Y7.lt; clear Y7
    have Y8 : Box w5 (w4.heap.size) _ _ := Box.below (by repeat (with_reducible first | exact X8.out | exact Box.new | exact Box.new1 | exact Box.new2 | apply Box.alloc | apply Box.drew | apply Box.drewN | apply Box.set)) hb_
    (try clear X8 r8 k8 f8); have X8 := Aside0.mk Y8; have r8 := Y8.cell; have f8 := Y8.frozen; have k8 := Y8.lt; clear Y8
    have n_ := Aside0.mk (below_step (by repeat (first | exact HB.out | apply below_alloc | apply pw_below_drewN | apply below_drew1 | refine below_set ?_ (by first | omega | (simp; omega)))) hb_); clear HB hb_; have HB := n_; clear n_
    have HU := Aside0.mk (decay_right r ⟨sp, sg, sb, false⟩ HS.out)
    generalize decayF r ⟨sp, sg, sb, false⟩ = u at *
    go_wp2_with fail
    refine (Count_yes ⟨sp, sg, sb, false⟩ good _ HS.out).mono ?_
    rintro e w6 ⟨rfl, hb_⟩
    have Y6 : Box w6 (w2.heap.size) _ _ := Box.below (by repeat (with_reducible first | exact X6.out | exact Box.new | exact Box.new1 | exact Box.new2 | apply Box.alloc | apply Box.drew | apply Box.drewN | apply Box.set)) hb_
    (try clear X6 r6 k6 f6); have X6 := Aside0.mk Y6; have r6 := Y6.cell; have f6 := Y6.frozen; have k6 := Y6.lt; clear Y6
    have Y7 : Box w6 (wc.heap.size) _ _ := Box.below (by repeat (with_reducible first | exact X7.out | exact Box.new | exact Box.new1 | exact Box.new2 | apply Box.alloc | apply Box.drew | apply Box.drewN | apply Box.set)) hb_
    (try clear X7 r7 k7 f7); have X7 := Aside0.mk Y7; have r7 := Y7.cell; have f7 := Y7.frozen; have k7 := Y7.lt; clear Y7
    have Y8 : Box w6 (w4.heap.size) _ _ := Box.below (by repeat (with_reducible first | exact X8.out | exact Box.new | exact Box.new1 | exact Box.new2 | apply Box.alloc | apply Box.drew | apply Box.drewN | apply Box.set)) hb_
    (try clear X8 r8 k8 f8); have X8 := Aside0.mk Y8; have r8 := Y8.cell; have f8 := Y8.frozen; have k8 := Y8.lt; clear Y8
    have Y9 : Box w6 (w5.heap.size) _ _ := Box.below (by repeat (with_reducible first | exact X9.out | exact Box.new | exact Box.new1 | exact Box.new2 | apply Box.alloc | apply Box.drew | apply Box.drewN | apply Box.set)) hb_
    (try clear X9 r9 k9 f9); have X9 := Aside0.mk Y9; have r9 := Y9.cell; have f9 := Y9.frozen; have k9 := Y9.lt; clear Y9
    have n_ := Aside0.mk (below_step (by repeat (first | exact HB.out | apply below_alloc | apply pw_below_drewN | apply below_drew1 | refine below_set ?_ (by first | omega | (simp; omega)))) hb_); clear HB hb_; have HB := n_; clear n_
    have HV := Aside0.mk (count_right ⟨sp, sg, sb, false⟩ good HS.out)
    generalize countF ⟨sp, sg, sb, false⟩ good = v at *
    go_wp2_with fail
    refine (Right_yes ⟨sp, sg, sb, false⟩ _ HS.out).mono ?_
    rintro e w7 ⟨rfl, hb_⟩
    have Y6 : Box w7 (w2.heap.size) _ _ := Box.below (by repeat (with_reducible first | exact X6.out | exact Box.new | exact Box.new1 | exact Box.new2 | apply Box.alloc | apply Box.drew | apply Box.drewN | apply Box.set)) hb_
    (try clear X6 r6 k6 f6); have X6 := Aside0.mk Y6; have r6 := Y6.cell; have f6 := Y6.frozen; have k6 := Y6.lt; clear Y6
    have Y7 : Box w7 (wc.heap.size) _ _ := Box.below (by repeat (with_reducible first | exact X7.out | exact Box.new | exact Box.new1 | exact Box.new2 | apply Box.alloc | apply Box.drew | apply Box.drewN | apply Box.set)) hb_
    (try clear X7 r7 k7 f7); have X7 := Aside0.mk Y7; have r7 := Y7.cell; have f7 := Y7.frozen; have k7 := Y7.lt; clear Y7
    have Y8 : Box w7 (w4.heap.size) _ _ := Box.below (by repeat (with_reducible first | exact X8.out | exact Box.new | exact Box.new1 | exact Box.new2 | apply Box.alloc | apply Box.drew | apply Box.drewN | apply Box.set)) hb_
    (try clear X8 r8 k8 f8); have X8 := Aside0.mk Y8; have r8 := Y8.cell; have f8 := Y8.frozen; have k8 := Y8.lt; clear Y8
    have Y9 : Box w7 (w5.heap.size) _ _ := Box.below (by repeat (with_reducible first | exact X9.out | exact Box.new | exact Box.new1 | exact Box.new2 | apply Box.alloc | apply Box.drew | apply Box.drewN | apply Box.set)) hb_
    (try clear X9 r9 k9 f9); have X9 := Aside0.mk Y9; have r9 := Y9.cell; have f9 := Y9.frozen; have k9 := Y9.lt; clear Y9
    have Y10 : Box w7 (w6.heap.size) _ _ := Box.below (by repeat (with_reducible first | exact X10.out | exact Box.new | exact Box.new1 | exact Box.new2 | apply Box.alloc | apply Box.drew | apply Box.drewN | apply Box.set)) hb_
    (try clear X10 r10 k10 f10); have X10 := Aside0.mk Y10; have r10 := Y10.cell; have f10 := Y10.frozen; have k10 := Y10.lt; clear Y10
    have n_ := Aside0.mk (below_step (by repeat (first | exact HB.out | apply below_alloc | apply pw_below_drewN | apply below_drew1 | refine below_set ?_ (by first | omega | (simp; omega)))) hb_); clear HB hb_; have HB := n_; clear n_
    go_wp2_with fail
    refine (Right_yes t _ HT.out).mono ?_
    rintro e w8 ⟨rfl, hb_⟩
    have Y6 : Box w8 (w2.heap.size) _ _ := Box.below (by repeat (with_reducible first | exact X6.out | exact Box.new | exact Box.new1 | exact Box.new2 | apply Box.alloc | apply Box.drew | apply Box.drewN | apply Box.set)) hb_
    (try clear X6 r6 k6 f6); have X6 := Aside0.mk Y6; have r6 := Y6.cell; have f6 := Y6.frozen; have k6 := Y6.lt; clear Y6
    have Y7 : Box w8 (wc.heap.size) _ _ := Box.below (by repeat (with_reducible first | exact X7.out | exact Box.new | exact Box.new1 | exact Box.new2 | apply Box.alloc | apply Box.drew | apply Box.drewN | apply Box.set)) hb_
    (try clear X7 r7 k7 f7); have X7 := Aside0.mk Y7; have r7 := Y7.cell; have f7 := Y7.frozen; have k7 := Y7.lt; clear Y7
    have Y8 : Box w8 (w4.heap.size) _ _ := Box.below (by repeat (with_reducible first | exact X8.out | exact Box.new | exact Box.new1 | exact Box.new2 | apply Box.alloc | apply Box.drew | apply Box.drewN | apply Box.set)) hb_
    (try clear X8 r8 k8 f8); have X8 := Aside0.mk Y8; have r8 := Y8.cell; have f8 := Y8.frozen; have k8 := Y8.lt; clear Y8
    have Y9 : Box w8 (w5.heap.size) _ _ := Box.below (by repeat (with_reducible first | exact X9.out | exact Box.new | exact Box.new1 | exact Box.new2 | apply Box.alloc | apply Box.drew | apply Box.drewN | apply Box.set)) hb_
    (try clear X9 r9 k9 f9); have X9 := Aside0.mk Y9; have r9 := Y9.cell; have f9 := Y9.frozen; have k9 := Y9.lt; clear Y9
    have Y10 : Box w8 (w6.heap.size) _ _ := Box.below (by repeat (with_reducible first | exact X10.out | exact Box.new | exact Box.new1 | exact Box.new2 | apply Box.alloc | apply Box.drew | apply Box.drewN | apply Box.set)) hb_
    (try clear X10 r10 k10 f10); have X10 := Aside0.mk Y10; have r10 := Y10.cell; have f10 := Y10.frozen; have k10 := Y10.lt; clear Y10
    have n_ := Aside0.mk (below_step (by repeat (first | exact HB.out | apply below_alloc | apply pw_below_drewN | apply below_drew1 | refine below_set ?_ (by first | omega | (simp; omega)))) hb_); clear HB hb_; have HB := n_; clear n_
    go_wp2_with fail
    refine (Right_yes u _ HU.out).mono ?_
    rintro e w9 ⟨rfl, hb_⟩
    have Y6 : Box w9 (w2.heap.size) _ _ := Box.below (by repeat (with_reducible first | exact X6.out | exact Box.new | exact Box.new1 | exact Box.new2 | apply Box.alloc | apply Box.drew | apply Box.drewN | apply Box.set)) hb_
    (try clear X6 r6 k6 f6); have X6 := Aside0.mk Y6; have r6 := Y6.cell; have f6 := Y6.frozen; have k6 := Y6.lt; clear Y6
    have Y7 : Box w9 (wc.heap.size) _ _ := Box.below (by repeat (with_reducible first | exact X7.out | exact Box.new | exact Box.new1 | exact Box.new2 | apply Box.alloc | apply Box.drew | apply Box.drewN | apply Box.set)) hb_
    (try clear X7 r7 k7 f7); have X7 := Aside0.mk Y7; have r7 := Y7.cell; have f7 := Y7.frozen; have k7 := Y7.lt; clear Y7
    have Y8 : Box w9 (w4.heap.size) _ _ := Box.below (by repeat (with_reducible first | exact X8.out | exact Box.new | exact Box.new1 | exact Box.new2 | apply Box.alloc | apply Box.drew | apply Box.drewN | apply Box.set)) hb_
    (try clear X8 r8 k8 f8); have X8 := Aside0.mk Y8; have r8 := Y8.cell; have f8 := Y8.frozen; have k8 := Y8.lt; clear Y8
    have Y10 : Box w9 (w6.heap.size) _ _ := Box.below (by repeat (with_reducible first | exact X10.out | exact Box.new | exact Box.new1 | exact Box.new2 | apply Box.alloc | apply Box.drew | apply Box.drewN | apply Box.set)) hb_
    (try clear X10 r10 k10 f10); have X10 := Aside0.mk Y10; have r10 := Y10.cell; have f10 := Y10.frozen; have k10 := Y10.lt; clear Y10
    have n_ := Aside0.mk (below_step (by repeat (first | exact HB.out | apply below_alloc | apply pw_below_drewN | apply below_drew1 | refine below_set ?_ (by first | omega | (simp; omega)))) hb_); clear HB hb_; have HB := n_; clear n_
    go_wp2_with fail
    refine (Right_yes v _ HV.out).mono ?_
    rintro e w10 ⟨rfl, hb_⟩
    have Y6 : Box w10 (w2.heap.size) _ _ := Box.below (by repeat (with_reducible first | exact X6.out | exact Box.new | exact Box.new1 | exact Box.new2 | apply Box.alloc | apply Box.drew | apply Box.drewN | apply Box.set)) hb_
    (try clear X6 r6 k6 f6); have X6 := Aside0.mk Y6; have r6 := Y6.cell; have f6 := Y6.frozen; have k6 := Y6.lt; clear Y6
    have Y7 : Box w10 (wc.heap.size) _ _ := Box.below (by repeat (with_reducible first | exact X7.out | exact Box.new | exact Box.new1 | exact Box.new2 | apply Box.alloc | apply Box.drew | apply Box.drewN | apply Box.set)) hb_
    (try clear X7 r7 k7 f7); have X7 := Aside0.mk Y7; have r7 := Y7.cell; have f7 := Y7.frozen; have k7 := Y7.lt; clear Y7
    have Y8 : Box w10 (w4.heap.size) _ _ := Box.below (by repeat (with_reducible first | exact X8.out | exact Box.new | exact Box.new1 | exact Box.new2 | apply Box.alloc | apply Box.drew | apply Box.drewN | apply Box.set)) hb_
    (try clear X8 r8 k8 f8); have X8 := Aside0.mk Y8; have r8 := Y8.cell; have f8 := Y8.frozen; have k8 := Y8.lt; clear Y8
    have n_ := Aside0.mk (below_step (by repeat (first | exact HB.out | apply below_alloc | apply pw_below_drewN | apply below_drew1 | refine below_set ?_ (by first | omega | (simp; omega)))) hb_); clear HB hb_; have HB := n_; clear n_
    obtain ⟨m1, m2, m3, m4, m5, m6⟩ := HSum.out
    (try simp only at m1); (try simp only at m2); (try simp only at m3); (try simp only at m4); (try simp only at m5); (try simp only at m6)
    clear HSum
    have b1 := ((right_iff _).1 HS.out).1
    (try simp only at b1)
    rcases m6 with ⟨m6, m7⟩ | ⟨m6, m7⟩ | ⟨m6, m7, m8⟩
    all_goals
      go_wp2
      go_ret
      exact ⟨rfl, HB.out⟩

set_option maxRecDepth 100000 in
theorem scoreLimits_lifted (os : Os) (started : os.Started) (H : Type) (enc : TypeId × Value → H) :
    ReturnsInHanded {} Try.checked os 7 .any (Rows.scoreLimitsSpec.pre6 enc Try.prog Try.f7 Rows.scoreLimitsRow.domain false) (Rows.scoreLimitsSpec.post enc Try.prog Try.f7 false true false false) := by
  refine returnsInHanded_of_change_sized (C := Try.checked) own started (by kernel_rfl) Try.func7
    (ChangeSpec.witness6 (enc := enc) (C := Try.checked) false ⟨#[], #[.agg #[.int .i64 0, .int .i64 0, .int .i64 0, .int .i64 0, .int .i64 0, .int .i64 0, .int .i64 0], .int .i64 0, .int .i64 0, .int .i64 0, .bool false, .bool false], []⟩ 8 (by kernel_rfl) (by kernel_rfl) (by kernel_rfl) (by kernel_rfl)) ?_
  intro W base args ds gs before hval0 hW hcnd hsz0 _
  have hsz : (DataW.weightsEach Try.prog (Try.f7.params.toList ++ Rows.scoreLimitsSpec.plain.varTypes Try.prog) (ds ++ gs)).all (· ≤ reachBytes) = true := hsz0
  have hval : ∀ (j : Nat) t v, Try.f7.params[j]? = some t → args[j]? = some v → Value.okWide Try.prog W .any base t v := hval0
  have hW' := hW
  obtain ⟨p, q, hA0, hV, rfl, hfz, hnd⟩ := hW
  have hA : DataW.TrodAll enc Try.prog W 0 (fun _ => true) true Try.f7.params.toList args.toList ds p := hA0
  have hAll := hA
  rw [Try.params7] at hA hval hsz
  obtain ⟨v0, vs0, d0, ds0, p0, q0, hargs, rfl, rfl, h0, r0⟩ := trodAll_cons hA
  obtain ⟨v1, vs1, d1, ds1, p1, q1, rfl, rfl, rfl, h1, r1⟩ := trodAll_cons r0
  obtain ⟨v2, vs2, d2, ds2, p2, q2, rfl, rfl, rfl, h2, r2⟩ := trodAll_cons r1
  obtain ⟨v3, vs3, d3, ds3, p3, q3, rfl, rfl, rfl, h3, r3⟩ := trodAll_cons r2
  obtain ⟨v4, vs4, d4, ds4, p4, q4, rfl, rfl, rfl, h4, r4⟩ := trodAll_cons r3
  obtain ⟨v5, vs5, d5, ds5, p5, q5, rfl, rfl, rfl, h5, r5⟩ := trodAll_cons r4
  obtain ⟨rfl, rfl, rfl⟩ := trodAll_nil r5
  obtain rfl : args = #[v0, v1, v2, v3, v4, v5] := by cases args; simp_all
  obtain ⟨rfl, rfl⟩ := trodVars_none hV
  have hlt := trodAll_lt hAll
  obtain ⟨n, rfl⟩ := seven_came (hval 0 26 v0 rfl rfl)
  obtain ⟨p, rfl, rfl, rfl, w1⟩ := open_int Try.underlying3 (hval 1 3 v1 rfl rfl) h1
  obtain ⟨g, rfl, rfl, rfl, w2⟩ := open_int Try.underlying3 (hval 2 3 v2 rfl rfl) h2
  obtain ⟨b, rfl, rfl, rfl, w3⟩ := open_int Try.underlying3 (hval 3 3 v3 rfl rfl) h3
  obtain ⟨c, rfl, rfl, rfl⟩ := open_bool Try.underlying4 (hval 4 4 v4 rfl rfl) h4
  obtain ⟨d, rfl, rfl, rfl⟩ := open_bool Try.underlying4 (hval 5 4 v5 rfl rfl) h5
  clear hA0 hval0 hsz0 hsz
  refine (ScoreLimits_calls n p g b (bounds_i64 w1) (bounds_i64 w2) (bounds_i64 w3) c d W).mono fun e W' ⟨he, bel⟩ => ?_
  subst he
  exact ⟨_, rfl, _, _, _, [], _, [], hW', trodAll_mk1 (shut_bool Try.underlying4 _), below_trodAll laidOut bel (by kernel_rfl) hAll hlt, rfl, bel.frame _, fun h => by cases h⟩
theorem scoreLimits_over : Rows.scoreLimitsRow.holds Try.pinned (OpenSpec.ofChange Rows.scoreLimitsSpec) :=
  OpenClaim.holds_of_wide 7 Try.f7 rfl rfl rfl rfl rfl rfl rfl ⟨rfl, rfl, rfl, rfl, rfl⟩ rfl rfl rfl rfl rfl (by kernel_rfl) Try.func7 (by kernel_rfl)
    (of_decide_eq_true (by kernel_rfl)) (by unfold Func.isWrapper; first | (rw [if_pos (by decide +kernel)]; kernel_rfl) | (rw [if_neg (by decide +kernel)]; exact ⟨rfl, rfl⟩))
    (fun os started H enc _ => scoreLimits_lifted os started H enc)
theorem scoreLimits_holds : Rows.ScoreLimitsSaid := scoreLimits_over
#print axioms scoreLimits_holds
end Go.Proofs.Ytdhgneindanbeaa
