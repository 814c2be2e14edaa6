/- ScoreDecay: for every input the call of the statement returns true and leaves its arguments as they were. Conditions: none. -/
import Derived.Test.YtdhgneindanbeaaScoreShell
import Derived.Test.YtdhgneindanbeaaScoreAwake
set_option linter.unusedVariables false
set_option linter.unusedSimpArgs false
namespace Go.Proofs.Ytdhgneindanbeaa
open Go.RowKit Go.Proofs.YtdhgneindanbeaaW.PrintWords Go.Proofs.YtdhgneindanbeaaW.PrintLast Go.Proofs.YtdhgneindanbeaaW.PrintMore
open Go.ChangeShapes Go.WideShapes Go.ChangeAt
open Go.ChangeMaps (open_string shut_string)
attribute [local go_sem] max2_int min2_int max_two min_two

theorem pos_law {a num den q : Int} (ha : 0 ≤ a) (hn : 0 ≤ num) (hnd : num ≤ den) (hd : 1 ≤ den) (hq : (a * num).tdiv den = q) :
    0 ≤ q ∧ q ≤ a ∧ 0 ≤ q * den ∧ q * den ≤ a * num ∧ a * num < (q + 1) * den ∧ (num = den → q = a) := by
  have h0 : 0 ≤ a * num := Int.mul_nonneg ha hn
  rw [Int.tdiv_eq_ediv_of_nonneg h0] at hq
  subst hq
  have p := Int.ediv_nonneg h0 (show (0 : Int) ≤ den by omega)
  refine ⟨p, ?_, Int.mul_nonneg p (by omega), Int.ediv_mul_le _ (by omega), Int.lt_ediv_add_one_mul_self _ (by omega), ?_⟩
  · exact Int.ediv_le_of_le_mul (by omega) (Int.mul_le_mul_of_nonneg_left hnd ha)
  · rintro rfl
    exact Int.mul_ediv_cancel _ (by omega)
theorem mul_lt_bd {a b A B : Int} (h0 : 0 ≤ a) (h1 : a ≤ A) (h2 : 0 ≤ b) (h3 : b ≤ B) : 0 ≤ a * b ∧ a * b ≤ A * B := mul_bd h0 h1 h2 h3
theorem decay_law (r : RuleV) (s : ScoreV) (hr : fitsB r = true) (hs : rightB s = true) (t : ScoreV) (ht : decayF r s = t) :
    t.good = s.good ∧ t.bad = s.bad ∧ (r.num = r.den → t.pts = s.pts) ∧ ((0 ≤ s.pts ∧ 0 ≤ t.pts ∧ t.pts ≤ s.pts ∧ 0 ≤ t.pts * r.den ∧ t.pts * r.den ≤ s.pts * r.num ∧ s.pts * r.num < (t.pts + 1) * r.den ∧ s.pts * r.num ≤ 1048576000 ∧ (t.pts + 1) * r.den ≤ 1048577000) ∨
      (s.pts < 0 ∧ t.pts ≤ 0 ∧ s.pts ≤ t.pts ∧ 0 ≤ -t.pts * r.den ∧ -t.pts * r.den ≤ -s.pts * r.num ∧ -s.pts * r.num < (-t.pts + 1) * r.den ∧ -s.pts * r.num ≤ 1048576000 ∧ (-t.pts + 1) * r.den ≤ 1048577000)) := by
  obtain ⟨a1, a2, a3, a4, a5, a6, a7⟩ := (fits_iff r).1 hr
  obtain ⟨b1, b2, b3⟩ := (right_iff s).1 hs
  subst ht
  unfold decayF judgedF
  simp only
  rcases Int.lt_or_le s.pts 0 with h | h
  · have hq : ∃ q, (-s.pts * r.num).tdiv r.den = q := ⟨_, rfl⟩
    obtain ⟨q, hq⟩ := hq
    have p := pos_law (show 0 ≤ -s.pts by omega) a5.1 a5.2 a4.1 hq
    have e : (s.pts * r.num).tdiv r.den = -q := by rw [← hq, Int.neg_mul, Int.neg_tdiv, Int.neg_neg]
    have m1 := mul_bd (show 0 ≤ -s.pts by omega) (show -s.pts ≤ 1048576 by omega) a5.1 (show r.num ≤ 1000 by omega)
    have m2 := mul_bd (show 0 ≤ q + 1 by omega) (show q + 1 ≤ 1048577 by omega) (show 0 ≤ r.den by omega) a4.2
    have hc : capP (-q) = -q := by unfold capP hel; omega
    rw [e, hc, Int.neg_neg]
    refine ⟨trivial, trivial, fun hh => by have := p.2.2.2.2.2 hh; omega, Or.inr ⟨h, by omega, by omega, ?_⟩⟩
    omega
  · have hq : ∃ q, (s.pts * r.num).tdiv r.den = q := ⟨_, rfl⟩
    obtain ⟨q, hq⟩ := hq
    have p := pos_law h a5.1 a5.2 a4.1 hq
    have m1 := mul_bd h (show s.pts ≤ 1048576 by omega) a5.1 (show r.num ≤ 1000 by omega)
    have m2 := mul_bd (show 0 ≤ q + 1 by omega) (show q + 1 ≤ 1048577 by omega) (show 0 ≤ r.den by omega) a4.2
    have hc : capP q = q := by unfold capP hel; omega
    rw [hq, hc]
    refine ⟨trivial, trivial, fun hh => p.2.2.2.2.2 hh, Or.inl ⟨h, by omega, by omega, ?_⟩⟩
    omega

set_option maxHeartbeats 4000000 in
set_option maxRecDepth 100000 in
theorem ScoreDecay_calls (n : Seven) (k : Three) (ban : Bool) (w : World) : Calls Try.prog 6 #[.agg #[.int .i64 n.a, .int .i64 n.b, .int .i64 n.c, .int .i64 n.d, .int .i64 n.e, .int .i64 n.f, .int .i64 n.g], .agg #[.int .i64 k.a, .int .i64 k.b, .int .i64 k.c], .bool ban] w fun e w' =>
    e = .returned (.bool true) ∧ Below w.heap.size w w' := by
  have HB := Aside0.mk (Below.refl w.heap.size w)
  have HN := Aside0.mk (ruleF_fits n)
  have HK := Aside0.mk (scoreF_right k ban)
  go_enter Try.func6, Try.ntmps6
  go_wp2_with fail
  refine (awake_calls _).mono ?_
  rintro e w1 ⟨rfl, hb_⟩
  have Y4 : Box w1 (w.heap.size) _ _ := Box.below (by repeat (with_reducible first | exact X4.out | exact Box.new | exact Box.new1 | exact Box.new2 | apply Box.alloc | apply Box.drew | apply Box.drewN | apply Box.set)) hb_
  (try clear X4 r4 k4 f4); have X4 := Aside0.mk Y4; have r4 := Y4.cell; have f4 := Y4.frozen; have k4 := Y4.lt; clear Y4
  have Y5 : Box w1 (w.heap.size + 1) _ _ := Box.below (by repeat (with_reducible first | exact X5.out | exact Box.new | exact Box.new1 | exact Box.new2 | apply Box.alloc | apply Box.drew | apply Box.drewN | apply Box.set)) hb_
  (try clear X5 r5 k5 f5); have X5 := Aside0.mk Y5; have r5 := Y5.cell; have f5 := Y5.frozen; have k5 := Y5.lt; clear Y5
  have n_ := Aside0.mk (below_step (by repeat (first | exact HB.out | apply below_alloc | apply pw_below_drewN | apply below_drew1 | refine below_set ?_ (by first | omega | (simp; omega)))) hb_); clear HB hb_; have HB := n_; clear n_
  go_wp2_with fail
  refine (Rule_calls n _).mono ?_
  rintro e w2 ⟨rfl, hb_⟩
  have Y5 : Box w2 (w.heap.size + 1) _ _ := Box.below (by repeat (with_reducible first | exact X5.out | exact Box.new | exact Box.new1 | exact Box.new2 | apply Box.alloc | apply Box.drew | apply Box.drewN | apply Box.set)) hb_
  (try clear X5 r5 k5 f5); have X5 := Aside0.mk Y5; have r5 := Y5.cell; have f5 := Y5.frozen; have k5 := Y5.lt; clear Y5
  have n_ := Aside0.mk (below_step (by repeat (first | exact HB.out | apply below_alloc | apply pw_below_drewN | apply below_drew1 | refine below_set ?_ (by first | omega | (simp; omega)))) hb_); clear HB hb_; have HB := n_; clear n_
  go_wp2_with fail
  refine (Score_calls k ban _).mono ?_
  rintro e w3 ⟨rfl, hb_⟩
  have Y6 : Box w3 (w2.heap.size) _ _ := Box.below (by repeat (with_reducible first | exact X6.out | exact Box.new | exact Box.new1 | exact Box.new2 | apply Box.alloc | apply Box.drew | apply Box.drewN | apply Box.set)) hb_
  (try clear X6 r6 k6 f6); have X6 := Aside0.mk Y6; have r6 := Y6.cell; have f6 := Y6.frozen; have k6 := Y6.lt; clear Y6
  have n_ := Aside0.mk (below_step (by repeat (first | exact HB.out | apply below_alloc | apply pw_below_drewN | apply below_drew1 | refine below_set ?_ (by first | omega | (simp; omega)))) hb_); clear HB hb_; have HB := n_; clear n_
  generalize hr : ruleF n = r at *
  generalize hs : scoreF k ban = s at *
  clear hr hs
  have hok : okB r s = true := by rw [okB, HN.out, HK.out]; rfl
  have HL2 := Aside0.mk (decay_law r s HN.out HK.out)
  go_wp2_with fail
  refine (Decay_yes r s _ hok).mono ?_
  rintro e w4 ⟨rfl, hb_⟩
  have Y6 : Box w4 (w2.heap.size) _ _ := Box.below (by repeat (with_reducible first | exact X6.out | exact Box.new | exact Box.new1 | exact Box.new2 | apply Box.alloc | apply Box.drew | apply Box.drewN | apply Box.set)) hb_
  (try clear X6 r6 k6 f6); have X6 := Aside0.mk Y6; have r6 := Y6.cell; have f6 := Y6.frozen; have k6 := Y6.lt; clear Y6
  have Y7 : Box w4 (w3.heap.size) _ _ := Box.below (by repeat (with_reducible first | exact X7.out | exact Box.new | exact Box.new1 | exact Box.new2 | apply Box.alloc | apply Box.drew | apply Box.drewN | apply Box.set)) hb_
  (try clear X7 r7 k7 f7); have X7 := Aside0.mk Y7; have r7 := Y7.cell; have f7 := Y7.frozen; have k7 := Y7.lt; clear Y7
  have n_ := Aside0.mk (below_step (by repeat (first | exact HB.out | apply below_alloc | apply pw_below_drewN | apply below_drew1 | refine below_set ?_ (by first | omega | (simp; omega)))) hb_); clear HB hb_; have HB := n_; clear n_
  have z4 := HB.out.size
  generalize hT : decayF r s = t at *
  obtain ⟨g1, g2, g3, g4⟩ := HL2.out t rfl
  have HG3 := Aside0.mk g3
  clear HL2 hT g3
  obtain ⟨a1, a2, a3, a4, a5, a6, a7⟩ := (fits_iff r).1 HN.out
  have b1 := ((right_iff s).1 HK.out).1
  clear a1 a2 a3 a6 a7
  rcases g4 with ⟨h1, h2, h3, h4, h5, h6, h7, h8⟩ | ⟨h1, h2, h3, h4, h5, h6, h7, h8⟩
  · rcases Int.lt_or_le 0 s.pts with h9 | h9
    all_goals
      rcases Decidable.em (r.num = r.den) with hE | hE
    all_goals
      first
        | (have hE2 := HG3.out hE; rw [hE2] at h4 h5 h6 h8; rw [hE] at h5 h6 h7)
        | skip
      go_wp2
      go_ret
      exact ⟨rfl, (by repeat (first | exact HB.out | apply below_alloc | apply pw_below_drewN | apply below_drew1 | refine below_set ?_ (by first | omega | (simp; omega))))⟩
  · rcases Decidable.em (r.num = r.den) with hE | hE
    all_goals
      first
        | (have hE2 := HG3.out hE; rw [hE2] at h4 h5 h6 h8; rw [hE] at h5 h6 h7)
        | skip
      have hm : (if t.pts < -t.pts then -t.pts else t.pts) = -t.pts := (by split <;> omega)
      have e1 := Int.neg_mul t.pts r.den
      have e2 := Int.neg_mul s.pts r.num
      have e3 := Int.neg_mul s.pts r.den
      go_wp2
      go_ret
      exact ⟨rfl, (by repeat (first | exact HB.out | apply below_alloc | apply pw_below_drewN | apply below_drew1 | refine below_set ?_ (by first | omega | (simp; omega))))⟩

set_option maxRecDepth 100000 in
theorem scoreDecay_lifted (os : Os) (started : os.Started) (H : Type) (enc : TypeId × Value → H) :
    ReturnsInHanded {} Try.checked os 6 .any (Rows.scoreDecaySpec.pre6 enc Try.prog Try.f6 Rows.scoreDecayRow.domain false) (Rows.scoreDecaySpec.post enc Try.prog Try.f6 false true false false) := by
  refine returnsInHanded_of_change_sized (C := Try.checked) own started (by kernel_rfl) Try.func6
    (ChangeSpec.witness6 (enc := enc) (C := Try.checked) false ⟨#[], #[.agg #[.int .i64 0, .int .i64 0, .int .i64 0, .int .i64 0, .int .i64 0, .int .i64 0, .int .i64 0], .agg #[.int .i64 0, .int .i64 0, .int .i64 0], .bool false], []⟩ 8 (by kernel_rfl) (by kernel_rfl) (by kernel_rfl) (by kernel_rfl)) ?_
  intro W base args ds gs before hval0 hW hcnd hsz0 _
  have hsz : (DataW.weightsEach Try.prog (Try.f6.params.toList ++ Rows.scoreDecaySpec.plain.varTypes Try.prog) (ds ++ gs)).all (· ≤ reachBytes) = true := hsz0
  have hval : ∀ (j : Nat) t v, Try.f6.params[j]? = some t → args[j]? = some v → Value.okWide Try.prog W .any base t v := hval0
  have hW' := hW
  obtain ⟨p, q, hA0, hV, rfl, hfz, hnd⟩ := hW
  have hA : DataW.TrodAll enc Try.prog W 0 (fun _ => true) true Try.f6.params.toList args.toList ds p := hA0
  have hAll := hA
  rw [Try.params6] at hA hval hsz
  obtain ⟨v0, vs0, d0, ds0, p0, q0, hargs, rfl, rfl, h0, r0⟩ := trodAll_cons hA
  obtain ⟨v1, vs1, d1, ds1, p1, q1, rfl, rfl, rfl, h1, r1⟩ := trodAll_cons r0
  obtain ⟨v2, vs2, d2, ds2, p2, q2, rfl, rfl, rfl, h2, r2⟩ := trodAll_cons r1
  obtain ⟨rfl, rfl, rfl⟩ := trodAll_nil r2
  obtain rfl : args = #[v0, v1, v2] := by cases args; simp_all
  obtain ⟨rfl, rfl⟩ := trodVars_none hV
  have hlt := trodAll_lt hAll
  obtain ⟨n, rfl⟩ := seven_came (hval 0 26 v0 rfl rfl)
  obtain ⟨k, rfl⟩ := three_came (hval 1 27 v1 rfl rfl)
  obtain ⟨b, rfl, rfl, rfl⟩ := open_bool Try.underlying4 (hval 2 4 v2 rfl rfl) h2
  clear hA0 hval0 hsz0 hsz
  refine (ScoreDecay_calls n k b W).mono fun e W' ⟨he, bel⟩ => ?_
  subst he
  exact ⟨_, rfl, _, _, _, [], _, [], hW', trodAll_mk1 (shut_bool Try.underlying4 _), below_trodAll laidOut bel (by kernel_rfl) hAll hlt, rfl, bel.frame _, fun h => by cases h⟩
theorem scoreDecay_over : Rows.scoreDecayRow.holds Try.pinned (OpenSpec.ofChange Rows.scoreDecaySpec) :=
  OpenClaim.holds_of_wide 6 Try.f6 rfl rfl rfl rfl rfl rfl rfl ⟨rfl, rfl, rfl, rfl, rfl⟩ rfl rfl rfl rfl rfl (by kernel_rfl) Try.func6 (by kernel_rfl)
    (of_decide_eq_true (by kernel_rfl)) (by unfold Func.isWrapper; first | (rw [if_pos (by decide +kernel)]; kernel_rfl) | (rw [if_neg (by decide +kernel)]; exact ⟨rfl, rfl⟩))
    (fun os started H enc _ => scoreDecay_lifted os started H enc)
theorem scoreDecay_holds : Rows.ScoreDecaySaid := scoreDecay_over
#print axioms scoreDecay_holds
end Go.Proofs.Ytdhgneindanbeaa
