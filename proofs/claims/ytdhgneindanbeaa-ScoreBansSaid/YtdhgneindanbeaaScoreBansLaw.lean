/- ScoreBans: for every input the call of the statement returns true and leaves its arguments as they were. Conditions: none. -/
import Derived.Test.YtdhgneindanbeaaScoreShell
import Derived.Test.YtdhgneindanbeaaScoreAwake
set_option linter.unusedVariables false
set_option linter.unusedSimpArgs false
namespace Go.Proofs.Ytdhgneindanbeaa
open Go.RowKit Go.Proofs.YtdhgneindanbeaaW.PrintWords Go.Proofs.YtdhgneindanbeaaW.PrintLast Go.Proofs.YtdhgneindanbeaaW.PrintMore
open Go.ChangeShapes Go.WideShapes Go.ChangeAt
open Go.ChangeMaps (open_string shut_string)

theorem judged_law (r : RuleV) (s : ScoreV) (p : Int) (hr : r.ban ≤ r.back) (t : ScoreV) (ht : judgedF r s p = t) :
    (t.pts < r.ban ∧ t.pts < r.back ∧ t.ban = true) ∨ (r.ban ≤ t.pts ∧ r.back ≤ t.pts ∧ t.ban = false) ∨ (r.ban ≤ t.pts ∧ t.pts < r.back ∧ t.ban = s.ban) := by
  subst ht
  unfold judgedF
  simp only
  rcases Int.lt_or_le (capP p) r.ban with h | h
  · exact Or.inl ⟨h, by omega, by rw [if_pos h]⟩
  · rcases Int.lt_or_le (capP p) r.back with h2 | h2
    · exact Or.inr (Or.inr ⟨h, h2, by rw [if_neg (by omega), if_neg (by omega)]⟩)
    · exact Or.inr (Or.inl ⟨h, h2, by rw [if_neg (by omega), if_pos h2]⟩)

set_option maxHeartbeats 2000000 in
set_option maxRecDepth 100000 in
theorem ScoreBans_calls (n : Seven) (k : Three) (ban decay : Bool) (w : World) : Calls Try.prog 5 #[.agg #[.int .i64 n.a, .int .i64 n.b, .int .i64 n.c, .int .i64 n.d, .int .i64 n.e, .int .i64 n.f, .int .i64 n.g], .agg #[.int .i64 k.a, .int .i64 k.b, .int .i64 k.c], .bool ban, .bool decay] w fun e w' =>
    e = .returned (.bool true) ∧ Below w.heap.size w w' := by
  have HB := Aside0.mk (Below.refl w.heap.size w)
  have HN := Aside0.mk (ruleF_fits n)
  have HK := Aside0.mk (scoreF_right k ban)
  go_enter Try.func5, Try.ntmps5
  go_wp2_with fail
  refine (awake_calls _).mono ?_
  rintro e w1 ⟨rfl, hb_⟩
  have Y4 : Box w1 (w.heap.size) _ _ := Box.below (by repeat (with_reducible first | exact X4.out | exact Box.new | exact Box.new1 | exact Box.new2 | apply Box.alloc | apply Box.drew | apply Box.drewN)) hb_
  (try clear X4 r4 k4 f4); have X4 := Aside0.mk Y4; have r4 := Y4.cell; have f4 := Y4.frozen; have k4 := Y4.lt; clear Y4
  have Y5 : Box w1 (w.heap.size + 1) _ _ := Box.below (by repeat (with_reducible first | exact X5.out | exact Box.new | exact Box.new1 | exact Box.new2 | apply Box.alloc | apply Box.drew | apply Box.drewN)) hb_
  (try clear X5 r5 k5 f5); have X5 := Aside0.mk Y5; have r5 := Y5.cell; have f5 := Y5.frozen; have k5 := Y5.lt; clear Y5
  have n_ := Aside0.mk (below_step (by repeat (first | exact HB.out | apply below_alloc | apply pw_below_drewN | apply below_drew1 | refine below_set ?_ (by first | omega | (simp; omega)))) hb_); clear HB hb_; have HB := n_; clear n_
  go_wp2_with fail
  refine (Rule_calls n _).mono ?_
  rintro e w2 ⟨rfl, hb_⟩
  have Y5 : Box w2 (w.heap.size + 1) _ _ := Box.below (by repeat (with_reducible first | exact X5.out | exact Box.new | exact Box.new1 | exact Box.new2 | apply Box.alloc | apply Box.drew | apply Box.drewN)) hb_
  (try clear X5 r5 k5 f5); have X5 := Aside0.mk Y5; have r5 := Y5.cell; have f5 := Y5.frozen; have k5 := Y5.lt; clear Y5
  have n_ := Aside0.mk (below_step (by repeat (first | exact HB.out | apply below_alloc | apply pw_below_drewN | apply below_drew1 | refine below_set ?_ (by first | omega | (simp; omega)))) hb_); clear HB hb_; have HB := n_; clear n_
  go_wp2_with fail
  refine (Score_calls k ban _).mono ?_
  rintro e w3 ⟨rfl, hb_⟩
  have Y6 : Box w3 (w2.heap.size) _ _ := Box.below (by repeat (with_reducible first | exact X6.out | exact Box.new | exact Box.new1 | exact Box.new2 | apply Box.alloc | apply Box.drew | apply Box.drewN)) hb_
  (try clear X6 r6 k6 f6); have X6 := Aside0.mk Y6; have r6 := Y6.cell; have f6 := Y6.frozen; have k6 := Y6.lt; clear Y6
  have n_ := Aside0.mk (below_step (by repeat (first | exact HB.out | apply below_alloc | apply pw_below_drewN | apply below_drew1 | refine below_set ?_ (by first | omega | (simp; omega)))) hb_); clear HB hb_; have HB := n_; clear n_
  generalize hr : ruleF n = r at *
  generalize hs : scoreF k ban = s at *
  clear hr hs
  have hok : okB r s = true := by rw [okB, HN.out, HK.out]; rfl
  have hrb : r.ban ≤ r.back := by have := (fits_iff r).1 HN.out; omega
  have HL1 := Aside0.mk (judged_law r { s with good := 0, bad := 0 } (sumP r s) hrb)
  have HL2 := Aside0.mk (judged_law r s ((s.pts * r.num).tdiv r.den) hrb)
  change Aside0 (∀ t, settleF r s = t → _) at HL1
  change Aside0 (∀ t, decayF r s = t → _) at HL2
  go_wp2_with fail
  refine (Settle_yes r s _ hok).mono ?_
  rintro e w4 ⟨rfl, hb_⟩
  have Y6 : Box w4 (w2.heap.size) _ _ := Box.below (by repeat (with_reducible first | exact X6.out | exact Box.new | exact Box.new1 | exact Box.new2 | apply Box.alloc | apply Box.drew | apply Box.drewN)) hb_
  (try clear X6 r6 k6 f6); have X6 := Aside0.mk Y6; have r6 := Y6.cell; have f6 := Y6.frozen; have k6 := Y6.lt; clear Y6
  have Y7 : Box w4 (w3.heap.size) _ _ := Box.below (by repeat (with_reducible first | exact X7.out | exact Box.new | exact Box.new1 | exact Box.new2 | apply Box.alloc | apply Box.drew | apply Box.drewN)) hb_
  (try clear X7 r7 k7 f7); have X7 := Aside0.mk Y7; have r7 := Y7.cell; have f7 := Y7.frozen; have k7 := Y7.lt; clear Y7
  have n_ := Aside0.mk (below_step (by repeat (first | exact HB.out | apply below_alloc | apply pw_below_drewN | apply below_drew1 | refine below_set ?_ (by first | omega | (simp; omega)))) hb_); clear HB hb_; have HB := n_; clear n_
  have z4 := HB.out.size
  have d6 := k6
  have d7 := k7
  generalize hT : settleF r s = t at *
  have HT := Aside0.mk (HL1.out t rfl)
  clear HL1 hT
  cases decay
  · rcases HT.out with ⟨h1, h2, h3⟩ | ⟨h1, h2, h3⟩ | ⟨h1, h2, h3⟩
    all_goals
      try simp only at h3
      go_wp2
      go_ret
      exact ⟨rfl, (by repeat (first | exact HB.out | apply below_alloc | apply pw_below_drewN | apply below_drew1 | refine below_set ?_ (by first | omega | (simp; omega))))⟩
  · go_wp2_with fail
    refine (Decay_yes r s _ hok).mono ?_
    rintro e w5 ⟨rfl, hb_⟩
    have Y6 : Box w5 (w2.heap.size) _ _ := Box.below (by repeat (with_reducible first | exact X6.out | exact Box.new | exact Box.new1 | exact Box.new2 | apply Box.alloc | apply Box.drew | apply Box.drewN)) hb_
    (try clear X6 r6 k6 f6); have X6 := Aside0.mk Y6; have r6 := Y6.cell; have f6 := Y6.frozen; have k6 := Y6.lt; clear Y6
    have Y7 : Box w5 (w3.heap.size) _ _ := Box.below (by repeat (with_reducible first | exact X7.out | exact Box.new | exact Box.new1 | exact Box.new2 | apply Box.alloc | apply Box.drew | apply Box.drewN)) hb_
    (try clear X7 r7 k7 f7); have X7 := Aside0.mk Y7; have r7 := Y7.cell; have f7 := Y7.frozen; have k7 := Y7.lt; clear Y7
    have Y8 : Box w5 (w4.heap.size) _ _ := Box.below (by repeat (with_reducible first | exact X8.out | exact Box.new | exact Box.new1 | exact Box.new2 | apply Box.alloc | apply Box.drew | apply Box.drewN)) hb_
    (try clear X8 r8 k8 f8); have X8 := Aside0.mk Y8; have r8 := Y8.cell; have f8 := Y8.frozen; have k8 := Y8.lt; clear Y8
    have n_ := Aside0.mk (below_step (by repeat (first | exact HB.out | apply below_alloc | apply pw_below_drewN | apply below_drew1 | refine below_set ?_ (by first | omega | (simp; omega)))) hb_); clear HB hb_; have HB := n_; clear n_
    generalize hU : decayF r s = u at *
    have HU := Aside0.mk (HL2.out u rfl)
    clear HL2 hU HT
    rcases HU.out with ⟨h1, h2, h3⟩ | ⟨h1, h2, h3⟩ | ⟨h1, h2, h3⟩
    all_goals
      try simp only at h3
      go_wp2
      go_ret
      exact ⟨rfl, (by repeat (first | exact HB.out | apply below_alloc | apply pw_below_drewN | apply below_drew1 | refine below_set ?_ (by first | omega | (simp; omega))))⟩

set_option maxRecDepth 100000 in
theorem scoreBans_lifted (os : Os) (started : os.Started) (H : Type) (enc : TypeId × Value → H) :
    ReturnsInHanded {} Try.checked os 5 .any (Rows.scoreBansSpec.pre6 enc Try.prog Try.f5 Rows.scoreBansRow.domain false) (Rows.scoreBansSpec.post enc Try.prog Try.f5 false true false false) := by
  refine returnsInHanded_of_change_sized (C := Try.checked) own started (by kernel_rfl) Try.func5
    (ChangeSpec.witness6 (enc := enc) (C := Try.checked) false ⟨#[], #[.agg #[.int .i64 0, .int .i64 0, .int .i64 0, .int .i64 0, .int .i64 0, .int .i64 0, .int .i64 0], .agg #[.int .i64 0, .int .i64 0, .int .i64 0], .bool false, .bool false], []⟩ 8 (by kernel_rfl) (by kernel_rfl) (by kernel_rfl) (by kernel_rfl)) ?_
  intro W base args ds gs before hval0 hW hcnd hsz0 _
  have hsz : (DataW.weightsEach Try.prog (Try.f5.params.toList ++ Rows.scoreBansSpec.plain.varTypes Try.prog) (ds ++ gs)).all (· ≤ reachBytes) = true := hsz0
  have hval : ∀ (j : Nat) t v, Try.f5.params[j]? = some t → args[j]? = some v → Value.okWide Try.prog W .any base t v := hval0
  have hW' := hW
  obtain ⟨p, q, hA0, hV, rfl, hfz, hnd⟩ := hW
  have hA : DataW.TrodAll enc Try.prog W 0 (fun _ => true) true Try.f5.params.toList args.toList ds p := hA0
  have hAll := hA
  rw [Try.params5] at hA hval hsz
  obtain ⟨v0, vs0, d0, ds0, p0, q0, hargs, rfl, rfl, h0, r0⟩ := trodAll_cons hA
  obtain ⟨v1, vs1, d1, ds1, p1, q1, rfl, rfl, rfl, h1, r1⟩ := trodAll_cons r0
  obtain ⟨v2, vs2, d2, ds2, p2, q2, rfl, rfl, rfl, h2, r2⟩ := trodAll_cons r1
  obtain ⟨v3, vs3, d3, ds3, p3, q3, rfl, rfl, rfl, h3, r3⟩ := trodAll_cons r2
  obtain ⟨rfl, rfl, rfl⟩ := trodAll_nil r3
  obtain rfl : args = #[v0, v1, v2, v3] := by cases args; simp_all
  obtain ⟨rfl, rfl⟩ := trodVars_none hV
  have hlt := trodAll_lt hAll
  obtain ⟨n, rfl⟩ := seven_came (hval 0 26 v0 rfl rfl)
  obtain ⟨k, rfl⟩ := three_came (hval 1 27 v1 rfl rfl)
  obtain ⟨b, rfl, rfl, rfl⟩ := open_bool Try.underlying4 (hval 2 4 v2 rfl rfl) h2
  obtain ⟨c, rfl, rfl, rfl⟩ := open_bool Try.underlying4 (hval 3 4 v3 rfl rfl) h3
  clear hA0 hval0 hsz0 hsz
  refine (ScoreBans_calls n k b c W).mono fun e W' ⟨he, bel⟩ => ?_
  subst he
  exact ⟨_, rfl, _, _, _, [], _, [], hW', trodAll_mk1 (shut_bool Try.underlying4 _), below_trodAll laidOut bel (by kernel_rfl) hAll hlt, rfl, bel.frame _, fun h => by cases h⟩
theorem scoreBans_over : Rows.scoreBansRow.holds Try.pinned (OpenSpec.ofChange Rows.scoreBansSpec) :=
  OpenClaim.holds_of_wide 5 Try.f5 rfl rfl rfl rfl rfl rfl rfl ⟨rfl, rfl, rfl, rfl, rfl⟩ rfl rfl rfl rfl rfl (by kernel_rfl) Try.func5 (by kernel_rfl)
    (of_decide_eq_true (by kernel_rfl)) (by unfold Func.isWrapper; first | (rw [if_pos (by decide +kernel)]; kernel_rfl) | (rw [if_neg (by decide +kernel)]; exact ⟨rfl, rfl⟩))
    (fun os started H enc _ => scoreBans_lifted os started H enc)
theorem scoreBans_holds : Rows.ScoreBansSaid := scoreBans_over
#print axioms scoreBans_holds
end Go.Proofs.Ytdhgneindanbeaa
