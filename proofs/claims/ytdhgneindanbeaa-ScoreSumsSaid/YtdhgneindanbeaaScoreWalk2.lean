/- What Count, Settle and Decay of chapter 18 compute. -/
import Derived.Test.YtdhgneindanbeaaScoreWalk
set_option linter.unusedVariables false
set_option linter.unusedSimpArgs false
namespace Go.Proofs.Ytdhgneindanbeaa
open Go.RowKit Go.Proofs.YtdhgneindanbeaaW.PrintWords Go.Proofs.YtdhgneindanbeaaW.PrintLast Go.Proofs.YtdhgneindanbeaaW.PrintMore
attribute [local go_sem] max2_int min2_int max_two min_two

def zeroS : ScoreV := ⟨0, 0, 0, false⟩
def capP (x : Int) : Int := hel x (-1048576) 1048576
def judgedF (r : RuleV) (s : ScoreV) (p : Int) : ScoreV := ⟨capP p, s.good, s.bad, if capP p < r.ban then true else if r.back ≤ capP p then false else s.ban⟩
def countF (s : ScoreV) (good : Bool) : ScoreV := if good then { s with good := hel (s.good + 1) 0 1099511627776 } else { s with bad := hel (s.bad + 1) 0 1099511627776 }

set_option maxHeartbeats 1000000 in
theorem of_no (r : RuleV) (s : ScoreV) (w : World) (h : (fitsB r && rightB s) = false) : Calls Try.prog 22 #[.agg #[.int .i64 r.pen, .int .i64 r.cre, .int .i64 r.most, .int .i64 r.num, .int .i64 r.den, .int .i64 r.ban, .int .i64 r.back], .agg #[.int .i64 s.pts, .int .i64 s.good, .int .i64 s.bad, .bool s.ban]] w fun e w' =>
    e = .returned (.tuple #[.agg #[.int .i64 0, .int .i64 0, .int .i64 0, .bool false, .int .i64 0, .int .i64 0, .int .i64 0, .int .i64 0, .int .i64 0, .int .i64 0, .int .i64 0], .int .i64 1]) ∧ Below w.heap.size w w' := by
  rcases Bool.eq_false_or_eq_true (fitsB r) with hr | hr
  · have hs : rightB s = false := by simpa [hr] using h
    clear h
    go_enter Try.func22, Try.ntmps22
    go_wp2_with (first
      | (go_at_call 18; go_must (((with_reducible refine (Fits_calls r _).mono ?_)); rintro e w1 ⟨rfl, hb_⟩; obtain ⟨hc1, hf1⟩ := bcell hb_; have hz1 := hb_.size; (try simp at hz1); have k1_0 : w.heap.size < w1.heap.size := (by omega); have k1_1 : w.heap.size + 1 < w1.heap.size := (by omega); have k1_2 : w.heap.size + 1 + 1 < w1.heap.size := (by omega); have HB1 := Aside0.mk hb_; clear hb_ hz1))
      | (go_at_call 20; go_must (((with_reducible refine (Right_calls s _).mono ?_)); rintro e w2 ⟨rfl, hb_⟩; obtain ⟨hc2, hf2⟩ := bcell hb_; have hz2 := hb_.size; (try simp at hz2); have k2_0 : w.heap.size < w2.heap.size := (by omega); have k2_1 : w.heap.size + 1 < w2.heap.size := (by omega); have k2_2 : w.heap.size + 1 + 1 < w2.heap.size := (by omega); have HB2 := Aside0.mk hb_; clear hb_ hz2)))
    exact bodyPost_ret (v := .tuple #[.agg #[.int .i64 0, .int .i64 0, .int .i64 0, .bool false, .int .i64 0, .int .i64 0, .int .i64 0, .int .i64 0, .int .i64 0, .int .i64 0, .int .i64 0], .int .i64 1]) (by simp [results, Try.results22, go_sem, hc1, hc2, k1_2, k2_2]) rfl ⟨rfl, (by repeat (with_reducible first | assumption | exact Below.refl _ _ | apply below_alloc | refine below_set ?_ (by first | omega | (simp; omega)) | apply pw_below_drewN | apply below_drew1 | refine below_step ?_ HB1.out | refine below_step ?_ HB2.out))⟩
  · clear h
    go_enter Try.func22, Try.ntmps22
    go_wp2_with (first
      | (go_at_call 18; go_must (((with_reducible refine (Fits_calls r _).mono ?_)); rintro e w1 ⟨rfl, hb_⟩; obtain ⟨hc1, hf1⟩ := bcell hb_; have hz1 := hb_.size; (try simp at hz1); have k1_0 : w.heap.size < w1.heap.size := (by omega); have k1_1 : w.heap.size + 1 < w1.heap.size := (by omega); have k1_2 : w.heap.size + 1 + 1 < w1.heap.size := (by omega); have HB1 := Aside0.mk hb_; clear hb_ hz1))
      | (go_at_call 20; go_must (((with_reducible refine (Right_calls s _).mono ?_)); rintro e w2 ⟨rfl, hb_⟩; obtain ⟨hc2, hf2⟩ := bcell hb_; have hz2 := hb_.size; (try simp at hz2); have k2_0 : w.heap.size < w2.heap.size := (by omega); have k2_1 : w.heap.size + 1 < w2.heap.size := (by omega); have k2_2 : w.heap.size + 1 + 1 < w2.heap.size := (by omega); have HB2 := Aside0.mk hb_; clear hb_ hz2)))
    exact bodyPost_ret (v := .tuple #[.agg #[.int .i64 0, .int .i64 0, .int .i64 0, .bool false, .int .i64 0, .int .i64 0, .int .i64 0, .int .i64 0, .int .i64 0, .int .i64 0, .int .i64 0], .int .i64 1]) (by simp [results, Try.results22, go_sem, hc1, k1_2]) rfl ⟨rfl, (by repeat (with_reducible first | assumption | exact Below.refl _ _ | apply below_alloc | refine below_set ?_ (by first | omega | (simp; omega)) | apply pw_below_drewN | apply below_drew1 | refine below_step ?_ HB1.out))⟩

set_option maxHeartbeats 1000000 in
theorem judged_calls (r : RuleV) (s : ScoreV) (p : Int) (w : World) : Calls Try.prog 23 #[.agg #[.int .i64 s.pts, .int .i64 s.good, .int .i64 s.bad, .bool s.ban, .int .i64 r.pen, .int .i64 r.cre, .int .i64 r.most, .int .i64 r.num, .int .i64 r.den, .int .i64 r.ban, .int .i64 r.back], .int .i64 p] w fun e w' =>
    e = .returned (.agg #[.int .i64 (judgedF r s p).pts, .int .i64 (judgedF r s p).good, .int .i64 (judgedF r s p).bad, .bool (judgedF r s p).ban]) ∧ Below w.heap.size w w' := by
  have hh : hel p (-1048576) 1048576 = capP p := rfl
  by_cases h1 : capP p < r.ban
  · have e : judgedF r s p = ⟨capP p, s.good, s.bad, true⟩ := by simp [judgedF, h1]
    rw [e]
    clear e
    go_enter Try.func23, Try.ntmps23
    go_wp2_with (go_at_call 25; ((with_reducible refine (held_calls _ _ _ _).mono ?_)); rw [hh]; rintro e w_ ⟨rfl, rfl⟩)
    exact bodyPost_ret (v := .agg #[.int .i64 (capP p), .int .i64 s.good, .int .i64 s.bad, .bool true]) (by simp [results, Try.results23, go_sem]) rfl ⟨rfl, (by repeat (with_reducible first | assumption | exact Below.refl _ _ | apply below_alloc | refine below_set ?_ (by first | omega | (simp; omega)) | apply pw_below_drewN | apply below_drew1))⟩
  · by_cases h2 : r.back ≤ capP p
    · have e : judgedF r s p = ⟨capP p, s.good, s.bad, false⟩ := by simp [judgedF, h1, h2]
      rw [e]
      clear e
      go_enter Try.func23, Try.ntmps23
      go_wp2_with (go_at_call 25; ((with_reducible refine (held_calls _ _ _ _).mono ?_)); rw [hh]; rintro e w_ ⟨rfl, rfl⟩)
      exact bodyPost_ret (v := .agg #[.int .i64 (capP p), .int .i64 s.good, .int .i64 s.bad, .bool false]) (by simp [results, Try.results23, go_sem]) rfl ⟨rfl, (by repeat (with_reducible first | assumption | exact Below.refl _ _ | apply below_alloc | refine below_set ?_ (by first | omega | (simp; omega)) | apply pw_below_drewN | apply below_drew1))⟩
    · have e : judgedF r s p = ⟨capP p, s.good, s.bad, s.ban⟩ := by simp [judgedF, h1, h2]
      rw [e]
      clear e
      go_enter Try.func23, Try.ntmps23
      go_wp2_with (go_at_call 25; ((with_reducible refine (held_calls _ _ _ _).mono ?_)); rw [hh]; rintro e w_ ⟨rfl, rfl⟩)
      exact bodyPost_ret (v := .agg #[.int .i64 (capP p), .int .i64 s.good, .int .i64 s.bad, .bool s.ban]) (by simp [results, Try.results23, go_sem]) rfl ⟨rfl, (by repeat (with_reducible first | assumption | exact Below.refl _ _ | apply below_alloc | refine below_set ?_ (by first | omega | (simp; omega)) | apply pw_below_drewN | apply below_drew1))⟩
end Go.Proofs.Ytdhgneindanbeaa
