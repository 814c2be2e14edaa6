/- What the program's functions of chapter 18 compute. -/
import Derived.Test.YtdhgneindanbeaaBase
set_option linter.unusedVariables false
set_option linter.unusedSimpArgs false
namespace Go.Proofs.Ytdhgneindanbeaa
open Go.RowKit Go.Proofs.YtdhgneindanbeaaW.PrintWords Go.Proofs.YtdhgneindanbeaaW.PrintLast Go.Proofs.YtdhgneindanbeaaW.PrintMore

/-- A rule and a score, by their numbers. -/
structure RuleV where
  pen : Int
  cre : Int
  most : Int
  num : Int
  den : Int
  ban : Int
  back : Int
structure ScoreV where
  pts : Int
  good : Int
  bad : Int
  ban : Bool
def win (x a b : Int) : Bool := decide (a ≤ x ∧ x ≤ b)
def hel (x a b : Int) : Int := min (max x a) b

theorem win_true {x a b : Int} (h : a ≤ x ∧ x ≤ b) : win x a b = true := by unfold win; exact decide_eq_true h
theorem win_false {x a b : Int} (h : ¬ (a ≤ x ∧ x ≤ b)) : win x a b = false := by unfold win; exact decide_eq_false h
theorem win_iff {x a b : Int} : win x a b = true ↔ a ≤ x ∧ x ≤ b := by unfold win; exact decide_eq_true_iff
set_option maxHeartbeats 400000 in
theorem within_calls (x a b : Int) (w : World) : Calls Try.prog 26 #[.int .i64 x, .int .i64 a, .int .i64 b] w fun e w' => e = .returned (.bool (win x a b)) ∧ w = w' := by
  by_cases h1 : a ≤ x
  · by_cases h2 : x ≤ b
    · rw [win_true ⟨h1, h2⟩]
      go_enter Try.func26, Try.ntmps26
      go_wp2
      go_ret
      exact ⟨rfl, rfl⟩
    · rw [win_false (fun h => h2 h.2)]
      go_enter Try.func26, Try.ntmps26
      go_wp2
      go_ret
      exact ⟨rfl, rfl⟩
  · rw [win_false (fun h => h1 h.1)]
    go_enter Try.func26, Try.ntmps26
    go_wp2
    go_ret
    exact ⟨rfl, rfl⟩
attribute [local go_sem] max2_int min2_int max_two min_two
theorem held_calls (x a b : Int) (w : World) : Calls Try.prog 25 #[.int .i64 x, .int .i64 a, .int .i64 b] w fun e w' => e = .returned (.int .i64 (hel x a b)) ∧ w = w' := by
  by_cases h1 : a ≤ x
  all_goals by_cases h2 : x ≤ b
  all_goals by_cases h3 : a ≤ b
  all_goals
    go_enter Try.func25, Try.ntmps25
    go_wp2
    all_goals go_ret
    all_goals exact ⟨ret_int (by unfold hel; omega), rfl⟩
def rightB (s : ScoreV) : Bool := win s.pts (-1048576) 1048576 && win s.good 0 1099511627776 && win s.bad 0 1099511627776
def fitsB (r : RuleV) : Bool := win r.pen 0 1000 && win r.cre 0 1000 && win r.most 0 1000 && win r.den 1 1000 && win r.num 0 r.den && win r.ban (-1048576) 0 && win r.back r.ban 1048576
def ScoreV.cs (s : ScoreV) : Array Value := #[.int .i64 s.pts, .int .i64 s.good, .int .i64 s.bad, .bool s.ban]
set_option maxHeartbeats 400000 in
theorem Right_calls (s : ScoreV) (w : World) : Calls Try.prog 20 #[.agg #[.int .i64 s.pts, .int .i64 s.good, .int .i64 s.bad, .bool s.ban]] w fun e w' => e = .returned (.bool (rightB s)) ∧ Below w.heap.size w w' := by
  have HB := Aside0.mk (Below.refl w.heap.size w)
  unfold rightB
  rcases Bool.eq_false_or_eq_true (win s.pts (-1048576) 1048576) with h1 | h1
  all_goals rcases Bool.eq_false_or_eq_true (win s.good 0 1099511627776) with h2 | h2
  all_goals
    go_enter Try.func20, Try.ntmps20
    go_wp2_with (go_at_call 26; ((with_reducible refine (within_calls _ _ _ _).mono ?_)); rintro e w_ ⟨rfl, rfl⟩)
    go_ret
    exact ⟨ret_bool (by simp [h1, h2]), (by repeat (first | exact HB.out | apply below_alloc | apply pw_below_drewN | apply below_drew1 | refine below_set ?_ (by first | omega | (simp; omega))))⟩

set_option maxHeartbeats 1000000 in
theorem Fits_calls (r : RuleV) (w : World) : Calls Try.prog 18 #[.agg #[.int .i64 r.pen, .int .i64 r.cre, .int .i64 r.most, .int .i64 r.num, .int .i64 r.den, .int .i64 r.ban, .int .i64 r.back]] w fun e w' => e = .returned (.bool (fitsB r)) ∧ Below w.heap.size w w' := by
  have HB := Aside0.mk (Below.refl w.heap.size w)
  have i0 : ∀ (a b c : Value) (w : World), (Instr.index 27 (.agg #[a, b, c]) (.int .i64 0)).run Try.prog w = .ok a w := fun _ _ _ _ => by kernel_rfl
  have i1 : ∀ (a b c : Value) (w : World), (Instr.index 27 (.agg #[a, b, c]) (.int .i64 1)).run Try.prog w = .ok b w := fun _ _ _ _ => by kernel_rfl
  have i2 : ∀ (a b c : Value) (w : World), (Instr.index 27 (.agg #[a, b, c]) (.int .i64 2)).run Try.prog w = .ok c w := fun _ _ _ _ => by kernel_rfl
  go_enter Try.func18, Try.ntmps18
  go_wp2
  refine wp_loop_rounds 4 ?_
  rw [rounds_succ]
  go_wp2_with (go_at_call 26; ((with_reducible refine (within_calls _ _ _ _).mono ?_)); rintro e w_ ⟨rfl, rfl⟩)
  · go_ret
    exact ⟨ret_bool (by clear i0 i1 i2; (try simp only [Bool.not_eq_true', Bool.not_eq_false'] at *); simp [fitsB, *]), (by repeat (first | exact HB.out | apply below_alloc | apply pw_below_drewN | apply below_drew1 | refine below_set ?_ (by first | omega | (simp; omega))))⟩
  rw [rounds_succ]
  go_wp2_with (go_at_call 26; ((with_reducible refine (within_calls _ _ _ _).mono ?_)); rintro e w_ ⟨rfl, rfl⟩)
  · go_ret
    exact ⟨ret_bool (by clear i0 i1 i2; (try simp only [Bool.not_eq_true', Bool.not_eq_false'] at *); simp [fitsB, *]), (by repeat (first | exact HB.out | apply below_alloc | apply pw_below_drewN | apply below_drew1 | refine below_set ?_ (by first | omega | (simp; omega))))⟩
  rw [rounds_succ]
  go_wp2_with (go_at_call 26; ((with_reducible refine (within_calls _ _ _ _).mono ?_)); rintro e w_ ⟨rfl, rfl⟩)
  · go_ret
    exact ⟨ret_bool (by clear i0 i1 i2; (try simp only [Bool.not_eq_true', Bool.not_eq_false'] at *); simp [fitsB, *]), (by repeat (first | exact HB.out | apply below_alloc | apply pw_below_drewN | apply below_drew1 | refine below_set ?_ (by first | omega | (simp; omega))))⟩
  rw [rounds_succ]
  go_wp2_with (go_at_call 26; ((with_reducible refine (within_calls _ _ _ _).mono ?_)); rintro e w_ ⟨rfl, rfl⟩)
  all_goals go_ret
  all_goals exact ⟨ret_bool (by clear i0 i1 i2; (try simp only [Bool.not_eq_true', Bool.not_eq_false'] at *); simp [fitsB, *]), (by repeat (first | exact HB.out | apply below_alloc | apply pw_below_drewN | apply below_drew1 | refine below_set ?_ (by first | omega | (simp; omega))))⟩

set_option maxHeartbeats 1000000 in
theorem of_yes (r : RuleV) (s : ScoreV) (w : World) (hr : fitsB r = true) (hs : rightB s = true) : Calls Try.prog 22 #[.agg #[.int .i64 r.pen, .int .i64 r.cre, .int .i64 r.most, .int .i64 r.num, .int .i64 r.den, .int .i64 r.ban, .int .i64 r.back], .agg #[.int .i64 s.pts, .int .i64 s.good, .int .i64 s.bad, .bool s.ban]] w fun e w' =>
    e = .returned (.tuple #[.agg #[.int .i64 s.pts, .int .i64 s.good, .int .i64 s.bad, .bool s.ban, .int .i64 r.pen, .int .i64 r.cre, .int .i64 r.most, .int .i64 r.num, .int .i64 r.den, .int .i64 r.ban, .int .i64 r.back], .int .i64 0]) ∧ Below w.heap.size w w' := by
  go_enter Try.func22, Try.ntmps22
  go_wp2_with (first
    | (go_at_call 18; go_must (((with_reducible refine (Fits_calls r _).mono ?_)); rintro e w1 ⟨rfl, hb_⟩; obtain ⟨hc1, hf1⟩ := bcell hb_; have hz1 := hb_.size; (try simp at hz1); have k1_0 : w.heap.size < w1.heap.size := (by omega); have k1_1 : w.heap.size + 1 < w1.heap.size := (by omega); have k1_2 : w.heap.size + 1 + 1 < w1.heap.size := (by omega); have HB1 := Aside0.mk hb_; clear hb_ hz1))
    | (go_at_call 20; go_must (((with_reducible refine (Right_calls s _).mono ?_)); rintro e w2 ⟨rfl, hb_⟩; obtain ⟨hc2, hf2⟩ := bcell hb_; have hz2 := hb_.size; (try simp at hz2); have k2_0 : w.heap.size < w2.heap.size := (by omega); have k2_1 : w.heap.size + 1 < w2.heap.size := (by omega); have k2_2 : w.heap.size + 1 + 1 < w2.heap.size := (by omega); have HB2 := Aside0.mk hb_; clear hb_ hz2)))
  exact bodyPost_ret (v := .tuple #[.agg #[.int .i64 s.pts, .int .i64 s.good, .int .i64 s.bad, .bool s.ban, .int .i64 r.pen, .int .i64 r.cre, .int .i64 r.most, .int .i64 r.num, .int .i64 r.den, .int .i64 r.ban, .int .i64 r.back], .int .i64 0]) (by simp [results, Try.results22, go_sem, hc1, hc2, k1_2, k2_2]) rfl ⟨rfl, (by repeat (with_reducible first | assumption | exact Below.refl _ _ | apply below_alloc | refine below_set ?_ (by first | omega | (simp; omega)) | apply pw_below_drewN | apply below_drew1 | refine below_step ?_ HB1.out | refine below_step ?_ HB2.out))⟩
end Go.Proofs.Ytdhgneindanbeaa
