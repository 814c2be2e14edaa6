/- Raw numbers made into rules and scores by the statements of chapter 18. -/
import Derived.Test.YtdhgneindanbeaaScoreWalk3
set_option linter.unusedVariables false
set_option linter.unusedSimpArgs false
namespace Go.Proofs.Ytdhgneindanbeaa
open Go.RowKit Go.Proofs.YtdhgneindanbeaaW.PrintWords Go.Proofs.YtdhgneindanbeaaW.PrintLast Go.Proofs.YtdhgneindanbeaaW.PrintMore

def pickF (c n : Int) : Int := (if c < 0 then -(c + 1) else c) % n
def i64ok (c : Int) : Prop := -9223372036854775808 ≤ c ∧ c ≤ 9223372036854775807
theorem pickF_bd (c n : Int) (h : 1 ≤ n) : 0 ≤ pickF c n ∧ pickF c n < n :=
  ⟨Int.emod_nonneg _ (by omega), Int.emod_lt_of_pos _ (by omega)⟩
set_option maxHeartbeats 400000 in
theorem pick_calls (c n : Int) (w : World) (hc0 : -9223372036854775808 ≤ c) (hc1 : c ≤ 9223372036854775807) (hn : 1 ≤ n) (hn1 : n ≤ 9223372036854775807) :
    Calls Try.prog 10 #[.int .i64 c, .int .i64 n] w fun e w' => e = .returned (.int .i64 (pickF c n)) ∧ w = w' := by
  unfold pickF
  have hb : -9223372036854775808 ≤ (if c < 0 then -(c + 1) else c) % n ∧ (if c < 0 then -(c + 1) else c) % n ≤ 9223372036854775807 := by
    have := pickF_bd c n hn
    unfold pickF at this
    omega
  by_cases h : c < 0
  · rw [if_pos h] at hb ⊢
    go_enter Try.func10, Try.ntmps10
    go_wp2
    go_ret
    exact ⟨by first | rfl | exact ret_int (by rw [← Int.neg_tmod, Int.tmod_eq_emod_of_nonneg (by omega)]), rfl⟩
  · rw [if_neg h] at hb ⊢
    go_enter Try.func10, Try.ntmps10
    go_wp2
    go_ret
    exact ⟨by first | rfl | exact ret_int (by rw [Int.tmod_eq_emod_of_nonneg (by omega)]), rfl⟩

/-- Seven raw numbers. -/
structure Seven where
  (a b c d e f g : Int)
  (ha : i64ok a) (hb : i64ok b) (hc : i64ok c) (hd : i64ok d) (he : i64ok e) (hf : i64ok f) (hg : i64ok g)
structure Three where
  (a b c : Int)
  (ha : i64ok a) (hb : i64ok b) (hc : i64ok c)
def ruleF (n : Seven) : RuleV := ⟨pickF n.a 30, pickF n.b 9, pickF n.c 9, pickF n.d (1 + pickF n.e 9 + 1), 1 + pickF n.e 9, -pickF n.f 60, -pickF n.f 60 + pickF n.g 80⟩
def scoreF (n : Three) (ban : Bool) : ScoreV := ⟨pickF n.a 400 - 200, pickF n.b 20, pickF n.c 9, ban⟩

set_option maxHeartbeats 1000000 in
theorem Rule_calls (n : Seven) (w : World) : Calls Try.prog 9 #[.agg #[.int .i64 n.a, .int .i64 n.b, .int .i64 n.c, .int .i64 n.d, .int .i64 n.e, .int .i64 n.f, .int .i64 n.g]] w fun e w' =>
    e = .returned (.agg #[.int .i64 (ruleF n).pen, .int .i64 (ruleF n).cre, .int .i64 (ruleF n).most, .int .i64 (ruleF n).num, .int .i64 (ruleF n).den, .int .i64 (ruleF n).ban, .int .i64 (ruleF n).back]) ∧ Below w.heap.size w w' := by
  obtain ⟨a, b, c, d, e, f, g, ⟨ha0, ha1⟩, ⟨hb0, hb1⟩, ⟨hc0, hc1⟩, ⟨hd0, hd1⟩, ⟨he0, he1⟩, ⟨hf0, hf1⟩, ⟨hg0, hg1⟩⟩ := n
  have p1 := pickF_bd e 9 (by omega)
  have p2 := pickF_bd f 60 (by omega)
  have p3 := pickF_bd g 80 (by omega)
  show Calls _ _ _ _ (fun e' w' => e' = .returned (.agg #[.int .i64 (pickF a 30), .int .i64 (pickF b 9), .int .i64 (pickF c 9), .int .i64 (pickF d (1 + pickF e 9 + 1)), .int .i64 (1 + pickF e 9), .int .i64 (-pickF f 60), .int .i64 (-pickF f 60 + pickF g 80)]) ∧ Below w.heap.size w w')
  go_enter Try.func9, Try.ntmps9
  go_wp2_with (go_at_call 10; ((with_reducible refine (pick_calls _ _ _ (by omega) (by omega) (by omega) (by omega)).mono ?_)); rintro e w_ ⟨rfl, rfl⟩)
  have w1 : IntKind.i64.wrap (1 + pickF e 9 + 1) = 1 + pickF e 9 + 1 := IntWalk.i64_in _ (by omega)
  have w2 : IntKind.i64.wrap (-pickF f 60 + pickF g 80) = -pickF f 60 + pickF g 80 := IntWalk.i64_in _ (by omega)
  generalize hW : (w.alloc _).alloc _ = W
  have c0 : W.cell? ⟨w.heap.size, 0, none⟩ = some (.int .i64 a) := by rw [← hW]; simp [go_sem]
  have c1 : W.cell? ⟨w.heap.size, 1, none⟩ = some (.int .i64 b) := by rw [← hW]; simp [go_sem]
  have c2 : W.cell? ⟨w.heap.size, 2, none⟩ = some (.int .i64 c) := by rw [← hW]; simp [go_sem]
  have c3 : W.cell? ⟨w.heap.size, 3, none⟩ = some (.int .i64 d) := by rw [← hW]; simp [go_sem]
  have c4 : W.cell? ⟨w.heap.size, 4, none⟩ = some (.int .i64 e) := by rw [← hW]; simp [go_sem]
  have c5 : W.cell? ⟨w.heap.size, 5, none⟩ = some (.int .i64 f) := by rw [← hW]; simp [go_sem]
  have c6 : W.cell? ⟨w.heap.size, 6, none⟩ = some (.int .i64 g) := by rw [← hW]; simp [go_sem]
  have d0 : W.cell? ⟨w.heap.size + 1, 0, none⟩ = some (.int .i64 0) := by rw [← hW]; simp [go_sem]
  have d1 : W.cell? ⟨w.heap.size + 1, 1, none⟩ = some (.int .i64 0) := by rw [← hW]; simp [go_sem]
  have d2 : W.cell? ⟨w.heap.size + 1, 2, none⟩ = some (.int .i64 0) := by rw [← hW]; simp [go_sem]
  have d3 : W.cell? ⟨w.heap.size + 1, 3, none⟩ = some (.int .i64 0) := by rw [← hW]; simp [go_sem]
  have d4 : W.cell? ⟨w.heap.size + 1, 4, none⟩ = some (.int .i64 0) := by rw [← hW]; simp [go_sem]
  have d5 : W.cell? ⟨w.heap.size + 1, 5, none⟩ = some (.int .i64 0) := by rw [← hW]; simp [go_sem]
  have d6 : W.cell? ⟨w.heap.size + 1, 6, none⟩ = some (.int .i64 0) := by rw [← hW]; simp [go_sem]
  have f2 : ∀ j, W.frozen? ⟨w.heap.size + 1, j, none⟩ = false := fun j => by rw [← hW]; simp [go_sem]
  have HW := Aside0.mk hW
  clear hW
  go_region_held3 (fun w' => w'.cell? ⟨w.heap.size, 0, none⟩ = some (.int .i64 a) ∧ w'.cell? ⟨w.heap.size, 1, none⟩ = some (.int .i64 b) ∧ w'.cell? ⟨w.heap.size, 2, none⟩ = some (.int .i64 c) ∧ w'.cell? ⟨w.heap.size, 3, none⟩ = some (.int .i64 d) ∧ w'.cell? ⟨w.heap.size, 6, none⟩ = some (.int .i64 g)) (go_keep) (first | (go_at_call 10; ((with_reducible refine (pick_calls _ _ _ (by omega) (by omega) (by omega) (by omega)).mono ?_)); rintro e w_ ⟨rfl, rfl⟩))
  go_wp2
  refine bodyPost_ret (v := .agg #[.int .i64 (pickF a 30), .int .i64 (pickF b 9), .int .i64 (pickF c 9), .int .i64 (pickF d (1 + pickF e 9 + 1)), .int .i64 (1 + pickF e 9), .int .i64 (-pickF f 60), .int .i64 (-pickF f 60 + pickF g 80)]) (by simp [results, Try.results9, go_sem, d0, d1, d2, d3, d4, d5, d6]) rfl ⟨rfl, ?_⟩
  have B2 : Below w.heap.size w W := by rw [← HW.out]; exact (by repeat (with_reducible first | assumption | exact Below.refl _ _ | apply below_alloc | refine below_set ?_ (by first | omega | (simp; omega)) | apply pw_below_drewN | apply below_drew1))
  exact (by repeat (with_reducible first | assumption | exact Below.refl _ _ | apply below_alloc | refine below_set ?_ (by first | omega | (simp; omega)) | apply pw_below_drewN | apply below_drew1))

set_option maxHeartbeats 1000000 in
theorem Score_calls (n : Three) (ban : Bool) (w : World) : Calls Try.prog 11 #[.agg #[.int .i64 n.a, .int .i64 n.b, .int .i64 n.c], .bool ban] w fun e w' =>
    e = .returned (.agg #[.int .i64 (scoreF n ban).pts, .int .i64 (scoreF n ban).good, .int .i64 (scoreF n ban).bad, .bool (scoreF n ban).ban]) ∧ Below w.heap.size w w' := by
  obtain ⟨a, b, c, ⟨ha0, ha1⟩, ⟨hb0, hb1⟩, ⟨hc0, hc1⟩⟩ := n
  have p1 := pickF_bd a 400 (by omega)
  show Calls _ _ _ _ (fun e' w' => e' = .returned (.agg #[.int .i64 (pickF a 400 - 200), .int .i64 (pickF b 20), .int .i64 (pickF c 9), .bool ban]) ∧ Below w.heap.size w w')
  go_enter Try.func11, Try.ntmps11
  go_wp2
  have w1 : IntKind.i64.wrap (pickF a 400 - 200) = pickF a 400 - 200 := IntWalk.i64_in _ (by omega)
  generalize hW : (w.alloc _).alloc _ = W
  have c0 : W.cell? ⟨w.heap.size, 0, none⟩ = some (.int .i64 a) := by rw [← hW]; simp [go_sem]
  have c1 : W.cell? ⟨w.heap.size, 1, none⟩ = some (.int .i64 b) := by rw [← hW]; simp [go_sem]
  have c2 : W.cell? ⟨w.heap.size, 2, none⟩ = some (.int .i64 c) := by rw [← hW]; simp [go_sem]
  have d0 : W.cell? ⟨w.heap.size + 1, 0, none⟩ = some (.int .i64 0) := by rw [← hW]; simp [go_sem]
  have d1 : W.cell? ⟨w.heap.size + 1, 1, none⟩ = some (.int .i64 0) := by rw [← hW]; simp [go_sem]
  have d2 : W.cell? ⟨w.heap.size + 1, 2, none⟩ = some (.int .i64 0) := by rw [← hW]; simp [go_sem]
  have d3 : W.cell? ⟨w.heap.size + 1, 3, none⟩ = some (.bool false) := by rw [← hW]; simp [go_sem]
  have f2 : ∀ j, W.frozen? ⟨w.heap.size + 1, j, none⟩ = false := fun j => by rw [← hW]; simp [go_sem]
  have HW := Aside0.mk hW
  clear hW
  go_region_held3 (fun w' => w'.cell? ⟨w.heap.size, 0, none⟩ = some (.int .i64 a) ∧ w'.cell? ⟨w.heap.size, 1, none⟩ = some (.int .i64 b) ∧ w'.cell? ⟨w.heap.size, 2, none⟩ = some (.int .i64 c)) (go_keep) (first | (go_at_call 10; ((with_reducible refine (pick_calls _ _ _ (by omega) (by omega) (by omega) (by omega)).mono ?_)); rintro e w_ ⟨rfl, rfl⟩))
  go_wp2
  refine bodyPost_ret (v := .agg #[.int .i64 (pickF a 400 - 200), .int .i64 (pickF b 20), .int .i64 (pickF c 9), .bool ban]) (by simp [results, Try.results11, go_sem, d0, d1, d2, d3]) rfl ⟨rfl, ?_⟩
  have B2 : Below w.heap.size w W := by rw [← HW.out]; exact (by repeat (with_reducible first | assumption | exact Below.refl _ _ | apply below_alloc | refine below_set ?_ (by first | omega | (simp; omega)) | apply pw_below_drewN | apply below_drew1))
  exact (by repeat (with_reducible first | assumption | exact Below.refl _ _ | apply below_alloc | refine below_set ?_ (by first | omega | (simp; omega)) | apply pw_below_drewN | apply below_drew1))
theorem ruleF_fits (n : Seven) : fitsB (ruleF n) = true := by
  have p1 := pickF_bd n.a 30 (by omega)
  have p2 := pickF_bd n.b 9 (by omega)
  have p3 := pickF_bd n.c 9 (by omega)
  have p4 := pickF_bd n.e 9 (by omega)
  have p5 := pickF_bd n.d (1 + pickF n.e 9 + 1) (by omega)
  have p6 := pickF_bd n.f 60 (by omega)
  have p7 := pickF_bd n.g 80 (by omega)
  rw [fits_iff]
  simp only [ruleF]
  omega
theorem scoreF_right (n : Three) (b : Bool) : rightB (scoreF n b) = true := by
  have p1 := pickF_bd n.a 400 (by omega)
  have p2 := pickF_bd n.b 20 (by omega)
  have p3 := pickF_bd n.c 9 (by omega)
  rw [right_iff]
  simp only [scoreF]
  omega
end Go.Proofs.Ytdhgneindanbeaa
