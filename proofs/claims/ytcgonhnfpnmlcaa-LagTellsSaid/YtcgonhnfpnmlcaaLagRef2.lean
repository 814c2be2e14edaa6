
/- What the document's own answer (mootbellref03) tells of the order and of medians. -/
import Derived.Test.YtcgonhnfpnmlcaaLagRef
set_option linter.unusedVariables false
set_option linter.unusedSimpArgs false
namespace Go.Proofs.Ytcgonhnfpnmlcaa
open Go.RowKit Go.Proofs.YtcgonhnfpnmlcaaW.PrintWords Go.Proofs.YtcgonhnfpnmlcaaW.PrintLast Go.Proofs.YtcgonhnfpnmlcaaW.PrintMore
attribute [local go_sem] max2_int min2_int max_two min_two

theorem RLess_calls (x y : Nat) (hx : x < 18446744073709551616) (hy : y < 18446744073709551616) (w : World) : Calls Try.prog 16 #[.int .u64 x, .int .u64 y] w fun e w' => e = .returned (.bool (lessF x y)) ∧ w = w' := by
  have H1 := Aside0.mk (fun w => rank_calls x hx w)
  have H2 := Aside0.mk (fun w => rank_calls y hy w)
  unfold lessF
  generalize rankF x = p at *
  generalize rankF y = q at *
  rcases Nat.lt_or_ge p q with h | h
  · rw [decide_eq_true h]
    have hi : (p : Int) < (q : Int) := by omega
    clear h hx hy
    go_enter Try.func16, Try.ntmps16
    go_wp2_with (go_at_call 28; first | ((with_reducible refine (H1.out _).mono ?_); rintro e w_ ⟨rfl, rfl⟩) | ((with_reducible refine (H2.out _).mono ?_); rintro e w_ ⟨rfl, rfl⟩))
    go_ret
    exact ⟨ret_bool (by first | rfl | (simp; omega)), rfl⟩
  · rw [decide_eq_false (show ¬ p < q by omega)]
    have hi : ¬ (p : Int) < (q : Int) := by omega
    clear h hx hy
    go_enter Try.func16, Try.ntmps16
    go_wp2_with (go_at_call 28; first | ((with_reducible refine (H1.out _).mono ?_); rintro e w_ ⟨rfl, rfl⟩) | ((with_reducible refine (H2.out _).mono ?_); rintro e w_ ⟨rfl, rfl⟩))
    go_ret
    exact ⟨ret_bool (by first | rfl | (simp; omega)), rfl⟩
/-- The document's middle rank. -/
def refM (x y z : Nat) : Nat := max (min x y) (min (max x y) z)
def refMed (a b c : Nat) : Nat := if refM (rankF a) (rankF b) (rankF c) = rankF a then plainF a else if refM (rankF a) (rankF b) (rankF c) = rankF b then plainF b else plainF c
theorem refMed_eq (a b c : Nat) (ha : a < 18446744073709551616) (hb : b < 18446744073709551616) (hc : c < 18446744073709551616) : refMed a b c = medF a b c := by
  unfold refMed medF
  have key : ∀ x y z : Nat, (midP x y z ↔ refM x y z = x) ∧ (refM x y z = x ∨ refM x y z = y ∨ refM x y z = z) ∧ (¬ midP x y z → (midP y x z ↔ refM x y z = y)) := by
    intro x y z
    unfold midP refM
    omega
  obtain ⟨k1, k2, k3⟩ := key (rankF a) (rankF b) (rankF c)
  by_cases h1 : midP (rankF a) (rankF b) (rankF c)
  · rw [if_pos h1, if_pos (k1.1 h1)]
  · rw [if_neg h1, if_neg (fun h => h1 (k1.2 h))]
    by_cases h2 : midP (rankF b) (rankF a) (rankF c)
    · rw [if_pos h2, if_pos ((k3 h1).1 h2)]
    · rw [if_neg h2, if_neg (fun h => h2 ((k3 h1).2 h))]
set_option maxHeartbeats 1000000 in
theorem RMedian_calls (a b c : Nat) (ha : a < 18446744073709551616) (hb : b < 18446744073709551616) (hc : c < 18446744073709551616) (w : World) : Calls Try.prog 21 #[.int .u64 a, .int .u64 b, .int .u64 c] w fun e w' => e = .returned (.int .u64 (medF a b c)) ∧ w = w' := by
  rw [← refMed_eq a b c ha hb hc]
  have H1 := Aside0.mk (fun w => rank_calls a ha w)
  have H2 := Aside0.mk (fun w => rank_calls b hb w)
  have H3 := Aside0.mk (fun w => rank_calls c hc w)
  have P1 := Aside0.mk (fun w => RPlain_calls a ha w)
  have P2 := Aside0.mk (fun w => RPlain_calls b hb w)
  have P3 := Aside0.mk (fun w => RPlain_calls c hc w)
  unfold refMed
  generalize plainF a = pa at *
  generalize plainF b = pb at *
  generalize plainF c = pc at *
  generalize rankF a = x at *
  generalize rankF b = y at *
  generalize rankF c = z at *
  obtain ⟨mn, d1⟩ : ∃ mn : Nat, (if y < x then y else x) = mn := ⟨_, rfl⟩
  obtain ⟨mx, d2⟩ : ∃ mx : Nat, (if x < y then y else x) = mx := ⟨_, rfl⟩
  obtain ⟨mm, d3⟩ : ∃ mm : Nat, (if z < mx then z else mx) = mm := ⟨_, rfl⟩
  have e1 : (if y < x then (y : Int) else (x : Int)) = (mn : Int) := by rw [← d1]; split <;> rfl
  have e2 : (if x < y then (y : Int) else (x : Int)) = (mx : Int) := by rw [← d2]; split <;> rfl
  have e3 : (if z < mx then (z : Int) else (mx : Int)) = (mm : Int) := by rw [← d3]; split <;> rfl
  have e4 : (if mn < mm then (mm : Int) else (mn : Int)) = ((refM x y z : Nat) : Int) := by
    subst d1 d2 d3
    unfold refM
    (repeat' split) <;> omega
  clear d1 d2 d3
  generalize refM x y z = M at *
  clear ha hb hc
  by_cases h1 : M = x
  · rw [if_pos h1]
    have hi : ((M : Int) == x) = true := by rw [h1]; simp
    clear h1
    go_enter Try.func21, Try.ntmps21
    go_wp2_with (first | (go_at_call 28; first | ((with_reducible refine (H1.out _).mono ?_); rintro e w_ ⟨rfl, rfl⟩) | ((with_reducible refine (H2.out _).mono ?_); rintro e w_ ⟨rfl, rfl⟩) | ((with_reducible refine (H3.out _).mono ?_); rintro e w_ ⟨rfl, rfl⟩)) | (go_at_call 14; ((with_reducible refine (P1.out _).mono ?_); rintro e w_ ⟨rfl, rfl⟩)))
    go_ret
    exact ⟨rfl, rfl⟩
  · rw [if_neg h1]
    have hi : ((M : Int) == x) = false := by rw [beq_eq_false_iff_ne]; omega
    clear h1
    by_cases h2 : M = y
    · rw [if_pos h2]
      have hj : ((M : Int) == y) = true := by rw [h2]; simp
      clear h2
      go_enter Try.func21, Try.ntmps21
      go_wp2_with (first | (go_at_call 28; first | ((with_reducible refine (H1.out _).mono ?_); rintro e w_ ⟨rfl, rfl⟩) | ((with_reducible refine (H2.out _).mono ?_); rintro e w_ ⟨rfl, rfl⟩) | ((with_reducible refine (H3.out _).mono ?_); rintro e w_ ⟨rfl, rfl⟩)) | (go_at_call 14; ((with_reducible refine (P2.out _).mono ?_); rintro e w_ ⟨rfl, rfl⟩)))
      go_ret
      exact ⟨rfl, rfl⟩
    · rw [if_neg h2]
      have hj : ((M : Int) == y) = false := by rw [beq_eq_false_iff_ne]; omega
      clear h2
      go_enter Try.func21, Try.ntmps21
      go_wp2_with (first | (go_at_call 28; first | ((with_reducible refine (H1.out _).mono ?_); rintro e w_ ⟨rfl, rfl⟩) | ((with_reducible refine (H2.out _).mono ?_); rintro e w_ ⟨rfl, rfl⟩) | ((with_reducible refine (H3.out _).mono ?_); rintro e w_ ⟨rfl, rfl⟩)) | (go_at_call 14; ((with_reducible refine (P3.out _).mono ?_); rintro e w_ ⟨rfl, rfl⟩)))
      go_ret
      exact ⟨rfl, rfl⟩
end Go.Proofs.Ytcgonhnfpnmlcaa
