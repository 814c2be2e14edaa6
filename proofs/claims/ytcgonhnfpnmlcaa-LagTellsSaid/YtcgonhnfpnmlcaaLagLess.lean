
/- Which float is less (chapter 3). -/
import Derived.Test.YtcgonhnfpnmlcaaFloatRank
set_option linter.unusedVariables false
set_option linter.unusedSimpArgs false
namespace Go.Proofs.Ytcgonhnfpnmlcaa
open Go.RowKit Go.Proofs.YtcgonhnfpnmlcaaW.PrintWords Go.Proofs.YtcgonhnfpnmlcaaW.PrintLast Go.Proofs.YtcgonhnfpnmlcaaW.PrintMore

theorem order_nan_l (x y : Nat) (h : 9218868437227405312 < x % 9223372036854775808) : Ieee.double.order x y = none := by
  unfold Ieee.Format.order
  rcases read_cases x with ⟨h1, s, e⟩ | ⟨h1, h2, s, m, p, hm, e⟩ | ⟨h1, s, e⟩ | ⟨h1, s, f, e⟩
  · omega
  · omega
  · omega
  · rw [e]
    cases Ieee.double.read y <;> rfl
theorem order_nan_r (x y : Nat) (h : 9218868437227405312 < y % 9223372036854775808) : Ieee.double.order x y = none := by
  unfold Ieee.Format.order
  rcases read_cases y with ⟨h1, s, e⟩ | ⟨h1, h2, s, m, p, hm, e⟩ | ⟨h1, s, e⟩ | ⟨h1, s, f, e⟩
  · omega
  · omega
  · omega
  · rw [e]
    cases Ieee.double.read x <;> rfl
theorem rank_nan (x : Nat) (h : 9218868437227405312 < x % 9223372036854775808) : rankF x = 18444492273895866369 := by
  unfold rankF plainF
  rw [if_pos h]
  decide
theorem rank_lt (x : Nat) (hx : x < 18446744073709551616) (h : x % 9223372036854775808 ≤ 9218868437227405312) : rankF x < 18444492273895866369 := by
  have hp : plainF x = if x % 9223372036854775808 = 0 then 0 else x := by
    unfold plainF
    rw [if_neg (show ¬ 9218868437227405312 < x % 9223372036854775808 by omega)]
  unfold rankF
  rw [hp]
  (repeat' split) <;> omega
theorem rank_max (x : Nat) (hx : x < 18446744073709551616) : rankF x ≤ 18444492273895866369 := by
  rcases Nat.lt_or_ge 9218868437227405312 (x % 9223372036854775808) with h | h
  · rw [rank_nan x h]; omega
  · exact Nat.le_of_lt (rank_lt x hx h)
/-- Less, by the document's rank. -/
def lessF (x y : Nat) : Bool := decide (rankF x < rankF y)
theorem less_nn (x y : Nat) (hx : x < 18446744073709551616) (hy : y < 18446744073709551616) (h1 : x % 9223372036854775808 ≤ 9218868437227405312) (h2 : y % 9223372036854775808 ≤ 9218868437227405312) : (Ieee.double.order x y == some .lt) = lessF x y := by
  rw [order_val x y h1 h2]
  unfold lessF
  rw [Bool.eq_iff_iff]
  simp only [beq_iff_eq, Option.some.injEq, Int.compare_eq_lt, decide_eq_true_eq]
  exact val_rank x y hx hy h1 h2
theorem less_xn (x y : Nat) (hx : x < 18446744073709551616) (h1 : x % 9223372036854775808 ≤ 9218868437227405312) (h2 : 9218868437227405312 < y % 9223372036854775808) : lessF x y = true := by
  unfold lessF
  rw [rank_nan y h2]
  exact decide_eq_true (rank_lt x hx h1)
theorem less_nx (x y : Nat) (hy : y < 18446744073709551616) (h1 : 9218868437227405312 < x % 9223372036854775808) : lessF x y = false := by
  unfold lessF
  rw [rank_nan x h1]
  have := rank_max y hy
  exact decide_eq_false (by omega)
theorem isNaN_v (x : Nat) (b : Bool) (w : World) (h : decide (9218868437227405312 < x % 9223372036854775808) = b) : Calls Try.prog 25 #[.float .f64 x] w fun e w' => e = .returned (.bool b) ∧ w = w' := h ▸ isNaN_calls x w
set_option maxHeartbeats 1000000 in
theorem Less_calls (x y : Nat) (hx : x < 18446744073709551616) (hy : y < 18446744073709551616) (w : World) : Calls Try.prog 15 #[.int .u64 x, .int .u64 y] w fun e w' => e = .returned (.bool (lessF x y)) ∧ w = w' := by
  have hfx := frombits_run x
  have hfy := frombits_run y
  rcases Nat.lt_or_ge 9218868437227405312 (x % 9223372036854775808) with h1 | h1
  · rw [less_nx x y hy h1]
    have ho : (FloatKind.f64.format.order x y == some Ordering.lt) = false := by
      show (Ieee.double.order x y == some Ordering.lt) = false
      rw [order_nan_l x y h1]; rfl
    have HX := Aside0.mk (decide_eq_true h1)
    clear h1
    go_enter Try.func15, Try.ntmps15
    go_wp2_with (go_at_call 25; ((with_reducible refine (isNaN_v x true _ HX.out).mono ?_)); rintro e w_ ⟨rfl, rfl⟩)
    go_ret
    exact ⟨rfl, rfl⟩
  · rcases Nat.lt_or_ge 9218868437227405312 (y % 9223372036854775808) with h2 | h2
    · rw [less_xn x y hx h1 h2]
      have ho : (FloatKind.f64.format.order x y == some Ordering.lt) = false := by
        show (Ieee.double.order x y == some Ordering.lt) = false
        rw [order_nan_r x y h2]; rfl
      have HX := Aside0.mk (show decide (9218868437227405312 < x % 9223372036854775808) = false from decide_eq_false (by omega))
      have HY := Aside0.mk (show decide (9218868437227405312 < y % 9223372036854775808) = true from decide_eq_true h2)
      clear h1 h2
      go_enter Try.func15, Try.ntmps15
      go_wp2_with (first
        | (go_at_call 25; ((with_reducible refine (isNaN_v x false _ HX.out).mono ?_)); rintro e w_ ⟨rfl, rfl⟩)
        | (go_at_call 25; ((with_reducible refine (isNaN_v y true _ HY.out).mono ?_)); rintro e w_ ⟨rfl, rfl⟩))
      go_ret
      exact ⟨rfl, rfl⟩
    · have ho : (FloatKind.f64.format.order x y == some Ordering.lt) = lessF x y := less_nn x y hx hy h1 h2
      have HX := Aside0.mk (show decide (9218868437227405312 < x % 9223372036854775808) = false from decide_eq_false (by omega))
      have HY := Aside0.mk (show decide (9218868437227405312 < y % 9223372036854775808) = false from decide_eq_false (by omega))
      clear h1 h2
      generalize lessF x y = b at *
      cases b
      all_goals
        go_enter Try.func15, Try.ntmps15
        go_wp2_with (first
          | (go_at_call 25; ((with_reducible refine (isNaN_v x false _ HX.out).mono ?_)); rintro e w_ ⟨rfl, rfl⟩)
          | (go_at_call 25; ((with_reducible refine (isNaN_v y false _ HY.out).mono ?_)); rintro e w_ ⟨rfl, rfl⟩))
        go_ret
        exact ⟨rfl, rfl⟩
end Go.Proofs.Ytcgonhnfpnmlcaa
