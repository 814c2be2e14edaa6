
/- The median of three words (chapter 3). -/
import Derived.Test.YtcgonhnfpnmlcaaLagMed
set_option linter.unusedVariables false
set_option linter.unusedSimpArgs false
namespace Go.Proofs.Ytcgonhnfpnmlcaa
open Go.RowKit Go.Proofs.YtcgonhnfpnmlcaaW.PrintWords Go.Proofs.YtcgonhnfpnmlcaaW.PrintLast Go.Proofs.YtcgonhnfpnmlcaaW.PrintMore

theorem less_t {x y : Nat} (h : rankF x < rankF y) : lessF x y = true := decide_eq_true h
theorem less_f {x y : Nat} (h : ¬ rankF x < rankF y) : lessF x y = false := decide_eq_false h
/-- Is the first one in the middle? -/
def midP (x y z : Nat) : Prop := ¬ (y < x ∧ z < x) ∧ ¬ (x < y ∧ x < z)
instance (x y z : Nat) : Decidable (midP x y z) := by unfold midP; infer_instance
def medF (a b c : Nat) : Nat := if midP (rankF a) (rankF b) (rankF c) then plainF a else if midP (rankF b) (rankF a) (rankF c) then plainF b else plainF c
theorem med_a {a b c : Nat} (h : midP (rankF a) (rankF b) (rankF c)) : medF a b c = plainF a := by unfold medF; rw [if_pos h]
theorem med_b {a b c : Nat} (h : ¬ midP (rankF a) (rankF b) (rankF c)) (h2 : midP (rankF b) (rankF a) (rankF c)) : medF a b c = plainF b := by unfold medF; rw [if_neg h, if_pos h2]
theorem med_c {a b c : Nat} (h : ¬ midP (rankF a) (rankF b) (rankF c)) (h2 : ¬ midP (rankF b) (rankF a) (rankF c)) : medF a b c = plainF c := by unfold medF; rw [if_neg h, if_neg h2]
set_option maxHeartbeats 4000000 in
theorem Median_calls (a b c : Nat) (ha : a < 18446744073709551616) (hb : b < 18446744073709551616) (hc : c < 18446744073709551616) (w : World) :
    Calls Try.prog 20 #[.int .u64 a, .int .u64 b, .int .u64 c] w fun e w' => e = .returned (.int .u64 (medF a b c)) ∧ Below w.heap.size w w' := by
  rcases Nat.lt_trichotomy (rankF a) (rankF b) with h1 | h1 | h1
  all_goals rcases Nat.lt_trichotomy (rankF b) (rankF c) with h2 | h2 | h2
  all_goals rcases Nat.lt_trichotomy (rankF a) (rankF c) with h3 | h3 | h3
  all_goals first
    | (exfalso; omega)
    | (have hm := med000 a b c ha hb hc (less_f (by omega)) (less_f (by omega)) (less_f (by omega)) (less_f (by omega)) (less_f (by omega)) (less_f (by omega)) w; rw [show medF a b c = plainF a from med_a (by unfold midP; omega)]; exact hm)
    | (have hm := med001 a b c ha hb hc (less_f (by omega)) (less_f (by omega)) (less_t (by omega)) (less_f (by omega)) (less_t (by omega)) (less_f (by omega)) w; rw [show medF a b c = plainF a from med_a (by unfold midP; omega)]; exact hm)
    | (have hm := med010 a b c ha hb hc (less_t (by omega)) (less_f (by omega)) (less_f (by omega)) (less_f (by omega)) (less_f (by omega)) (less_t (by omega)) w; rw [show medF a b c = plainF a from med_a (by unfold midP; omega)]; exact hm)
    | (have hm := med011 a b c ha hb hc (less_t (by omega)) (less_f (by omega)) (less_t (by omega)) (less_f (by omega)) (less_f (by omega)) (less_f (by omega)) w; rw [show medF a b c = plainF b from med_b (by unfold midP; omega) (by unfold midP; omega)]; exact hm)
    | (have hm := med012 a b c ha hb hc (less_t (by omega)) (less_f (by omega)) (less_t (by omega)) (less_f (by omega)) (less_t (by omega)) (less_f (by omega)) w; rw [show medF a b c = plainF b from med_b (by unfold midP; omega) (by unfold midP; omega)]; exact hm)
    | (have hm := med021 a b c ha hb hc (less_t (by omega)) (less_f (by omega)) (less_t (by omega)) (less_f (by omega)) (less_f (by omega)) (less_t (by omega)) w; rw [show medF a b c = plainF c from med_c (by unfold midP; omega) (by unfold midP; omega)]; exact hm)
    | (have hm := med100 a b c ha hb hc (less_f (by omega)) (less_t (by omega)) (less_f (by omega)) (less_t (by omega)) (less_f (by omega)) (less_f (by omega)) w; rw [show medF a b c = plainF b from med_b (by unfold midP; omega) (by unfold midP; omega)]; exact hm)
    | (have hm := med101 a b c ha hb hc (less_f (by omega)) (less_t (by omega)) (less_f (by omega)) (less_f (by omega)) (less_t (by omega)) (less_f (by omega)) w; rw [show medF a b c = plainF a from med_a (by unfold midP; omega)]; exact hm)
    | (have hm := med102 a b c ha hb hc (less_f (by omega)) (less_t (by omega)) (less_t (by omega)) (less_f (by omega)) (less_t (by omega)) (less_f (by omega)) w; rw [show medF a b c = plainF a from med_a (by unfold midP; omega)]; exact hm)
    | (have hm := med110 a b c ha hb hc (less_f (by omega)) (less_f (by omega)) (less_f (by omega)) (less_t (by omega)) (less_f (by omega)) (less_t (by omega)) w; rw [show medF a b c = plainF a from med_a (by unfold midP; omega)]; exact hm)
    | (have hm := med120 a b c ha hb hc (less_t (by omega)) (less_f (by omega)) (less_f (by omega)) (less_t (by omega)) (less_f (by omega)) (less_t (by omega)) w; rw [show medF a b c = plainF a from med_a (by unfold midP; omega)]; exact hm)
    | (have hm := med201 a b c ha hb hc (less_f (by omega)) (less_t (by omega)) (less_f (by omega)) (less_t (by omega)) (less_t (by omega)) (less_f (by omega)) w; rw [show medF a b c = plainF c from med_c (by unfold midP; omega) (by unfold midP; omega)]; exact hm)
    | (have hm := med210 a b c ha hb hc (less_f (by omega)) (less_t (by omega)) (less_f (by omega)) (less_t (by omega)) (less_f (by omega)) (less_t (by omega)) w; rw [show medF a b c = plainF b from med_b (by unfold midP; omega) (by unfold midP; omega)]; exact hm)
end Go.Proofs.Ytcgonhnfpnmlcaa
