
/- The median of three words (chapter 3), by the order of their ranks. -/
import Derived.WalkMore
import Derived.Test.YtcgonhnfpnmlcaaLagLess
set_option linter.unusedVariables false
set_option linter.unusedSimpArgs false
namespace Go.Proofs.Ytcgonhnfpnmlcaa
open Go.RowKit Go.Proofs.YtcgonhnfpnmlcaaW.PrintWords Go.Proofs.YtcgonhnfpnmlcaaW.PrintLast Go.Proofs.YtcgonhnfpnmlcaaW.PrintMore
attribute [local go_sem] max2_int min2_int max_two min_two

theorem Less_v (x y : Nat) (b : Bool) (hx : x < 18446744073709551616) (hy : y < 18446744073709551616) (w : World) (h : lessF x y = b) : Calls Try.prog 15 #[.int .u64 x, .int .u64 y] w fun e w' => e = .returned (.bool b) ∧ w = w' := h ▸ Less_calls x y hx hy w
theorem m0 (a b c : Value) (w : World) : (Instr.index 48 (.agg #[a, b, c]) (.int .i64 0)).run Try.prog w = .ok a w := by kernel_rfl
theorem m1 (a b c : Value) (w : World) : (Instr.index 48 (.agg #[a, b, c]) (.int .i64 1)).run Try.prog w = .ok b w := by kernel_rfl
theorem m2 (a b c : Value) (w : World) : (Instr.index 48 (.agg #[a, b, c]) (.int .i64 2)).run Try.prog w = .ok c w := by kernel_rfl

set_option maxRecDepth 100000 in
set_option maxHeartbeats 2000000 in
theorem med000 (a b c : Nat) (ha : a < 18446744073709551616) (hb : b < 18446744073709551616) (hc : c < 18446744073709551616) (hab : lessF a b = false) (hba : lessF b a = false) (hac : lessF a c = false) (hca : lessF c a = false) (hbc : lessF b c = false) (hcb : lessF c b = false) (w : World) :
    Calls Try.prog 20 #[.int .u64 a, .int .u64 b, .int .u64 c] w fun e w' => e = .returned (.int .u64 (plainF a)) ∧ Below w.heap.size w w' := by
  have Hab := Aside0.mk hab
  have Hba := Aside0.mk hba
  have Hac := Aside0.mk hac
  have Hca := Aside0.mk hca
  have Hbc := Aside0.mk hbc
  have Hcb := Aside0.mk hcb
  clear hab hba hac hca hbc hcb
  have i0 := m0
  have i1 := m1
  have i2 := m2
  go_enter Try.func20, Try.ntmps20
  go_wp2
  go_step3
  go_wp2
  go_step3
  go_wp2
  repeat (first | (rw [rounds_succ]; go_wp2_with (first | (go_at_call 15; ((with_reducible refine (Less_v a b false ha hb _ Hab.out).mono ?_)); rintro e w_ ⟨rfl, rfl⟩) | (go_at_call 15; ((with_reducible refine (Less_v b a false hb ha _ Hba.out).mono ?_)); rintro e w_ ⟨rfl, rfl⟩) | (go_at_call 15; ((with_reducible refine (Less_v a c false ha hc _ Hac.out).mono ?_)); rintro e w_ ⟨rfl, rfl⟩) | (go_at_call 15; ((with_reducible refine (Less_v c a false hc ha _ Hca.out).mono ?_)); rintro e w_ ⟨rfl, rfl⟩) | (go_at_call 15; ((with_reducible refine (Less_v b c false hb hc _ Hbc.out).mono ?_)); rintro e w_ ⟨rfl, rfl⟩) | (go_at_call 15; ((with_reducible refine (Less_v c b false hc hb _ Hcb.out).mono ?_)); rintro e w_ ⟨rfl, rfl⟩) | (go_at_call 13; ((with_reducible refine (Plain_calls a _).mono ?_)); rintro e w_ ⟨rfl, rfl⟩))) | (refine wp_loop_rounds 4 ?_))
  (try rw [Exit.noGoto_ret])
  go_ret
  exact ⟨rfl, below_alloc (Below.refl _ _) _⟩
set_option maxRecDepth 100000 in
set_option maxHeartbeats 2000000 in
theorem med001 (a b c : Nat) (ha : a < 18446744073709551616) (hb : b < 18446744073709551616) (hc : c < 18446744073709551616) (hab : lessF a b = false) (hba : lessF b a = false) (hac : lessF a c = true) (hca : lessF c a = false) (hbc : lessF b c = true) (hcb : lessF c b = false) (w : World) :
    Calls Try.prog 20 #[.int .u64 a, .int .u64 b, .int .u64 c] w fun e w' => e = .returned (.int .u64 (plainF a)) ∧ Below w.heap.size w w' := by
  have Hab := Aside0.mk hab
  have Hba := Aside0.mk hba
  have Hac := Aside0.mk hac
  have Hca := Aside0.mk hca
  have Hbc := Aside0.mk hbc
  have Hcb := Aside0.mk hcb
  clear hab hba hac hca hbc hcb
  have i0 := m0
  have i1 := m1
  have i2 := m2
  go_enter Try.func20, Try.ntmps20
  go_wp2
  go_step3
  go_wp2
  go_step3
  go_wp2
  repeat (first | (rw [rounds_succ]; go_wp2_with (first | (go_at_call 15; ((with_reducible refine (Less_v a b false ha hb _ Hab.out).mono ?_)); rintro e w_ ⟨rfl, rfl⟩) | (go_at_call 15; ((with_reducible refine (Less_v b a false hb ha _ Hba.out).mono ?_)); rintro e w_ ⟨rfl, rfl⟩) | (go_at_call 15; ((with_reducible refine (Less_v a c true ha hc _ Hac.out).mono ?_)); rintro e w_ ⟨rfl, rfl⟩) | (go_at_call 15; ((with_reducible refine (Less_v c a false hc ha _ Hca.out).mono ?_)); rintro e w_ ⟨rfl, rfl⟩) | (go_at_call 15; ((with_reducible refine (Less_v b c true hb hc _ Hbc.out).mono ?_)); rintro e w_ ⟨rfl, rfl⟩) | (go_at_call 15; ((with_reducible refine (Less_v c b false hc hb _ Hcb.out).mono ?_)); rintro e w_ ⟨rfl, rfl⟩) | (go_at_call 13; ((with_reducible refine (Plain_calls a _).mono ?_)); rintro e w_ ⟨rfl, rfl⟩))) | (refine wp_loop_rounds 4 ?_))
  (try rw [Exit.noGoto_ret])
  go_ret
  exact ⟨rfl, below_alloc (Below.refl _ _) _⟩
set_option maxRecDepth 100000 in
set_option maxHeartbeats 2000000 in
theorem med010 (a b c : Nat) (ha : a < 18446744073709551616) (hb : b < 18446744073709551616) (hc : c < 18446744073709551616) (hab : lessF a b = true) (hba : lessF b a = false) (hac : lessF a c = false) (hca : lessF c a = false) (hbc : lessF b c = false) (hcb : lessF c b = true) (w : World) :
    Calls Try.prog 20 #[.int .u64 a, .int .u64 b, .int .u64 c] w fun e w' => e = .returned (.int .u64 (plainF a)) ∧ Below w.heap.size w w' := by
  have Hab := Aside0.mk hab
  have Hba := Aside0.mk hba
  have Hac := Aside0.mk hac
  have Hca := Aside0.mk hca
  have Hbc := Aside0.mk hbc
  have Hcb := Aside0.mk hcb
  clear hab hba hac hca hbc hcb
  have i0 := m0
  have i1 := m1
  have i2 := m2
  go_enter Try.func20, Try.ntmps20
  go_wp2
  go_step3
  go_wp2
  go_step3
  go_wp2
  repeat (first | (rw [rounds_succ]; go_wp2_with (first | (go_at_call 15; ((with_reducible refine (Less_v a b true ha hb _ Hab.out).mono ?_)); rintro e w_ ⟨rfl, rfl⟩) | (go_at_call 15; ((with_reducible refine (Less_v b a false hb ha _ Hba.out).mono ?_)); rintro e w_ ⟨rfl, rfl⟩) | (go_at_call 15; ((with_reducible refine (Less_v a c false ha hc _ Hac.out).mono ?_)); rintro e w_ ⟨rfl, rfl⟩) | (go_at_call 15; ((with_reducible refine (Less_v c a false hc ha _ Hca.out).mono ?_)); rintro e w_ ⟨rfl, rfl⟩) | (go_at_call 15; ((with_reducible refine (Less_v b c false hb hc _ Hbc.out).mono ?_)); rintro e w_ ⟨rfl, rfl⟩) | (go_at_call 15; ((with_reducible refine (Less_v c b true hc hb _ Hcb.out).mono ?_)); rintro e w_ ⟨rfl, rfl⟩) | (go_at_call 13; ((with_reducible refine (Plain_calls a _).mono ?_)); rintro e w_ ⟨rfl, rfl⟩))) | (refine wp_loop_rounds 4 ?_))
  (try rw [Exit.noGoto_ret])
  go_ret
  exact ⟨rfl, below_alloc (Below.refl _ _) _⟩
set_option maxRecDepth 100000 in
set_option maxHeartbeats 2000000 in
theorem med011 (a b c : Nat) (ha : a < 18446744073709551616) (hb : b < 18446744073709551616) (hc : c < 18446744073709551616) (hab : lessF a b = true) (hba : lessF b a = false) (hac : lessF a c = true) (hca : lessF c a = false) (hbc : lessF b c = false) (hcb : lessF c b = false) (w : World) :
    Calls Try.prog 20 #[.int .u64 a, .int .u64 b, .int .u64 c] w fun e w' => e = .returned (.int .u64 (plainF b)) ∧ Below w.heap.size w w' := by
  have Hab := Aside0.mk hab
  have Hba := Aside0.mk hba
  have Hac := Aside0.mk hac
  have Hca := Aside0.mk hca
  have Hbc := Aside0.mk hbc
  have Hcb := Aside0.mk hcb
  clear hab hba hac hca hbc hcb
  have i0 := m0
  have i1 := m1
  have i2 := m2
  go_enter Try.func20, Try.ntmps20
  go_wp2
  go_step3
  go_wp2
  go_step3
  go_wp2
  repeat (first | (rw [rounds_succ]; go_wp2_with (first | (go_at_call 15; ((with_reducible refine (Less_v a b true ha hb _ Hab.out).mono ?_)); rintro e w_ ⟨rfl, rfl⟩) | (go_at_call 15; ((with_reducible refine (Less_v b a false hb ha _ Hba.out).mono ?_)); rintro e w_ ⟨rfl, rfl⟩) | (go_at_call 15; ((with_reducible refine (Less_v a c true ha hc _ Hac.out).mono ?_)); rintro e w_ ⟨rfl, rfl⟩) | (go_at_call 15; ((with_reducible refine (Less_v c a false hc ha _ Hca.out).mono ?_)); rintro e w_ ⟨rfl, rfl⟩) | (go_at_call 15; ((with_reducible refine (Less_v b c false hb hc _ Hbc.out).mono ?_)); rintro e w_ ⟨rfl, rfl⟩) | (go_at_call 15; ((with_reducible refine (Less_v c b false hc hb _ Hcb.out).mono ?_)); rintro e w_ ⟨rfl, rfl⟩) | (go_at_call 13; ((with_reducible refine (Plain_calls b _).mono ?_)); rintro e w_ ⟨rfl, rfl⟩))) | (refine wp_loop_rounds 4 ?_))
  (try rw [Exit.noGoto_ret])
  go_ret
  exact ⟨rfl, below_alloc (Below.refl _ _) _⟩
set_option maxRecDepth 100000 in
set_option maxHeartbeats 2000000 in
theorem med012 (a b c : Nat) (ha : a < 18446744073709551616) (hb : b < 18446744073709551616) (hc : c < 18446744073709551616) (hab : lessF a b = true) (hba : lessF b a = false) (hac : lessF a c = true) (hca : lessF c a = false) (hbc : lessF b c = true) (hcb : lessF c b = false) (w : World) :
    Calls Try.prog 20 #[.int .u64 a, .int .u64 b, .int .u64 c] w fun e w' => e = .returned (.int .u64 (plainF b)) ∧ Below w.heap.size w w' := by
  have Hab := Aside0.mk hab
  have Hba := Aside0.mk hba
  have Hac := Aside0.mk hac
  have Hca := Aside0.mk hca
  have Hbc := Aside0.mk hbc
  have Hcb := Aside0.mk hcb
  clear hab hba hac hca hbc hcb
  have i0 := m0
  have i1 := m1
  have i2 := m2
  go_enter Try.func20, Try.ntmps20
  go_wp2
  go_step3
  go_wp2
  go_step3
  go_wp2
  repeat (first | (rw [rounds_succ]; go_wp2_with (first | (go_at_call 15; ((with_reducible refine (Less_v a b true ha hb _ Hab.out).mono ?_)); rintro e w_ ⟨rfl, rfl⟩) | (go_at_call 15; ((with_reducible refine (Less_v b a false hb ha _ Hba.out).mono ?_)); rintro e w_ ⟨rfl, rfl⟩) | (go_at_call 15; ((with_reducible refine (Less_v a c true ha hc _ Hac.out).mono ?_)); rintro e w_ ⟨rfl, rfl⟩) | (go_at_call 15; ((with_reducible refine (Less_v c a false hc ha _ Hca.out).mono ?_)); rintro e w_ ⟨rfl, rfl⟩) | (go_at_call 15; ((with_reducible refine (Less_v b c true hb hc _ Hbc.out).mono ?_)); rintro e w_ ⟨rfl, rfl⟩) | (go_at_call 15; ((with_reducible refine (Less_v c b false hc hb _ Hcb.out).mono ?_)); rintro e w_ ⟨rfl, rfl⟩) | (go_at_call 13; ((with_reducible refine (Plain_calls b _).mono ?_)); rintro e w_ ⟨rfl, rfl⟩))) | (refine wp_loop_rounds 4 ?_))
  (try rw [Exit.noGoto_ret])
  go_ret
  exact ⟨rfl, below_alloc (Below.refl _ _) _⟩
set_option maxRecDepth 100000 in
set_option maxHeartbeats 2000000 in
theorem med021 (a b c : Nat) (ha : a < 18446744073709551616) (hb : b < 18446744073709551616) (hc : c < 18446744073709551616) (hab : lessF a b = true) (hba : lessF b a = false) (hac : lessF a c = true) (hca : lessF c a = false) (hbc : lessF b c = false) (hcb : lessF c b = true) (w : World) :
    Calls Try.prog 20 #[.int .u64 a, .int .u64 b, .int .u64 c] w fun e w' => e = .returned (.int .u64 (plainF c)) ∧ Below w.heap.size w w' := by
  have Hab := Aside0.mk hab
  have Hba := Aside0.mk hba
  have Hac := Aside0.mk hac
  have Hca := Aside0.mk hca
  have Hbc := Aside0.mk hbc
  have Hcb := Aside0.mk hcb
  clear hab hba hac hca hbc hcb
  have i0 := m0
  have i1 := m1
  have i2 := m2
  go_enter Try.func20, Try.ntmps20
  go_wp2
  go_step3
  go_wp2
  go_step3
  go_wp2
  repeat (first | (rw [rounds_succ]; go_wp2_with (first | (go_at_call 15; ((with_reducible refine (Less_v a b true ha hb _ Hab.out).mono ?_)); rintro e w_ ⟨rfl, rfl⟩) | (go_at_call 15; ((with_reducible refine (Less_v b a false hb ha _ Hba.out).mono ?_)); rintro e w_ ⟨rfl, rfl⟩) | (go_at_call 15; ((with_reducible refine (Less_v a c true ha hc _ Hac.out).mono ?_)); rintro e w_ ⟨rfl, rfl⟩) | (go_at_call 15; ((with_reducible refine (Less_v c a false hc ha _ Hca.out).mono ?_)); rintro e w_ ⟨rfl, rfl⟩) | (go_at_call 15; ((with_reducible refine (Less_v b c false hb hc _ Hbc.out).mono ?_)); rintro e w_ ⟨rfl, rfl⟩) | (go_at_call 15; ((with_reducible refine (Less_v c b true hc hb _ Hcb.out).mono ?_)); rintro e w_ ⟨rfl, rfl⟩) | (go_at_call 13; ((with_reducible refine (Plain_calls c _).mono ?_)); rintro e w_ ⟨rfl, rfl⟩))) | (refine wp_loop_rounds 4 ?_))
  (try rw [Exit.noGoto_ret])
  go_ret
  exact ⟨rfl, below_alloc (Below.refl _ _) _⟩
set_option maxRecDepth 100000 in
set_option maxHeartbeats 2000000 in
theorem med100 (a b c : Nat) (ha : a < 18446744073709551616) (hb : b < 18446744073709551616) (hc : c < 18446744073709551616) (hab : lessF a b = false) (hba : lessF b a = true) (hac : lessF a c = false) (hca : lessF c a = true) (hbc : lessF b c = false) (hcb : lessF c b = false) (w : World) :
    Calls Try.prog 20 #[.int .u64 a, .int .u64 b, .int .u64 c] w fun e w' => e = .returned (.int .u64 (plainF b)) ∧ Below w.heap.size w w' := by
  have Hab := Aside0.mk hab
  have Hba := Aside0.mk hba
  have Hac := Aside0.mk hac
  have Hca := Aside0.mk hca
  have Hbc := Aside0.mk hbc
  have Hcb := Aside0.mk hcb
  clear hab hba hac hca hbc hcb
  have i0 := m0
  have i1 := m1
  have i2 := m2
  go_enter Try.func20, Try.ntmps20
  go_wp2
  go_step3
  go_wp2
  go_step3
  go_wp2
  repeat (first | (rw [rounds_succ]; go_wp2_with (first | (go_at_call 15; ((with_reducible refine (Less_v a b false ha hb _ Hab.out).mono ?_)); rintro e w_ ⟨rfl, rfl⟩) | (go_at_call 15; ((with_reducible refine (Less_v b a true hb ha _ Hba.out).mono ?_)); rintro e w_ ⟨rfl, rfl⟩) | (go_at_call 15; ((with_reducible refine (Less_v a c false ha hc _ Hac.out).mono ?_)); rintro e w_ ⟨rfl, rfl⟩) | (go_at_call 15; ((with_reducible refine (Less_v c a true hc ha _ Hca.out).mono ?_)); rintro e w_ ⟨rfl, rfl⟩) | (go_at_call 15; ((with_reducible refine (Less_v b c false hb hc _ Hbc.out).mono ?_)); rintro e w_ ⟨rfl, rfl⟩) | (go_at_call 15; ((with_reducible refine (Less_v c b false hc hb _ Hcb.out).mono ?_)); rintro e w_ ⟨rfl, rfl⟩) | (go_at_call 13; ((with_reducible refine (Plain_calls b _).mono ?_)); rintro e w_ ⟨rfl, rfl⟩))) | (refine wp_loop_rounds 4 ?_))
  (try rw [Exit.noGoto_ret])
  go_ret
  exact ⟨rfl, below_alloc (Below.refl _ _) _⟩
set_option maxRecDepth 100000 in
set_option maxHeartbeats 2000000 in
theorem med101 (a b c : Nat) (ha : a < 18446744073709551616) (hb : b < 18446744073709551616) (hc : c < 18446744073709551616) (hab : lessF a b = false) (hba : lessF b a = true) (hac : lessF a c = false) (hca : lessF c a = false) (hbc : lessF b c = true) (hcb : lessF c b = false) (w : World) :
    Calls Try.prog 20 #[.int .u64 a, .int .u64 b, .int .u64 c] w fun e w' => e = .returned (.int .u64 (plainF a)) ∧ Below w.heap.size w w' := by
  have Hab := Aside0.mk hab
  have Hba := Aside0.mk hba
  have Hac := Aside0.mk hac
  have Hca := Aside0.mk hca
  have Hbc := Aside0.mk hbc
  have Hcb := Aside0.mk hcb
  clear hab hba hac hca hbc hcb
  have i0 := m0
  have i1 := m1
  have i2 := m2
  go_enter Try.func20, Try.ntmps20
  go_wp2
  go_step3
  go_wp2
  go_step3
  go_wp2
  repeat (first | (rw [rounds_succ]; go_wp2_with (first | (go_at_call 15; ((with_reducible refine (Less_v a b false ha hb _ Hab.out).mono ?_)); rintro e w_ ⟨rfl, rfl⟩) | (go_at_call 15; ((with_reducible refine (Less_v b a true hb ha _ Hba.out).mono ?_)); rintro e w_ ⟨rfl, rfl⟩) | (go_at_call 15; ((with_reducible refine (Less_v a c false ha hc _ Hac.out).mono ?_)); rintro e w_ ⟨rfl, rfl⟩) | (go_at_call 15; ((with_reducible refine (Less_v c a false hc ha _ Hca.out).mono ?_)); rintro e w_ ⟨rfl, rfl⟩) | (go_at_call 15; ((with_reducible refine (Less_v b c true hb hc _ Hbc.out).mono ?_)); rintro e w_ ⟨rfl, rfl⟩) | (go_at_call 15; ((with_reducible refine (Less_v c b false hc hb _ Hcb.out).mono ?_)); rintro e w_ ⟨rfl, rfl⟩) | (go_at_call 13; ((with_reducible refine (Plain_calls a _).mono ?_)); rintro e w_ ⟨rfl, rfl⟩))) | (refine wp_loop_rounds 4 ?_))
  (try rw [Exit.noGoto_ret])
  go_ret
  exact ⟨rfl, below_alloc (Below.refl _ _) _⟩
set_option maxRecDepth 100000 in
set_option maxHeartbeats 2000000 in
theorem med102 (a b c : Nat) (ha : a < 18446744073709551616) (hb : b < 18446744073709551616) (hc : c < 18446744073709551616) (hab : lessF a b = false) (hba : lessF b a = true) (hac : lessF a c = true) (hca : lessF c a = false) (hbc : lessF b c = true) (hcb : lessF c b = false) (w : World) :
    Calls Try.prog 20 #[.int .u64 a, .int .u64 b, .int .u64 c] w fun e w' => e = .returned (.int .u64 (plainF a)) ∧ Below w.heap.size w w' := by
  have Hab := Aside0.mk hab
  have Hba := Aside0.mk hba
  have Hac := Aside0.mk hac
  have Hca := Aside0.mk hca
  have Hbc := Aside0.mk hbc
  have Hcb := Aside0.mk hcb
  clear hab hba hac hca hbc hcb
  have i0 := m0
  have i1 := m1
  have i2 := m2
  go_enter Try.func20, Try.ntmps20
  go_wp2
  go_step3
  go_wp2
  go_step3
  go_wp2
  repeat (first | (rw [rounds_succ]; go_wp2_with (first | (go_at_call 15; ((with_reducible refine (Less_v a b false ha hb _ Hab.out).mono ?_)); rintro e w_ ⟨rfl, rfl⟩) | (go_at_call 15; ((with_reducible refine (Less_v b a true hb ha _ Hba.out).mono ?_)); rintro e w_ ⟨rfl, rfl⟩) | (go_at_call 15; ((with_reducible refine (Less_v a c true ha hc _ Hac.out).mono ?_)); rintro e w_ ⟨rfl, rfl⟩) | (go_at_call 15; ((with_reducible refine (Less_v c a false hc ha _ Hca.out).mono ?_)); rintro e w_ ⟨rfl, rfl⟩) | (go_at_call 15; ((with_reducible refine (Less_v b c true hb hc _ Hbc.out).mono ?_)); rintro e w_ ⟨rfl, rfl⟩) | (go_at_call 15; ((with_reducible refine (Less_v c b false hc hb _ Hcb.out).mono ?_)); rintro e w_ ⟨rfl, rfl⟩) | (go_at_call 13; ((with_reducible refine (Plain_calls a _).mono ?_)); rintro e w_ ⟨rfl, rfl⟩))) | (refine wp_loop_rounds 4 ?_))
  (try rw [Exit.noGoto_ret])
  go_ret
  exact ⟨rfl, below_alloc (Below.refl _ _) _⟩
set_option maxRecDepth 100000 in
set_option maxHeartbeats 2000000 in
theorem med110 (a b c : Nat) (ha : a < 18446744073709551616) (hb : b < 18446744073709551616) (hc : c < 18446744073709551616) (hab : lessF a b = false) (hba : lessF b a = false) (hac : lessF a c = false) (hca : lessF c a = true) (hbc : lessF b c = false) (hcb : lessF c b = true) (w : World) :
    Calls Try.prog 20 #[.int .u64 a, .int .u64 b, .int .u64 c] w fun e w' => e = .returned (.int .u64 (plainF a)) ∧ Below w.heap.size w w' := by
  have Hab := Aside0.mk hab
  have Hba := Aside0.mk hba
  have Hac := Aside0.mk hac
  have Hca := Aside0.mk hca
  have Hbc := Aside0.mk hbc
  have Hcb := Aside0.mk hcb
  clear hab hba hac hca hbc hcb
  have i0 := m0
  have i1 := m1
  have i2 := m2
  go_enter Try.func20, Try.ntmps20
  go_wp2
  go_step3
  go_wp2
  go_step3
  go_wp2
  repeat (first | (rw [rounds_succ]; go_wp2_with (first | (go_at_call 15; ((with_reducible refine (Less_v a b false ha hb _ Hab.out).mono ?_)); rintro e w_ ⟨rfl, rfl⟩) | (go_at_call 15; ((with_reducible refine (Less_v b a false hb ha _ Hba.out).mono ?_)); rintro e w_ ⟨rfl, rfl⟩) | (go_at_call 15; ((with_reducible refine (Less_v a c false ha hc _ Hac.out).mono ?_)); rintro e w_ ⟨rfl, rfl⟩) | (go_at_call 15; ((with_reducible refine (Less_v c a true hc ha _ Hca.out).mono ?_)); rintro e w_ ⟨rfl, rfl⟩) | (go_at_call 15; ((with_reducible refine (Less_v b c false hb hc _ Hbc.out).mono ?_)); rintro e w_ ⟨rfl, rfl⟩) | (go_at_call 15; ((with_reducible refine (Less_v c b true hc hb _ Hcb.out).mono ?_)); rintro e w_ ⟨rfl, rfl⟩) | (go_at_call 13; ((with_reducible refine (Plain_calls a _).mono ?_)); rintro e w_ ⟨rfl, rfl⟩))) | (refine wp_loop_rounds 4 ?_))
  (try rw [Exit.noGoto_ret])
  go_ret
  exact ⟨rfl, below_alloc (Below.refl _ _) _⟩
set_option maxRecDepth 100000 in
set_option maxHeartbeats 2000000 in
theorem med120 (a b c : Nat) (ha : a < 18446744073709551616) (hb : b < 18446744073709551616) (hc : c < 18446744073709551616) (hab : lessF a b = true) (hba : lessF b a = false) (hac : lessF a c = false) (hca : lessF c a = true) (hbc : lessF b c = false) (hcb : lessF c b = true) (w : World) :
    Calls Try.prog 20 #[.int .u64 a, .int .u64 b, .int .u64 c] w fun e w' => e = .returned (.int .u64 (plainF a)) ∧ Below w.heap.size w w' := by
  have Hab := Aside0.mk hab
  have Hba := Aside0.mk hba
  have Hac := Aside0.mk hac
  have Hca := Aside0.mk hca
  have Hbc := Aside0.mk hbc
  have Hcb := Aside0.mk hcb
  clear hab hba hac hca hbc hcb
  have i0 := m0
  have i1 := m1
  have i2 := m2
  go_enter Try.func20, Try.ntmps20
  go_wp2
  go_step3
  go_wp2
  go_step3
  go_wp2
  repeat (first | (rw [rounds_succ]; go_wp2_with (first | (go_at_call 15; ((with_reducible refine (Less_v a b true ha hb _ Hab.out).mono ?_)); rintro e w_ ⟨rfl, rfl⟩) | (go_at_call 15; ((with_reducible refine (Less_v b a false hb ha _ Hba.out).mono ?_)); rintro e w_ ⟨rfl, rfl⟩) | (go_at_call 15; ((with_reducible refine (Less_v a c false ha hc _ Hac.out).mono ?_)); rintro e w_ ⟨rfl, rfl⟩) | (go_at_call 15; ((with_reducible refine (Less_v c a true hc ha _ Hca.out).mono ?_)); rintro e w_ ⟨rfl, rfl⟩) | (go_at_call 15; ((with_reducible refine (Less_v b c false hb hc _ Hbc.out).mono ?_)); rintro e w_ ⟨rfl, rfl⟩) | (go_at_call 15; ((with_reducible refine (Less_v c b true hc hb _ Hcb.out).mono ?_)); rintro e w_ ⟨rfl, rfl⟩) | (go_at_call 13; ((with_reducible refine (Plain_calls a _).mono ?_)); rintro e w_ ⟨rfl, rfl⟩))) | (refine wp_loop_rounds 4 ?_))
  (try rw [Exit.noGoto_ret])
  go_ret
  exact ⟨rfl, below_alloc (Below.refl _ _) _⟩
set_option maxRecDepth 100000 in
set_option maxHeartbeats 2000000 in
theorem med201 (a b c : Nat) (ha : a < 18446744073709551616) (hb : b < 18446744073709551616) (hc : c < 18446744073709551616) (hab : lessF a b = false) (hba : lessF b a = true) (hac : lessF a c = false) (hca : lessF c a = true) (hbc : lessF b c = true) (hcb : lessF c b = false) (w : World) :
    Calls Try.prog 20 #[.int .u64 a, .int .u64 b, .int .u64 c] w fun e w' => e = .returned (.int .u64 (plainF c)) ∧ Below w.heap.size w w' := by
  have Hab := Aside0.mk hab
  have Hba := Aside0.mk hba
  have Hac := Aside0.mk hac
  have Hca := Aside0.mk hca
  have Hbc := Aside0.mk hbc
  have Hcb := Aside0.mk hcb
  clear hab hba hac hca hbc hcb
  have i0 := m0
  have i1 := m1
  have i2 := m2
  go_enter Try.func20, Try.ntmps20
  go_wp2
  go_step3
  go_wp2
  go_step3
  go_wp2
  repeat (first | (rw [rounds_succ]; go_wp2_with (first | (go_at_call 15; ((with_reducible refine (Less_v a b false ha hb _ Hab.out).mono ?_)); rintro e w_ ⟨rfl, rfl⟩) | (go_at_call 15; ((with_reducible refine (Less_v b a true hb ha _ Hba.out).mono ?_)); rintro e w_ ⟨rfl, rfl⟩) | (go_at_call 15; ((with_reducible refine (Less_v a c false ha hc _ Hac.out).mono ?_)); rintro e w_ ⟨rfl, rfl⟩) | (go_at_call 15; ((with_reducible refine (Less_v c a true hc ha _ Hca.out).mono ?_)); rintro e w_ ⟨rfl, rfl⟩) | (go_at_call 15; ((with_reducible refine (Less_v b c true hb hc _ Hbc.out).mono ?_)); rintro e w_ ⟨rfl, rfl⟩) | (go_at_call 15; ((with_reducible refine (Less_v c b false hc hb _ Hcb.out).mono ?_)); rintro e w_ ⟨rfl, rfl⟩) | (go_at_call 13; ((with_reducible refine (Plain_calls c _).mono ?_)); rintro e w_ ⟨rfl, rfl⟩))) | (refine wp_loop_rounds 4 ?_))
  (try rw [Exit.noGoto_ret])
  go_ret
  exact ⟨rfl, below_alloc (Below.refl _ _) _⟩
set_option maxRecDepth 100000 in
set_option maxHeartbeats 2000000 in
theorem med210 (a b c : Nat) (ha : a < 18446744073709551616) (hb : b < 18446744073709551616) (hc : c < 18446744073709551616) (hab : lessF a b = false) (hba : lessF b a = true) (hac : lessF a c = false) (hca : lessF c a = true) (hbc : lessF b c = false) (hcb : lessF c b = true) (w : World) :
    Calls Try.prog 20 #[.int .u64 a, .int .u64 b, .int .u64 c] w fun e w' => e = .returned (.int .u64 (plainF b)) ∧ Below w.heap.size w w' := by
  have Hab := Aside0.mk hab
  have Hba := Aside0.mk hba
  have Hac := Aside0.mk hac
  have Hca := Aside0.mk hca
  have Hbc := Aside0.mk hbc
  have Hcb := Aside0.mk hcb
  clear hab hba hac hca hbc hcb
  have i0 := m0
  have i1 := m1
  have i2 := m2
  go_enter Try.func20, Try.ntmps20
  go_wp2
  go_step3
  go_wp2
  go_step3
  go_wp2
  repeat (first | (rw [rounds_succ]; go_wp2_with (first | (go_at_call 15; ((with_reducible refine (Less_v a b false ha hb _ Hab.out).mono ?_)); rintro e w_ ⟨rfl, rfl⟩) | (go_at_call 15; ((with_reducible refine (Less_v b a true hb ha _ Hba.out).mono ?_)); rintro e w_ ⟨rfl, rfl⟩) | (go_at_call 15; ((with_reducible refine (Less_v a c false ha hc _ Hac.out).mono ?_)); rintro e w_ ⟨rfl, rfl⟩) | (go_at_call 15; ((with_reducible refine (Less_v c a true hc ha _ Hca.out).mono ?_)); rintro e w_ ⟨rfl, rfl⟩) | (go_at_call 15; ((with_reducible refine (Less_v b c false hb hc _ Hbc.out).mono ?_)); rintro e w_ ⟨rfl, rfl⟩) | (go_at_call 15; ((with_reducible refine (Less_v c b true hc hb _ Hcb.out).mono ?_)); rintro e w_ ⟨rfl, rfl⟩) | (go_at_call 13; ((with_reducible refine (Plain_calls b _).mono ?_)); rintro e w_ ⟨rfl, rfl⟩))) | (refine wp_loop_rounds 4 ?_))
  (try rw [Exit.noGoto_ret])
  go_ret
  exact ⟨rfl, below_alloc (Below.refl _ _) _⟩
end Go.Proofs.Ytcgonhnfpnmlcaa
