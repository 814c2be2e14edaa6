
/- LagOrder: for every input the call of the statement returns true and leaves its arguments as they were. Conditions: none beyond the row's own. -/
import Derived.Test.YtcgonhnfpnmlcaaShellG
import Derived.Test.YtcgonhnfpnmlcaaLagAwake
set_option linter.unusedVariables false
set_option linter.unusedSimpArgs false
namespace Go.Proofs.Ytcgonhnfpnmlcaa
open Go.RowKit Go.Proofs.YtcgonhnfpnmlcaaW.PrintWords Go.Proofs.YtcgonhnfpnmlcaaW.PrintLast Go.Proofs.YtcgonhnfpnmlcaaW.PrintMore
open Go.ChangeShapes Go.WideShapes Go.ChangeAt
open Go.ChangeMaps (open_string shut_string)

theorem plain_plain (x : Nat) : plainF (plainF x) = plainF x := by
  unfold plainF
  (repeat' split) <;> omega
theorem plain_bd (x : Nat) (hx : x < 18446744073709551616) : plainF x < 18446744073709551616 := by
  unfold plainF
  (repeat' split) <;> omega
theorem rank_plain (x : Nat) : rankF (plainF x) = rankF x := by
  unfold rankF
  rw [plain_plain]
theorem rank_inj (x y : Nat) (hx : x < 18446744073709551616) (hy : y < 18446744073709551616) (h : rankF x = rankF y) : plainF x = plainF y := by
  have a := plain_bd x hx
  have b := plain_bd y hy
  unfold rankF at h
  generalize plainF x = p at *
  generalize plainF y = q at *
  revert h
  (repeat' split) <;> omega
theorem rank_low (x : Nat) (hx : x < 18446744073709551616) : 4503599627370495 ≤ rankF x := by
  unfold rankF plainF
  (repeat' split) <;> omega
theorem PlainC (x y : Nat) (w : World) (h : plainF x = y) : Calls Try.prog 13 #[.int .u64 x] w fun e w' => e = .returned (.int .u64 y) ∧ w = w' := h ▸ Plain_calls x w
theorem LessNaN (x : Nat) (hx : x < 18446744073709551616) (w : World) : Calls Try.prog 15 #[.int .u64 9221120237041090561, .int .u64 x] w fun e w' => e = .returned (.bool false) ∧ w = w' :=
  Less_v 9221120237041090561 x false (by decide) hx w (less_nx _ x hx (by decide))
theorem LessLow (x : Nat) (hx : x < 18446744073709551616) (w : World) : Calls Try.prog 15 #[.int .u64 x, .int .u64 18442240474082181120] w fun e w' => e = .returned (.bool false) ∧ w = w' :=
  Less_v x 18442240474082181120 false hx (by decide) w (less_f (by
    have := rank_low x hx
    rw [show rankF 18442240474082181120 = 4503599627370495 by decide]
    omega))
set_option maxRecDepth 100000 in
set_option maxHeartbeats 4000000 in
theorem ord_tft (a b c : Nat) (ha : a < 18446744073709551616) (hb : b < 18446744073709551616) (hc : c < 18446744073709551616) (hab : lessF a b = true) (hba : lessF b a = false) (hbc : lessF b c = true) (hac : lessF a c = true) (hpe : ((plainF a : Int) == plainF b) = false) (w : World) : Calls Try.prog 5 #[.int .u64 a, .int .u64 b, .int .u64 c] w fun e w' => e = .returned (.bool true) ∧ Below w.heap.size w w' := by
  have Hab := Aside0.mk hab
  have Hba := Aside0.mk hba
  have Hbc := Aside0.mk hbc
  have Hac := Aside0.mk hac
  clear hab hba hbc hac
  have hpb := plain_bd a ha
  have HAA := Aside0.mk (show lessF a a = false from less_f (by omega))
  have HAP := Aside0.mk (show lessF a (plainF a) = false from less_f (by rw [rank_plain]; omega))
  have HPA := Aside0.mk (show lessF (plainF a) a = false from less_f (by rw [rank_plain]; omega))
  have HPP := Aside0.mk (plain_plain a)
  go_enter Try.func5, Try.ntmps5
  go_wp2_with (first
    | (go_at_call 10; ((with_reducible refine (lawake_calls _).mono ?_)); rintro e w1 ⟨rfl, hb1⟩)
    | (go_at_call 15; first | ((with_reducible refine (Less_v a b true ha hb _ Hab.out).mono ?_); rintro e w_ ⟨rfl, rfl⟩) | ((with_reducible refine (Less_v b a false hb ha _ Hba.out).mono ?_); rintro e w_ ⟨rfl, rfl⟩) | ((with_reducible refine (Less_v b c true hb hc _ Hbc.out).mono ?_); rintro e w_ ⟨rfl, rfl⟩) | ((with_reducible refine (Less_v a c true ha hc _ Hac.out).mono ?_); rintro e w_ ⟨rfl, rfl⟩) | ((with_reducible refine (Less_v a a false ha ha _ HAA.out).mono ?_); rintro e w_ ⟨rfl, rfl⟩) | ((with_reducible refine (LessNaN a ha _).mono ?_); rintro e w_ ⟨rfl, rfl⟩) | ((with_reducible refine (LessLow a ha _).mono ?_); rintro e w_ ⟨rfl, rfl⟩) | ((with_reducible refine (Less_v a (plainF a) false ha hpb _ HAP.out).mono ?_); rintro e w_ ⟨rfl, rfl⟩) | ((with_reducible refine (Less_v (plainF a) a false hpb ha _ HPA.out).mono ?_); rintro e w_ ⟨rfl, rfl⟩))
    | (go_at_call 13; first | ((with_reducible refine (PlainC (plainF a) (plainF a) _ HPP.out).mono ?_); rintro e w_ ⟨rfl, rfl⟩) | ((with_reducible refine (Plain_calls a _).mono ?_); rintro e w_ ⟨rfl, rfl⟩) | ((with_reducible refine (Plain_calls b _).mono ?_); rintro e w_ ⟨rfl, rfl⟩)))
  go_ret
  exact ⟨rfl, hb1⟩
set_option maxRecDepth 100000 in
set_option maxHeartbeats 4000000 in
theorem ord_tff (a b c : Nat) (ha : a < 18446744073709551616) (hb : b < 18446744073709551616) (hc : c < 18446744073709551616) (hab : lessF a b = true) (hba : lessF b a = false) (hbc : lessF b c = false) (hpe : ((plainF a : Int) == plainF b) = false) (w : World) : Calls Try.prog 5 #[.int .u64 a, .int .u64 b, .int .u64 c] w fun e w' => e = .returned (.bool true) ∧ Below w.heap.size w w' := by
  have Hab := Aside0.mk hab
  have Hba := Aside0.mk hba
  have Hbc := Aside0.mk hbc
  clear hab hba hbc
  have hpb := plain_bd a ha
  have HAA := Aside0.mk (show lessF a a = false from less_f (by omega))
  have HAP := Aside0.mk (show lessF a (plainF a) = false from less_f (by rw [rank_plain]; omega))
  have HPA := Aside0.mk (show lessF (plainF a) a = false from less_f (by rw [rank_plain]; omega))
  have HPP := Aside0.mk (plain_plain a)
  go_enter Try.func5, Try.ntmps5
  go_wp2_with (first
    | (go_at_call 10; ((with_reducible refine (lawake_calls _).mono ?_)); rintro e w1 ⟨rfl, hb1⟩)
    | (go_at_call 15; first | ((with_reducible refine (Less_v a b true ha hb _ Hab.out).mono ?_); rintro e w_ ⟨rfl, rfl⟩) | ((with_reducible refine (Less_v b a false hb ha _ Hba.out).mono ?_); rintro e w_ ⟨rfl, rfl⟩) | ((with_reducible refine (Less_v b c false hb hc _ Hbc.out).mono ?_); rintro e w_ ⟨rfl, rfl⟩) | ((with_reducible refine (Less_v a a false ha ha _ HAA.out).mono ?_); rintro e w_ ⟨rfl, rfl⟩) | ((with_reducible refine (LessNaN a ha _).mono ?_); rintro e w_ ⟨rfl, rfl⟩) | ((with_reducible refine (LessLow a ha _).mono ?_); rintro e w_ ⟨rfl, rfl⟩) | ((with_reducible refine (Less_v a (plainF a) false ha hpb _ HAP.out).mono ?_); rintro e w_ ⟨rfl, rfl⟩) | ((with_reducible refine (Less_v (plainF a) a false hpb ha _ HPA.out).mono ?_); rintro e w_ ⟨rfl, rfl⟩))
    | (go_at_call 13; first | ((with_reducible refine (PlainC (plainF a) (plainF a) _ HPP.out).mono ?_); rintro e w_ ⟨rfl, rfl⟩) | ((with_reducible refine (Plain_calls a _).mono ?_); rintro e w_ ⟨rfl, rfl⟩) | ((with_reducible refine (Plain_calls b _).mono ?_); rintro e w_ ⟨rfl, rfl⟩)))
  go_ret
  exact ⟨rfl, hb1⟩
set_option maxRecDepth 100000 in
set_option maxHeartbeats 4000000 in
theorem ord_ff (a b c : Nat) (ha : a < 18446744073709551616) (hb : b < 18446744073709551616) (hc : c < 18446744073709551616) (hab : lessF a b = false) (hba : lessF b a = false) (hpe : ((plainF a : Int) == plainF b) = true) (w : World) : Calls Try.prog 5 #[.int .u64 a, .int .u64 b, .int .u64 c] w fun e w' => e = .returned (.bool true) ∧ Below w.heap.size w w' := by
  have Hab := Aside0.mk hab
  have Hba := Aside0.mk hba
  clear hab hba
  have hpb := plain_bd a ha
  have HAA := Aside0.mk (show lessF a a = false from less_f (by omega))
  have HAP := Aside0.mk (show lessF a (plainF a) = false from less_f (by rw [rank_plain]; omega))
  have HPA := Aside0.mk (show lessF (plainF a) a = false from less_f (by rw [rank_plain]; omega))
  have HPP := Aside0.mk (plain_plain a)
  go_enter Try.func5, Try.ntmps5
  go_wp2_with (first
    | (go_at_call 10; ((with_reducible refine (lawake_calls _).mono ?_)); rintro e w1 ⟨rfl, hb1⟩)
    | (go_at_call 15; first | ((with_reducible refine (Less_v a b false ha hb _ Hab.out).mono ?_); rintro e w_ ⟨rfl, rfl⟩) | ((with_reducible refine (Less_v b a false hb ha _ Hba.out).mono ?_); rintro e w_ ⟨rfl, rfl⟩) | ((with_reducible refine (Less_v a a false ha ha _ HAA.out).mono ?_); rintro e w_ ⟨rfl, rfl⟩) | ((with_reducible refine (LessNaN a ha _).mono ?_); rintro e w_ ⟨rfl, rfl⟩) | ((with_reducible refine (LessLow a ha _).mono ?_); rintro e w_ ⟨rfl, rfl⟩) | ((with_reducible refine (Less_v a (plainF a) false ha hpb _ HAP.out).mono ?_); rintro e w_ ⟨rfl, rfl⟩) | ((with_reducible refine (Less_v (plainF a) a false hpb ha _ HPA.out).mono ?_); rintro e w_ ⟨rfl, rfl⟩))
    | (go_at_call 13; first | ((with_reducible refine (PlainC (plainF a) (plainF a) _ HPP.out).mono ?_); rintro e w_ ⟨rfl, rfl⟩) | ((with_reducible refine (Plain_calls a _).mono ?_); rintro e w_ ⟨rfl, rfl⟩) | ((with_reducible refine (Plain_calls b _).mono ?_); rintro e w_ ⟨rfl, rfl⟩)))
  go_ret
  exact ⟨rfl, hb1⟩
set_option maxRecDepth 100000 in
set_option maxHeartbeats 4000000 in
theorem ord_ft (a b c : Nat) (ha : a < 18446744073709551616) (hb : b < 18446744073709551616) (hc : c < 18446744073709551616) (hab : lessF a b = false) (hba : lessF b a = true) (hpe : ((plainF a : Int) == plainF b) = false) (w : World) : Calls Try.prog 5 #[.int .u64 a, .int .u64 b, .int .u64 c] w fun e w' => e = .returned (.bool true) ∧ Below w.heap.size w w' := by
  have Hab := Aside0.mk hab
  have Hba := Aside0.mk hba
  clear hab hba
  have hpb := plain_bd a ha
  have HAA := Aside0.mk (show lessF a a = false from less_f (by omega))
  have HAP := Aside0.mk (show lessF a (plainF a) = false from less_f (by rw [rank_plain]; omega))
  have HPA := Aside0.mk (show lessF (plainF a) a = false from less_f (by rw [rank_plain]; omega))
  have HPP := Aside0.mk (plain_plain a)
  go_enter Try.func5, Try.ntmps5
  go_wp2_with (first
    | (go_at_call 10; ((with_reducible refine (lawake_calls _).mono ?_)); rintro e w1 ⟨rfl, hb1⟩)
    | (go_at_call 15; first | ((with_reducible refine (Less_v a b false ha hb _ Hab.out).mono ?_); rintro e w_ ⟨rfl, rfl⟩) | ((with_reducible refine (Less_v b a true hb ha _ Hba.out).mono ?_); rintro e w_ ⟨rfl, rfl⟩) | ((with_reducible refine (Less_v a a false ha ha _ HAA.out).mono ?_); rintro e w_ ⟨rfl, rfl⟩) | ((with_reducible refine (LessNaN a ha _).mono ?_); rintro e w_ ⟨rfl, rfl⟩) | ((with_reducible refine (LessLow a ha _).mono ?_); rintro e w_ ⟨rfl, rfl⟩) | ((with_reducible refine (Less_v a (plainF a) false ha hpb _ HAP.out).mono ?_); rintro e w_ ⟨rfl, rfl⟩) | ((with_reducible refine (Less_v (plainF a) a false hpb ha _ HPA.out).mono ?_); rintro e w_ ⟨rfl, rfl⟩))
    | (go_at_call 13; first | ((with_reducible refine (PlainC (plainF a) (plainF a) _ HPP.out).mono ?_); rintro e w_ ⟨rfl, rfl⟩) | ((with_reducible refine (Plain_calls a _).mono ?_); rintro e w_ ⟨rfl, rfl⟩) | ((with_reducible refine (Plain_calls b _).mono ?_); rintro e w_ ⟨rfl, rfl⟩)))
  go_ret
  exact ⟨rfl, hb1⟩
theorem LagOrder_calls (a b c : Nat) (ha : a < 18446744073709551616) (hb : b < 18446744073709551616) (hc : c < 18446744073709551616) (w : World) : Calls Try.prog 5 #[.int .u64 a, .int .u64 b, .int .u64 c] w fun e w' => e = .returned (.bool true) ∧ Below w.heap.size w w' := by
  have hpe : ∀ h : rankF a ≠ rankF b, ((plainF a : Int) == plainF b) = false := fun h => by
    rw [beq_eq_false_iff_ne]
    intro e
    have e2 : plainF a = plainF b := by omega
    apply h
    rw [← rank_plain a, ← rank_plain b, e2]
  have hpt : ∀ h : rankF a = rankF b, ((plainF a : Int) == plainF b) = true := fun h => by
    rw [rank_inj a b ha hb h]
    simp
  rcases Nat.lt_trichotomy (rankF a) (rankF b) with h1 | h1 | h1
  · rcases Nat.lt_or_ge (rankF b) (rankF c) with h2 | h2
    · exact ord_tft a b c ha hb hc (less_t h1) (less_f (by omega)) (less_t h2) (less_t (by omega)) (hpe (by omega)) w
    · exact ord_tff a b c ha hb hc (less_t h1) (less_f (by omega)) (less_f (by omega)) (hpe (by omega)) w
  · exact ord_ff a b c ha hb hc (less_f (by omega)) (less_f (by omega)) (hpt h1) w
  · exact ord_ft a b c ha hb hc (less_f (by omega)) (less_t h1) (hpe (by omega)) w

set_option maxRecDepth 100000 in
theorem lagOrder_lifted (os : Os) (started : os.Started) (H : Type) (enc : TypeId × Value → H) :
    ReturnsInHanded {} Try.checked os 5 .any (Rows.lagOrderSpec.pre6 enc Try.prog Try.f5 Rows.lagOrderRow.domain false) (Rows.lagOrderSpec.post enc Try.prog Try.f5 false true false false) := by
  refine returnsInHanded_of_change_sized (C := Try.checked) own started (by kernel_rfl) Try.func5
    (ChangeSpec.witness6 (enc := enc) (C := Try.checked) false ⟨#[], #[.int .u64 0, .int .u64 0, .int .u64 0], []⟩ 8 (by kernel_rfl) (by kernel_rfl) (by kernel_rfl) (by kernel_rfl)) ?_
  intro W base args ds gs before hval0 hW hcnd hsz0 _
  have hsz : (DataW.weightsEach Try.prog (Try.f5.params.toList ++ Rows.lagOrderSpec.plain.varTypes Try.prog) (ds ++ gs)).all (· ≤ reachBytes) = true := hsz0
  have hval : ∀ (j : Nat) t v, Try.f5.params[j]? = some t → args[j]? = some v → Value.okWide Try.prog W .any base t v := hval0
  have hW' := hW
  obtain ⟨p, q, hA0, hV, rfl, hfz, hnd⟩ := hW
  have hA : DataW.TrodAll enc Try.prog W 0 (fun _ => true) true Try.f5.params.toList args.toList ds p := hA0
  have hAll := hA
  rw [Try.params5] at hA hval hsz
  obtain ⟨v0, vs0, d0, ds0, p0, q0, hargs, rfl, rfl, h0, r0⟩ := trodAll_cons hA
  obtain ⟨v1, vs1, d1, ds1, p1, q1, rfl, rfl, rfl, h1, r1⟩ := trodAll_cons r0
  obtain ⟨v2, vs2, d2, ds2, p2, q2, rfl, rfl, rfl, h2, r2⟩ := trodAll_cons r1
  obtain ⟨rfl, rfl, rfl⟩ := trodAll_nil r2
  obtain rfl : args = #[v0, v1, v2] := by cases args; simp_all
  obtain ⟨rfl, rfl⟩ := trodVars_none hV
  have hlt := trodAll_lt hAll
  obtain ⟨a, rfl, rfl, rfl, w0⟩ := open_int Try.underlying22 (hval 0 22 v0 rfl rfl) h0
  obtain ⟨b, rfl, rfl, rfl, w1⟩ := open_int Try.underlying22 (hval 1 22 v1 rfl rfl) h1
  obtain ⟨c, rfl, rfl, rfl, w2⟩ := open_int Try.underlying22 (hval 2 22 v2 rfl rfl) h2
  obtain ⟨a, rfl⟩ := Int.eq_ofNat_of_zero_le (bounds_u64 w0).1
  obtain ⟨b, rfl⟩ := Int.eq_ofNat_of_zero_le (bounds_u64 w1).1
  obtain ⟨c, rfl⟩ := Int.eq_ofNat_of_zero_le (bounds_u64 w2).1
  clear hA0 hval0 hsz0 hsz
  refine (LagOrder_calls a b c (by have := (bounds_u64 w0).2; omega) (by have := (bounds_u64 w1).2; omega) (by have := (bounds_u64 w2).2; omega) W).mono fun e W' ⟨he, bel⟩ => ?_
  subst he
  exact ⟨_, rfl, _, _, _, [], _, [], hW', trodAll_mk1 (shut_bool Try.underlying4 _), below_trodAll laidOut bel (by kernel_rfl) hAll hlt, rfl, bel.frame _, fun h => by cases h⟩
theorem lagOrder_over : Rows.lagOrderRow.holds Try.pinned (OpenSpec.ofChange Rows.lagOrderSpec) :=
  OpenClaim.holds_of_wide 5 Try.f5 rfl rfl rfl rfl rfl rfl rfl ⟨rfl, rfl, rfl, rfl, rfl⟩ rfl rfl rfl rfl rfl (by kernel_rfl) Try.func5 (by kernel_rfl)
    (of_decide_eq_true (by kernel_rfl)) (by unfold Func.isWrapper; first | (rw [if_pos (by decide +kernel)]; kernel_rfl) | (rw [if_neg (by decide +kernel)]; exact ⟨rfl, rfl⟩))
    (fun os started H enc _ => lagOrder_lifted os started H enc)
theorem lagOrder_holds : Rows.LagOrderSaid := lagOrder_over
#print axioms lagOrder_holds
end Go.Proofs.Ytcgonhnfpnmlcaa
