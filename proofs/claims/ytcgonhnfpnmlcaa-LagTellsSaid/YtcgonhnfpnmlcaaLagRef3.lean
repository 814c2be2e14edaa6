
/- What the document's 'made' and 'Of' (mootbellref03) compute. -/
import Derived.Test.YtcgonhnfpnmlcaaLagRef
import Derived.Test.YtcgonhnfpnmlcaaLagScale2
set_option linter.unusedVariables false
set_option linter.unusedSimpArgs false
namespace Go.Proofs.Ytcgonhnfpnmlcaa
open Go.RowKit Go.Proofs.YtcgonhnfpnmlcaaW.PrintWords Go.Proofs.YtcgonhnfpnmlcaaW.PrintLast Go.Proofs.YtcgonhnfpnmlcaaW.PrintMore
attribute [local go_sem] min2_int min_two

theorem shifted_any (m p : Nat) (hm : m < 18446744073709551616) (hp : p ≤ 63) (w : World) : Calls Try.prog 32 #[.int .u64 m, .int .i64 (p : Int)] w fun e w' => e = .returned (.int .u64 (shiftF m p : Nat)) ∧ w = w' := by
  cases p with
  | zero => exact shifted_zero m w
  | succ p => exact shifted_calls m p hm (by omega) w
theorem RPlainI (x : Nat) (y : Int) (hy : y = (x : Int)) (hx : x < 18446744073709551616) (w : World) : Calls Try.prog 14 #[.int .u64 y] w fun e w' => e = .returned (.int .u64 (plainF x)) ∧ w = w' := by
  subst hy
  exact RPlain_calls x hx w
theorem shiftedI (m p : Nat) (q : Int) (hq : q = (p : Int)) (hm : m < 18446744073709551616) (hp : p ≤ 63) (w : World) : Calls Try.prog 32 #[.int .u64 m, .int .i64 q] w fun e w' => e = .returned (.int .u64 (shiftF m p : Nat)) ∧ w = w' := by
  subst hq
  exact shifted_any m p hm hp w
theorem plain_word (sg R : Nat) (h : sg ≤ 1) (h0 : 0 < R) : plainF (wordF sg R) = wordF sg R := by
  unfold wordF plainF
  rw [if_neg (by omega), if_neg (by omega)]
theorem plain_word0 (sg : Nat) (h : sg ≤ 1) : plainF (wordF sg 0) = 0 := by
  unfold wordF plainF
  rw [if_neg (by omega), if_pos (by omega)]
theorem made_under (S m : Nat) (e : Int) (he : e < -60) (w : World) : Calls Try.prog 31 #[.int .u64 S, .int .u64 m, .int .i64 e] w fun e w' => e = .returned (.int .u64 0) ∧ w = w' := by
  go_enter Try.func31, Try.ntmps31
  go_wp2
  go_ret
  exact ⟨rfl, rfl⟩
set_option maxHeartbeats 1000000 in
theorem made_sub (S m : Nat) (e : Int) (hS : S ≤ 9223372036854775808) (hm : m < 9007199254740992) (he : -60 ≤ e) (h1 : e < 1) (w : World) : Calls Try.prog 31 #[.int .u64 S, .int .u64 m, .int .i64 e] w fun r w' => r = .returned (.int .u64 (plainF (S + shiftF m (1 - e).toNat))) ∧ w = w' := by
  obtain ⟨p, hp⟩ : ∃ p : Nat, 1 - e = ((p + 1 : Nat) : Int) := ⟨(1 - e).toNat - 1, by omega⟩
  have hpp : p + 1 ≤ 63 := by omega
  have hl := shiftF_le m p
  have HS := Aside0.mk (fun w => shiftedI m (p + 1) (1 - e) hp (by omega) hpp w)
  rw [show (1 - e).toNat = p + 1 by omega]
  clear hp hpp
  generalize shiftF m (p + 1) = q at *
  have hwr : IntKind.u64.wrap ((S : Int) + (q : Int)) = ((S + q : Nat) : Int) := by rw [IntKind.wrap_u64]; omega
  have HP := Aside0.mk (fun w => RPlainI (S + q) ((S : Int) + (q : Int)) (by omega) (by omega) w)
  have hmin : min (1 - e) 63 = 1 - e := by omega
  have hlt2 : 1 - e ≤ 63 := by omega
  go_enter Try.func31, Try.ntmps31
  go_wp2_with (first
    | (go_at_call 32; ((with_reducible refine (HS.out _).mono ?_)); rintro e w_ ⟨rfl, rfl⟩)
    | (go_at_call 14; ((with_reducible refine (HP.out _).mono ?_)); rintro e w_ ⟨rfl, rfl⟩))
  go_ret
  exact ⟨rfl, rfl⟩
set_option maxHeartbeats 1000000 in
theorem made_inf (S m : Nat) (e : Int) (hS : S ≤ 9223372036854775808) (hm : m < 9007199254740992) (he : 2047 ≤ e) (w : World) : Calls Try.prog 31 #[.int .u64 S, .int .u64 m, .int .i64 e] w fun r w' => r = .returned (.int .u64 ((S + 9218868437227405312 : Nat) : Int)) ∧ w = w' := by
  go_enter Try.func31, Try.ntmps31
  go_wp2
  go_ret
  exact ⟨ret_int (by omega), rfl⟩
set_option maxRecDepth 100000 in
set_option maxHeartbeats 1000000 in
theorem made_fin (S m : Nat) (e : Nat) (hS : S ≤ 9223372036854775808) (hm0 : 4503599627370496 ≤ m) (hm : m < 9007199254740992) (he : e ≤ 2046) (he0 : 1 ≤ e) (w : World) : Calls Try.prog 31 #[.int .u64 S, .int .u64 m, .int .i64 e] w fun r w' => r = .returned (.int .u64 ((S + (e * 4503599627370496 + (m - 4503599627370496)) : Nat) : Int)) ∧ w = w' := by
  have hr : (m : Int).tmod 4503599627370496 = ((m - 4503599627370496 : Nat) : Int) := by
    rw [Int.tmod_eq_emod_of_nonneg (by omega)]
    omega
  go_enter Try.func31, Try.ntmps31
  go_wp2
  go_ret
  exact ⟨ret_int (by omega), rfl⟩
set_option maxHeartbeats 1000000 in
theorem made_inf2 (S : Nat) (e : Int) (hS : S ≤ 9223372036854775808) (he : 2046 ≤ e) (he2 : e ≤ 9000) (w : World) : Calls Try.prog 31 #[.int .u64 S, .int .u64 9007199254740992, .int .i64 e] w fun r w' => r = .returned (.int .u64 ((S + 9218868437227405312 : Nat) : Int)) ∧ w = w' := by
  go_enter Try.func31, Try.ntmps31
  go_wp2
  go_ret
  exact ⟨ret_int (by omega), rfl⟩
set_option maxRecDepth 100000 in
set_option maxHeartbeats 1000000 in
theorem made_fin2 (S : Nat) (e : Nat) (hS : S ≤ 9223372036854775808) (he : e ≤ 2045) (he0 : 1 ≤ e) (w : World) : Calls Try.prog 31 #[.int .u64 S, .int .u64 9007199254740992, .int .i64 e] w fun r w' => r = .returned (.int .u64 ((S + (e + 1) * 4503599627370496 : Nat) : Int)) ∧ w = w' := by
  go_enter Try.func31, Try.ntmps31
  go_wp2
  go_ret
  exact ⟨ret_int (by omega), rfl⟩
/-- made, all ways. -/
theorem made_calls (sg m : Nat) (e : Int) (hsg : sg ≤ 1) (hm0 : 4503599627370496 ≤ m) (hm : m < 9007199254740992) (he2 : e ≤ 9000) (w : World) : Calls Try.prog 31 #[.int .u64 ((sg * 9223372036854775808 : Nat) : Int), .int .u64 m, .int .i64 e] w fun r w' => r = .returned (.int .u64 (plainF (wordF sg (nearR m (e - 1075))))) ∧ w = w' := by
  rcases Int.lt_or_le e (-60) with c1 | c1
  · have h := made_under (sg * 9223372036854775808) m e c1 w
    rw [nearR_low m e hm0 hm (by omega), shiftF_lo m _ hm (by omega), plain_word0 sg hsg]
    exact h
  · rcases Int.lt_or_le e 1 with c2 | c2
    · have h := made_sub (sg * 9223372036854775808) m e (by omega) hm c1 c2 w
      rw [nearR_low m e hm0 hm (by omega)]
      have hl : shiftF m (1 - e).toNat ≤ m := by
        rw [show (1 - e).toNat = ((1 - e).toNat - 1) + 1 by omega]
        exact shiftF_le _ _
      unfold wordF
      rw [Nat.min_eq_left (by omega)]
      exact h
    · have e1 := nearR_high m e hm0 hm c2
      rw [e1, plain_word sg _ hsg (by omega)]
      unfold wordF
      rcases Int.lt_or_le e 2047 with c3 | c3
      · obtain ⟨n, rfl⟩ := Int.eq_ofNat_of_zero_le (show 0 ≤ e by omega)
        have h := made_fin (sg * 9223372036854775808) m n (by omega) hm0 hm (by omega) (by omega) w
        rw [Nat.min_eq_left (by omega), Int.toNat_natCast]
        exact h
      · have h := made_inf (sg * 9223372036854775808) m e (by omega) hm c3 w
        rw [Nat.min_eq_right (by omega)]
        exact h
theorem made_calls2 (sg : Nat) (e : Int) (hsg : sg ≤ 1) (he1 : 1 ≤ e) (he2 : e ≤ 9000) (w : World) : Calls Try.prog 31 #[.int .u64 ((sg * 9223372036854775808 : Nat) : Int), .int .u64 ((9007199254740992 : Nat) : Int), .int .i64 e] w fun r w' => r = .returned (.int .u64 (wordF sg ((e.toNat + 1) * 4503599627370496))) ∧ w = w' := by
  unfold wordF
  rcases Int.lt_or_le e 2046 with c3 | c3
  · obtain ⟨n, rfl⟩ := Int.eq_ofNat_of_zero_le (show 0 ≤ e by omega)
    have h := made_fin2 (sg * 9223372036854775808) n (by omega) (by omega) (by omega) w
    rw [Nat.min_eq_left (by omega), Int.toNat_natCast]
    exact h
  · have h := made_inf2 (sg * 9223372036854775808) e (by omega) c3 he2 w
    rw [Nat.min_eq_right (by omega)]
    exact h
end Go.Proofs.Ytcgonhnfpnmlcaa
