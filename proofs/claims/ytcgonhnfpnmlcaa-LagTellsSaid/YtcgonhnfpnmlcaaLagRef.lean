
/- What the document's own answer (mootbellref03) computes. -/
import Derived.Test.YtcgonhnfpnmlcaaOfPure
import Derived.Test.YtcgonhnfpnmlcaaLagAwake
set_option linter.unusedVariables false
set_option linter.unusedSimpArgs false
namespace Go.Proofs.Ytcgonhnfpnmlcaa
open Go.RowKit Go.Proofs.YtcgonhnfpnmlcaaW.PrintWords Go.Proofs.YtcgonhnfpnmlcaaW.PrintLast Go.Proofs.YtcgonhnfpnmlcaaW.PrintMore

theorem shifted_zero (m : Nat) (w : World) : Calls Try.prog 32 #[.int .u64 m, .int .i64 0] w fun e w' => e = .returned (.int .u64 (shiftF m 0 : Nat)) ∧ w = w' := by
  rw [shiftF_zero]
  go_enter Try.func32, Try.ntmps32
  go_wp2
  go_ret
  exact ⟨rfl, rfl⟩
set_option maxHeartbeats 1000000 in
theorem shifted_calls (m p : Nat) (hm : m < 18446744073709551616) (hp : p + 1 ≤ 63) (w : World) : Calls Try.prog 32 #[.int .u64 m, .int .i64 ((p + 1 : Nat) : Int)] w fun e w' => e = .returned (.int .u64 (shiftF m (p + 1) : Nat)) ∧ w = w' := by
  obtain ⟨q, hq⟩ : ∃ q, m / 2 ^ (p + 1) = q := ⟨_, rfl⟩
  obtain ⟨r, hr⟩ : ∃ r, m % 2 ^ (p + 1) = r := ⟨_, rfl⟩
  obtain ⟨t, ht⟩ : ∃ t, q * 2 ^ (p + 1) = t := ⟨_, rfl⟩
  obtain ⟨h, hh⟩ : ∃ h, 2 ^ p = h := ⟨_, rfl⟩
  have hh2 : 2 ^ (p + 1) = 2 * h := by rw [Nat.pow_succ, hh]; omega
  have hhl : h ≤ 2 ^ 62 := by rw [← hh]; exact Nat.pow_le_pow_right (by omega) (by omega)
  have hmt : m = t + r := by
    have := Nat.div_add_mod m (2 ^ (p + 1))
    rw [hq, hr, Nat.mul_comm, ht] at this
    omega
  have hql : q ≤ m := by rw [← hq]; exact Nat.div_le_self _ _
  have hql2 : 2 * q ≤ m := by
    rw [← hq]
    have h1 : m / 2 ^ (p + 1) * 2 ^ (p + 1) ≤ m := Nat.div_mul_le_self _ _
    have h2 : 2 ≤ 2 ^ (p + 1) := by rw [Nat.pow_succ]; have := Nat.two_pow_pos p; omega
    have h3 := Nat.mul_le_mul_left (m / 2 ^ (p + 1)) h2
    omega
  have i1 : (m : Int) / 2 ^ (p + 1) = (q : Int) := by
    rw [show (2 : Int) ^ (p + 1) = ((2 ^ (p + 1) : Nat) : Int) by simp, ← Int.natCast_ediv, hq]
  have i2 : IntKind.u64.wrap ((q : Int) * 2 ^ (p + 1)) = (t : Int) := by
    rw [IntKind.wrap_u64, show (q : Int) * 2 ^ (p + 1) = (t : Int) by rw [← ht]; simp]
    omega
  have i3 : IntKind.u64.wrap ((m : Int) - (t : Int)) = (r : Int) := by
    rw [IntKind.wrap_u64]
    omega
  have i4 : IntKind.u64.wrap (2 ^ p) = (h : Int) := by
    rw [IntKind.wrap_u64, show (2 : Int) ^ p = (h : Int) by rw [← hh]; simp]
    omega
  have i5 : IntKind.u64.wrap ((q : Int) + 1) = (q : Int) + 1 := by
    rw [IntKind.wrap_u64]
    omega
  have i6 : (q : Int).tmod 2 = ((q % 2 : Nat) : Int) := by
    rw [Int.tmod_eq_emod_of_nonneg (by omega)]
    omega
  have HS := Aside0.mk (show shiftF m (p + 1) = q + if 2 * h < 2 * r ∨ (2 * h = 2 * r ∧ q % 2 = 1) then 1 else 0 by unfold shiftF; rw [hq, hr, hh2])
  clear hq hr ht hh hh2 hhl hmt hql hql2
  rw [HS.out]
  rcases Nat.lt_trichotomy h r with c1 | c1 | c1
  · rw [if_pos (by omega)]
    go_enter Try.func32, Try.ntmps32
    go_wp2
    go_ret
    exact ⟨by first | rfl | exact ret_int (by simp), rfl⟩
  · subst c1
    obtain ⟨z, hz⟩ : ∃ z, q % 2 = z := ⟨_, rfl⟩
    rw [hz] at i6
    rcases Nat.eq_zero_or_pos z with c2 | c2
    · subst c2
      rw [if_neg (by omega)]
      go_enter Try.func32, Try.ntmps32
      go_wp2
      go_ret
      exact ⟨by first | rfl | exact ret_int (by simp), rfl⟩
    · obtain rfl : z = 1 := by omega
      rw [if_pos (by omega)]
      go_enter Try.func32, Try.ntmps32
      go_wp2
      go_ret
      exact ⟨by first | rfl | exact ret_int (by simp), rfl⟩
  · rw [if_neg (by omega)]
    go_enter Try.func32, Try.ntmps32
    go_wp2
    go_ret
    exact ⟨by first | rfl | exact ret_int (by simp), rfl⟩
theorem xor_all (y : Nat) (h : y < 18446744073709551616) : bits BinOp.xor IntKind.u64 IntKind.u64.max (y : Int) = 18446744073709551615 - (y : Int) := by
  have e := bits_xor_u64_nat 18446744073709551615 y (by omega) h
  have e2 : 18446744073709551615 ^^^ y = 18446744073709551615 - y := by
    have h1 := congrArg BitVec.toNat (BitVec.xor_allOnes (x := BitVec.ofNat 64 y))
    rw [BitVec.toNat_xor, BitVec.toNat_allOnes, BitVec.toNat_not, BitVec.toNat_ofNat, Nat.mod_eq_of_lt (by omega)] at h1
    rw [Nat.xor_comm]
    exact h1
  rw [show IntKind.u64.max = ((18446744073709551615 : Nat) : Int) by decide, e, e2]
  omega
set_option maxRecDepth 100000 in
theorem rank_calls (x : Nat) (hx : x < 18446744073709551616) (w : World) : Calls Try.prog 28 #[.int .u64 x] w fun e w' => e = .returned (.int .u64 (rankF x)) ∧ w = w' := by
  have HP := Aside0.mk (fun w => RPlain_calls x hx w)
  have hb : plainF x < 18446744073709551616 := by
    unfold plainF
    (repeat' split) <;> omega
  have er : ∀ y, plainF x = y → rankF x = if 9223372036854775808 ≤ y then 18446744073709551615 - y else y + 9223372036854775808 := fun y h => by unfold rankF; rw [h]
  obtain ⟨y, hy⟩ : ∃ y, plainF x = y := ⟨_, rfl⟩
  rw [er y hy]
  rw [hy] at hb HP
  clear er hy
  rcases Nat.lt_or_ge y 9223372036854775808 with h | h
  · rw [if_neg (show ¬ 9223372036854775808 ≤ y by omega)]
    obtain ⟨z, hz⟩ : ∃ z, y + 9223372036854775808 = z := ⟨_, rfl⟩
    rw [hz]
    have hw : IntKind.u64.wrap ((y : Int) + 9223372036854775808) = (z : Int) := by rw [IntKind.wrap_u64]; omega
    have hi : (y : Int) < 9223372036854775808 := by omega
    clear hz h hb hx
    generalize (y : Int) = Y at *
    go_enter Try.func28, Try.ntmps28
    go_wp2_with (go_at_call 14; ((with_reducible refine (HP.out _).mono ?_)); rintro e w_ ⟨rfl, rfl⟩)
    go_ret
    exact ⟨rfl, rfl⟩
  · rw [if_pos h]
    obtain ⟨z, hz⟩ : ∃ z, 18446744073709551615 - y = z := ⟨_, rfl⟩
    rw [hz]
    have hi : (9223372036854775808 : Int) ≤ (y : Int) := by omega
    have HY := Aside0.mk (show y < 18446744073709551616 from hb)
    have HZ := Aside0.mk (show (z : Int) = 18446744073709551615 - y by omega)
    clear hz h hb hx
    go_enter Try.func28, Try.ntmps28
    go_wp2_with (go_at_call 14; ((with_reducible refine (HP.out _).mono ?_)); rintro e w_ ⟨rfl, rfl⟩)
    go_ret
    exact ⟨ret_int (by rw [HZ.out]; exact xor_all y HY.out), rfl⟩
end Go.Proofs.Ytcgonhnfpnmlcaa
