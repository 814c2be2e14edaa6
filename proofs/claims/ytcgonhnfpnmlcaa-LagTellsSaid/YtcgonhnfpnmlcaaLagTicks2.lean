
/- What lag.Ticks and the document's Ticks tell of any word. -/
import Derived.Laws.FloatArith
import Derived.Test.YtcgonhnfpnmlcaaTickPure
set_option linter.unusedVariables false
set_option linter.unusedSimpArgs false
namespace Go.Proofs.Ytcgonhnfpnmlcaa
open Go.RowKit Go.Proofs.YtcgonhnfpnmlcaaW.PrintWords Go.Proofs.YtcgonhnfpnmlcaaW.PrintLast Go.Proofs.YtcgonhnfpnmlcaaW.PrintMore

theorem archCeil_run (x c : Nat) (h0 : 0 < x) (h : x ≤ 4787326403894837248) (hc : ceilF (sigM x) (1075 - sigE x) = c) (w : World) : (callFunc 33 #[.float .f64 x]).run Try.prog w = .ok (.value (.float .f64 (ofW c))) w := by
  have e1 : (callFunc 33 #[.float .f64 x]).run Try.prog w = (Extern.MathFloor.toIntegral "math.archCeil" .up #[.float .f64 x] >>= fun v => pure (Next.value v)).run Try.prog w := by kernel_rfl
  obtain ⟨b1, b2, b3, b4⟩ := sig_bd x (by omega)
  have b5 : sigE x ≤ 1063 := by
    unfold sigE
    split <;> omega
  have hr : FloatKind.f64.decode x = .number false (sigM x) ((sigE x : Int) - 1075) := by
    have := read_sig x (by omega)
    rw [show x % 9223372036854775808 = x by omega, show x / 9223372036854775808 % 2 = 0 by omega] at this
    exact this
  have hi : (Ieee.Datum.number false (sigM x) ((sigE x : Int) - 1075)).integral .up = .number false c 0 := by
    unfold Ieee.Datum.integral
    simp only
    rw [show ((sigE x : Int) - 1075).toNat = 0 by omega, Nat.shiftLeft_zero, show (-((sigE x : Int) - 1075)).toNat = 1075 - sigE x by omega, cut_up _ _ (by have := b4 h0; omega), hc]
  have e3 : ∀ d, FloatKind.f64.decode x = d → (∀ s t, d ≠ .nan s t) → Extern.MathFloor.toIntegral "math.archCeil" .up #[.float .f64 x] = pure (.float .f64 (FloatKind.f64.encode (d.integral .up))) := by
    intro d hd hn
    show (match FloatKind.f64.decode x with
      | .nan s t => if FloatKind.f64.format.quiet t = t then pure (Value.float .f64 x) else do
          let kept ← choose (.extern "math.Floor,Ceil,Trunc,RoundToEven.signallingNaN kept" 2)
          pure (Value.float .f64 (if kept == 1 then x else FloatKind.f64.encode (.nan s (FloatKind.f64.format.quiet t))))
      | d => pure (Value.float .f64 (FloatKind.f64.encode (d.integral .up)))) = _
    rw [hd]
    cases d with
    | nan s t => exact absurd rfl (hn s t)
    | infinity s => rfl
    | number s m e => rfl
  rw [e1, e3 _ hr (by intro s t h; cases h), hi]
  rfl
theorem ofW_nat (c : Nat) (h0 : c ≠ 0) (h : c ≤ 1099511627776) : floatToIntVal .f64 (ofW c) .i64 = some (c : Int) := by
  have hl : c.log2 < 53 := (Nat.log2_lt h0).2 (by omega)
  have a := Nat.log2_self_le h0
  have b := Nat.lt_log2_self (n := c)
  obtain ⟨d, hd⟩ : ∃ d, 52 - c.log2 = d := ⟨_, rfl⟩
  have p := Nat.two_pow_pos d
  have a2 := Nat.mul_le_mul_right (2 ^ d) a
  have b2 := Nat.mul_lt_mul_of_pos_right b p
  rw [← Nat.pow_add, show c.log2 + d = 52 by omega] at a2
  rw [← Nat.pow_add, show c.log2 + 1 + d = 53 by omega] at b2
  have e2 := nearR_shift c d 0 h0
  rw [show (0 : Int) - (d : Int) = ((c.log2 : Int) + 1023) - 1075 by omega, nearR_high _ _ a2 b2 (by omega), show ((c.log2 : Int) + 1023).toNat = c.log2 + 1023 by omega] at e2
  have hw : ofW c = (c.log2 + 1023) * 4503599627370496 + (c * 2 ^ d - 4503599627370496) := by
    rw [ofW_word c (by omega), show (c : Int).natAbs = c by omega, ← e2]
    unfold wordF sgI
    rw [if_neg (by omega), Nat.zero_mul, Nat.zero_add, Nat.min_eq_left (by omega)]
  have hlog : (c * 2 ^ d).log2 = 52 := log2_53 _ a2 b2
  have hdiv : c * 2 ^ d / 2 ^ d = c := Nat.mul_div_cancel _ p
  generalize c * 2 ^ d = q at *
  generalize c.log2 = l at *
  clear a b e2
  have hr : FloatKind.f64.decode (ofW c) = .number false q ((l : Int) - 52) := by
    rw [hw]
    have e5 : ((l + 1023) * 4503599627370496 + (q - 4503599627370496)) % 9223372036854775808 = (l + 1023) * 4503599627370496 + (q - 4503599627370496) := by omega
    have e6 : ((l + 1023) * 4503599627370496 + (q - 4503599627370496)) / 9223372036854775808 % 2 = 0 := by omega
    have e7 : ((l + 1023) * 4503599627370496 + (q - 4503599627370496)) % 4503599627370496 = q - 4503599627370496 := by omega
    have e8 : ((l + 1023) * 4503599627370496 + (q - 4503599627370496)) / 4503599627370496 = l + 1023 := by omega
    have := read_sig ((l + 1023) * 4503599627370496 + (q - 4503599627370496)) (by omega)
    rw [e5, e6] at this
    have h1 : sigM ((l + 1023) * 4503599627370496 + (q - 4503599627370496)) = q := by
      unfold sigM
      rw [if_neg (by omega), e7]
      omega
    have h2 : sigE ((l + 1023) * 4503599627370496 + (q - 4503599627370496)) = l + 1023 := by
      unfold sigE
      rw [if_neg (by omega), e8]
    rw [h1, h2, show (((l + 1023 : Nat) : Int) - 1075) = (l : Int) - 52 by omega] at this
    exact this
  have hi : (Ieee.Datum.number false q ((l : Int) - 52)).toInt .zero = some (c : Int) := by
    unfold Ieee.Datum.toInt Ieee.Datum.integral
    simp only
    rw [show ((l : Int) - 52).toNat = 0 by omega, Nat.shiftLeft_zero, show (-((l : Int) - 52)).toNat = d by omega, cut_zero _ _ (by omega), hdiv]
    unfold Ieee.signed
    simp
  unfold floatToIntVal
  rw [hr, hi]
  simp only
  rw [if_pos (by
    show -9223372036854775808 ≤ (c : Int) ∧ (c : Int) ≤ 9223372036854775807
    omega)]
/-- What is ticked, as it is returned. -/
def tickE (x : Nat) : Int := if 9218868437227405312 < x % 9223372036854775808 then 1 else 0
def tickV (x : Nat) : Int := if 9218868437227405312 < x % 9223372036854775808 then 0 else (tickN x : Int)
theorem Ticks_calls (x : Nat) (hx : x < 18446744073709551616) (w : World) : Calls Try.prog 11 #[.int .u64 x] w fun e w' => e = .returned (.tuple #[.int .i64 (tickV x), .int .i64 (tickE x)]) ∧ w = w' := by
  unfold tickV tickE
  by_cases h1 : 9218868437227405312 < x % 9223372036854775808
  · rw [if_pos h1, if_pos h1]
    exact Ticks_nan x h1 w
  · rw [if_neg h1, if_neg h1]
    unfold tickN
    by_cases h2 : 9223372036854775808 ≤ x ∨ x = 0
    · rw [if_pos h2]
      exact Ticks_low x hx (by omega) (by omega) w
    · rw [if_neg h2]
      by_cases h3 : 4787326403894837248 < x
      · rw [if_pos h3]
        exact Ticks_high x (by omega) h3 w
      · rw [if_neg h3]
        obtain ⟨c1, c2⟩ := ceil_bd x (by omega) (by omega)
        refine Ticks_mid x (ofW (ceilF (sigM x) (1075 - sigE x) : Nat)) (ceilF (sigM x) (1075 - sigE x) : Nat) (by omega) (by omega) (fun w => archCeil_run x _ (by omega) (by omega) rfl w) (fun w => ?_) w
        exact run_convert_float_int w 41 3 .f64 .i64 _ _ (by kernel_rfl) Try.underlying3 (ofW_nat _ (by omega) c2)
theorem rsizeV (x : Nat) (X S : Int) (hX : X = (x : Int)) (hx : x < 18446744073709551616) (hs : ((x % 9223372036854775808 : Nat) : Int) = S) (w : World) : Calls Try.prog 27 #[.int .u64 X] w fun e w' => e = .returned (.int .u64 S) ∧ w = w' := by
  subst hX
  exact hs ▸ rsize_calls x hx w
abbrev SizeIs (X S : Int) : Prop := ∀ w, Calls Try.prog 27 #[.int .u64 X] w fun e w' => e = .returned (.int .u64 S) ∧ w = w'
set_option maxRecDepth 100000 in
set_option maxHeartbeats 2000000 in
theorem RTicks_neg (X S : Int) (HS : Aside0 (SizeIs X S)) (h2 : 9223372036854775808 ≤ X) (h1 : S ≤ 9218868437227405312) (w : World) : Calls Try.prog 12 #[.int .u64 X] w fun e w' => e = .returned (.tuple #[.int .i64 0, .int .i64 0]) ∧ w = w' := by
  go_enter Try.func12, Try.ntmps12
  go_wp2_with (go_at_call 27; ((with_reducible refine (HS.out _).mono ?_)); rintro e w_ ⟨rfl, rfl⟩)
  go_ret2
  exact ⟨rfl, rfl⟩
theorem RTicks_nought (HS : Aside0 (SizeIs 0 0)) (w : World) : Calls Try.prog 12 #[.int .u64 0] w fun e w' => e = .returned (.tuple #[.int .i64 0, .int .i64 0]) ∧ w = w' := by
  go_enter Try.func12, Try.ntmps12
  go_wp2_with (go_at_call 27; ((with_reducible refine (HS.out _).mono ?_)); rintro e w_ ⟨rfl, rfl⟩)
  go_ret2
  exact ⟨rfl, rfl⟩
set_option maxHeartbeats 2000000 in
theorem RTicks_nan (X S : Int) (HS : Aside0 (SizeIs X S)) (h1 : 9218868437227405312 < S) (w : World) : Calls Try.prog 12 #[.int .u64 X] w fun e w' => e = .returned (.tuple #[.int .i64 0, .int .i64 1]) ∧ w = w' := by
  go_enter Try.func12, Try.ntmps12
  go_wp2_with (go_at_call 27; ((with_reducible refine (HS.out _).mono ?_)); rintro e w_ ⟨rfl, rfl⟩)
  go_ret2
  exact ⟨rfl, rfl⟩
set_option maxRecDepth 100000 in
set_option maxHeartbeats 2000000 in
theorem RTicks_high (X : Int) (E : Nat) (HS : Aside0 (SizeIs X X)) (hE : X / 4503599627370496 = (E : Int)) (hx : X ≤ 9218868437227405312) (h0 : 0 < X) (h1 : 1063 ≤ E) (h2 : E ≤ 2047) (w : World) : Calls Try.prog 12 #[.int .u64 X] w fun e w' => e = .returned (.tuple #[.int .i64 1099511627776, .int .i64 0]) ∧ w = w' := by
  have d1 : decide (9218868437227405312 < X) = false := decide_eq_false (by omega)
  have d2 : decide (9223372036854775808 ≤ X) = false := decide_eq_false (by omega)
  have d3 : (X == 0) = false := by rw [beq_eq_false_iff_ne]; omega
  go_enter Try.func12, Try.ntmps12
  go_wp2_with (go_at_call 27; ((with_reducible refine (HS.out _).mono ?_)); rintro e w_ ⟨rfl, rfl⟩)
  go_ret2
  exact ⟨rfl, rfl⟩
set_option maxRecDepth 100000 in
set_option maxHeartbeats 2000000 in
theorem RTicks_one (X : Int) (E : Nat) (HS : Aside0 (SizeIs X X)) (hE : X / 4503599627370496 = (E : Int)) (hx : X ≤ 9218868437227405312) (h0 : 0 < X) (h1 : E < 1023) (w : World) : Calls Try.prog 12 #[.int .u64 X] w fun e w' => e = .returned (.tuple #[.int .i64 1, .int .i64 0]) ∧ w = w' := by
  have d1 : decide (9218868437227405312 < X) = false := decide_eq_false (by omega)
  have d2 : decide (9223372036854775808 ≤ X) = false := decide_eq_false (by omega)
  have d3 : (X == 0) = false := by rw [beq_eq_false_iff_ne]; omega
  go_enter Try.func12, Try.ntmps12
  go_wp2_with (go_at_call 27; ((with_reducible refine (HS.out _).mono ?_)); rintro e w_ ⟨rfl, rfl⟩)
  go_ret2
  exact ⟨rfl, rfl⟩
set_option maxRecDepth 100000 in
set_option maxHeartbeats 2000000 in
theorem RTicks_in (X : Int) (j r m q t d c : Nat) (HS : Aside0 (SizeIs X X)) (hE : X / 4503599627370496 = (j : Int) + 1023) (hr : X.tmod 4503599627370496 = (r : Int)) (hx : X ≤ 9218868437227405312) (h0 : 0 < X) (h1 : j ≤ 39) (hr1 : r < 4503599627370496)
    (hm : 4503599627370496 + r = m) (hd : 52 - j = d) (hq : m / 2 ^ d = q) (ht : q * 2 ^ d = t) (hc : q + (if t < m then 1 else 0) = c) (w : World) : Calls Try.prog 12 #[.int .u64 X] w fun e w' => e = .returned (.tuple #[.int .i64 c, .int .i64 0]) ∧ w = w' := by
  have d1 : decide (9218868437227405312 < X) = false := decide_eq_false (by omega)
  have d2 : decide (9223372036854775808 ≤ X) = false := decide_eq_false (by omega)
  have d3 : (X == 0) = false := by rw [beq_eq_false_iff_ne]; omega
  have hq1 : q ≤ m := by rw [← hq]; exact Nat.div_le_self _ _
  have ht1 : t ≤ m := by rw [← ht, ← hq]; exact Nat.div_mul_le_self _ _
  have f1 : (4503599627370496 + (r : Int)) / 2 ^ (52 - j) = (q : Int) := by
    rw [hd, show (4503599627370496 + (r : Int)) = (m : Int) by omega, show (2 : Int) ^ d = ((2 ^ d : Nat) : Int) by simp, ← Int.natCast_ediv, hq]
  have f2 : IntKind.u64.wrap ((q : Int) * 2 ^ (52 - j)) = (t : Int) := by
    rw [hd, IntKind.wrap_u64, show (q : Int) * 2 ^ d = (t : Int) by rw [← ht]; simp]
    omega
  have f3 : decide ((t : Int) < 4503599627370496 + (r : Int)) = decide (t < m) := by
    congr 1
    rw [eq_iff_iff]
    omega
  clear hd hq ht
  by_cases h : t < m
  · rw [decide_eq_true h] at f3
    rw [if_pos h] at hc
    have HC := Aside0.mk hc
    have hql : q ≤ 9007199254740992 := by omega
    clear hc h ht1 hq1 hm
    rw [← HC.out]
    go_enter Try.func12, Try.ntmps12
    go_wp2_with (go_at_call 27; ((with_reducible refine (HS.out _).mono ?_)); rintro e w_ ⟨rfl, rfl⟩)
    go_ret2
    exact ⟨rfl, rfl⟩
  · rw [decide_eq_false h] at f3
    rw [if_neg h] at hc
    have HC := Aside0.mk hc
    have hql : q ≤ 9007199254740992 := by omega
    clear hc h ht1 hq1 hm
    rw [← HC.out]
    go_enter Try.func12, Try.ntmps12
    go_wp2_with (go_at_call 27; ((with_reducible refine (HS.out _).mono ?_)); rintro e w_ ⟨rfl, rfl⟩)
    go_ret2
    exact ⟨rfl, rfl⟩
theorem sizeIs (x : Nat) (hx : x < 18446744073709551616) : SizeIs (x : Int) ((x % 9223372036854775808 : Nat) : Int) := rsize_calls x hx
theorem ceilF_one (m d : Nat) (h0 : 0 < m) (hm : m < 9007199254740992) (hd : 53 ≤ d) : ceilF m d = 1 := by
  have h1 : 2 ^ 53 ≤ 2 ^ d := Nat.pow_le_pow_right (by omega) hd
  unfold ceilF
  rw [Nat.div_eq_of_lt (by omega), Nat.mod_eq_of_lt (by omega), if_neg (by omega)]
theorem RTicks_calls (x : Nat) (hx : x < 18446744073709551616) (w : World) : Calls Try.prog 12 #[.int .u64 x] w fun e w' => e = .returned (.tuple #[.int .i64 (tickV x), .int .i64 (tickE x)]) ∧ w = w' := by
  have HS := Aside0.mk (sizeIs x hx)
  unfold tickV tickE
  by_cases h1 : 9218868437227405312 < x % 9223372036854775808
  · rw [if_pos h1, if_pos h1]
    exact RTicks_nan x _ HS (by omega) w
  · rw [if_neg h1, if_neg h1]
    unfold tickN
    by_cases h2 : 9223372036854775808 ≤ x ∨ x = 0
    · rw [if_pos h2]
      rcases h2 with h2 | rfl
      · exact RTicks_neg x _ HS (by omega) (by omega) w
      · exact RTicks_nought HS w
    · rw [if_neg h2]
      rw [show x % 9223372036854775808 = x by omega] at HS
      have eE : (x : Int) / 4503599627370496 = ((x / 4503599627370496 : Nat) : Int) := by omega
      by_cases h3 : 4787326403894837248 < x
      · rw [if_pos h3]
        exact RTicks_high x (x / 4503599627370496) HS eE (by omega) (by omega) (by omega) (by omega) w
      · rw [if_neg h3]
        obtain ⟨b1, b2, b3, b4⟩ := sig_bd x (by omega)
        rcases Nat.lt_or_ge (x / 4503599627370496) 1023 with h4 | h4
        · have hc : ceilF (sigM x) (1075 - sigE x) = 1 := by
            refine ceilF_one _ _ (b4 (by omega)) b1 ?_
            unfold sigE
            split <;> omega
          rw [hc]
          exact RTicks_one x (x / 4503599627370496) HS eE (by omega) (by omega) h4 w
        · have e1 : sigM x = 4503599627370496 + x % 4503599627370496 := by
            unfold sigM
            rw [if_neg (by omega)]
          have e2 : sigE x = x / 4503599627370496 := by
            unfold sigE
            rw [if_neg (by omega)]
          rw [e1, e2]
          rcases Nat.lt_or_ge (x / 4503599627370496) 1063 with h5 | h5
          · refine RTicks_in x (x / 4503599627370496 - 1023) (x % 4503599627370496) _ _ _ (1075 - x / 4503599627370496) _ HS (by omega) (by rw [Int.tmod_eq_emod_of_nonneg (by omega)]; omega) (by omega) (by omega) (by omega) (by omega) rfl (by omega) rfl rfl ?_ w
            unfold ceilF
            have hh := Nat.div_add_mod (4503599627370496 + x % 4503599627370496) (2 ^ (1075 - x / 4503599627370496))
            rw [Nat.mul_comm] at hh
            congr 1
            split
            · rw [if_neg (by omega)]
            · rw [if_pos (by omega)]
          · obtain rfl : x = 4787326403894837248 := by omega
            have hc : ceilF (4503599627370496 + 4787326403894837248 % 4503599627370496) (1075 - 4787326403894837248 / 4503599627370496) = 1099511627776 := by decide +kernel
            rw [hc]
            exact RTicks_high _ 1063 HS (by decide) (by decide) (by decide) (by decide) (by decide) w
end Go.Proofs.Ytcgonhnfpnmlcaa
