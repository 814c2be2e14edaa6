
/- What math.ldexp tells of a normal float's word. -/
import Derived.Test.YtcgonhnfpnmlcaaLagNum
set_option linter.unusedVariables false
set_option linter.unusedSimpArgs false
namespace Go.Proofs.Ytcgonhnfpnmlcaa
open Go.RowKit Go.Proofs.YtcgonhnfpnmlcaaW.PrintWords Go.Proofs.YtcgonhnfpnmlcaaW.PrintLast Go.Proofs.YtcgonhnfpnmlcaaW.PrintMore

/-- A normal finite word, in its parts. -/
structure NormW (x s E fr sg : Nat) : Prop where
  hx : x = sg * 9223372036854775808 + s
  hs : s = E * 4503599627370496 + fr
  sg1 : sg ≤ 1
  E1 : 1 ≤ E
  E2 : E ≤ 2046
  fr1 : fr < 4503599627370496
theorem NormW.of (x : Nat) (hx : x < 18446744073709551616) (h1 : 4503599627370496 ≤ x % 9223372036854775808) (h2 : x % 9223372036854775808 < 9218868437227405312) : NormW x (x % 9223372036854775808) (x % 9223372036854775808 / 4503599627370496) (x % 4503599627370496) (x / 9223372036854775808) :=
  ⟨by omega, by omega, by omega, by omega, by omega, by omega⟩
theorem i64_and2047 (n : Nat) (h : n < 9223372036854775808) : bits .and .i64 (n : Int) 2047 = ((n % 2048 : Nat) : Int) := by
  have hx : n &&& 2047 = n % 2048 := Nat.and_two_pow_sub_one_eq_mod n 11
  show IntKind.i64.wrap ((BitVec.ofInt 64 (n : Int) &&& BitVec.ofInt 64 2047).toNat : Int) = _
  rw [BitVec.toNat_and, ofInt_u64 n (by omega), show (BitVec.ofInt 64 2047).toNat = 2047 by decide, hx]
  exact IntWalk.i64_in _ (by omega)
theorem NormW.and {x s E fr sg : Nat} (h : NormW x s E fr sg) : bits BinOp.and IntKind.i64 ((x : Int) / 4503599627370496) 2047 = (E : Int) := by
  obtain ⟨hx, hs, sg1, E1, E2, fr1⟩ := h
  have e : ((x : Int) / 4503599627370496) = ((x / 4503599627370496 : Nat) : Int) := by omega
  rw [e, i64_and2047 _ (by omega)]
  omega
theorem NormW.clear {x s E fr sg : Nat} (h : NormW x s E fr sg) : bits BinOp.andNot IntKind.u64 (x : Int) 9218868437227405312 = ((sg * 9223372036854775808 + fr : Nat) : Int) := by
  obtain ⟨hx, hs, sg1, E1, E2, fr1⟩ := h
  have h := u64_andNot_nat x 9218868437227405312 (by omega) (by omega)
  rw [show ((9218868437227405312 : Nat) : Int) = 9218868437227405312 from rfl] at h
  have ht := and_topN x (by omega)
  have e1 : x &&& (2 ^ 52 - 1) = fr := by rw [Nat.and_two_pow_sub_one_eq_mod]; omega
  have e2 : x / 9223372036854775808 = sg := by omega
  rw [h, show 18446744073709551615 - 9218868437227405312 = 9223372036854775808 ||| (2 ^ 52 - 1) by decide, Nat.and_or_distrib_left, ht, e1, e2]
  congr 1
  have := Nat.two_pow_add_eq_or_of_lt (show fr < 2 ^ 63 by omega) sg
  rw [Nat.mul_comm] at this
  rw [show (9223372036854775808 : Nat) = 2 ^ 63 by decide]
  exact this.symm
theorem or_parts (sg fr m : Nat) (h1 : sg ≤ 1) (h2 : fr < 4503599627370496) (h3 : m < 2048) : bits BinOp.or IntKind.u64 ((sg * 9223372036854775808 + fr : Nat) : Int) ((m * 4503599627370496 : Nat) : Int) = ((sg * 9223372036854775808 + m * 4503599627370496 + fr : Nat) : Int) := by
  rw [u64_or_nat _ _ (by omega) (by omega)]
  congr 1
  have a := Nat.two_pow_add_eq_or_of_lt (show fr < 2 ^ 63 by omega) sg
  have b := Nat.two_pow_add_eq_or_of_lt (show fr < 2 ^ 52 by omega) m
  have c := Nat.two_pow_add_eq_or_of_lt (show m * 2 ^ 52 + fr < 2 ^ 63 by omega) sg
  rw [Nat.mul_comm (2 ^ 63)] at a c
  rw [Nat.mul_comm (2 ^ 52)] at b
  rw [show (9223372036854775808 : Nat) = 2 ^ 63 by decide, show (4503599627370496 : Nat) = 2 ^ 52 by decide, a, Nat.or_assoc, Nat.or_comm fr, ← b, ← c]
  exact (Nat.add_assoc _ _ _).symm
/-- The product of two words that are finite. -/
def mulW (a b : Nat) : Nat := (Ieee.double.mul a b).getD 0
theorem read_number (x : Nat) (h : x % 9223372036854775808 < 9218868437227405312) : ∃ s m e, Ieee.double.read x = .number s m e := by
  obtain ⟨m, a, e, _⟩ := read_mag x h
  exact ⟨_, _, _, e⟩
theorem mul_fin (a b : Nat) (ha : a % 9223372036854775808 < 9218868437227405312) (hb : b % 9223372036854775808 < 9218868437227405312) : Ieee.double.mul a b = some (mulW a b) := by
  unfold mulW Ieee.Format.mul
  obtain ⟨s, m, i, e1⟩ := read_number a ha
  obtain ⟨t, n, j, e2⟩ := read_number b hb
  rw [e1, e2]
  rfl
theorem mul_run (a b r : Nat) (h : Ieee.double.mul a b = some r) (w : World) : (binOp BinOp.mul 41 (.float .f64 a) (.float .f64 b)).run Try.prog w = .ok (.float .f64 r) w := by
  have h2 : FloatKind.f64.format.mul a b = some r := h
  simp [binOp, Op.floatArith, h2]
set_option maxRecDepth 100000 in
set_option maxHeartbeats 2000000 in
theorem ldexp_low (x s E fr sg : Nat) (h : NormW x s E fr sg) (k : Int) (hk : -5000 ≤ k ∧ k ≤ 5000) (hd : -1075 ≤ k + ((E : Int) - 1023) ∧ k + ((E : Int) - 1023) < -1022) (w : World) :
    Calls Try.prog 36 #[.float .f64 x, .int .i64 k] w fun e w' => e = .returned (.float .f64 (mulW 4368491638549381120 (sg * 9223372036854775808 + (k + ((E : Int) - 1023) + 53 + 1023).toNat * 4503599627370496 + fr))) ∧ w = w' := by
  obtain ⟨hx, hs, sg1, E1, E2, fr1⟩ := h
  have hxl : x < 18446744073709551616 := by omega
  have hsx : x % 9223372036854775808 = s := by omega
  have hz : (FloatKind.f64.format.order x 0 == some Ordering.eq) = false := (zero_iff x).trans (decide_eq_false (by omega))
  have HI := Aside0.mk (fun w => IsInf_calls x hxl w)
  rw [decide_eq_false (show ¬ x % 9223372036854775808 = 9218868437227405312 by omega)] at HI
  have HN := Aside0.mk (fun w => isNaN_v x false w (decide_eq_false (by omega)))
  have HM := Aside0.mk (fun w => normal_calls x hxl (by omega) (by omega) w)
  have hb := f64bits_run x
  have hand := (NormW.mk hx hs sg1 E1 E2 fr1).and
  obtain ⟨m, hm⟩ : ∃ m : Nat, k + ((E : Int) - 1023) + 53 + 1023 = (m : Int) := ⟨(k + ((E : Int) - 1023) + 53 + 1023).toNat, by omega⟩
  have hcl := (NormW.mk hx hs sg1 E1 E2 fr1).clear
  have hor := or_parts sg fr m sg1 fr1 (by omega)
  rw [← hcl, Int.natCast_mul, show ((4503599627370496 : Nat) : Int) = 4503599627370496 from rfl] at hor
  clear hcl
  obtain ⟨y, hy⟩ : ∃ y, sg * 9223372036854775808 + m * 4503599627370496 + fr = y := ⟨_, rfl⟩
  rw [hy] at hor
  rw [hm, Int.toNat_natCast, hy]
  have hfb := frombits_run y
  have hmr := mul_run 4368491638549381120 y _ (mul_fin _ _ (by decide) (by omega))
  have HX := Aside0.mk (And.intro hx hs)
  clear hx hs hsx
  go_enter Try.func36, Try.ntmps36
  go_wp2_with (first
    | (go_at_call 38; ((with_reducible refine (HI.out _).mono ?_)); rintro e w_ ⟨rfl, rfl⟩)
    | (go_at_call 25; ((with_reducible refine (HN.out _).mono ?_)); rintro e w_ ⟨rfl, rfl⟩)
    | (go_at_call 39; ((with_reducible refine (HM.out _).mono ?_)); rintro e w_ ⟨rfl, rfl⟩))
  go_ret
  exact ⟨rfl, rfl⟩
set_option maxRecDepth 100000 in
set_option maxHeartbeats 2000000 in
theorem ldexp_mid (x s E fr sg : Nat) (h : NormW x s E fr sg) (k : Int) (hk : -5000 ≤ k ∧ k ≤ 5000) (hd : -1022 ≤ k + ((E : Int) - 1023) ∧ k + ((E : Int) - 1023) ≤ 1023) (w : World) :
    Calls Try.prog 36 #[.float .f64 x, .int .i64 k] w fun e w' => e = .returned (.float .f64 (mulW 4607182418800017408 (sg * 9223372036854775808 + (k + ((E : Int) - 1023) + 1023).toNat * 4503599627370496 + fr))) ∧ w = w' := by
  obtain ⟨hx, hs, sg1, E1, E2, fr1⟩ := h
  have hxl : x < 18446744073709551616 := by omega
  have hsx : x % 9223372036854775808 = s := by omega
  have hz : (FloatKind.f64.format.order x 0 == some Ordering.eq) = false := (zero_iff x).trans (decide_eq_false (by omega))
  have HI := Aside0.mk (fun w => IsInf_calls x hxl w)
  rw [decide_eq_false (show ¬ x % 9223372036854775808 = 9218868437227405312 by omega)] at HI
  have HN := Aside0.mk (fun w => isNaN_v x false w (decide_eq_false (by omega)))
  have HM := Aside0.mk (fun w => normal_calls x hxl (by omega) (by omega) w)
  have hb := f64bits_run x
  have hand := (NormW.mk hx hs sg1 E1 E2 fr1).and
  obtain ⟨m, hm⟩ : ∃ m : Nat, k + ((E : Int) - 1023) + 1023 = (m : Int) := ⟨(k + ((E : Int) - 1023) + 1023).toNat, by omega⟩
  have hcl := (NormW.mk hx hs sg1 E1 E2 fr1).clear
  have hor := or_parts sg fr m sg1 fr1 (by omega)
  rw [← hcl, Int.natCast_mul, show ((4503599627370496 : Nat) : Int) = 4503599627370496 from rfl] at hor
  clear hcl
  obtain ⟨y, hy⟩ : ∃ y, sg * 9223372036854775808 + m * 4503599627370496 + fr = y := ⟨_, rfl⟩
  rw [hy] at hor
  rw [hm, Int.toNat_natCast, hy]
  have hfb := frombits_run y
  have hmr := mul_run 4607182418800017408 y _ (mul_fin _ _ (by decide) (by omega))
  have HX := Aside0.mk (And.intro hx hs)
  clear hx hs hsx
  go_enter Try.func36, Try.ntmps36
  go_wp2_with (first
    | (go_at_call 38; ((with_reducible refine (HI.out _).mono ?_)); rintro e w_ ⟨rfl, rfl⟩)
    | (go_at_call 25; ((with_reducible refine (HN.out _).mono ?_)); rintro e w_ ⟨rfl, rfl⟩)
    | (go_at_call 39; ((with_reducible refine (HM.out _).mono ?_)); rintro e w_ ⟨rfl, rfl⟩))
  go_ret
  exact ⟨rfl, rfl⟩
end Go.Proofs.Ytcgonhnfpnmlcaa
