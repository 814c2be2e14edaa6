
/- What math.ldexp tells of any float's word that is neither nought nor infinite nor a NaN. -/
import Derived.Test.YtcgonhnfpnmlcaaNearPure
set_option linter.unusedVariables false
set_option linter.unusedSimpArgs false
namespace Go.Proofs.Ytcgonhnfpnmlcaa
open Go.RowKit Go.Proofs.YtcgonhnfpnmlcaaW.PrintWords Go.Proofs.YtcgonhnfpnmlcaaW.PrintLast Go.Proofs.YtcgonhnfpnmlcaaW.PrintMore

theorem read_norm {x s E fr sg : Nat} (h : NormW x s E fr sg) : Ieee.double.read x = .number (sg == 1) (4503599627370496 + fr) ((E : Int) - 1075) := by
  obtain ⟨hx, hs, sg1, E1, E2, fr1⟩ := h
  unfold Ieee.Format.read
  rw [sw, bw, iw, lp_double]
  simp only
  have e1 : x % 9223372036854775808 = s := by omega
  have e2 : x / 9223372036854775808 % 2 = sg := by omega
  have e3 : s % 4503599627370496 = fr := by omega
  have e4 : s / 4503599627370496 = E := by omega
  rw [e1, e2, e3, e4, if_neg (by omega), if_pos (by omega)]
  congr 1
  omega
def wordF (sg R : Nat) : Nat := sg * 9223372036854775808 + min R 9218868437227405312
theorem mulW_pow {y s E fr sg : Nat} (h : NormW y s E fr sg) (c : Nat) (p : Int) (hc : Ieee.double.read c = .number false 4503599627370496 (p - 52)) : mulW c y = wordF sg (nearR (4503599627370496 + fr) ((E : Int) - 1075 + p)) := by
  unfold mulW Ieee.Format.mul
  rw [hc, read_norm h]
  show Ieee.double.nearest (false ^^ (sg == 1)) (4503599627370496 * (4503599627370496 + fr)) (p - 52 + ((E : Int) - 1075)) = _
  rw [nearest_nearR _ _ _ (by omega)]
  have e : nearR (4503599627370496 * (4503599627370496 + fr)) (p - 52 + ((E : Int) - 1075)) = nearR (4503599627370496 + fr) ((E : Int) - 1075 + p) := by
    rw [← nearR_shift (4503599627370496 + fr) 52 ((E : Int) - 1075 + p) (by omega), Nat.mul_comm]
    congr 1
    omega
  rw [e]
  unfold wordF
  have sg1 := h.sg1
  rcases (show sg = 0 ∨ sg = 1 by omega) with rfl | rfl
  · simp
  · simp
theorem mulW_half {y s E fr sg : Nat} (h : NormW y s E fr sg) : mulW 4368491638549381120 y = wordF sg (nearR (4503599627370496 + fr) ((E : Int) - 1075 + -53)) := mulW_pow h _ _ (by decide +kernel)
theorem mulW_one {y s E fr sg : Nat} (h : NormW y s E fr sg) : mulW 4607182418800017408 y = wordF sg (nearR (4503599627370496 + fr) ((E : Int) - 1075 + 0)) := mulW_pow h _ _ (by decide +kernel)
theorem mulW_up {y s E fr sg : Nat} (h : NormW y s E fr sg) : mulW 4841369599423283200 y = wordF sg (nearR (4503599627370496 + fr) ((E : Int) - 1075 + 52)) := mulW_pow h _ _ (by decide +kernel)
/-- What normalize tells of a word. -/
structure NormC (x y : Nat) (e0 : Int) : Prop where
  hxl : x < 18446744073709551616
  h0 : 0 < x % 9223372036854775808
  h1 : x % 9223372036854775808 < 9218868437227405312
  e0l : -52 ≤ e0
  e0h : e0 ≤ 0
  run : ∀ w, Calls Try.prog 39 #[.float .f64 x] w fun e w' => e = .returned (.tuple #[.float .f64 y, .int .i64 e0]) ∧ w = w'
set_option maxRecDepth 100000 in
set_option maxHeartbeats 2000000 in
theorem ldexpG_low (x y s E fr sg : Nat) (e0 : Int) (hC : NormC x y e0) (h : NormW y s E fr sg) (k : Int) (hk : -5000 ≤ k ∧ k ≤ 5000) (hd : -1075 ≤ k + e0 + ((E : Int) - 1023) ∧ k + e0 + ((E : Int) - 1023) < -1022) (w : World) :
    Calls Try.prog 36 #[.float .f64 x, .int .i64 k] w fun e w' => e = .returned (.float .f64 (mulW 4368491638549381120 (sg * 9223372036854775808 + (k + e0 + ((E : Int) - 1023) + 53 + 1023).toNat * 4503599627370496 + fr))) ∧ w = w' := by
  obtain ⟨hx, hs, sg1, E1, E2, fr1⟩ := h
  obtain ⟨hxl, hx0, hx1, el, eh, hrun⟩ := hC
  have hz : (FloatKind.f64.format.order x 0 == some Ordering.eq) = false := (zero_iff x).trans (decide_eq_false (by omega))
  have HI := Aside0.mk (fun w => IsInf_calls x hxl w)
  rw [decide_eq_false (show ¬ x % 9223372036854775808 = 9218868437227405312 by omega)] at HI
  have HN := Aside0.mk (fun w => isNaN_v x false w (decide_eq_false (by omega)))
  have HM := Aside0.mk hrun
  have hb := f64bits_run y
  have hand := (NormW.mk hx hs sg1 E1 E2 fr1).and
  obtain ⟨m, hm⟩ : ∃ m : Nat, k + e0 + ((E : Int) - 1023) + 53 + 1023 = (m : Int) := ⟨(k + e0 + ((E : Int) - 1023) + 53 + 1023).toNat, by omega⟩
  have hcl := (NormW.mk hx hs sg1 E1 E2 fr1).clear
  have hor := or_parts sg fr m sg1 fr1 (by omega)
  rw [← hcl, Int.natCast_mul, show ((4503599627370496 : Nat) : Int) = 4503599627370496 from rfl] at hor
  clear hcl
  obtain ⟨z, hy⟩ : ∃ y, sg * 9223372036854775808 + m * 4503599627370496 + fr = y := ⟨_, rfl⟩
  rw [hy] at hor
  rw [hm, Int.toNat_natCast, hy]
  have hfb := frombits_run z
  have hmr := mul_run 4368491638549381120 z _ (mul_fin _ _ (by decide) (by omega))
  have HX := Aside0.mk (And.intro hx hs)
  have hyl : y < 18446744073709551616 := by omega
  clear hx hs hrun hx0 hx1
  go_enter Try.func36, Try.ntmps36
  go_wp2_with (first
    | (go_at_call 38; ((with_reducible refine (HI.out _).mono ?_)); rintro e w_ ⟨rfl, rfl⟩)
    | (go_at_call 25; ((with_reducible refine (HN.out _).mono ?_)); rintro e w_ ⟨rfl, rfl⟩)
    | (go_at_call 39; ((with_reducible refine (HM.out _).mono ?_)); rintro e w_ ⟨rfl, rfl⟩))
  go_ret
  exact ⟨rfl, rfl⟩
set_option maxRecDepth 100000 in
set_option maxHeartbeats 2000000 in
theorem ldexpG_mid (x y s E fr sg : Nat) (e0 : Int) (hC : NormC x y e0) (h : NormW y s E fr sg) (k : Int) (hk : -5000 ≤ k ∧ k ≤ 5000) (hd : -1022 ≤ k + e0 + ((E : Int) - 1023) ∧ k + e0 + ((E : Int) - 1023) ≤ 1023) (w : World) :
    Calls Try.prog 36 #[.float .f64 x, .int .i64 k] w fun e w' => e = .returned (.float .f64 (mulW 4607182418800017408 (sg * 9223372036854775808 + (k + e0 + ((E : Int) - 1023) + 1023).toNat * 4503599627370496 + fr))) ∧ w = w' := by
  obtain ⟨hx, hs, sg1, E1, E2, fr1⟩ := h
  obtain ⟨hxl, hx0, hx1, el, eh, hrun⟩ := hC
  have hz : (FloatKind.f64.format.order x 0 == some Ordering.eq) = false := (zero_iff x).trans (decide_eq_false (by omega))
  have HI := Aside0.mk (fun w => IsInf_calls x hxl w)
  rw [decide_eq_false (show ¬ x % 9223372036854775808 = 9218868437227405312 by omega)] at HI
  have HN := Aside0.mk (fun w => isNaN_v x false w (decide_eq_false (by omega)))
  have HM := Aside0.mk hrun
  have hb := f64bits_run y
  have hand := (NormW.mk hx hs sg1 E1 E2 fr1).and
  obtain ⟨m, hm⟩ : ∃ m : Nat, k + e0 + ((E : Int) - 1023) + 1023 = (m : Int) := ⟨(k + e0 + ((E : Int) - 1023) + 1023).toNat, by omega⟩
  have hcl := (NormW.mk hx hs sg1 E1 E2 fr1).clear
  have hor := or_parts sg fr m sg1 fr1 (by omega)
  rw [← hcl, Int.natCast_mul, show ((4503599627370496 : Nat) : Int) = 4503599627370496 from rfl] at hor
  clear hcl
  obtain ⟨z, hy⟩ : ∃ y, sg * 9223372036854775808 + m * 4503599627370496 + fr = y := ⟨_, rfl⟩
  rw [hy] at hor
  rw [hm, Int.toNat_natCast, hy]
  have hfb := frombits_run z
  have hmr := mul_run 4607182418800017408 z _ (mul_fin _ _ (by decide) (by omega))
  have HX := Aside0.mk (And.intro hx hs)
  have hyl : y < 18446744073709551616 := by omega
  clear hx hs hrun hx0 hx1
  go_enter Try.func36, Try.ntmps36
  go_wp2_with (first
    | (go_at_call 38; ((with_reducible refine (HI.out _).mono ?_)); rintro e w_ ⟨rfl, rfl⟩)
    | (go_at_call 25; ((with_reducible refine (HN.out _).mono ?_)); rintro e w_ ⟨rfl, rfl⟩)
    | (go_at_call 39; ((with_reducible refine (HM.out _).mono ?_)); rintro e w_ ⟨rfl, rfl⟩))
  go_ret
  exact ⟨rfl, rfl⟩
set_option maxRecDepth 100000 in
set_option maxHeartbeats 2000000 in
theorem ldexpG_zero (x y s E fr sg : Nat) (e0 : Int) (hC : NormC x y e0) (h : NormW y s E fr sg) (k : Int) (hk : -5000 ≤ k ∧ k ≤ 5000) (hd : k + e0 + ((E : Int) - 1023) < -1075) (w : World) :
    Calls Try.prog 36 #[.float .f64 x, .int .i64 k] w fun e w' => e = .returned (.float .f64 (sg * 9223372036854775808)) ∧ w = w' := by
  obtain ⟨hx, hs, sg1, E1, E2, fr1⟩ := h
  obtain ⟨hxl, hx0, hx1, el, eh, hrun⟩ := hC
  have hz : (FloatKind.f64.format.order x 0 == some Ordering.eq) = false := (zero_iff x).trans (decide_eq_false (by omega))
  have HI := Aside0.mk (fun w => IsInf_calls x hxl w)
  rw [decide_eq_false (show ¬ x % 9223372036854775808 = 9218868437227405312 by omega)] at HI
  have HN := Aside0.mk (fun w => isNaN_v x false w (decide_eq_false (by omega)))
  have HM := Aside0.mk hrun
  have hb := f64bits_run y
  have hand := (NormW.mk hx hs sg1 E1 E2 fr1).and
  have hyl : y < 18446744073709551616 := by omega
  have HC := Aside0.mk (fun w => Copy_calls y hyl w)
  rw [show y / 9223372036854775808 = sg by omega] at HC
  have HX := Aside0.mk (And.intro hx hs)
  clear hx hs hrun hx0 hx1
  go_enter Try.func36, Try.ntmps36
  go_wp2_with (first
    | (go_at_call 38; ((with_reducible refine (HI.out _).mono ?_)); rintro e w_ ⟨rfl, rfl⟩)
    | (go_at_call 25; ((with_reducible refine (HN.out _).mono ?_)); rintro e w_ ⟨rfl, rfl⟩)
    | (go_at_call 39; ((with_reducible refine (HM.out _).mono ?_)); rintro e w_ ⟨rfl, rfl⟩)
    | (go_at_call 40; ((with_reducible refine (HC.out _).mono ?_)); rintro e w_ ⟨rfl, rfl⟩))
  go_ret
  exact ⟨rfl, rfl⟩
set_option maxRecDepth 100000 in
set_option maxHeartbeats 2000000 in
theorem ldexpG_inf (x y s E fr sg : Nat) (e0 : Int) (hC : NormC x y e0) (h : NormW y s E fr sg) (k : Int) (hk : -5000 ≤ k ∧ k ≤ 5000) (hd : 1023 < k + e0 + ((E : Int) - 1023)) (w : World) :
    Calls Try.prog 36 #[.float .f64 x, .int .i64 k] w fun e w' => e = .returned (.float .f64 (sg * 9223372036854775808 + 9218868437227405312)) ∧ w = w' := by
  obtain ⟨hx, hs, sg1, E1, E2, fr1⟩ := h
  obtain ⟨hxl, hx0, hx1, el, eh, hrun⟩ := hC
  have hz : (FloatKind.f64.format.order x 0 == some Ordering.eq) = false := (zero_iff x).trans (decide_eq_false (by omega))
  have HI := Aside0.mk (fun w => IsInf_calls x hxl w)
  rw [decide_eq_false (show ¬ x % 9223372036854775808 = 9218868437227405312 by omega)] at HI
  have HN := Aside0.mk (fun w => isNaN_v x false w (decide_eq_false (by omega)))
  have HM := Aside0.mk hrun
  have hb := f64bits_run y
  have hand := (NormW.mk hx hs sg1 E1 E2 fr1).and
  have hyl : y < 18446744073709551616 := by omega
  have hlt : (FloatKind.f64.format.order y 0 == some Ordering.lt) = decide (9223372036854775808 ≤ y) := lt_zero y hyl (by omega) (by omega)
  rcases (show sg = 0 ∨ sg = 1 by omega) with rfl | rfl
  · rw [decide_eq_false (by omega)] at hlt
    have HX := Aside0.mk (And.intro hx hs)
    clear hx hs hrun hx0 hx1
    go_enter Try.func36, Try.ntmps36
    go_wp2_with (first
      | (go_at_call 38; ((with_reducible refine (HI.out _).mono ?_)); rintro e w_ ⟨rfl, rfl⟩)
      | (go_at_call 25; ((with_reducible refine (HN.out _).mono ?_)); rintro e w_ ⟨rfl, rfl⟩)
      | (go_at_call 39; ((with_reducible refine (HM.out _).mono ?_)); rintro e w_ ⟨rfl, rfl⟩)
      | (go_at_call 41; ((with_reducible refine (InfP_calls _).mono ?_)); rintro e w_ ⟨rfl, rfl⟩))
    go_ret
    exact ⟨rfl, rfl⟩
  · rw [decide_eq_true (by omega)] at hlt
    have HX := Aside0.mk (And.intro hx hs)
    clear hx hs hrun hx0 hx1
    go_enter Try.func36, Try.ntmps36
    go_wp2_with (first
      | (go_at_call 38; ((with_reducible refine (HI.out _).mono ?_)); rintro e w_ ⟨rfl, rfl⟩)
      | (go_at_call 25; ((with_reducible refine (HN.out _).mono ?_)); rintro e w_ ⟨rfl, rfl⟩)
      | (go_at_call 39; ((with_reducible refine (HM.out _).mono ?_)); rintro e w_ ⟨rfl, rfl⟩)
      | (go_at_call 41; ((with_reducible refine (InfN_calls _).mono ?_)); rintro e w_ ⟨rfl, rfl⟩))
    go_ret
    exact ⟨rfl, rfl⟩
/-- All ways as one. -/
theorem ldexpG (x y s E fr sg : Nat) (e0 : Int) (hC : NormC x y e0) (h : NormW y s E fr sg) (k : Int) (hk : -5000 ≤ k ∧ k ≤ 5000) (w : World) :
    Calls Try.prog 36 #[.float .f64 x, .int .i64 k] w fun e w' => e = .returned (.float .f64 (wordF sg (nearR (4503599627370496 + fr) (k + e0 + (E : Int) - 1075)))) ∧ w = w' := by
  have h' := h
  obtain ⟨hx, hs, sg1, E1, E2, fr1⟩ := h'
  rcases Int.lt_or_le (k + e0 + ((E : Int) - 1023)) (-1075) with c1 | c1
  · have e := ldexpG_zero x y s E fr sg e0 hC h k hk c1 w
    have er : wordF sg (nearR (4503599627370496 + fr) (k + e0 + (E : Int) - 1075)) = sg * 9223372036854775808 := by
      unfold wordF
      rw [nearR_low _ _ (by omega) (by omega) (by omega)]
      have : shiftF (4503599627370496 + fr) (1 - (k + e0 + (E : Int))).toNat = 0 := by
        rcases Nat.lt_or_ge 54 (1 - (k + e0 + (E : Int))).toNat with h2 | h2
        · exact shiftF_lo _ _ (by omega) (by omega)
        · rw [show (1 - (k + e0 + (E : Int))).toNat = 54 by omega]
          exact shiftF_54 _ (by omega)
      rw [this]
      omega
    rw [er]
    exact e
  · rcases Int.lt_or_le (k + e0 + ((E : Int) - 1023)) (-1022) with c2 | c2
    · have e := ldexpG_low x y s E fr sg e0 hC h k hk ⟨c1, c2⟩ w
      rw [mulW_half (s := (k + e0 + ((E : Int) - 1023) + 53 + 1023).toNat * 4503599627370496 + fr) (E := (k + e0 + ((E : Int) - 1023) + 53 + 1023).toNat) (fr := fr) (sg := sg) ⟨by omega, rfl, sg1, by omega, by omega, fr1⟩] at e
      rw [show (((k + e0 + ((E : Int) - 1023) + 53 + 1023).toNat : Nat) : Int) - 1075 + -53 = k + e0 + (E : Int) - 1075 by omega] at e
      exact e
    · rcases Int.lt_or_le 1023 (k + e0 + ((E : Int) - 1023)) with c3 | c3
      · have e := ldexpG_inf x y s E fr sg e0 hC h k hk c3 w
        have er : wordF sg (nearR (4503599627370496 + fr) (k + e0 + (E : Int) - 1075)) = sg * 9223372036854775808 + 9218868437227405312 := by
          unfold wordF
          rw [nearR_high _ _ (by omega) (by omega) (by omega)]
          omega
        rw [er]
        exact e
      · have e := ldexpG_mid x y s E fr sg e0 hC h k hk ⟨c2, by omega⟩ w
        rw [mulW_one (s := (k + e0 + ((E : Int) - 1023) + 1023).toNat * 4503599627370496 + fr) (E := (k + e0 + ((E : Int) - 1023) + 1023).toNat) (fr := fr) (sg := sg) ⟨by omega, rfl, sg1, by omega, by omega, fr1⟩] at e
        rw [show (((k + e0 + ((E : Int) - 1023) + 1023).toNat : Nat) : Int) - 1075 + 0 = k + e0 + (E : Int) - 1075 by omega] at e
        exact e
end Go.Proofs.Ytcgonhnfpnmlcaa
