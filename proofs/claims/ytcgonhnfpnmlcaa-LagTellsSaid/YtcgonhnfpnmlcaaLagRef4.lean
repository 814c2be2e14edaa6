
/- What the document's 'Of' (mootbellref03) computes: the model's word. -/
import Derived.Test.YtcgonhnfpnmlcaaLagRef3
set_option linter.unusedVariables false
set_option linter.unusedSimpArgs false
namespace Go.Proofs.Ytcgonhnfpnmlcaa
open Go.RowKit Go.Proofs.YtcgonhnfpnmlcaaW.PrintWords Go.Proofs.YtcgonhnfpnmlcaaW.PrintLast Go.Proofs.YtcgonhnfpnmlcaaW.PrintMore

theorem nearR_of (m : Nat) (h0 : m ≠ 0) (h : 52 ≤ m.log2) : nearR m 0 = (m.log2 + 1022) * 4503599627370496 + shiftF m (m.log2 - 52) := by
  unfold nearR
  rw [show max (0 + (m.log2 : Int) - 52) (-1074) = (m.log2 : Int) - 52 by omega, show ((m.log2 : Int) - 52 + 1074).toNat = m.log2 + 1022 by omega, show (0 - ((m.log2 : Int) - 52)).toNat = 0 by omega, Nat.pow_zero, Nat.mul_one]
  congr 2
  omega
theorem shiftF_of (m : Nat) (h0 : m ≠ 0) (h : 52 ≤ m.log2) : 4503599627370496 ≤ shiftF m (m.log2 - 52) ∧ shiftF m (m.log2 - 52) ≤ 9007199254740992 := by
  have a := Nat.log2_self_le h0
  have b := Nat.lt_log2_self (n := m)
  have p := Nat.two_pow_pos (m.log2 - 52)
  have e1 : 2 ^ m.log2 = 4503599627370496 * 2 ^ (m.log2 - 52) := by
    rw [show (4503599627370496 : Nat) = 2 ^ 52 by decide, ← Nat.pow_add]
    congr 1
    omega
  have e2 : 2 ^ (m.log2 + 1) = 9007199254740992 * 2 ^ (m.log2 - 52) := by
    rw [show (9007199254740992 : Nat) = 2 ^ 53 by decide, ← Nat.pow_add]
    congr 1
    omega
  rw [e1] at a
  rw [e2] at b
  have h1 := (Nat.le_div_iff_mul_le p).2 a
  have h2 := (Nat.div_lt_iff_lt_mul p).2 b
  unfold shiftF
  split <;> omega
theorem wordF_pos (sg R : Nat) (h : sg ≤ 1) (h0 : 0 < R) : plainF (wordF sg R) = wordF sg R := plain_word sg R h h0
/-- A whole number's word, by its sign and its size. -/
def sgI (n : Int) : Nat := if n < 0 then 1 else 0
theorem ofW_word (n : Int) (h0 : n ≠ 0) : ofW n = wordF (sgI n) (nearR n.natAbs 0) := by
  unfold ofW FloatKind.nearest FloatKind.encode
  show Ieee.double.nearest (decide (n < 0)) n.natAbs 0 = _
  rw [nearest_nearR _ _ _ (by omega)]
  unfold wordF sgI
  by_cases h : n < 0
  · rw [if_pos h, decide_eq_true h, if_pos rfl, Nat.one_mul]
  · rw [if_neg h, decide_eq_false h, if_neg (by simp), Nat.zero_mul, Nat.zero_add]
theorem madeI (S sg m : Nat) (hS : sg * 9223372036854775808 = S) (e : Int) (f : Nat) (hf : e = ((f + 1023 : Nat) : Int)) (hf2 : f ≤ 64) (hsg : sg ≤ 1) (hm0 : 4503599627370496 ≤ m) (hm : m ≤ 9007199254740992) (w : World) : Calls Try.prog 31 #[.int .u64 S, .int .u64 m, .int .i64 e] w fun r w' => r = .returned (.int .u64 (wordF sg ((f + 1022) * 4503599627370496 + m))) ∧ w = w' := by
  subst hS
  rcases Nat.lt_or_ge m 9007199254740992 with h | h
  · have e1 := made_calls sg m e hsg hm0 h (by omega) w
    rw [nearR_high m e hm0 h (by omega), plain_word sg _ hsg (by omega), show e.toNat * 4503599627370496 + (m - 4503599627370496) = (f + 1022) * 4503599627370496 + m by omega] at e1
    exact e1
  · obtain rfl : m = 9007199254740992 := by omega
    have e1 := made_calls2 sg e hsg (by omega) (by omega) w
    rw [show (e.toNat + 1) * 4503599627370496 = (f + 1022) * 4503599627370496 + 9007199254740992 by omega] at e1
    exact e1
theorem nearR_pos (m : Nat) (h : m ≠ 0) : 0 < nearR m 0 := by
  rcases Nat.lt_or_ge m.log2 52 with h1 | h1
  · unfold nearR
    rw [show max (0 + (m.log2 : Int) - 52) (-1074) = (m.log2 : Int) - 52 by omega]
    exact Nat.add_pos_left (Nat.mul_pos (show 0 < ((m.log2 : Int) - 52 + 1074).toNat by omega) (by decide)) _
  · rw [nearR_of m h h1]
    have := shiftF_of m h h1
    omega
set_option maxRecDepth 100000 in
set_option maxHeartbeats 2000000 in
theorem ROf_calls (n : Int) (hn0 : -9223372036854775808 ≤ n) (hn1 : n ≤ 9223372036854775807) (w : World) : Calls Try.prog 23 #[.int .i64 n] w fun e w' => e = .returned (.int .u64 (ofW n)) ∧ w = w' := by
  by_cases h0 : n = 0
  · subst h0
    rw [ofW_zero]
    go_enter Try.func23, Try.ntmps23
    go_wp2
    go_ret
    exact ⟨rfl, rfl⟩
  · have HW := Aside0.mk (ofW_word n h0)
    have hsg : sgI n ≤ 1 := by unfold sgI; split <;> omega
    have HSG := Aside0.mk (show sgI n = if n < 0 then 1 else 0 from rfl)
    obtain ⟨M, hM⟩ : ∃ M, n.natAbs = M := ⟨_, rfl⟩
    rw [hM] at HW
    have HMN := Aside0.mk hM
    have hMl : M ≤ 9223372036854775808 := by omega
    have hM0 : M ≠ 0 := by omega
    clear hM
    generalize sgI n = sg at *
    obtain ⟨S, hS⟩ : ∃ S, sg * 9223372036854775808 = S := ⟨_, rfl⟩
    have HSS := Aside0.mk hS
    have hSl : S ≤ 9223372036854775808 := by omega
    clear hS
    rw [HW.out]
    obtain ⟨R, hR⟩ : ∃ R, nearR M 0 = R := ⟨_, rfl⟩
    rw [hR]
    have HR := Aside0.mk hR
    clear hR HW
    have hl63 : M.log2 ≤ 63 := by
      have := (Nat.log2_lt hM0 (k := 64)).2 (by omega)
      omega
    have HL1 := Aside0.mk (Nat.log2_self_le hM0)
    have HL2 := Aside0.mk (Nat.lt_log2_self (n := M))
    by_cases hneg : n < 0
    all_goals
      go_enter Try.func23, Try.ntmps23
      go_upto_region 8 with (fail)
      go_cut [3, 4, 5] (fun a b k wc => a = .int .u64 (S : Int) ∧ b = .int .u64 (M : Int) ∧ k = .int .i64 0 ∧ wc = w)
      case first =>
        go_wp2
        go_meet
        case rel =>
          have h1 := HSG.out
          have h2 := HMN.out
          have h3 := HSS.out
          refine ⟨?_, ?_, rfl, rfl⟩
          · first
              | (rw [if_pos (by omega)] at h1; subst h1; subst h3; rfl)
              | (rw [if_neg (by omega)] at h1; subst h1; subst h3; rfl)
          · congr 1
            first | omega | (simp; omega)
      case rest =>
        obtain ⟨rfl, rfl, rfl, rfl⟩ := hcut
        clear hneg
        go_wp2
        go_loop [5] (fun k => ∃ j : Nat, k = .int .i64 j ∧ j ≤ M.log2) (fun k => 64 - (intOf k).toNat)
        case atStart => exact ⟨0, rfl, Nat.zero_le _⟩
        case round =>
          obtain ⟨j, rfl, hj⟩ := hrel
          by_cases hlt : j < M.log2
          · have hq : ∃ q : Nat, (M : Int) / 2 ^ (j + 1) = (q : Int) ∧ 0 < q := by
              refine ⟨M / 2 ^ (j + 1), by rw [Int.natCast_ediv]; simp, ?_⟩
              refine Nat.div_pos ?_ (Nat.two_pow_pos _)
              exact Nat.le_trans (Nat.pow_le_pow_right (by omega) hlt) HL1.out
            obtain ⟨q, hq, hq0⟩ := hq
            go_wp2
            go_round
            case rel => exact ⟨j + 1, by go_num, by omega⟩
            case measure => simp [intOf]; omega
          · obtain rfl : j = M.log2 := by omega
            clear hlt hj
            have hq : (M : Int) / 2 ^ (M.log2 + 1) = 0 := by
              rw [show (2 : Int) ^ (M.log2 + 1) = ((2 ^ (M.log2 + 1) : Nat) : Int) by simp, ← Int.natCast_ediv, Nat.div_eq_of_lt HL2.out]
              rfl
            have HE := Aside0.mk hM0
            rcases Nat.lt_or_ge 52 M.log2 with c1 | c1
            · obtain ⟨d, hd⟩ : ∃ d, M.log2 - 52 = d := ⟨_, rfl⟩
              have hb := shiftF_of M hM0 (by omega)
              have hr := HR.out
              rw [nearR_of M hM0 (by omega)] at hr
              rw [hd] at hb hr
              generalize M.log2 = l at *
              have HS := Aside0.mk (fun w => shiftedI M d ((l : Int) - 52) (by omega) (by omega) (by omega) w)
              clear hd
              generalize shiftF M d = q at *
              have HQ := Aside0.mk hr
              clear hr
              have HM := Aside0.mk (fun w => madeI S sg q HSS.out (1023 + (l : Int)) l (by omega) (by omega) hsg hb.1 hb.2 w)
              go_wp2_with (first
                | (go_at_call 32; ((with_reducible refine (HS.out _).mono ?_)); rintro e w_ ⟨rfl, rfl⟩)
                | (go_at_call 31; ((with_reducible refine (HM.out _).mono ?_)); rintro e w_ ⟨rfl, rfl⟩))
              all_goals
                go_ret
                exact ⟨ret_int (by rw [HQ.out]), rfl⟩
            · obtain ⟨d, hd⟩ : ∃ d, 52 - M.log2 = d := ⟨_, rfl⟩
              have hr := HR.out
              have e2 := nearR_shift M d 0 hM0
              have hb : 4503599627370496 ≤ M * 2 ^ d ∧ M * 2 ^ d < 9007199254740992 := by
                have p := Nat.two_pow_pos d
                have a := Nat.mul_le_mul_right (2 ^ d) HL1.out
                have b := Nat.mul_lt_mul_of_pos_right HL2.out p
                rw [← Nat.pow_add, show M.log2 + d = 52 by omega] at a
                rw [← Nat.pow_add, show M.log2 + 1 + d = 53 by omega] at b
                exact ⟨a, b⟩
              rw [← e2, show (0 : Int) - (d : Int) = ((M.log2 : Int) + 1023) - 1075 by omega, nearR_high _ _ hb.1 hb.2 (by omega), show ((M.log2 : Int) + 1023).toNat = M.log2 + 1023 by omega] at hr
              generalize M.log2 = l at *
              obtain ⟨q, hq2⟩ : ∃ q, M * 2 ^ d = q := ⟨_, rfl⟩
              have hsh : IntKind.u64.wrap ((M : Int) * 2 ^ (52 - l)) = (q : Int) := by
                rw [hd, IntKind.wrap_u64, show (M : Int) * 2 ^ d = (q : Int) by rw [← hq2]; simp]
                omega
              rw [hq2] at hb hr
              have HQ := Aside0.mk (show R = (l + 1022) * 4503599627370496 + q by omega)
              clear hd hr e2 hq2
              have hb1 := hb.1
              have hb2 := hb.2
              have HM := Aside0.mk (fun w => madeI S sg q HSS.out (1023 + (l : Int)) l (by omega) (by omega) hsg hb1 (by omega) w)
              clear hb
              go_wp2_with (go_at_call 31; ((with_reducible refine (HM.out _).mono ?_)); rintro e w_ ⟨rfl, rfl⟩)
              all_goals
                go_ret
                exact ⟨ret_int (by rw [HQ.out]), rfl⟩
end Go.Proofs.Ytcgonhnfpnmlcaa
