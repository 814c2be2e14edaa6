
/- What the document's Scale (mootbellref03) computes. -/
import Derived.Test.YtcgonhnfpnmlcaaLagRef2
import Derived.Test.YtcgonhnfpnmlcaaLagTicks2
set_option linter.unusedVariables false
set_option linter.unusedSimpArgs false
namespace Go.Proofs.Ytcgonhnfpnmlcaa
open Go.RowKit Go.Proofs.YtcgonhnfpnmlcaaW.PrintWords Go.Proofs.YtcgonhnfpnmlcaaW.PrintLast Go.Proofs.YtcgonhnfpnmlcaaW.PrintMore
attribute [local go_sem] max2_int min2_int max_two min_two

abbrev SzI (X S : Int) : Prop := ∀ w, Calls Try.prog 27 #[.int .u64 X] w fun e w' => e = .returned (.int .u64 S) ∧ w = w'
abbrev RPl (X p : Int) : Prop := ∀ w, Calls Try.prog 14 #[.int .u64 X] w fun e w' => e = .returned (.int .u64 p) ∧ w = w'
theorem RScale_same (X p S k : Int) (HP : Aside0 (RPl X p)) (HS : Aside0 (SzI p S)) (h : (p == 0) = true ∨ ((p == 0) = false ∧ decide (9218868437227405312 ≤ S) = true)) (w : World) : Calls Try.prog 19 #[.int .u64 X, .int .i64 k] w fun e w' => e = .returned (.int .u64 p) ∧ w = w' := by
  rcases h with h | ⟨h, h2⟩
  · go_enter Try.func19, Try.ntmps19
    go_wp2_with (first
      | (go_at_call 14; ((with_reducible refine (HP.out _).mono ?_)); rintro e w_ ⟨rfl, rfl⟩)
      | (go_at_call 27; ((with_reducible refine (HS.out _).mono ?_)); rintro e w_ ⟨rfl, rfl⟩))
    go_ret
    exact ⟨rfl, rfl⟩
  · go_enter Try.func19, Try.ntmps19
    go_wp2_with (first
      | (go_at_call 14; ((with_reducible refine (HP.out _).mono ?_)); rintro e w_ ⟨rfl, rfl⟩)
      | (go_at_call 27; ((with_reducible refine (HS.out _).mono ?_)); rintro e w_ ⟨rfl, rfl⟩))
    go_ret
    exact ⟨rfl, rfl⟩
theorem vint_eq {k : IntKind} {a b : Int} (h : a = b) : Value.int k a = Value.int k b := by rw [h]
theorem madeS (sg m : Nat) (S e : Int) (R : Nat) (hS : S = ((sg * 9223372036854775808 : Nat) : Int)) (hsg : sg ≤ 1) (hm0 : 4503599627370496 ≤ m) (hm : m < 9007199254740992) (he2 : e ≤ 9000) (hR : plainF (wordF sg (nearR m (e - 1075))) = R) (w : World) : Calls Try.prog 31 #[.int .u64 S, .int .u64 m, .int .i64 e] w fun r w' => r = .returned (.int .u64 R) ∧ w = w' := by
  subst hS hR
  exact made_calls sg m e hsg hm0 hm he2 w
set_option maxRecDepth 100000 in
set_option maxHeartbeats 4000000 in
theorem RScale_fin (X p S : Int) (sg s M E R : Nat) (k : Int) (HP : Aside0 (RPl X p)) (HS : Aside0 (SzI p S)) (hp : p = ((sg * 9223372036854775808 + s : Nat) : Int)) (hS : S = (s : Int)) (hsg : sg ≤ 1) (h0 : 0 < s) (h1 : s < 9218868437227405312) (hM : sigM s = M) (hE : sigE s = E)
    (hR : plainF (wordF sg (nearR M (clampF k + (E : Int) - 1075))) = R) (w : World) : Calls Try.prog 19 #[.int .u64 X, .int .i64 k] w fun e w' => e = .returned (.int .u64 R) ∧ w = w' := by
  have c1 : (p == 0) = false := by rw [beq_eq_false_iff_ne]; omega
  have c2 : decide (9218868437227405312 ≤ S) = false := decide_eq_false (by omega)
  obtain ⟨G, hG⟩ : ∃ G : Int, G = ((sg * 9223372036854775808 : Nat) : Int) := ⟨_, rfl⟩
  have c3 : IntKind.u64.wrap (p - S) = G := by rw [IntKind.wrap_u64]; omega
  obtain ⟨b1, b2, b3, b4⟩ := sig_bd s h1
  have b5 := b4 h0
  rw [hM] at b1 b5
  rw [hE] at b2 b3
  have hG0 : 0 ≤ G := by omega
  have hG1 : G ≤ 9223372036854775808 := by omega
  have hp0 : 0 ≤ p := by omega
  have hp1 : p ≤ 18446744073709551615 := by omega
  have hS0 : 0 ≤ S := by omega
  have hS1 : S < 9218868437227405312 := by omega
  have hSp : S ≤ p := by omega
  have HG := Aside0.mk hG
  obtain ⟨q, hq⟩ : ∃ q : Int, (if k < -5000 then -5000 else k) = q := ⟨_, rfl⟩
  obtain ⟨c, hc⟩ : ∃ c : Int, clampF k = c := ⟨_, rfl⟩
  have hcb := clamp_bd k
  have hqc : (if 5000 < q then 5000 else q) = c := by rw [← hq, ← hc]; rfl
  rw [hc] at hcb hR
  have HQ := Aside0.mk hq
  have HQC := Aside0.mk hqc
  clear hG hc hq hqc
  have HRR := Aside0.mk hR
  have hv : (s < 4503599627370496 ∧ M = s ∧ E = 1 ∧ S / 4503599627370496 = 0 ∧ S.tmod 4503599627370496 = M) ∨ (∃ fr : Nat, 4503599627370496 ≤ s ∧ fr < 4503599627370496 ∧ S / 4503599627370496 = (E : Int) ∧ S.tmod 4503599627370496 = (fr : Int) ∧ 4503599627370496 + fr = M) := by
    unfold sigM at hM
    unfold sigE at hE
    rw [Int.tmod_eq_emod_of_nonneg (by omega)]
    by_cases g : s < 4503599627370496
    · rw [if_pos g] at hM hE
      exact Or.inl ⟨g, by omega, by omega, by omega, by omega⟩
    · rw [if_neg g] at hM hE
      exact Or.inr ⟨s % 4503599627370496, by omega, by omega, by omega, by omega, by omega⟩
  have HV := Aside0.mk hv
  clear hv hM hE hp hS hR
  go_enter Try.func19, Try.ntmps19
  go_upto_region 4 with (first
    | (go_at_call 14; ((with_reducible refine (HP.out _).mono ?_)); rintro e w_ ⟨rfl, rfl⟩)
    | (go_at_call 27; ((with_reducible refine (HS.out _).mono ?_)); rintro e w_ ⟨rfl, rfl⟩))
  rcases HV.out with ⟨g1, g2, g3, g4, g5⟩ | ⟨fr, g1, g2, g3, g4, g5⟩
  all_goals
    clear HV
    go_wp2_with (go_at_call 27; ((with_reducible refine (HS.out _).mono ?_)); rintro e w_ ⟨rfl, rfl⟩)
    go_loop [7, 8] (fun m e => ∃ (n i : Nat), m = .int .u64 n ∧ e = .int .i64 ((E : Int) - i) ∧ n = M * 2 ^ i ∧ i ≤ 52 ∧ n < 9007199254740992) (fun m _ => 9007199254740992 - (intOf m).toNat)
    case atStart =>
      refine ⟨M, 0, ?_, ?_, by rw [Nat.pow_zero, Nat.mul_one], by omega, b1⟩
      · exact vint_eq (by omega)
      · exact vint_eq (by omega)
    case round =>
      obtain ⟨n, i, rfl, rfl, hn, hi, hnl⟩ := hrel
      have hn0 : 0 < n := by
        rw [hn]
        exact Nat.mul_pos b5 (Nat.two_pow_pos i)
      have HN := Aside0.mk hn
      clear hn
      clear g1 g2 g3 g4 g5
      by_cases hlt : n < 4503599627370496
      · have hi2 : i < 52 := by
          have h2 := HN.out
          rcases Nat.lt_or_ge i 52 with h3 | h3
          · exact h3
          · have h4 : 2 ^ 52 ≤ 2 ^ i := Nat.pow_le_pow_right (by omega) h3
            have h5 : 1 * 2 ^ i ≤ M * 2 ^ i := Nat.mul_le_mul_right _ b5
            omega
        have hlt2 : decide ((n : Int) < 4503599627370496) = true := decide_eq_true (by omega)
        clear hlt
        go_wp2
        go_round
        case rel => 
          refine ⟨2 * n, i + 1, vint_eq (by rw [Int.natCast_mul]; rfl), vint_eq (by omega), ?_, by omega, ?_⟩
          · rw [HN.out, Nat.pow_succ, Nat.mul_comm 2, Nat.mul_assoc]
          · have := of_decide_eq_true hlt2
            omega
        case measure => 
          have := of_decide_eq_true hlt2
          simp [intOf]
          omega
      · have hlt2 : decide ((n : Int) < 4503599627370496) = false := decide_eq_false (by omega)
        have HR2 : plainF (wordF sg (nearR n ((E : Int) - i + c - 1075))) = R := by
          rw [HN.out, show (E : Int) - i + c - 1075 = c + (E : Int) - 1075 - (i : Nat) by omega, nearR_shift M i _ (by omega)]
          exact HRR.out
        have HM := Aside0.mk (fun w => madeS sg n G ((E : Int) - i + c) R HG.out hsg (by omega) hnl (by omega) HR2 w)
        have hqc := HQC.out
        have hq := HQ.out
        clear hlt HR2
        go_wp2_with (go_at_call 31; ((with_reducible refine (HM.out _).mono ?_)); rintro e w_ ⟨rfl, rfl⟩)
        go_ret
        exact ⟨rfl, rfl⟩
theorem RScale_calls (x : Nat) (k : Int) (hx : x < 18446744073709551616) (w : World) : Calls Try.prog 19 #[.int .u64 x, .int .i64 k] w fun e w' => e = .returned (.int .u64 (scaleF x (clampF k))) ∧ w = w' := by
  have hpb : plainF x < 18446744073709551616 := by
    unfold plainF
    (repeat' split) <;> omega
  have HP := Aside0.mk (show RPl (x : Int) (plainF x : Int) from fun w => RPlain_calls x hx w)
  have HS := Aside0.mk (show SzI (plainF x : Int) ((plainF x % 9223372036854775808 : Nat) : Int) from fun w => rsize_calls (plainF x) hpb w)
  unfold scaleF
  by_cases h : x % 9223372036854775808 = 0 ∨ 9218868437227405312 ≤ x % 9223372036854775808
  · rw [if_pos h]
    refine RScale_same _ _ _ k HP HS ?_ w
    rcases h with h | h
    · left
      rw [beq_iff_eq]
      unfold plainF
      rw [if_neg (by omega), if_pos h]
      rfl
    · right
      have hq : 9218868437227405312 ≤ plainF x % 9223372036854775808 := by
        unfold plainF
        (repeat' split) <;> omega
      constructor
      · rw [beq_eq_false_iff_ne]
        omega
      · exact decide_eq_true (by omega)
  · rw [if_neg h]
    have hpl : plainF x = x := by
      unfold plainF
      rw [if_neg (by omega), if_neg (by omega)]
    rw [hpl] at HP HS
    exact RScale_fin (x : Int) (x : Int) _ (x / 9223372036854775808) (x % 9223372036854775808) _ _ _ k HP HS (by omega) rfl (by omega) (by omega) (by omega) rfl rfl rfl w
end Go.Proofs.Ytcgonhnfpnmlcaa
