
/- LagScale: for every input the call of the statement returns true and leaves its arguments as they were. Conditions: none beyond the row's own. -/
import Derived.Test.YtcgonhnfpnmlcaaShellG
import Derived.Test.YtcgonhnfpnmlcaaScalePure
set_option linter.unusedVariables false
set_option linter.unusedSimpArgs false
namespace Go.Proofs.Ytcgonhnfpnmlcaa
open Go.RowKit Go.Proofs.YtcgonhnfpnmlcaaW.PrintWords Go.Proofs.YtcgonhnfpnmlcaaW.PrintLast Go.Proofs.YtcgonhnfpnmlcaaW.PrintMore
open Go.ChangeShapes Go.WideShapes Go.ChangeAt
open Go.ChangeMaps (open_string shut_string)

theorem plain_bd' (x : Nat) (hx : x < 18446744073709551616) : plainF x < 18446744073709551616 := by
  unfold plainF
  (repeat' split) <;> omega
abbrev ScI (X : Nat) (k : Int) (R : Nat) : Prop := ∀ w, Calls Try.prog 18 #[.int .u64 X, .int .i64 k] w fun e w' => e = .returned (.int .u64 R) ∧ w = w'
theorem scI (X : Nat) (k : Int) (R : Nat) (hX : X < 18446744073709551616) (hk : -5000 ≤ k ∧ k ≤ 5000) (h : scaleF X k = R) : ScI X k R := fun w => by
  have e := Scale_calls X k hX w
  rw [clamp_in k hk, h] at e
  exact e
abbrev PkI (c n r : Int) : Prop := ∀ w, Calls Try.prog 17 #[.int .i64 c, .int .i64 n] w fun e w' => e = .returned (.int .i64 r) ∧ w = w'
abbrev OfI2 (n : Int) (R : Nat) : Prop := ∀ w, Calls Try.prog 22 #[.int .i64 n] w fun e w' => e = .returned (.int .u64 R) ∧ w = w'
theorem swapW {f : FuncId} {args : Array Value} {v : Value} (h : ∀ w, Calls Try.prog f args w fun e w' => e = .returned v ∧ w = w') (w : World) : Calls Try.prog f args w fun e w' => e = .returned v ∧ w' = w := (h w).mono fun _ _ hh => ⟨hh.1, hh.2.symm⟩
set_option maxRecDepth 100000 in
set_option maxHeartbeats 8000000 in
theorem LagScale_walk (W p x y r r2 : Nat) (j k n a b e : Int) (m M2 : Int) (s : Nat) (S : Int)
    (HP : Aside0 (∀ w, Calls Try.prog 13 #[.int .u64 W] w fun e w' => e = .returned (.int .u64 p) ∧ w = w'))
    (K1 : Aside0 (PkI j 1001 (a + 500))) (K2 : Aside0 (PkI k 1001 (b + 500))) (K3 : Aside0 (PkI n 1073741824 m)) (K4 : Aside0 (PkI k 30 s))
    (ha : -500 ≤ a) (ha2 : a ≤ 500) (hb : -500 ≤ b) (hb2 : b ≤ 500) (he0 : 0 ≤ e) (he2 : e ≤ 2047) (hs : s < 30)
    (he : ((p : Int) / 4503599627370496) % 2048 = e)
    (C0 : Aside0 (ScI W 0 p)) (C1 : Aside0 (ScI W a x)) (C2 : Aside0 (ScI p a x))
    (hin : (e + a < 1 ∨ 2046 < e + a ∨ e < 1 ∨ 2046 < e) ∨ (1 ≤ e + a ∧ e + a ≤ 2046 ∧ 1 ≤ e ∧ e ≤ 2046 ∧ Aside0 (ScI x (-a) p) ∧ IntKind.u64.wrap ((p : Int) + (e + a) * 4503599627370496) = S ∧ IntKind.u64.wrap (S - e * 4503599627370496) = x ∧
      ((e + a + b < 1 ∨ 2046 < e + a + b) ∨ (1 ≤ e + a + b ∧ e + a + b ≤ 2046 ∧ Aside0 (ScI x b y) ∧ Aside0 (ScI W (a + b) y)))))
    (D1 : Aside0 (OfI2 m r)) (D2 : Aside0 (ScI r s r2)) (D3 : Aside0 (OfI2 M2 r2)) (hM : IntKind.i64.wrap (m * 2 ^ s) = M2)
    (hE : ((e == 2047) = false ∧ decide (e < 2047) = true ∧ ((p : Int) == 9221120237041090561) = false ∧ ((p : Int) == 9218868437227405312) = false ∧ ((p : Int) == 18442240474082181120) = false) ∨
      ((e == 2047) = true ∧ decide (e < 2047) = false ∧ ((p : Int) == 9221120237041090561) = true ∧ ((x : Int) == (p : Int)) = true) ∨
      ((e == 2047) = true ∧ decide (e < 2047) = false ∧ ((p : Int) == 9221120237041090561) = false ∧ ((p : Int) == 9218868437227405312) = true ∧ ((x : Int) == (p : Int)) = true) ∨
      ((e == 2047) = true ∧ decide (e < 2047) = false ∧ ((p : Int) == 9221120237041090561) = false ∧ ((p : Int) == 9218868437227405312) = false ∧ ((p : Int) == 18442240474082181120) = true ∧ ((x : Int) == (p : Int)) = true))
    (w : World) : Calls Try.prog 9 #[.int .u64 W, .int .i64 j, .int .i64 k, .int .i64 n] w fun e w' => e = .returned (.bool true) ∧ Below w.heap.size w w' := by
  have HB := Aside0.mk (Below.refl w.heap.size w)
  have HIN := Aside0.mk hin
  have HEE := Aside0.mk hE
  have HMM := Aside0.mk hM
  clear hin hE hM
  go_enter Try.func9, Try.ntmps9
  go_wp2_with fail
  refine (lawake_calls _).mono ?_
  rintro e w1 ⟨rfl, hb_⟩
  have n_ := Aside0.mk (below_step (by repeat (first | exact HB.out | apply below_alloc | apply pw_below_drewN | apply below_drew1 | refine below_set ?_ (by first | omega | (simp; omega)))) hb_); clear HB hb_; have HB := n_; clear n_
  go_upto_region 6 with (first
    | (go_at_call 13; ((with_reducible refine (HP.out _).mono ?_); rintro e w_ ⟨rfl, rfl⟩))
    | (go_at_call 17; first | ((with_reducible refine (K1.out _).mono ?_); rintro e w_ ⟨rfl, rfl⟩) | ((with_reducible refine (K2.out _).mono ?_); rintro e w_ ⟨rfl, rfl⟩)))
  go_upto_region 8 with (go_at_call 18; first | ((with_reducible refine (C0.out _).mono ?_); rintro e w_ ⟨rfl, rfl⟩) | ((with_reducible refine (C1.out _).mono ?_); rintro e w_ ⟨rfl, rfl⟩) | ((with_reducible refine (C2.out _).mono ?_); rintro e w_ ⟨rfl, rfl⟩))
  obtain ⟨q, hq⟩ : ∃ q : Bool, (q = false ∧ ((decide (1 ≤ e + a) = false) ∨ (decide (1 ≤ e + a) = true ∧ decide (e + a ≤ 2046) = false) ∨ (decide (1 ≤ e + a) = true ∧ decide (e + a ≤ 2046) = true ∧ decide (1 ≤ e) = false) ∨ (decide (1 ≤ e + a) = true ∧ decide (e + a ≤ 2046) = true ∧ decide (1 ≤ e) = true ∧ decide (e ≤ 2046) = false))) ∨
      (q = true ∧ 1 ≤ e + a ∧ e + a ≤ 2046 ∧ 1 ≤ e ∧ e ≤ 2046 ∧ Aside0 (ScI x (-a) p) ∧ IntKind.u64.wrap ((p : Int) + (e + a) * 4503599627370496) = S ∧ IntKind.u64.wrap (S - e * 4503599627370496) = x ∧
      ((decide (1 ≤ e + a + b) = false) ∨ (decide (1 ≤ e + a + b) = true ∧ decide (e + a + b ≤ 2046) = false) ∨ (decide (1 ≤ e + a + b) = true ∧ decide (e + a + b ≤ 2046) = true ∧ Aside0 (ScI x b y) ∧ Aside0 (ScI W (a + b) y)))) := by
    rcases HIN.out with hout | ⟨i1, i2, i3, i4, C3, q1, q2, hin2⟩
    · refine ⟨false, Or.inl ⟨rfl, ?_⟩⟩
      simp only [decide_eq_true_eq, decide_eq_false_iff_not]
      omega
    · refine ⟨true, Or.inr ⟨rfl, i1, i2, i3, i4, C3, q1, q2, ?_⟩⟩
      simp only [decide_eq_true_eq, decide_eq_false_iff_not]
      rcases hin2 with h | ⟨h1, h2, h3⟩
      · omega
      · exact Or.inr (Or.inr ⟨h1, h2, h3⟩)
  clear HIN
  have HIN := Aside0.mk hq
  clear hq
  go_cut [60] (fun v wc => v = .bool q ∧ wc = w1)
  case first =>
    rcases HIN.out with ⟨rfl, c1 | ⟨c1, c2⟩ | ⟨c1, c2, c3⟩ | ⟨c1, c2, c3, c4⟩⟩ | ⟨rfl, i1, i2, i3, i4, C3, q1, q2, hin2⟩
    case inr =>
      clear HIN q1 q2 hin2
      have c1 : decide (1 ≤ e + a) = true := decide_eq_true i1
      have c2 : decide (e + a ≤ 2046) = true := decide_eq_true i2
      have c3 : decide (1 ≤ e) = true := decide_eq_true i3
      have c4 : decide (e ≤ 2046) = true := decide_eq_true i4
      go_wp2
      go_meet
      case rel => exact ⟨rfl, rfl⟩
    all_goals
      clear HIN
      go_wp2
      go_meet
      case rel => exact ⟨rfl, rfl⟩
  case rest =>
   obtain ⟨rfl, rfl⟩ := hcut
   go_upto_if 60 with (fail)
   go_cut [14] (fun v wd => wd = wc)
   case first =>
    rcases HIN.out with ⟨rfl, hout⟩ | ⟨rfl, i1, i2, i3, i4, C3, q1, q2, hin2⟩
    · clear HIN hout
      go_wp2
      go_meet
      case rel => rfl
    · clear HIN
      rcases hin2 with c5 | ⟨c5, c6⟩ | ⟨c5, c6, C4, C5⟩
      · go_wp2_with (go_at_call 18; first | ((with_reducible refine (C1.out _).mono ?_); rintro e w_ ⟨rfl, rfl⟩) | ((with_reducible refine (C3.out _).mono ?_); rintro e w_ ⟨rfl, rfl⟩))
        go_meet
        case rel => rfl
      · go_wp2_with (go_at_call 18; first | ((with_reducible refine (C1.out _).mono ?_); rintro e w_ ⟨rfl, rfl⟩) | ((with_reducible refine (C3.out _).mono ?_); rintro e w_ ⟨rfl, rfl⟩))
        go_meet
        case rel => rfl
      · go_wp2_with (go_at_call 18; first | ((with_reducible refine (C1.out _).mono ?_); rintro e w_ ⟨rfl, rfl⟩) | ((with_reducible refine (C3.out _).mono ?_); rintro e w_ ⟨rfl, rfl⟩) | ((with_reducible refine (C4.out _).mono ?_); rintro e w_ ⟨rfl, rfl⟩) | ((with_reducible refine (C5.out _).mono ?_); rintro e w_ ⟨rfl, rfl⟩))
        go_meet
        case rel => rfl
   case rest =>
    subst hcut
    clear HIN
    go_upto_region 14 with (go_at_call 17; first | ((with_reducible refine (K3.out _).mono ?_); rintro e w_ ⟨rfl, rfl⟩) | ((with_reducible refine (K4.out _).mono ?_); rintro e w_ ⟨rfl, rfl⟩))
    have hM := HMM.out
    rcases HEE.out with ⟨c1, c2, c3, c4, c5⟩ | ⟨c1, c2, c3, c6⟩ | ⟨c1, c2, c3, c4, c6⟩ | ⟨c1, c2, c3, c4, c5, c6⟩
    all_goals
      clear HEE HMM
      go_quiet ((first
        | (go_at_call 22; first | with_reducible exact Calls.quiet_of_same (swapW D1.out _) | with_reducible exact Calls.quiet_of_same (swapW D3.out _))
        | (go_at_call 18; first | with_reducible exact Calls.quiet_of_same (swapW D2.out _) | with_reducible exact Calls.quiet_of_same (swapW C1.out _))))
      go_wp2
      go_ret
      exact ⟨rfl, pw_below_drewN HB.out _⟩
theorem wrap_two (W sg E E' fr : Nat) (a : Int) (hW : W = sg * 9223372036854775808 + (E * 4503599627370496 + fr)) (hE : (E : Int) + a = E') (hsg : sg ≤ 1) (hfr : fr < 4503599627370496) (h4 : E' ≤ 2046) :
    IntKind.u64.wrap (IntKind.u64.wrap ((W : Int) + ((E : Int) + a) * 4503599627370496) - (E : Int) * 4503599627370496) = ((sg * 9223372036854775808 + (E' * 4503599627370496 + fr) : Nat) : Int) := by
  rw [IntKind.wrap_u64, IntKind.wrap_u64, Int.emod_sub_emod, hE, hW]
  clear hE hW
  have e : ((sg * 9223372036854775808 + (E * 4503599627370496 + fr) : Nat) : Int) + (E' : Int) * 4503599627370496 - (E : Int) * 4503599627370496 = ((sg * 9223372036854775808 + (E' * 4503599627370496 + fr) : Nat) : Int) := by omega
  rw [e]
  exact Int.emod_eq_of_lt (by omega) (by omega)
set_option maxHeartbeats 1000000 in
theorem LagScale_calls (W : Nat) (j k n : Int) (hW : W < 18446744073709551616) (hj : i64ok j) (hk : i64ok k) (hn : i64ok n) (w : World) : Calls Try.prog 9 #[.int .u64 W, .int .i64 j, .int .i64 k, .int .i64 n] w fun e w' => e = .returned (.bool true) ∧ Below w.heap.size w w' := by
  have h1 := pickF_bd j 1001 (by omega)
  have h2 := pickF_bd k 1001 (by omega)
  have h3 := pickF_bd n 1073741824 (by omega)
  have h4 := pickF_bd k 30 (by omega)
  have K1 : PkI j 1001 (pickF j 1001 - 500 + 500) := fun w => by
    rw [Int.sub_add_cancel]
    exact pick3_calls j 1001 w hj.1 hj.2 (by omega) (by omega)
  have K2 : PkI k 1001 (pickF k 1001 - 500 + 500) := fun w => by
    rw [Int.sub_add_cancel]
    exact pick3_calls k 1001 w hk.1 hk.2 (by omega) (by omega)
  have K3 : PkI n 1073741824 (pickF n 1073741824) := fun w => pick3_calls n 1073741824 w hn.1 hn.2 (by omega) (by omega)
  have K4 : PkI k 30 ((pickF k 30).toNat : Int) := fun w => by
    rw [Int.toNat_of_nonneg h4.1]
    exact pick3_calls k 30 w hk.1 hk.2 (by omega) (by omega)
  have hs : (pickF k 30).toNat < 30 := by omega
  generalize (pickF k 30).toNat = s at *
  clear h4
  obtain ⟨m, hm⟩ := Int.eq_ofNat_of_zero_le h3.1
  rw [hm] at K3 h3
  clear hm
  obtain ⟨a', ha'⟩ : ∃ a', pickF j 1001 - 500 = a' := ⟨_, rfl⟩
  rw [ha'] at K1
  obtain ⟨b', hb'⟩ : ∃ b', pickF k 1001 - 500 = b' := ⟨_, rfl⟩
  rw [hb'] at K2
  have ba : -500 ≤ a' ∧ a' ≤ 500 := by omega
  have bb : -500 ≤ b' ∧ b' ≤ 500 := by omega
  clear ha' hb' h1 h2
  have hp := plain_bd' W hW
  have hms : m * 2 ^ s < 9223372036854775808 := by
    have h2 : 2 ^ s ≤ 2 ^ 29 := Nat.pow_le_pow_right (by omega) (by omega)
    have h3 := Nat.mul_le_mul (show m ≤ 1073741824 by omega) h2
    exact Nat.lt_of_le_of_lt h3 (by decide)
  have hrl := (ofW_val (m : Int) (by omega)).2.2
  refine LagScale_walk W (plainF W) (scaleF W a') (scaleF W (a' + b')) (ofW (m : Int)) (ofW ((m * 2 ^ s : Nat) : Int)) j k n a' b' ((plainF W / 4503599627370496 % 2048 : Nat) : Int) m ((m * 2 ^ s : Nat) : Int) s (IntKind.u64.wrap ((plainF W : Int) + (((plainF W / 4503599627370496 % 2048 : Nat) : Int) + a') * 4503599627370496))
    (Aside0.mk (fun w => Plain_calls W w)) (Aside0.mk K1) (Aside0.mk K2) (Aside0.mk K3) (Aside0.mk K4) ba.1 ba.2 bb.1 bb.2 (by omega) (by omega) hs (by omega)
    (Aside0.mk (scI W 0 _ hW (by omega) (scale_zero W hW))) (Aside0.mk (scI W a' _ hW (by omega) rfl)) (Aside0.mk (scI _ a' _ hp (by omega) (scale_plain W hW a'))) ?_
    (Aside0.mk (fun w => Of_calls _ w)) (Aside0.mk (scI _ s _ hrl (by omega) (scale_of m s (by omega) hs))) (Aside0.mk (fun w => Of_calls _ w)) ?_ ?_ w
  · by_cases hin : 1 ≤ ((plainF W / 4503599627370496 % 2048 : Nat) : Int) + a' ∧ ((plainF W / 4503599627370496 % 2048 : Nat) : Int) + a' ≤ 2046 ∧ 1 ≤ plainF W / 4503599627370496 % 2048 ∧ plainF W / 4503599627370496 % 2048 ≤ 2046
    · obtain ⟨i1, i2, i3, i4⟩ := hin
      have e0 : plainF W = W := by
        revert i3 i4
        unfold plainF
        (repeat' split) <;> omega
      rw [e0] at i1 i2 i3 i4 ⊢
      obtain ⟨sg, hsg⟩ : ∃ sg, W / 9223372036854775808 = sg := ⟨_, rfl⟩
      obtain ⟨E, hE⟩ : ∃ E, W / 4503599627370496 % 2048 = E := ⟨_, rfl⟩
      obtain ⟨fr, hfr⟩ : ∃ fr, W % 4503599627370496 = fr := ⟨_, rfl⟩
      have hWe : W = sg * 9223372036854775808 + (E * 4503599627370496 + fr) := by omega
      have hsg1 : sg ≤ 1 := by omega
      have hfr1 : fr < 4503599627370496 := by omega
      rw [hE] at i1 i2 i3 i4 ⊢
      clear hsg hE hfr
      obtain ⟨E', hE'⟩ : ∃ E' : Nat, (E' : Int) = a' + E := ⟨(a' + E).toNat, by omega⟩
      have ex : scaleF W a' = sg * 9223372036854775808 + (E' * 4503599627370496 + fr) := by
        rw [hWe]
        exact scale_norm sg E fr E' a' hE' hsg1 i3 i4 (by omega) (by omega) hfr1
      have ex2 : scaleF (sg * 9223372036854775808 + (E' * 4503599627370496 + fr)) (-a') = W := by
        rw [hWe]
        exact scale_norm sg E' fr E (-a') (by omega) hsg1 (by omega) (by omega) i3 i4 hfr1
      have hxl : sg * 9223372036854775808 + (E' * 4503599627370496 + fr) < 18446744073709551616 := by omega
      refine Or.inr ⟨by omega, by omega, by omega, by omega, ?_, rfl, ?_, ?_⟩
      · rw [ex]
        exact Aside0.mk (scI _ _ _ hxl (by omega) ex2)
      · rw [ex]
        exact wrap_two W sg E E' fr a' hWe (by omega) hsg1 hfr1 (by omega)
      · by_cases h6 : 1 ≤ (E : Int) + a' + b' ∧ (E : Int) + a' + b' ≤ 2046
        · obtain ⟨F, hF⟩ : ∃ F : Nat, (F : Int) = (a' + b') + E := ⟨(a' + b' + E).toNat, by omega⟩
          have ey : scaleF W (a' + b') = sg * 9223372036854775808 + (F * 4503599627370496 + fr) := by
            rw [hWe]
            exact scale_norm sg E fr F (a' + b') hF hsg1 i3 i4 (by omega) (by omega) hfr1
          have ey2 : scaleF (sg * 9223372036854775808 + (E' * 4503599627370496 + fr)) b' = scaleF W (a' + b') := by
            rw [ey]
            exact scale_norm sg E' fr F b' (by omega) hsg1 (by omega) (by omega) (by omega) (by omega) hfr1
          refine Or.inr ⟨h6.1, h6.2, ?_, Aside0.mk (scI W _ _ hW (by omega) rfl)⟩
          rw [ex]
          exact Aside0.mk (scI _ _ _ hxl (by omega) ey2)
        · exact Or.inl (by omega)
    · exact Or.inl (by omega)
  · rw [IntWalk.i64_in _ (by
      rw [show (m : Int) * 2 ^ s = ((m * 2 ^ s : Nat) : Int) by simp]
      omega)]
    simp
  · by_cases hc : 9218868437227405312 ≤ W % 9223372036854775808
    · have hx : scaleF W a' = plainF W := scale_inf W a' hc
      rw [hx]
      have hpl : plainF W = 9221120237041090561 ∨ plainF W = 9218868437227405312 ∨ plainF W = 18442240474082181120 := by
        unfold plainF
        (repeat' split) <;> omega
      rcases hpl with h | h | h
      · rw [h]
        exact Or.inr (Or.inl (by decide))
      · rw [h]
        exact Or.inr (Or.inr (Or.inl (by decide)))
      · rw [h]
        exact Or.inr (Or.inr (Or.inr (by decide)))
    · have hpl : plainF W % 9223372036854775808 < 9218868437227405312 := by
        unfold plainF
        (repeat' split) <;> omega
      refine Or.inl ?_
      simp only [beq_eq_false_iff_ne, ne_eq, decide_eq_true_eq]
      omega

set_option maxRecDepth 100000 in
theorem lagScale_lifted (os : Os) (started : os.Started) (H : Type) (enc : TypeId × Value → H) :
    ReturnsInHanded {} Try.checked os 9 .any (Rows.lagScaleSpec.pre6 enc Try.prog Try.f9 Rows.lagScaleRow.domain false) (Rows.lagScaleSpec.post enc Try.prog Try.f9 false true false false) := by
  refine returnsInHanded_of_change_sized (C := Try.checked) own started (by kernel_rfl) Try.func9
    (ChangeSpec.witness6 (enc := enc) (C := Try.checked) false ⟨#[], #[.int .u64 0, .int .i64 0, .int .i64 0, .int .i64 0], []⟩ 8 (by kernel_rfl) (by kernel_rfl) (by kernel_rfl) (by kernel_rfl)) ?_
  intro W base args ds gs before hval0 hW hcnd hsz0 _
  have hsz : (DataW.weightsEach Try.prog (Try.f9.params.toList ++ Rows.lagScaleSpec.plain.varTypes Try.prog) (ds ++ gs)).all (· ≤ reachBytes) = true := hsz0
  have hval : ∀ (j : Nat) t v, Try.f9.params[j]? = some t → args[j]? = some v → Value.okWide Try.prog W .any base t v := hval0
  have hW' := hW
  obtain ⟨p, q, hA0, hV, rfl, hfz, hnd⟩ := hW
  have hA : DataW.TrodAll enc Try.prog W 0 (fun _ => true) true Try.f9.params.toList args.toList ds p := hA0
  have hAll := hA
  rw [Try.params9] at hA hval hsz
  obtain ⟨v0, vs0, d0, ds0, p0, q0, hargs, rfl, rfl, h0, r0⟩ := trodAll_cons hA
  obtain ⟨v1, vs1, d1, ds1, p1, q1, rfl, rfl, rfl, h1, r1⟩ := trodAll_cons r0
  obtain ⟨v2, vs2, d2, ds2, p2, q2, rfl, rfl, rfl, h2, r2⟩ := trodAll_cons r1
  obtain ⟨v3, vs3, d3, ds3, p3, q3, rfl, rfl, rfl, h3, r3⟩ := trodAll_cons r2
  obtain ⟨rfl, rfl, rfl⟩ := trodAll_nil r3
  obtain rfl : args = #[v0, v1, v2, v3] := by cases args; simp_all
  obtain ⟨rfl, rfl⟩ := trodVars_none hV
  have hlt := trodAll_lt hAll
  obtain ⟨a, rfl, rfl, rfl, w0⟩ := open_int Try.underlying22 (hval 0 22 v0 rfl rfl) h0
  obtain ⟨j, rfl, rfl, rfl, w1⟩ := open_int Try.underlying3 (hval 1 3 v1 rfl rfl) h1
  obtain ⟨k, rfl, rfl, rfl, w2⟩ := open_int Try.underlying3 (hval 2 3 v2 rfl rfl) h2
  obtain ⟨n, rfl, rfl, rfl, w3⟩ := open_int Try.underlying3 (hval 3 3 v3 rfl rfl) h3
  obtain ⟨a, rfl⟩ := Int.eq_ofNat_of_zero_le (bounds_u64 w0).1
  clear hA0 hval0 hsz0 hsz
  refine (LagScale_calls a j k n (by have := (bounds_u64 w0).2; omega) (bounds_i64 w1) (bounds_i64 w2) (bounds_i64 w3) W).mono fun e W' ⟨he, bel⟩ => ?_
  subst he
  exact ⟨_, rfl, _, _, _, [], _, [], hW', trodAll_mk1 (shut_bool Try.underlying4 _), below_trodAll laidOut bel (by kernel_rfl) hAll hlt, rfl, bel.frame _, fun h => by cases h⟩
theorem lagScale_over : Rows.lagScaleRow.holds Try.pinned (OpenSpec.ofChange Rows.lagScaleSpec) :=
  OpenClaim.holds_of_wide 9 Try.f9 rfl rfl rfl rfl rfl rfl rfl ⟨rfl, rfl, rfl, rfl, rfl⟩ rfl rfl rfl rfl rfl (by kernel_rfl) Try.func9 (by kernel_rfl)
    (of_decide_eq_true (by kernel_rfl)) (by unfold Func.isWrapper; first | (rw [if_pos (by decide +kernel)]; kernel_rfl) | (rw [if_neg (by decide +kernel)]; exact ⟨rfl, rfl⟩))
    (fun os started H enc _ => lagScale_lifted os started H enc)
theorem lagScale_holds : Rows.LagScaleSaid := lagScale_over
#print axioms lagScale_holds
end Go.Proofs.Ytcgonhnfpnmlcaa
