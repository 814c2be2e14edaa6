/- ChurnOne: for every input the call of the statement returns true and leaves its arguments as they were, over the program whose table churn.sum lies as its own text lays it (the tied card). Conditions: none beyond the card's own. -/
import Derived.Test.YtllbeodngnjgbaaDoorCards
import Derived.Test.YtllbeodngnjgbaaDoorTie
import Derived.Test.YtllbeodngnjgbaaDoorShell
import Derived.Test.YtllbeodngnjgbaaDoorChurnAwake
import Derived.Test.YtllbeodngnjgbaaDoorChurnOnePure
set_option linter.unusedVariables false
set_option linter.unusedSimpArgs false
namespace Go.Proofs.YtllbeodngnjgbaaDoor
open Go.RowKit Go.Proofs.YtllbeodngnjgbaaDoorW.PrintWords Go.Proofs.YtllbeodngnjgbaaDoorW.PrintLast Go.Proofs.YtllbeodngnjgbaaDoorW.PrintMore
open Go.ChangeShapes Go.WideShapes Go.ChangeAt
open Go.ChangeMaps (open_string shut_string)
attribute [local go_sem] max2_int min2_int max_two min_two

theorem one_string (c : Int) (W : World) : (convert 28 9 (.slice (some ⟨W.heap.size, 0, none⟩) 1 1)).run Tryd.prog (W.alloc (.cells #[.int .u8 c] 5)).drew = .ok (.string (strOfNums [c])) (W.alloc (.cells #[.int .u8 c] 5)).drew :=
  Kd.C_string (P := Tryd.prog) Tryd.underlying28 Tryd.underlying5 Tryd.underlying9 (Kd.C_drew (C_lit .u8 W 5 [c] (by simp)))
theorem one_word (h c : Int) (k : Nat) (hh : u64ok h) (hc0 : 0 ≤ c) (hc1 : c ≤ 255) (V : Int) (hV : bits BinOp.xor IntKind.u64 h (IntKind.u64.wrap (c * 2 ^ (8 * (k % 8)))) = V) : (foldF [1, h, 2] == foldF [1, V, 2]) = (h == V) ∧ 0 ≤ V := by
  obtain ⟨hn, rfl⟩ := Int.eq_ofNat_of_zero_le hh.1
  obtain ⟨cn, rfl⟩ := Int.eq_ofNat_of_zero_le hc0
  have hb : cn * 2 ^ (8 * (k % 8)) < 18446744073709551616 := by
    have h1 : 2 ^ (8 * (k % 8)) ≤ 2 ^ 56 := Nat.pow_le_pow_right (by omega) (by omega)
    have h2 : cn * 2 ^ (8 * (k % 8)) ≤ 255 * 2 ^ 56 := Nat.mul_le_mul (by omega) h1
    omega
  have e : ((cn : Int) * 2 ^ (8 * (k % 8))) = ((cn * 2 ^ (8 * (k % 8)) : Nat) : Int) := by
    rw [Int.natCast_mul, Int.natCast_pow]; rfl
  rw [e, IntKind.wrap_u64, Int.emod_eq_of_lt (by omega) (by omega), xorN _ _ (by have := hh.2; omega) hb] at hV
  exact ⟨fold_one hn cn (k % 8) (by omega) (by omega) V hV.symm, by omega⟩
theorem one_text (t : ByteArray) (c : Int) (k : Nat) (hlt : k < t.size) (U : ByteArray) (hU : t.extract 0 k ++ strOfNums [c] ++ t.extract (k + 1) t.size = U) :
    (∀ h, u64ok h → (moreF h t.data.toList == moreF h U.data.toList) = (t.toList == U.toList)) ∧ U.size = t.size := by
  have e : U.data.toList = t.data.toList.take k ++ UInt8.ofNat c.toNat :: t.data.toList.drop (k + 1) := by
    rw [← hU]
    simp only [ByteArray.data_append, ByteArray.data_extract, Array.toList_append, strOfNums_data, Array.toList_extract, List.extract_eq_take_drop]
    simp
    exact List.take_of_length_le (by simp)
  refine ⟨fun h hh => ?_, ?_⟩
  · rw [ByteArray.toList_eq, ByteArray.toList_eq]
    exact more_one_beq _ _ k _ (by simpa using hlt) e h hh
  · have := congrArg List.length e
    simp at this
    have h2 : U.size = U.data.size := rfl
    have h3 : t.size = t.data.size := rfl
    omega
set_option maxHeartbeats 1000000 in
set_option maxRecDepth 100000 in
theorem ChurnOne_calls (h : Int) (s : ByteArray) (at_ : Int) (c : Int) (w : World) (hh : u64ok h) (hs : s.size ≤ maxLen) (hc0 : 0 ≤ c) (hc1 : c ≤ 255) (ha0 : -9223372036854775808 ≤ at_) (ha1 : at_ ≤ 9223372036854775807) (hG : ChurnLaid w) :
    Calls Tryd.prog 5 #[.int .u64 h, .string s, .int .i64 at_, .int .u8 c] w fun e w' => e = .returned (.bool true) ∧ Below w.heap.size w w' := by
  unfold maxLen at hs
  have HG := Aside0.mk hG
  clear hG
  have HB := Aside0.mk (Below.refl w.heap.size w)
  have hcv := one_string c
  go_enter Tryd.func5, Tryd.ntmps5
  go_upto_region 2 with (first
        | (go_at_call 8; ((with_reducible refine (awake_calls _ ?hG).mono ?_)); (case hG => exact HG.out.below (by repeat (first | exact HB.out | apply below_alloc | apply pw_below_drewN | apply below_drew1))); rintro e w_ ⟨rfl, hb_⟩; have n_ := Aside0.mk (below_step (by repeat (first | exact HB.out | apply below_alloc | apply pw_below_drewN | apply below_drew1)) hb_); clear HB hb_; have HB := n_; clear n_))
  go_cut [10] (fun v10 wc => ∃ t : ByteArray, v10 = .string t ∧ t.size ≤ 200 ∧ Below w.heap.size w wc)
  case first =>
    rcases Nat.lt_or_ge 200 s.size with h200 | h200
    all_goals
      go_wp2
      go_meet
      case rel => exact ⟨_, rfl, by first | omega | (rw [ByteArray.size_extract]; omega), HB.out⟩
  case rest =>
    clear HB hs
    obtain ⟨t, rfl, ht, hb⟩ := hcut
    have HB := Aside0.mk hb
    clear hb
    rcases Nat.eq_zero_or_pos t.size with h0 | h0
    · have e0 : ((t.size : Int) == 0) = true := by rw [h0]; rfl
      clear h0
      go_wp2
      go_ret
      exact ⟨rfl, HB.out⟩
    · have e0 : ((t.size : Int) == 0) = false := by rw [beq_eq_false_iff_ne]; omega
      go_upto_if 26 with (fail)
      go_cut [11] (fun v11 wc => ∃ k : Int, v11 = .int .i64 k ∧ 0 ≤ k ∧ k ≤ 9223372036854775807 ∧ Below w.heap.size w wc)
      case first =>
        rcases Int.lt_or_le at_ 0 with ha | ha
        all_goals
          go_wp2
          go_meet
          case rel => exact ⟨_, rfl, by omega, by omega, HB.out⟩
      case rest =>
        clear HB
        obtain ⟨j, rfl, hj0, hj1, hb⟩ := hcut
        have HB := Aside0.mk hb
        clear hb
        obtain ⟨k, hk, hlt⟩ : ∃ k : Nat, j % (t.size : Int) = (k : Int) ∧ k < t.size := by
          have a := Int.emod_nonneg j (show (t.size : Int) ≠ 0 by omega)
          have b := Int.emod_lt_of_pos j (show 0 < (t.size : Int) by omega)
          exact ⟨(j % (t.size : Int)).toNat, by omega, by omega⟩
        have hz1 : (strOfNums [c]).size = 1 := by rw [strOfNums_size]; rfl
        have hz2 : (t.extract 0 k).size = k := by rw [ByteArray.size_extract]; omega
        have hz3 : (t.extract 0 k ++ strOfNums [c]).size = k + 1 := by rw [ByteArray.size_append, hz2, hz1]
        have hz4 : (t.extract (k + 1) t.size).size = t.size - (k + 1) := by rw [ByteArray.size_extract]; omega
        go_wp2
        go_region
        generalize hU : t.extract 0 k ++ strOfNums [c] ++ t.extract (k + 1) t.size = U
        have HU := Aside0.mk hU
        clear hU hz1 hz2 hz3 hz4 hcv
        go_upto_region 11 with (fail)
        generalize hV : bits BinOp.xor IntKind.u64 h (IntKind.u64.wrap (c * 2 ^ (8 * (k % 8)))) = V
        have HV := Aside0.mk hV
        clear hV
        obtain ⟨F, hUs'⟩ := one_text t c k hlt U HU.out
        have F1 := F h hh
        have F2 : (sumF t.data.toList == sumF U.data.toList) = (t.toList == U.toList) := F basis0 basis_ok
        obtain ⟨F3, hV0⟩ := one_word h c k hh hc0 hc1 V HV.out
        clear F
        have hUs : U.size ≤ maxLen := by unfold maxLen; omega
        clear hUs'
        have hts : t.size ≤ maxLen := by unfold maxLen; omega
        have hh0 := hh.1
        go_wp2_with (first
          | (go_at_call 10; ((with_reducible refine (More_b _ _ _ ?hs ?hG).mono ?_)); (case hG => exact HG.out.below (by repeat (first | exact HB.out | apply below_alloc | apply pw_below_drewN | apply below_drew1))); (case hs => first | exact hUs | exact hts);rintro e w_ ⟨rfl, hb_⟩; have n_ := Aside0.mk (below_step (by repeat (first | exact HB.out | apply below_alloc | apply pw_below_drewN | apply below_drew1)) hb_); clear HB hb_; have HB := n_; clear n_)
          | (go_at_call 11; ((with_reducible refine (Sum_b _ _ ?hs ?hG).mono ?_)); (case hG => exact HG.out.below (by repeat (first | exact HB.out | apply below_alloc | apply pw_below_drewN | apply below_drew1))); (case hs => first | exact hUs | exact hts);rintro e w_ ⟨rfl, hb_⟩; have n_ := Aside0.mk (below_step (by repeat (first | exact HB.out | apply below_alloc | apply pw_below_drewN | apply below_drew1)) hb_); clear HB hb_; have HB := n_; clear n_)
          | (go_at_call 12; ((with_reducible refine (Fold_calls _ _ _ [1, h, 2] _ ?hr ?hp ?hG).mono ?_)); (case hG => exact HG.out.below (by repeat (first | exact HB.out | apply below_alloc | apply pw_below_drewN | apply below_drew1))); (case hr => exact C_lit .u64 _ _ [1, h, 2] (by simp)); (case hp => intro x hx; simp at hx; omega);rintro e w_ ⟨rfl, hb_⟩; have n_ := Aside0.mk (below_step (by repeat (first | exact HB.out | apply below_alloc | apply pw_below_drewN | apply below_drew1)) hb_); clear HB hb_; have HB := n_; clear n_)
          | (go_at_call 12; ((with_reducible refine (Fold_calls _ _ _ [1, V, 2] _ ?hr ?hp ?hG).mono ?_)); (case hG => exact HG.out.below (by repeat (first | exact HB.out | apply below_alloc | apply pw_below_drewN | apply below_drew1))); (case hr => exact C_lit .u64 _ _ [1, V, 2] (by simp)); (case hp => intro x hx; simp at hx; omega);rintro e w_ ⟨rfl, hb_⟩; have n_ := Aside0.mk (below_step (by repeat (first | exact HB.out | apply below_alloc | apply pw_below_drewN | apply below_drew1)) hb_); clear HB hb_; have HB := n_; clear n_))
        go_ret
        exact ⟨rfl, HB.out⟩

set_option maxRecDepth 100000 in
theorem churnOne_lifted (os : Os) (started : os.Started) (H : Type) (enc : TypeId × Value → H) :
    ReturnsInHanded {} Tryd.checked os 5 .any (fun w args => (Rows.churnOneSpec.pre enc Tryd.prog Tryd.f5 [] false w args ∧ laidMetH Tryd.prog [("mootbell/churn.sum", Rows.laid_mootbell_churn_sum)] w) ∧ sizedMet enc Tryd.prog Tryd.f5 (OpenSpec.ofChange Rows.churnOneSpec) false w args)
      (Rows.churnOneSpec.post enc Tryd.prog Tryd.f5 false true false false) := by
  refine returnsInHanded_of_change_and (C := Tryd.checked) (X := fun w _ => laidMetH Tryd.prog [("mootbell/churn.sum", Rows.laid_mootbell_churn_sum)] w) (fun _ _ _ hh h => h.of_heap hh) own started (by kernel_rfl) Tryd.func5
    (ChangeSpec.witness_shaped (enc := enc) (C := Tryd.checked) (os := os) (X := fun w _ => laidMetH Tryd.prog [("mootbell/churn.sum", Rows.laid_mootbell_churn_sum)] w) false (World.doorLaid Tryd.prog 400 os) #[.int .u64 0, .string ByteArray.empty, .int .i64 0, .int .u8 0] 8 rfl (World.shaped_of_RefB (by kernel_rfl) (by kernel_rfl)) (by kernel_rfl) (by kernel_rfl) (by kernel_rfl) (door_met os _)) ?_
  intro W base args ds gs before hval0 hW hcnd hsz0 hL _
  have hsz : (DataW.weightsEach Tryd.prog (Tryd.f5.params.toList ++ Rows.churnOneSpec.plain.varTypes Tryd.prog) (ds ++ gs)).all (· ≤ reachBytes) = true := hsz0
  have hval : ∀ (j : Nat) t v, Tryd.f5.params[j]? = some t → args[j]? = some v → Value.okWide Tryd.prog W .any base t v := hval0
  have hW' := hW
  obtain ⟨p, q, hA0, hV, rfl, hfz, hnd⟩ := hW
  have hA : DataW.TrodAll enc Tryd.prog W 0 (fun _ => true) true Tryd.f5.params.toList args.toList ds p := hA0
  have hAll := hA
  rw [Tryd.params5] at hA hval hsz
  obtain ⟨v0, vs0, d0, ds0, p0, q0, hargs, rfl, rfl, h0, r0⟩ := trodAll_cons hA
  obtain ⟨v1, vs1, d1, ds1, p1, q1, rfl, rfl, rfl, h1, r1⟩ := trodAll_cons r0
  obtain ⟨v2, vs2, d2, ds2, p2, q2, rfl, rfl, rfl, h2, r2⟩ := trodAll_cons r1
  obtain ⟨v3, vs3, d3, ds3, p3, q3, rfl, rfl, rfl, h3, r3⟩ := trodAll_cons r2
  obtain ⟨rfl, rfl, rfl⟩ := trodAll_nil r3
  obtain rfl : args = #[v0, v1, v2, v3] := by cases args; simp_all
  obtain ⟨rfl, rfl⟩ := trodVars_none hV
  have hlt := trodAll_lt hAll
  obtain ⟨h, rfl, rfl, rfl, w0⟩ := open_int Tryd.underlying22 (hval 0 22 v0 rfl rfl) h0
  obtain ⟨s, rfl, rfl, rfl, hs⟩ := open_string Tryd.underlying9 (hval 1 9 v1 rfl rfl) h1
  obtain ⟨at_, rfl, rfl, rfl, w2⟩ := open_int Tryd.underlying3 (hval 2 3 v2 rfl rfl) h2
  obtain ⟨c, rfl, rfl, rfl, w3⟩ := open_int Tryd.underlying5 (hval 3 5 v3 rfl rfl) h3
  clear hA0 hval0 hsz0 hsz
  refine (ChurnOne_calls h s at_ c W (u64_of_wf w0) hs (bounds_u8 w3).1 (bounds_u8 w3).2 (bounds_i64 w2).1 (bounds_i64 w2).2 (laid_churn hL)).mono fun e W' ⟨he, bel⟩ => ?_
  subst he
  exact ⟨_, rfl, _, _, _, [], _, [], hW', trodAll_mk1 (shut_bool Tryd.underlying4 _), below_trodAll laidOut bel (by kernel_rfl) hAll hlt, rfl, bel.frame _, fun h => by cases h⟩
theorem churnOne_over : Rows.churnOneRow.holds Tryd.pinned (OpenSpec.ofChange Rows.churnOneSpec) :=
  OpenClaim.holds_of_wide 5 Tryd.f5 rfl rfl rfl rfl rfl rfl rfl ⟨rfl, rfl, rfl, rfl, rfl⟩ rfl rfl rfl rfl rfl (by kernel_rfl) Tryd.func5 (by kernel_rfl)
    (of_decide_eq_true (by kernel_rfl)) (by unfold Func.isWrapper; first | (rw [if_pos (by decide +kernel)]; kernel_rfl) | (rw [if_neg (by decide +kernel)]; exact ⟨rfl, rfl⟩))
    (fun os started H enc _ => churnOne_lifted os started H enc)
theorem churnOne_holds : Rows.ChurnOneCardSaid :=
  Claim7.holds_tied_plain_at .later [] [.data] true (true, "976488144d58316ba6ec561b046aea471bd6b2148e7a467dfe2e449aa2cae7b8") false
    churnOne_over (fun _ h => by cases h) (by kernel_rfl) (fun _ h => by cases h) churnOne_row_tie rfl ⟨rfl, rfl⟩ (by kernel_rfl) rfl
    (fun f fn hf hfn => by
      obtain rfl : f = 5 := Option.some.inj ((show Tryd.prog.funcNamed "mootbell/mootbelllaw04.ChurnOne" = some 5 by kernel_rfl).symm.trans hf) |>.symm
      obtain rfl : fn = Tryd.f5 := (Option.some.inj (Tryd.func5.symm.trans hfn)).symm
      exact ⟨by kernel_rfl, fun j t ht => by
        have hm : t ∈ Tryd.f5.params.toList := by simpa using Array.mem_of_getElem? ht
        have hall : (Tryd.f5.params.toList.all fun u => !Tryd.prog.wantsStandIn u) = true := by kernel_rfl
        exact (show Tryd.prog.wantsStandIn t = false by simpa using List.all_eq_true.1 hall t hm)⟩)
    (by kernel_rfl)
#print axioms churnOne_holds
end Go.Proofs.YtllbeodngnjgbaaDoor
