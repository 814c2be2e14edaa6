/- ChurnDraw: for every input the call of the statement returns true and leaves its arguments as they were, over the program whose table churn.sum lies as its own text lays it (the tied card). Conditions: none beyond the card's own. -/
import Derived.Test.YtllbeodngnjgbaaDoorCards
import Derived.Test.YtllbeodngnjgbaaDoorTie
import Derived.Test.YtllbeodngnjgbaaDoorShell
import Derived.Test.YtllbeodngnjgbaaDoorChurnAwake
set_option linter.unusedVariables false
set_option linter.unusedSimpArgs false
namespace Go.Proofs.YtllbeodngnjgbaaDoor
open Go.RowKit Go.Proofs.YtllbeodngnjgbaaDoorW.PrintWords Go.Proofs.YtllbeodngnjgbaaDoorW.PrintLast Go.Proofs.YtllbeodngnjgbaaDoorW.PrintMore
open Go.ChangeShapes Go.WideShapes Go.ChangeAt
open Go.ChangeMaps (open_string shut_string)
attribute [local go_sem] max2_int min2_int max_two min_two

theorem C_cut {α : Type} {d : Kd α} {w : World} {A : Option Addr} {n m : Nat} {xs : List α} (h : d.C w A n xs) (hm : m ≤ n) : d.C w A m (xs.take m) := by
  obtain rfl := Kd.C_len h
  have := Kd.C_take h hm
  rwa [List.length_take, Nat.min_eq_left hm] at this

theorem draw_facts (n : Int) (l : List Int) (h1 : 1 ≤ n) : 0 ≤ drawF n l ∧ drawF n l < n ∧ drawF n l = foldF l % n := by
  have e : drawF n l = foldF l % n := by unfold drawF; rw [if_neg (by omega)]
  exact ⟨by rw [e]; exact Int.emod_nonneg _ (by omega), by rw [e]; exact Int.emod_lt_of_pos _ (by omega), e⟩
theorem draw_one (l : List Int) : drawF 1 l = 0 := by
  have := draw_facts 1 l (by omega); omega
theorem draw_twice (n : Int) (l : List Int) (h1 : 1 ≤ n) : drawF (2 * n) l % n = drawF n l := by
  rw [(draw_facts n l h1).2.2, (draw_facts (2 * n) l (by omega)).2.2]
  exact Int.emod_emod_of_dvd _ ⟨2, by omega⟩

set_option maxHeartbeats 1000000 in
theorem ChurnDraw_calls (n : Int) (hn : n ≤ 9223372036854775807) (A : Option Addr) (m c : Nat) (ws : List Int) (w : World) (hmc : m ≤ c) (hr : (Kd.int .u64).C w A m ws) (h0 : ∀ x ∈ ws, 0 ≤ x) (hG : ChurnLaid w) :
    Calls Tryd.prog 7 #[.int .i64 n, .slice A m c] w fun e w' => e = .returned (.bool true) ∧ Below w.heap.size w w' := by
  obtain ⟨l, m', hl, hr', hc'⟩ : ∃ (l : List Int) (m' : Nat), (∀ x ∈ l, 0 ≤ x) ∧ (Kd.int .u64).C w A m' l ∧ (20 < m ∧ m' = 20 ∨ m ≤ 20 ∧ m' = m) := by
    by_cases h20 : 20 < m
    · exact ⟨ws.take 20, 20, fun x hx => h0 x (List.mem_of_mem_take hx), C_cut hr (by omega), .inl ⟨h20, rfl⟩⟩
    · exact ⟨ws, m, h0, hr, .inr ⟨by omega, rfl⟩⟩
  have hm := Kd.C_max hr
  have HR := Aside0.mk hr'
  have HG := Aside0.mk hG
  have HP := Aside0.mk hl
  clear hr hr' hG h0 hl
  have HB := Aside0.mk (Below.refl w.heap.size w)
  by_cases h1 : n < 1
  · have e0 : drawF n l = 0 := by unfold drawF; rw [if_pos h1]
    rcases hc' with ⟨h20, rfl⟩ | ⟨h20, rfl⟩
    all_goals
      go_enter Tryd.func7, Tryd.ntmps7
      go_wp2_with (first
        | (go_at_call 8; ((with_reducible refine (awake_calls _ ?hG).mono ?_)); (case hG => exact HG.out.below (by repeat (first | exact HB.out | apply below_alloc | apply pw_below_drewN | apply below_drew1))); rintro e w_ ⟨rfl, hb_⟩; have n_ := Aside0.mk (below_step (by repeat (first | exact HB.out | apply below_alloc | apply pw_below_drewN | apply below_drew1)) hb_); clear HB hb_; have HB := n_; clear n_)
        | (go_at_call 17; ((with_reducible refine (Draw_calls n hn _ _ _ l _ ?hr HP.out ?hG).mono ?_)); (case hG => exact HG.out.below (by repeat (first | exact HB.out | apply below_alloc | apply pw_below_drewN | apply below_drew1))); (case hr => exact Kd.C_below HR.out HB.out);rintro e w_ ⟨rfl, hb_⟩; have n_ := Aside0.mk (below_step (by repeat (first | exact HB.out | apply below_alloc | apply pw_below_drewN | apply below_drew1)) hb_); clear HB hb_; have HB := n_; clear n_))
      go_ret
      exact ⟨rfl, HB.out⟩
  · obtain ⟨f1, f2, f3⟩ := draw_facts n l (by omega)
    rw [f3] at f1 f2
    have e1 := draw_one l
    have k0 := foldF_ok l
    have e4 : wrap64 ((foldF l).tmod n) = foldF l % n := draw_wrap n l (by omega) hn
    have e5 := bit_and l
    have e6 : n ≤ 2305843009213693952 → (drawF (2 * n) l).tmod n = foldF l % n := fun h => by
      obtain ⟨g1, g2, g3⟩ := draw_facts (2 * n) l (by omega)
      rw [Int.tmod_eq_emod_of_nonneg g1, draw_twice n l (by omega), f3]
    rcases Bool.eq_false_or_eq_true (decide (2305843009213693952 < n)) with hd | hd
    · have hd' := of_decide_eq_true hd
      clear e6
      rcases hc' with ⟨h20, rfl⟩ | ⟨h20, rfl⟩
      all_goals
        go_enter Tryd.func7, Tryd.ntmps7
        go_wp2_with (first
          | (go_at_call 8; ((with_reducible refine (awake_calls _ ?hG).mono ?_)); (case hG => exact HG.out.below (by repeat (first | exact HB.out | apply below_alloc | apply pw_below_drewN | apply below_drew1))); rintro e w_ ⟨rfl, hb_⟩; have n_ := Aside0.mk (below_step (by repeat (first | exact HB.out | apply below_alloc | apply pw_below_drewN | apply below_drew1)) hb_); clear HB hb_; have HB := n_; clear n_)
          | (go_at_call 17; ((with_reducible refine (Draw_calls _ ?hn _ _ _ l _ ?hr HP.out ?hG).mono ?_)); (case hG => exact HG.out.below (by repeat (first | exact HB.out | apply below_alloc | apply pw_below_drewN | apply below_drew1))); (case hr => exact Kd.C_below HR.out HB.out); (case hn => omega);rintro e w_ ⟨rfl, hb_⟩; have n_ := Aside0.mk (below_step (by repeat (first | exact HB.out | apply below_alloc | apply pw_below_drewN | apply below_drew1)) hb_); clear HB hb_; have HB := n_; clear n_)
          | (go_at_call 12; ((with_reducible refine (Fold_calls _ _ _ l _ ?hr HP.out ?hG).mono ?_)); (case hG => exact HG.out.below (by repeat (first | exact HB.out | apply below_alloc | apply pw_below_drewN | apply below_drew1))); (case hr => exact Kd.C_below HR.out HB.out);rintro e w_ ⟨rfl, hb_⟩; have n_ := Aside0.mk (below_step (by repeat (first | exact HB.out | apply below_alloc | apply pw_below_drewN | apply below_drew1)) hb_); clear HB hb_; have HB := n_; clear n_)
          | (go_at_call 19; ((with_reducible refine (Bit_calls _ _ _ l _ ?hr HP.out ?hG).mono ?_)); (case hG => exact HG.out.below (by repeat (first | exact HB.out | apply below_alloc | apply pw_below_drewN | apply below_drew1))); (case hr => exact Kd.C_below HR.out HB.out);rintro e w_ ⟨rfl, hb_⟩; have n_ := Aside0.mk (below_step (by repeat (first | exact HB.out | apply below_alloc | apply pw_below_drewN | apply below_drew1)) hb_); clear HB hb_; have HB := n_; clear n_))
        go_ret
        exact ⟨rfl, HB.out⟩
    · have hd' := of_decide_eq_false hd
      replace e6 := e6 (by omega)
      rcases hc' with ⟨h20, rfl⟩ | ⟨h20, rfl⟩
      all_goals
        go_enter Tryd.func7, Tryd.ntmps7
        go_wp2_with (first
          | (go_at_call 8; ((with_reducible refine (awake_calls _ ?hG).mono ?_)); (case hG => exact HG.out.below (by repeat (first | exact HB.out | apply below_alloc | apply pw_below_drewN | apply below_drew1))); rintro e w_ ⟨rfl, hb_⟩; have n_ := Aside0.mk (below_step (by repeat (first | exact HB.out | apply below_alloc | apply pw_below_drewN | apply below_drew1)) hb_); clear HB hb_; have HB := n_; clear n_)
          | (go_at_call 17; ((with_reducible refine (Draw_calls _ ?hn _ _ _ l _ ?hr HP.out ?hG).mono ?_)); (case hG => exact HG.out.below (by repeat (first | exact HB.out | apply below_alloc | apply pw_below_drewN | apply below_drew1))); (case hr => exact Kd.C_below HR.out HB.out); (case hn => omega);rintro e w_ ⟨rfl, hb_⟩; have n_ := Aside0.mk (below_step (by repeat (first | exact HB.out | apply below_alloc | apply pw_below_drewN | apply below_drew1)) hb_); clear HB hb_; have HB := n_; clear n_)
          | (go_at_call 12; ((with_reducible refine (Fold_calls _ _ _ l _ ?hr HP.out ?hG).mono ?_)); (case hG => exact HG.out.below (by repeat (first | exact HB.out | apply below_alloc | apply pw_below_drewN | apply below_drew1))); (case hr => exact Kd.C_below HR.out HB.out);rintro e w_ ⟨rfl, hb_⟩; have n_ := Aside0.mk (below_step (by repeat (first | exact HB.out | apply below_alloc | apply pw_below_drewN | apply below_drew1)) hb_); clear HB hb_; have HB := n_; clear n_)
          | (go_at_call 19; ((with_reducible refine (Bit_calls _ _ _ l _ ?hr HP.out ?hG).mono ?_)); (case hG => exact HG.out.below (by repeat (first | exact HB.out | apply below_alloc | apply pw_below_drewN | apply below_drew1))); (case hr => exact Kd.C_below HR.out HB.out);rintro e w_ ⟨rfl, hb_⟩; have n_ := Aside0.mk (below_step (by repeat (first | exact HB.out | apply below_alloc | apply pw_below_drewN | apply below_drew1)) hb_); clear HB hb_; have HB := n_; clear n_))
        go_ret
        exact ⟨rfl, HB.out⟩

set_option maxRecDepth 100000 in
theorem churnDraw_lifted (os : Os) (started : os.Started) (H : Type) (enc : TypeId × Value → H) :
    ReturnsInHanded {} Tryd.checked os 7 .any (fun w args => (Rows.churnDrawSpec.pre enc Tryd.prog Tryd.f7 [] false w args ∧ laidMetH Tryd.prog [("mootbell/churn.sum", Rows.laid_mootbell_churn_sum)] w) ∧ sizedMet enc Tryd.prog Tryd.f7 (OpenSpec.ofChange Rows.churnDrawSpec) false w args)
      (Rows.churnDrawSpec.post enc Tryd.prog Tryd.f7 false true false false) := by
  refine returnsInHanded_of_change_and (C := Tryd.checked) (X := fun w _ => laidMetH Tryd.prog [("mootbell/churn.sum", Rows.laid_mootbell_churn_sum)] w) (fun _ _ _ hh h => h.of_heap hh) own started (by kernel_rfl) Tryd.func7
    (ChangeSpec.witness_shaped (enc := enc) (C := Tryd.checked) (os := os) (X := fun w _ => laidMetH Tryd.prog [("mootbell/churn.sum", Rows.laid_mootbell_churn_sum)] w) false (World.doorLaid Tryd.prog 400 os) #[.int .i64 0, .slice none 0 0] 8 rfl (World.shaped_of_RefB (by kernel_rfl) (by kernel_rfl)) (by kernel_rfl) (by kernel_rfl) (by kernel_rfl) (door_met os _)) ?_
  intro W base args ds gs before hval0 hW hcnd hsz0 hL _
  have hsz : (DataW.weightsEach Tryd.prog (Tryd.f7.params.toList ++ Rows.churnDrawSpec.plain.varTypes Tryd.prog) (ds ++ gs)).all (· ≤ reachBytes) = true := hsz0
  have hval : ∀ (j : Nat) t v, Tryd.f7.params[j]? = some t → args[j]? = some v → Value.okWide Tryd.prog W .any base t v := hval0
  have hW' := hW
  obtain ⟨p, q, hA0, hV, rfl, hfz, hnd⟩ := hW
  have hA : DataW.TrodAll enc Tryd.prog W 0 (fun _ => true) true Tryd.f7.params.toList args.toList ds p := hA0
  have hAll := hA
  rw [Tryd.params7] at hA hval hsz
  obtain ⟨v0, vs0, d0, ds0, p0, q0, hargs, rfl, rfl, h0, r0⟩ := trodAll_cons hA
  obtain ⟨v1, vs1, d1, ds1, p1, q1, rfl, rfl, rfl, h1, r1⟩ := trodAll_cons r0
  obtain ⟨rfl, rfl, rfl⟩ := trodAll_nil r1
  obtain rfl : args = #[v0, v1] := by cases args; simp_all
  obtain ⟨rfl, rfl⟩ := trodVars_none hV
  have hlt := trodAll_lt hAll
  obtain ⟨n, rfl, rfl, rfl, w0⟩ := open_int Tryd.underlying3 (hval 0 3 v0 rfl rfl) h0
  obtain ⟨A, m, c, l, rfl, hmc, hC, hwf⟩ := C_came Tryd.underlying26 Tryd.underlying22 (by kernel_rfl) (hval 1 26 v1 rfl rfl) h1
  clear hA0 hval0 hsz0 hsz
  refine (ChurnDraw_calls n (bounds_i64 w0).2 A m c l W hmc hC (fun x hx => (bounds_u64 (hwf x hx)).1) (laid_churn hL)).mono fun e W' ⟨he, bel⟩ => ?_
  subst he
  exact ⟨_, rfl, _, _, _, [], _, [], hW', trodAll_mk1 (shut_bool Tryd.underlying4 _), below_trodAll laidOut bel (by kernel_rfl) hAll hlt, rfl, bel.frame _, fun h => by cases h⟩
theorem churnDraw_over : Rows.churnDrawRow.holds Tryd.pinned (OpenSpec.ofChange Rows.churnDrawSpec) :=
  OpenClaim.holds_of_wide 7 Tryd.f7 rfl rfl rfl rfl rfl rfl rfl ⟨rfl, rfl, rfl, rfl, rfl⟩ rfl rfl rfl rfl rfl (by kernel_rfl) Tryd.func7 (by kernel_rfl)
    (of_decide_eq_true (by kernel_rfl)) (by unfold Func.isWrapper; first | (rw [if_pos (by decide +kernel)]; kernel_rfl) | (rw [if_neg (by decide +kernel)]; exact ⟨rfl, rfl⟩))
    (fun os started H enc _ => churnDraw_lifted os started H enc)
theorem churnDraw_holds : Rows.ChurnDrawCardSaid :=
  Claim7.holds_tied_plain_at .later [] [.data] true (true, "976488144d58316ba6ec561b046aea471bd6b2148e7a467dfe2e449aa2cae7b8") false
    churnDraw_over (fun _ h => by cases h) (by kernel_rfl) (fun _ h => by cases h) churnDraw_row_tie rfl ⟨rfl, rfl⟩ (by kernel_rfl) rfl
    (fun f fn hf hfn => by
      obtain rfl : f = 7 := Option.some.inj ((show Tryd.prog.funcNamed "mootbell/mootbelllaw04.ChurnDraw" = some 7 by kernel_rfl).symm.trans hf) |>.symm
      obtain rfl : fn = Tryd.f7 := (Option.some.inj (Tryd.func7.symm.trans hfn)).symm
      exact ⟨by kernel_rfl, fun j t ht => by
        have hm : t ∈ Tryd.f7.params.toList := by simpa using Array.mem_of_getElem? ht
        have hall : (Tryd.f7.params.toList.all fun u => !Tryd.prog.wantsStandIn u) = true := by kernel_rfl
        exact (show Tryd.prog.wantsStandIn t = false by simpa using List.all_eq_true.1 hall t hm)⟩)
    (by kernel_rfl)
#print axioms churnDraw_holds
end Go.Proofs.YtllbeodngnjgbaaDoor
