/- ChurnTells: for every input the call of the statement returns true and leaves its arguments as they were, over the program whose table churn.sum lies as its own text lays it (the tied card). Conditions: none beyond the card's own. -/
import Derived.Test.YtllbeodngnjgbaaDoorCards
import Derived.Test.YtllbeodngnjgbaaDoorTie
import Derived.Test.YtllbeodngnjgbaaDoorShell
import Derived.Test.YtllbeodngnjgbaaDoorChurnAwake
import Derived.Test.YtllbeodngnjgbaaDoorChurnRef
set_option linter.unusedVariables false
set_option linter.unusedSimpArgs false
namespace Go.Proofs.YtllbeodngnjgbaaDoor
open Go.RowKit Go.Proofs.YtllbeodngnjgbaaDoorW.PrintWords Go.Proofs.YtllbeodngnjgbaaDoorW.PrintLast Go.Proofs.YtllbeodngnjgbaaDoorW.PrintMore
open Go.ChangeShapes Go.WideShapes Go.ChangeAt
open Go.ChangeMaps (open_string shut_string)
attribute [local go_sem] max2_int min2_int max_two min_two

theorem C_cut {α : Type} {d : Kd α} {w : World} {A : Option Addr} {n m : Nat} {xs : List α} (h : d.C w A n xs) (hm : m ≤ n) : d.C w A m (xs.take m) := by
  obtain rfl := Kd.C_len h
  have := Kd.C_take h hm
  rwa [List.length_take, Nat.min_eq_left hm] at this

set_option maxHeartbeats 2000000 in
set_option maxRecDepth 100000 in
theorem ChurnTells_calls (h : Int) (s : ByteArray) (A : Option Addr) (m c : Nat) (ws : List Int) (n : Int) (w : World) (hh : u64ok h) (hs : s.size ≤ maxLen) (hmc : m ≤ c) (hr : (Kd.int .u64).C w A m ws) (h0 : ∀ x ∈ ws, 0 ≤ x) (hn : n ≤ 9223372036854775807) (hG : ChurnLaid w) :
    Calls Tryd.prog 6 #[.int .u64 h, .string s, .slice A m c, .int .i64 n] w fun e w' => e = .returned (.bool true) ∧ Below w.heap.size w w' := by
  unfold maxLen at hs
  have hm := Kd.C_max hr
  have HR := Aside0.mk hr
  have HP := Aside0.mk h0
  have HG := Aside0.mk hG
  clear hG hr h0
  have HB := Aside0.mk (Below.refl w.heap.size w)
  go_enter Tryd.func6, Tryd.ntmps6
  go_upto_region 2 with (first
        | (go_at_call 8; ((with_reducible refine (awake_calls _ ?hG).mono ?_)); (case hG => exact HG.out.below (by repeat (first | exact HB.out | apply below_alloc | apply pw_below_drewN | apply below_drew1))); rintro e w_ ⟨rfl, hb_⟩; have n_ := Aside0.mk (below_step (by repeat (first | exact HB.out | apply below_alloc | apply pw_below_drewN | apply below_drew1)) hb_); clear HB hb_; have HB := n_; clear n_))
  go_cut [10] (fun v8 wc => ∃ t : ByteArray, v8 = .string t ∧ t.size ≤ 200 ∧ Below w.heap.size w wc)
  case first =>
    rcases Nat.lt_or_ge 200 s.size with h200 | h200
    all_goals
      go_wp2
      go_meet
      case rel => exact ⟨_, rfl, by first | omega | (rw [ByteArray.size_extract]; omega), HB.out⟩
  case rest =>
    clear HB hs
    obtain ⟨x, rfl, hx, hb⟩ := hcut
    have HB := Aside0.mk hb
    clear hb
    go_upto_region 3 with (fail)
    go_cut [11] (fun v12 wc => ∃ (l : List Int) (m' : Nat), v12 = .slice A m' c ∧ m' ≤ 20 ∧ (Kd.int .u64).C w A m' l ∧ (∀ x ∈ l, 0 ≤ x) ∧ Below w.heap.size w wc)
    case first =>
        rcases Nat.lt_or_ge 20 m with h20 | h20
        · go_wp2
          go_meet
          case rel => exact ⟨ws.take 20, _, rfl, by omega, C_cut HR.out (by omega), fun x hx => HP.out x (List.mem_of_mem_take hx), HB.out⟩
        · go_wp2
          go_meet
          case rel => exact ⟨ws, _, rfl, by omega, HR.out, HP.out, HB.out⟩
    case rest =>
        clear HB HR HP
        obtain ⟨l, m', rfl, hm', hr, hp, hb⟩ := hcut
        have HB := Aside0.mk hb
        have HR := Aside0.mk hr
        have HP := Aside0.mk hp
        clear hb hr hp
        have hxs : x.size ≤ maxLen := by unfold maxLen; omega
        have hml : m' ≤ 100000 := by omega
        go_wp2_with (first
          | (go_at_call 10; ((with_reducible refine (More_b _ _ _ hxs ?hG).mono ?_)); (case hG => exact HG.out.below (by repeat (first | exact HB.out | apply below_alloc | apply pw_below_drewN | apply below_drew1))); rintro e w_ ⟨rfl, hb_⟩; have n_ := Aside0.mk (below_step (by repeat (first | exact HB.out | apply below_alloc | apply pw_below_drewN | apply below_drew1)) hb_); clear HB hb_; have HB := n_; clear n_)
          | (go_at_call 9; ((with_reducible refine (Back_b _ _ _ hxs ?hG).mono ?_)); (case hG => exact HG.out.below (by repeat (first | exact HB.out | apply below_alloc | apply pw_below_drewN | apply below_drew1))); rintro e w_ ⟨rfl, hb_⟩; have n_ := Aside0.mk (below_step (by repeat (first | exact HB.out | apply below_alloc | apply pw_below_drewN | apply below_drew1)) hb_); clear HB hb_; have HB := n_; clear n_)
          | (go_at_call 11; ((with_reducible refine (Sum_b _ _ hxs ?hG).mono ?_)); (case hG => exact HG.out.below (by repeat (first | exact HB.out | apply below_alloc | apply pw_below_drewN | apply below_drew1))); rintro e w_ ⟨rfl, hb_⟩; have n_ := Aside0.mk (below_step (by repeat (first | exact HB.out | apply below_alloc | apply pw_below_drewN | apply below_drew1)) hb_); clear HB hb_; have HB := n_; clear n_)
          | (go_at_call 12; ((with_reducible refine (Fold_calls _ _ _ l _ ?hr HP.out ?hG).mono ?_)); (case hG => exact HG.out.below (by repeat (first | exact HB.out | apply below_alloc | apply pw_below_drewN | apply below_drew1))); (case hr => exact Kd.C_below HR.out HB.out);rintro e w_ ⟨rfl, hb_⟩; have n_ := Aside0.mk (below_step (by repeat (first | exact HB.out | apply below_alloc | apply pw_below_drewN | apply below_drew1)) hb_); clear HB hb_; have HB := n_; clear n_)
          | (go_at_call 17; ((with_reducible refine (Draw_calls n hn _ _ _ l _ ?hr HP.out ?hG).mono ?_)); (case hG => exact HG.out.below (by repeat (first | exact HB.out | apply below_alloc | apply pw_below_drewN | apply below_drew1))); (case hr => exact Kd.C_below HR.out HB.out);rintro e w_ ⟨rfl, hb_⟩; have n_ := Aside0.mk (below_step (by repeat (first | exact HB.out | apply below_alloc | apply pw_below_drewN | apply below_drew1)) hb_); clear HB hb_; have HB := n_; clear n_)
          | (go_at_call 19; ((with_reducible refine (Bit_calls _ _ _ l _ ?hr HP.out ?hG).mono ?_)); (case hG => exact HG.out.below (by repeat (first | exact HB.out | apply below_alloc | apply pw_below_drewN | apply below_drew1))); (case hr => exact Kd.C_below HR.out HB.out);rintro e w_ ⟨rfl, hb_⟩; have n_ := Aside0.mk (below_step (by repeat (first | exact HB.out | apply below_alloc | apply pw_below_drewN | apply below_drew1)) hb_); clear HB hb_; have HB := n_; clear n_)
          | (go_at_call 13; ((with_reducible refine (RMore_calls _ _ _ hxs).mono ?_)); rintro e w_ ⟨rfl, hb_⟩; have n_ := Aside0.mk (below_step (by repeat (first | exact HB.out | apply below_alloc | apply pw_below_drewN | apply below_drew1)) hb_); clear HB hb_; have HB := n_; clear n_)
          | (go_at_call 14; ((with_reducible refine (RBack_calls _ _ _ hxs).mono ?_)); rintro e w_ ⟨rfl, hb_⟩; have n_ := Aside0.mk (below_step (by repeat (first | exact HB.out | apply below_alloc | apply pw_below_drewN | apply below_drew1)) hb_); clear HB hb_; have HB := n_; clear n_)
          | (go_at_call 15; ((with_reducible refine (RSum_calls _ _ hxs).mono ?_)); rintro e w_ ⟨rfl, hb_⟩; have n_ := Aside0.mk (below_step (by repeat (first | exact HB.out | apply below_alloc | apply pw_below_drewN | apply below_drew1)) hb_); clear HB hb_; have HB := n_; clear n_)
          | (go_at_call 16; ((with_reducible refine (RFold_calls _ _ _ l _ ?hr hml HP.out).mono ?_)); (case hr => exact Kd.C_below HR.out HB.out);rintro e w_ ⟨rfl, hb_⟩; have n_ := Aside0.mk (below_step (by repeat (first | exact HB.out | apply below_alloc | apply pw_below_drewN | apply below_drew1)) hb_); clear HB hb_; have HB := n_; clear n_)
          | (go_at_call 18; ((with_reducible refine (RDraw_calls n hn _ _ _ l _ ?hr hml HP.out).mono ?_)); (case hr => exact Kd.C_below HR.out HB.out);rintro e w_ ⟨rfl, hb_⟩; have n_ := Aside0.mk (below_step (by repeat (first | exact HB.out | apply below_alloc | apply pw_below_drewN | apply below_drew1)) hb_); clear HB hb_; have HB := n_; clear n_)
          | (go_at_call 20; ((with_reducible refine (RBit_calls _ _ _ l _ ?hr hml HP.out).mono ?_)); (case hr => exact Kd.C_below HR.out HB.out);rintro e w_ ⟨rfl, hb_⟩; have n_ := Aside0.mk (below_step (by repeat (first | exact HB.out | apply below_alloc | apply pw_below_drewN | apply below_drew1)) hb_); clear HB hb_; have HB := n_; clear n_))
        go_ret
        exact ⟨rfl, HB.out⟩

set_option maxRecDepth 100000 in
theorem churnTells_lifted (os : Os) (started : os.Started) (H : Type) (enc : TypeId × Value → H) :
    ReturnsInHanded {} Tryd.checked os 6 .any (fun w args => (Rows.churnTellsSpec.pre enc Tryd.prog Tryd.f6 [] false w args ∧ laidMetH Tryd.prog [("mootbell/churn.sum", Rows.laid_mootbell_churn_sum)] w) ∧ sizedMet enc Tryd.prog Tryd.f6 (OpenSpec.ofChange Rows.churnTellsSpec) false w args)
      (Rows.churnTellsSpec.post enc Tryd.prog Tryd.f6 false true false false) := by
  refine returnsInHanded_of_change_and (C := Tryd.checked) (X := fun w _ => laidMetH Tryd.prog [("mootbell/churn.sum", Rows.laid_mootbell_churn_sum)] w) (fun _ _ _ hh h => h.of_heap hh) own started (by kernel_rfl) Tryd.func6
    (ChangeSpec.witness_shaped (enc := enc) (C := Tryd.checked) (os := os) (X := fun w _ => laidMetH Tryd.prog [("mootbell/churn.sum", Rows.laid_mootbell_churn_sum)] w) false (World.doorLaid Tryd.prog 400 os) #[.int .u64 0, .string ByteArray.empty, .slice none 0 0, .int .i64 0] 8 rfl (World.shaped_of_RefB (by kernel_rfl) (by kernel_rfl)) (by kernel_rfl) (by kernel_rfl) (by kernel_rfl) (door_met os _)) ?_
  intro W base args ds gs before hval0 hW hcnd hsz0 hL _
  have hsz : (DataW.weightsEach Tryd.prog (Tryd.f6.params.toList ++ Rows.churnTellsSpec.plain.varTypes Tryd.prog) (ds ++ gs)).all (· ≤ reachBytes) = true := hsz0
  have hval : ∀ (j : Nat) t v, Tryd.f6.params[j]? = some t → args[j]? = some v → Value.okWide Tryd.prog W .any base t v := hval0
  have hW' := hW
  obtain ⟨p, q, hA0, hV, rfl, hfz, hnd⟩ := hW
  have hA : DataW.TrodAll enc Tryd.prog W 0 (fun _ => true) true Tryd.f6.params.toList args.toList ds p := hA0
  have hAll := hA
  rw [Tryd.params6] at hA hval hsz
  obtain ⟨v0, vs0, d0, ds0, p0, q0, hargs, rfl, rfl, h0, r0⟩ := trodAll_cons hA
  obtain ⟨v1, vs1, d1, ds1, p1, q1, rfl, rfl, rfl, h1, r1⟩ := trodAll_cons r0
  obtain ⟨v2, vs2, d2, ds2, p2, q2, rfl, rfl, rfl, h2, r2⟩ := trodAll_cons r1
  obtain ⟨v3, vs3, d3, ds3, p3, q3, rfl, rfl, rfl, h3, r3⟩ := trodAll_cons r2
  obtain ⟨rfl, rfl, rfl⟩ := trodAll_nil r3
  obtain rfl : args = #[v0, v1, v2, v3] := by cases args; simp_all
  obtain ⟨rfl, rfl⟩ := trodVars_none hV
  have hlt := trodAll_lt hAll
  obtain ⟨h, rfl, rfl, rfl, w0⟩ := open_int Tryd.underlying22 (hval 0 22 v0 rfl rfl) h0
  obtain ⟨s, rfl, rfl, rfl, hs⟩ := open_string Tryd.underlying9 (hval 1 9 v1 rfl rfl) h1
  obtain ⟨A, m, c, l, rfl, hmc, hC, hwf⟩ := C_came Tryd.underlying26 Tryd.underlying22 (by kernel_rfl) (hval 2 26 v2 rfl rfl) h2
  obtain ⟨n, rfl, rfl, rfl, w3⟩ := open_int Tryd.underlying3 (hval 3 3 v3 rfl rfl) h3
  clear hA0 hval0 hsz0 hsz
  refine (ChurnTells_calls h s A m c l n W (u64_of_wf w0) hs hmc hC (fun x hx => (bounds_u64 (hwf x hx)).1) (bounds_i64 w3).2 (laid_churn hL)).mono fun e W' ⟨he, bel⟩ => ?_
  subst he
  exact ⟨_, rfl, _, _, _, [], _, [], hW', trodAll_mk1 (shut_bool Tryd.underlying4 _), below_trodAll laidOut bel (by kernel_rfl) hAll hlt, rfl, bel.frame _, fun h => by cases h⟩
theorem churnTells_over : Rows.churnTellsRow.holds Tryd.pinned (OpenSpec.ofChange Rows.churnTellsSpec) :=
  OpenClaim.holds_of_wide 6 Tryd.f6 rfl rfl rfl rfl rfl rfl rfl ⟨rfl, rfl, rfl, rfl, rfl⟩ rfl rfl rfl rfl rfl (by kernel_rfl) Tryd.func6 (by kernel_rfl)
    (of_decide_eq_true (by kernel_rfl)) (by unfold Func.isWrapper; first | (rw [if_pos (by decide +kernel)]; kernel_rfl) | (rw [if_neg (by decide +kernel)]; exact ⟨rfl, rfl⟩))
    (fun os started H enc _ => churnTells_lifted os started H enc)
theorem churnTells_holds : Rows.ChurnTellsCardSaid :=
  Claim7.holds_tied_plain_at .later [] [.data] true (true, "976488144d58316ba6ec561b046aea471bd6b2148e7a467dfe2e449aa2cae7b8") false
    churnTells_over (fun _ h => by cases h) (by kernel_rfl) (fun _ h => by cases h) churnTells_row_tie rfl ⟨rfl, rfl⟩ (by kernel_rfl) rfl
    (fun f fn hf hfn => by
      obtain rfl : f = 6 := Option.some.inj ((show Tryd.prog.funcNamed "mootbell/mootbelllaw04.ChurnTells" = some 6 by kernel_rfl).symm.trans hf) |>.symm
      obtain rfl : fn = Tryd.f6 := (Option.some.inj (Tryd.func6.symm.trans hfn)).symm
      exact ⟨by kernel_rfl, fun j t ht => by
        have hm : t ∈ Tryd.f6.params.toList := by simpa using Array.mem_of_getElem? ht
        have hall : (Tryd.f6.params.toList.all fun u => !Tryd.prog.wantsStandIn u) = true := by kernel_rfl
        exact (show Tryd.prog.wantsStandIn t = false by simpa using List.all_eq_true.1 hall t hm)⟩)
    (by kernel_rfl)
#print axioms churnTells_holds
end Go.Proofs.YtllbeodngnjgbaaDoor
