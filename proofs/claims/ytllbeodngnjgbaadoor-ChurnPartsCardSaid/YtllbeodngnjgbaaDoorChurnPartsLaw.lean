/- ChurnParts: for every input the call of the statement returns true and leaves its arguments as they were, over the program whose table churn.sum lies as its own text lays it (the tied card). Conditions: none beyond the card's own. -/
import Derived.Test.YtllbeodngnjgbaaDoorCards
import Derived.Test.YtllbeodngnjgbaaDoorTie
import Derived.Test.YtllbeodngnjgbaaDoorShell
import Derived.Test.YtllbeodngnjgbaaDoorChurnAwake
set_option linter.unusedVariables false
set_option linter.unusedSimpArgs false
namespace Go.Proofs.YtllbeodngnjgbaaDoor
open Go.RowKit Go.Proofs.YtllbeodngnjgbaaDoorW.PrintWords Go.Proofs.YtllbeodngnjgbaaDoorW.PrintLast Go.Proofs.YtllbeodngnjgbaaDoorW.PrintMore
open Go.ChangeShapes Go.WideShapes Go.ChangeAt
open Go.ChangeMaps (open_string shut_string)
attribute [local go_sem] max2_int min2_int max_two min_two

theorem C_cut {α : Type} {d : Kd α} {w : World} {A : Option Addr} {n m : Nat} {xs : List α} (h : d.C w A n xs) (hm : m ≤ n) : d.C w A m (xs.take m) := by
  obtain rfl := Kd.C_len h
  have := Kd.C_take h hm
  rwa [List.length_take, Nat.min_eq_left hm] at this

theorem tmod_emod (x : Int) (j : Nat) (h : 0 ≤ x) : (x / 2 ^ (8 * j)).tmod 256 % 256 = x / 2 ^ (8 * j) % 256 := by
  rw [Int.tmod_eq_emod_of_nonneg (Int.ediv_nonneg h (Int.le_of_lt (Int.pow_pos (by decide)))), Int.emod_emod]
set_option maxHeartbeats 2000000 in
set_option maxRecDepth 100000 in
theorem ChurnParts_calls (h : Int) (s t : ByteArray) (A : Option Addr) (m c : Nat) (ws : List Int) (w : World) (hh : u64ok h) (hs : s.size ≤ maxLen) (ht : t.size ≤ maxLen) (hmc : m ≤ c) (hr : (Kd.int .u64).C w A m ws) (h0 : ∀ x ∈ ws, 0 ≤ x) (hG : ChurnLaid w) :
    Calls Tryd.prog 4 #[.int .u64 h, .string s, .string t, .slice A m c] w fun e w' => e = .returned (.bool true) ∧ Below w.heap.size w w' := by
  unfold maxLen at hs ht
  have hm := Kd.C_max hr
  have HR := Aside0.mk hr
  have HP := Aside0.mk h0
  have HG := Aside0.mk hG
  clear hG hr h0
  have HB := Aside0.mk (Below.refl w.heap.size w)
  go_enter Tryd.func4, Tryd.ntmps4
  go_upto_region 2 with (first
        | (go_at_call 8; ((with_reducible refine (awake_calls _ ?hG).mono ?_)); (case hG => exact HG.out.below (by repeat (first | exact HB.out | apply below_alloc | apply pw_below_drewN | apply below_drew1))); rintro e w_ ⟨rfl, hb_⟩; have n_ := Aside0.mk (below_step (by repeat (first | exact HB.out | apply below_alloc | apply pw_below_drewN | apply below_drew1)) hb_); clear HB hb_; have HB := n_; clear n_))
  go_cut [10] (fun v10 wc => ∃ t : ByteArray, v10 = .string t ∧ t.size ≤ 100 ∧ Below w.heap.size w wc)
  case first =>
    rcases Nat.lt_or_ge 100 s.size with h200 | h200
    all_goals
      go_wp2
      go_meet
      case rel => exact ⟨_, rfl, by first | omega | (rw [ByteArray.size_extract]; omega), HB.out⟩
  case rest =>
    clear HB hs
    obtain ⟨x, rfl, hx, hb⟩ := hcut
    have HB := Aside0.mk hb
    clear hb
    go_upto_region 3 with (fail)
    go_cut [11] (fun v11 wc => ∃ t : ByteArray, v11 = .string t ∧ t.size ≤ 100 ∧ Below w.heap.size w wc)
    case first =>
      rcases Nat.lt_or_ge 100 t.size with h200 | h200
      all_goals
        go_wp2
        go_meet
        case rel => exact ⟨_, rfl, by first | omega | (rw [ByteArray.size_extract]; omega), HB.out⟩
    case rest =>
      clear HB ht
      obtain ⟨y, rfl, hy, hb⟩ := hcut
      have HB := Aside0.mk hb
      clear hb
      go_upto_region 4 with (fail)
      go_cut [12] (fun v12 wc => ∃ (l : List Int) (m' : Nat), v12 = .slice A m' c ∧ m' ≤ 20 ∧ (Kd.int .u64).C w A m' l ∧ (∀ x ∈ l, 0 ≤ x) ∧ Below w.heap.size w wc)
      case first =>
        rcases Nat.lt_or_ge 20 m with h20 | h20
        · go_wp2
          go_meet
          case rel => exact ⟨ws.take 20, _, rfl, by omega, C_cut HR.out (by omega), fun x hx => HP.out x (List.mem_of_mem_take hx), HB.out⟩
        · go_wp2
          go_meet
          case rel => exact ⟨ws, _, rfl, by omega, HR.out, HP.out, HB.out⟩
      case rest =>
        clear HB HR HP
        obtain ⟨l, m', rfl, hm', hr, hp, hb⟩ := hcut
        have HB := Aside0.mk hb
        obtain rfl := Kd.C_len hr
        have HR := Aside0.mk hr
        have HP := Aside0.mk hp
        clear hb hr hp
        have hxs : x.size ≤ maxLen := by unfold maxLen; omega
        have hys : y.size ≤ maxLen := by unfold maxLen; omega
        have hxy : (x ++ y).size ≤ maxLen := by rw [ByteArray.size_append]; unfold maxLen; omega
        have hxy2 : (x ++ y).size = x.size + y.size := ByteArray.size_append
        have q1 := (moreF_append h x.data.toList y.data.toList).symm
        have q2 := (backF_append h x.data.toList y.data.toList).symm
        have q3 : (sumF (x.data.toList ++ y.data.toList) != moreF (sumF x.data.toList) y.data.toList) = false := by rw [bne_eq_false_iff_eq]; exact moreF_append _ _ _
        have q4 := sum_empty
        go_wp2_with (first
          | (go_at_call 10; ((with_reducible refine (More_b _ _ _ ?hs ?hG).mono ?_)); (case hG => exact HG.out.below (by repeat (first | exact HB.out | apply below_alloc | apply pw_below_drewN | apply below_drew1))); (case hs => first | exact hxs | exact hys | exact hxy);rintro e w_ ⟨rfl, hb_⟩; have n_ := Aside0.mk (below_step (by repeat (first | exact HB.out | apply below_alloc | apply pw_below_drewN | apply below_drew1)) hb_); clear HB hb_; have HB := n_; clear n_)
          | (go_at_call 9; ((with_reducible refine (Back_b _ _ _ ?hs ?hG).mono ?_)); (case hG => exact HG.out.below (by repeat (first | exact HB.out | apply below_alloc | apply pw_below_drewN | apply below_drew1))); (case hs => first | exact hxs | exact hys | exact hxy);rintro e w_ ⟨rfl, hb_⟩; have n_ := Aside0.mk (below_step (by repeat (first | exact HB.out | apply below_alloc | apply pw_below_drewN | apply below_drew1)) hb_); clear HB hb_; have HB := n_; clear n_)
          | (go_at_call 11; ((with_reducible refine (Sum_b _ _ ?hs ?hG).mono ?_)); (case hG => exact HG.out.below (by repeat (first | exact HB.out | apply below_alloc | apply pw_below_drewN | apply below_drew1))); (case hs => first | exact hxs | exact hys | exact hxy | (unfold maxLen; decide));rintro e w_ ⟨rfl, hb_⟩; have n_ := Aside0.mk (below_step (by repeat (first | exact HB.out | apply below_alloc | apply pw_below_drewN | apply below_drew1)) hb_); clear HB hb_; have HB := n_; clear n_))
        clear q1 q2 q3 q4 hxs hys hxy hxy2 hx hy
        have hml := hm'
        clear hm'
        go_loopw [13, 14] (fun g i wr => ∃ k : Nat, k ≤ l.length ∧ i = .int .i64 k ∧ g = .int .u64 (foldF (l.take k)) ∧ Below w.heap.size w wr) (fun _ i _ => l.length - (intOf i).toNat)
        case atStart => exact ⟨0, by omega, rfl, rfl, HB.out⟩
        case round =>
          clear HB
          obtain ⟨k, hk, rfl, rfl, hb⟩ := hrel
          have HB := Aside0.mk hb
          clear hb
          by_cases hlt : k < l.length
          · have HS := Aside0.mk (foldl_snoc l k hlt)
            have hx0 : 0 ≤ nth l k := HP.out _ (nth_mem hlt)
            obtain ⟨ba, oa, sa, rfl, hc⟩ := C_nat HR.out k hlt
            have HC := Aside0.mk hc
            clear hc
            go_wp2_with ((with_reducible refine gate_dst (N := 75) rfl ?_); refine Kd.R_make (Kd.int .u8) (w0 := w) w.heap.size 5 rfl (N := 75) rfl 28 _ _ rfl (8) rfl rfl Tryd.underlying28 (.int .u8 0) 1 info_u8 rfl (by decide) (by omega) 0 (ok := fun _ => True) (okp := fun _ => True) rfl (fun _ hk => hk) trivial (by omega) ?hl (?hB) (?hz) ?_; (case hl => omega); (case hB => exact (by repeat (first | exact HB.out | apply below_alloc | apply pw_below_drewN | apply below_drew1))); (case hz => exact below_size (by repeat (first | exact HB.out | apply below_alloc | apply pw_below_drewN | apply below_drew1))); intro v1 w1 hR hb_ hg_ hnew_; clear hg_ hnew_; clear HB; have HB := Aside0.mk hb_; clear hb_; rw [show (8 : Int).toNat = 8 from rfl, ← putRow_zero (nth l k) 8] at hR; obtain ⟨g, cap, rfl, hgb, hgl, -⟩ := Kd.R_form hR (by rw [putRow_len]; omega); rw [putRow_len] at hR; have HO := Aside0.mk hR; clear hR; simp only [putRow_len])
            go_loopw [16] (fun i wr => ∃ j : Nat, j ≤ 8 ∧ i = .int .i64 j ∧ (Kd.int .u8).R 5 wr w.heap.size (fun _ => True) (.slice (some ⟨g, 0, none⟩) 8 cap) (putRow (nth l k) 8 j) ∧ Below w.heap.size w wr) (fun i _ => 8 - (intOf i).toNat)
            case atStart => exact ⟨0, by omega, rfl, HO.out, HB.out⟩
            case round =>
              clear HB HO
              obtain ⟨j, hj, rfl, hR, hb⟩ := hrel
              by_cases hj8 : j < 8
              · obtain ⟨hx1, hx2⟩ := Kd.R_celln 0 hR (j : Int) (by omega) (by omega)
                have hs := (Kd.R_putg hR (j : Int) ((nth l k / 2 ^ (8 * j)) % 256)).1
                simp only [Int.toNat_natCast] at hx1 hx2 hs
                rw [putRow_set] at hs
                have hc := (hb.cell (cell_lt HC.out)).trans HC.out
                have HR' := Aside0.mk hs
                have HB := Aside0.mk hb
                clear hR hb hs
                go_wp2
                go_roundw
                case rel => exact ⟨j + 1, by omega, by go_num, by rw [show (nth l k / 2 ^ (8 * j)).tmod 256 % 256 = nth l k / 2 ^ (8 * j) % 256 from tmod_emod _ _ hx0]; exact HR'.out, HB.out.setCell (by exact hgb) _⟩
                case measure => simp [intOf]; omega
              · obtain rfl : j = 8 := by omega
                have hcv := own_string (P := Tryd.prog) Tryd.underlying28 Tryd.underlying5 Tryd.underlying9 (Kd.own_of_R hR)
                rw [putRow_str (nth l k) 8 (by omega) (by omega) hx0] at hcv
                have HB := Aside0.mk hb
                clear hR hb
                go_wp2_with (go_at_call 10; ((with_reducible refine (More_b _ _ _ (put8_max _) ?hG).mono ?_)); (case hG => exact HG.out.below (by repeat (first | exact HB.out | apply below_alloc | apply pw_below_drewN | apply below_drew1))); rintro e w_ ⟨rfl, hb_⟩; have n_ := Aside0.mk (below_step (by repeat (first | exact HB.out | apply below_alloc | apply pw_below_drewN | apply below_drew1)) hb_); clear HB hb_; have HB := n_; clear n_)
                go_roundw
                case rel => exact ⟨k + 1, by omega, by go_num, by rw [HS.out], HB.out⟩
                case measure => simp [intOf]; omega
          · have ek : foldF (l.take k) = foldF l := by rw [List.take_of_length_le (by omega)]
            go_wp2_with (go_at_call 12; ((with_reducible refine (Fold_calls _ _ _ l _ ?hr HP.out ?hG).mono ?_)); (case hG => exact HG.out.below (by repeat (first | exact HB.out | apply below_alloc | apply pw_below_drewN | apply below_drew1))); (case hr => exact Kd.C_below HR.out HB.out);rintro e w_ ⟨rfl, hb_⟩; have n_ := Aside0.mk (below_step (by repeat (first | exact HB.out | apply below_alloc | apply pw_below_drewN | apply below_drew1)) hb_); clear HB hb_; have HB := n_; clear n_)
            go_ret
            exact ⟨rfl, HB.out⟩

set_option maxRecDepth 100000 in
theorem churnParts_lifted (os : Os) (started : os.Started) (H : Type) (enc : TypeId × Value → H) :
    ReturnsInHanded {} Tryd.checked os 4 .any (fun w args => (Rows.churnPartsSpec.pre enc Tryd.prog Tryd.f4 [] false w args ∧ laidMetH Tryd.prog [("mootbell/churn.sum", Rows.laid_mootbell_churn_sum)] w) ∧ sizedMet enc Tryd.prog Tryd.f4 (OpenSpec.ofChange Rows.churnPartsSpec) false w args)
      (Rows.churnPartsSpec.post enc Tryd.prog Tryd.f4 false true false false) := by
  refine returnsInHanded_of_change_and (C := Tryd.checked) (X := fun w _ => laidMetH Tryd.prog [("mootbell/churn.sum", Rows.laid_mootbell_churn_sum)] w) (fun _ _ _ hh h => h.of_heap hh) own started (by kernel_rfl) Tryd.func4
    (ChangeSpec.witness_shaped (enc := enc) (C := Tryd.checked) (os := os) (X := fun w _ => laidMetH Tryd.prog [("mootbell/churn.sum", Rows.laid_mootbell_churn_sum)] w) false (World.doorLaid Tryd.prog 400 os) #[.int .u64 0, .string ByteArray.empty, .string ByteArray.empty, .slice none 0 0] 8 rfl (World.shaped_of_RefB (by kernel_rfl) (by kernel_rfl)) (by kernel_rfl) (by kernel_rfl) (by kernel_rfl) (door_met os _)) ?_
  intro W base args ds gs before hval0 hW hcnd hsz0 hL _
  have hsz : (DataW.weightsEach Tryd.prog (Tryd.f4.params.toList ++ Rows.churnPartsSpec.plain.varTypes Tryd.prog) (ds ++ gs)).all (· ≤ reachBytes) = true := hsz0
  have hval : ∀ (j : Nat) t v, Tryd.f4.params[j]? = some t → args[j]? = some v → Value.okWide Tryd.prog W .any base t v := hval0
  have hW' := hW
  obtain ⟨p, q, hA0, hV, rfl, hfz, hnd⟩ := hW
  have hA : DataW.TrodAll enc Tryd.prog W 0 (fun _ => true) true Tryd.f4.params.toList args.toList ds p := hA0
  have hAll := hA
  rw [Tryd.params4] at hA hval hsz
  obtain ⟨v0, vs0, d0, ds0, p0, q0, hargs, rfl, rfl, h0, r0⟩ := trodAll_cons hA
  obtain ⟨v1, vs1, d1, ds1, p1, q1, rfl, rfl, rfl, h1, r1⟩ := trodAll_cons r0
  obtain ⟨v2, vs2, d2, ds2, p2, q2, rfl, rfl, rfl, h2, r2⟩ := trodAll_cons r1
  obtain ⟨v3, vs3, d3, ds3, p3, q3, rfl, rfl, rfl, h3, r3⟩ := trodAll_cons r2
  obtain ⟨rfl, rfl, rfl⟩ := trodAll_nil r3
  obtain rfl : args = #[v0, v1, v2, v3] := by cases args; simp_all
  obtain ⟨rfl, rfl⟩ := trodVars_none hV
  have hlt := trodAll_lt hAll
  obtain ⟨h, rfl, rfl, rfl, w0⟩ := open_int Tryd.underlying22 (hval 0 22 v0 rfl rfl) h0
  obtain ⟨s, rfl, rfl, rfl, hs⟩ := open_string Tryd.underlying9 (hval 1 9 v1 rfl rfl) h1
  obtain ⟨t, rfl, rfl, rfl, ht⟩ := open_string Tryd.underlying9 (hval 2 9 v2 rfl rfl) h2
  obtain ⟨A, m, c, l, rfl, hmc, hC, hwf⟩ := C_came Tryd.underlying26 Tryd.underlying22 (by kernel_rfl) (hval 3 26 v3 rfl rfl) h3
  clear hA0 hval0 hsz0 hsz
  refine (ChurnParts_calls h s t A m c l W (u64_of_wf w0) hs ht hmc hC (fun x hx => (bounds_u64 (hwf x hx)).1) (laid_churn hL)).mono fun e W' ⟨he, bel⟩ => ?_
  subst he
  exact ⟨_, rfl, _, _, _, [], _, [], hW', trodAll_mk1 (shut_bool Tryd.underlying4 _), below_trodAll laidOut bel (by kernel_rfl) hAll hlt, rfl, bel.frame _, fun h => by cases h⟩
theorem churnParts_over : Rows.churnPartsRow.holds Tryd.pinned (OpenSpec.ofChange Rows.churnPartsSpec) :=
  OpenClaim.holds_of_wide 4 Tryd.f4 rfl rfl rfl rfl rfl rfl rfl ⟨rfl, rfl, rfl, rfl, rfl⟩ rfl rfl rfl rfl rfl (by kernel_rfl) Tryd.func4 (by kernel_rfl)
    (of_decide_eq_true (by kernel_rfl)) (by unfold Func.isWrapper; first | (rw [if_pos (by decide +kernel)]; kernel_rfl) | (rw [if_neg (by decide +kernel)]; exact ⟨rfl, rfl⟩))
    (fun os started H enc _ => churnParts_lifted os started H enc)
theorem churnParts_holds : Rows.ChurnPartsCardSaid :=
  Claim7.holds_tied_plain_at .later [] [.data] true (true, "976488144d58316ba6ec561b046aea471bd6b2148e7a467dfe2e449aa2cae7b8") false
    churnParts_over (fun _ h => by cases h) (by kernel_rfl) (fun _ h => by cases h) churnParts_row_tie rfl ⟨rfl, rfl⟩ (by kernel_rfl) rfl
    (fun f fn hf hfn => by
      obtain rfl : f = 4 := Option.some.inj ((show Tryd.prog.funcNamed "mootbell/mootbelllaw04.ChurnParts" = some 4 by kernel_rfl).symm.trans hf) |>.symm
      obtain rfl : fn = Tryd.f4 := (Option.some.inj (Tryd.func4.symm.trans hfn)).symm
      exact ⟨by kernel_rfl, fun j t ht => by
        have hm : t ∈ Tryd.f4.params.toList := by simpa using Array.mem_of_getElem? ht
        have hall : (Tryd.f4.params.toList.all fun u => !Tryd.prog.wantsStandIn u) = true := by kernel_rfl
        exact (show Tryd.prog.wantsStandIn t = false by simpa using List.all_eq_true.1 hall t hm)⟩)
    (by kernel_rfl)
#print axioms churnParts_holds
end Go.Proofs.YtllbeodngnjgbaaDoor
