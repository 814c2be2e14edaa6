
/- ShuffleAll: for every input the call of the statement returns true and leaves its arguments as they were, over the program whose table churn.sum lies as its own text lays it (the tied card). Conditions: none beyond the card's own. -/
import Derived.Test.YtkpbcmlbdggoaaaDoorCards
import Derived.Test.YtkpbcmlbdggoaaaDoorTie
import Derived.Test.YtkpbcmlbdggoaaaDoorShell
import Derived.Test.YtkpbcmlbdggoaaaDoorShufLawBase
set_option linter.unusedVariables false
set_option linter.unusedSimpArgs false
namespace Go.Proofs.YtkpbcmlbdggoaaaDoor
open Go.RowKit Go.Proofs.YtkpbcmlbdggoaaaDoorW.PrintWords Go.Proofs.YtkpbcmlbdggoaaaDoorW.PrintLast Go.Proofs.YtkpbcmlbdggoaaaDoorW.PrintMore
open Go.ChangeShapes Go.WideShapes Go.ChangeAt
open Go.ChangeMaps (open_string shut_string)

theorem info_bool : (Tryd.prog.info? 4).map (fun i => (i.zero, i.size, i.bytes)) = some (some (.bool false), 1, 1) := by kernel_rfl
/-- Which numbers have come. -/
def hadRow (N : Nat) (f : Nat → Int) (k : Nat) : List Bool := (List.range N).map fun (v : Nat) => (List.range k).any fun j => f j == (v : Int)
theorem hadRow_len (N : Nat) (f : Nat → Int) (k : Nat) : (hadRow N f k).length = N := by simp [hadRow]
theorem hadRow_zero (N : Nat) (f : Nat → Int) : hadRow N f 0 = List.replicate N false := by
  apply List.ext_getElem (by simp [hadRow])
  intro i h1 h2
  simp [hadRow]
theorem hadRow_set (N : Nat) (f : Nat → Int) (k v : Nat) (h : f k = (v : Int)) : (hadRow N f k).set v true = hadRow N f (k + 1) := by
  apply List.ext_getElem (by simp [hadRow])
  intro i h1 h2
  rw [List.getElem_set]
  simp only [hadRow, List.getElem_map, List.getElem_range, List.range_succ, List.any_append, List.any_cons, List.any_nil, Bool.or_false]
  by_cases e : v = i
  · subst e
    rw [if_pos rfl, h, beq_self_eq_true, Bool.or_true]
  · rw [if_neg e, h, beq_eq_false_iff_ne.2 (show (v : Int) ≠ (i : Int) by omega), Bool.or_false]
theorem hadRow_at (N : Nat) (f : Nat → Int) (k v : Nat) (hv : v < N) (h : ∀ j, j < k → f j ≠ (v : Int)) : (hadRow N f k).getD v false = false := by
  simp only [hadRow, List.getD_eq_getElem?_getD, List.getElem?_map, List.getElem?_range hv, Option.map_some, Option.getD_some]
  rw [List.any_eq_false]
  intro j hj
  have := h j (List.mem_range.1 hj)
  simpa using this

set_option maxHeartbeats 4000000 in
set_option maxRecDepth 100000 in
theorem ShuffleAll_calls (n m seed i : Int) (hn : i64ok n) (hm : i64ok m) (hs : 0 ≤ seed) (hi : i64ok i) (w : World) (hG : ChurnLaid w) :
    Calls Tryd.prog 6 #[.int .i64 n, .int .i64 m, .int .u64 seed, .int .i64 i] w fun e w' => e = .returned (.bool true) ∧ Below w.heap.size w w' := by
  obtain ⟨hn0, hn1⟩ := hn
  obtain ⟨hm0, hm1⟩ := hm
  obtain ⟨hi0, hi1⟩ := hi
  have HB := Aside0.mk (Below.refl w.heap.size w)
  have HG := Aside0.mk hG
  clear hG
  go_enter Tryd.func6, Tryd.ntmps6
  go_wp2_with fail
  refine (awake_calls _ ?hG).mono ?_
  case hG => exact HG.out.below (by repeat (first | exact HB.out | apply below_alloc | apply pw_below_drewN | apply below_drew1 | refine below_set ?_ (by first | omega | (simp; omega))))
  rintro e w1 ⟨rfl, hb_⟩
  have n_ := Aside0.mk (below_step (by repeat (first | exact HB.out | apply below_alloc | apply pw_below_drewN | apply below_drew1 | refine below_set ?_ (by first | omega | (simp; omega)))) hb_); clear HB hb_; have HB := n_; clear n_
  have p1 := pickF_bd n 60 (by omega)
  have p2 := pickF_bd m 13 (by omega)
  go_upto_region 4 with (go_at_call 9; ((with_reducible refine (pick_calls _ _ _ (by omega) (by omega) (by omega) (by omega)).mono ?_)); rintro e w_ ⟨rfl, rfl⟩)
  generalize hk : 1 + pickF n 60 = k at *
  generalize pickF m 13 = r at *
  obtain ⟨N, rfl⟩ : ∃ N : Nat, k = (N : Int) := ⟨k.toNat, by omega⟩
  obtain ⟨M, rfl⟩ : ∃ M : Nat, r = (M : Int) := ⟨r.toNat, by omega⟩
  have hN : 1 ≤ N ∧ N ≤ 60 := by omega
  have hM : M ≤ 12 := by omega
  clear p1 hk p2 hn0 hn1 hm0 hm1
  go_wp2_with fail
  refine (All_yes N seed M _ (by omega) (by omega) hs ?hG).mono ?_
  case hG => exact HG.out.below (by repeat (first | exact HB.out | apply below_alloc | apply pw_below_drewN | apply below_drew1 | refine below_set ?_ (by first | omega | (simp; omega))))
  rintro e w2 ⟨g, cap, rfl, hR, hb_⟩
  have hgl : g < w2.heap.size := (Kd.R_celln 0 hR 0 (by omega) (by omega)).1 |> cell_lt
  have hl : ∀ j : Nat, j < N → w2.cell? ⟨g, j, none⟩ = some (.int .i64 (placeF N seed M j)) := fun j hj => by
    have h := (Kd.R_celln 0 hR (j : Int) (by omega) (by omega)).1
    rw [Int.toNat_natCast] at h
    rw [h]
    congr 2
    unfold rdOf allF
    rw [Int.toNat_natCast]
    simp [List.getD_eq_getElem?_getD, hj]
  have HL := Aside0.mk hl
  have HW := Aside0.mk (below_step HB.out hb_)
  have HGW := Aside0.mk (HG.out.below (below_step HB.out hb_))
  have hfb : ∀ j : Nat, j < N → 0 ≤ placeF N seed M j ∧ placeF N seed M j < N := fun j hj => place_bd N seed M j (by omega)
  have hfi : ∀ j k : Nat, j < N → k < N → placeF N seed M j = placeF N seed M k → j = k := fun j k hj hk h => by
    have := (place_inj N seed M j k (by omega) (by omega)).1 h
    omega
  have HF := Aside0.mk (And.intro hfb hfi)
  clear HB hb_ hR hl hfb hfi
  have HB := Aside0.mk (Below.refl w2.heap.size w2)
  go_wp2_with (first | ((with_reducible refine gate_dst (N := 40) rfl ?_); refine Kd.R_make (Kd.bool) (w0 := w2) w2.heap.size 4 rfl (N := 40) rfl 37 _ _ rfl ((N : Int)) rfl rfl Tryd.underlying37 (.bool false) 1 info_bool rfl (by decide) (by omega) false (ok := fun _ => True) (okp := fun _ => True) rfl (fun _ hk => hk) trivial (by omega) ?hl (?hB) (?hz) ?_; (case hl => omega); (case hB => exact (by repeat (first | exact HB.out | apply below_alloc | apply pw_below_drewN | apply below_drew1 | refine below_set ?_ (by first | omega | (simp; omega))))); (case hz => exact below_size (by repeat (first | exact HB.out | apply below_alloc | apply pw_below_drewN | apply below_drew1 | refine below_set ?_ (by first | omega | (simp; omega))))); intro v1 w3 hR hb_ hg_ hnew_; clear HB; have HB := Aside0.mk hb_; clear hb_; rw [Int.toNat_natCast] at hR; obtain ⟨gh, cap2, rfl, hgb, hgl2, -⟩ := Kd.R_form hR (by rw [List.length_replicate]; omega); rw [List.length_replicate] at hR; simp only [List.length_replicate]; have HR := Aside0.mk hR; clear hR hg_ hnew_))
  have z3 := HB.out.size
  go_loopw [15] (fun iv wx => ∃ k : Nat, k ≤ N ∧ iv = .int .i64 k ∧ Kd.bool.R 4 wx w2.heap.size (fun _ => True) (.slice (some ⟨gh, 0, none⟩) N cap2) (hadRow N (fun (j : Nat) => placeF N seed M j) k) ∧ Below w2.heap.size w2 wx) (fun iv _ => N - (intOf iv).toNat)
  case atStart => exact ⟨0, by omega, rfl, by rw [hadRow_zero]; exact HR.out, HB.out⟩
  case round =>
    clear HB HR
    obtain ⟨k, hk, rfl, hR, hb⟩ := hrel
    have HB := Aside0.mk hb
    have hz := hb.size
    by_cases hlt : k < N
    · obtain ⟨q0, q1⟩ := HF.out.1 k hlt
      obtain ⟨v, hv⟩ : ∃ v : Nat, placeF N seed M k = (v : Int) := ⟨(placeF N seed M k).toNat, by omega⟩
      have hvN : v < N := by omega
      have hlk := (hb.cell (p := ⟨g, k, none⟩) hgl).trans (HL.out k hlt)
      rw [hv] at hlk
      obtain ⟨hx1, hx2⟩ := (Kd.R_celln false hR (v : Int) (by omega) (by omega))
      have hrd : rdOf false (hadRow N (fun (j : Nat) => placeF N seed M j) k) (v : Int) = false := by
        unfold rdOf
        rw [Int.toNat_natCast]
        exact hadRow_at _ _ _ _ hvN (fun j hj h => by
          have := HF.out.2 j k (by omega) hlt (h.trans hv.symm)
          omega)
      rw [hrd] at hx1
      have hs2 := (Kd.R_putg hR (v : Int) true).1
      rw [Int.toNat_natCast] at hx1 hx2 hs2
      rw [hadRow_set N (fun (j : Nat) => placeF N seed M j) k v hv] at hs2
      have HR := Aside0.mk hs2
      clear hR hs2 hb hrd hv q0 q1
      go_wp2
      go_roundw
      case rel => exact ⟨k + 1, by omega, by go_num, HR.out, below_set HB.out (by omega)⟩
      case measure => simp [intOf]; omega
    · clear hR hb
      have p3 := pickF_bd i N (by omega)
      obtain ⟨x, hx⟩ : ∃ x : Nat, pickF i N = (x : Int) := ⟨(pickF i N).toNat, by omega⟩
      have hxN : x < N := by omega
      have hmy : mayB N M x = true := (may_iff _ _ _).2 (by omega)
      have HX := Aside0.mk hx
      have hlx := HL.out x hxN
      clear hx p3
      have HA := HB
      have HBW := Aside0.mk (below_step HW.out HB.out)
      clear HB
      have HB := HBW
      clear HBW
      go_wp2_with (first
        | (go_at_call 9; ((with_reducible refine (pick_calls _ _ _ (by omega) (by omega) (by omega) (by omega)).mono ?_)); rw [HX.out]; rintro e w_ ⟨rfl, rfl⟩)
        | (go_at_call 12; ((with_reducible refine (Place_yes N seed x M _ hmy hs ?hG).mono ?_)); (case hG => exact HGW.out.below HA.out); rintro e w5 ⟨rfl, hb_⟩; have hlz := ((below_step HA.out hb_).cell (p := ⟨g, x, none⟩) hgl).trans hlx; have n_ := Aside0.mk (below_step (by repeat (first | exact HB.out | apply below_alloc | apply pw_below_drewN | apply below_drew1 | refine below_set ?_ (by first | omega | (simp; omega)))) hb_); clear HB hb_; have HB := n_; clear n_))
      go_ret
      exact ⟨rfl, HB.out⟩

set_option maxRecDepth 100000 in
theorem shuffleAll_lifted (os : Os) (started : os.Started) (H : Type) (enc : TypeId × Value → H) :
    ReturnsInHanded {} Tryd.checked os 6 .any (fun w args => (Rows.shuffleAllSpec.pre enc Tryd.prog Tryd.f6 [] false w args ∧ laidMetH Tryd.prog [("mootbell/churn.sum", Rows.laid_mootbell_churn_sum)] w) ∧ sizedMet enc Tryd.prog Tryd.f6 (OpenSpec.ofChange Rows.shuffleAllSpec) false w args)
      (Rows.shuffleAllSpec.post enc Tryd.prog Tryd.f6 false true false false) := by
  refine returnsInHanded_of_change_and (C := Tryd.checked) (X := fun w _ => laidMetH Tryd.prog [("mootbell/churn.sum", Rows.laid_mootbell_churn_sum)] w) (fun _ _ _ hh h => h.of_heap hh) own started (by kernel_rfl) Tryd.func6
    (ChangeSpec.witness_shaped (enc := enc) (C := Tryd.checked) (os := os) (X := fun w _ => laidMetH Tryd.prog [("mootbell/churn.sum", Rows.laid_mootbell_churn_sum)] w) false (World.doorLaid Tryd.prog 400 os) #[.int .i64 0, .int .i64 0, .int .u64 0, .int .i64 0] 8 rfl (World.shaped_of_RefB (by kernel_rfl) (by kernel_rfl)) (by kernel_rfl) (by kernel_rfl) (by kernel_rfl) (door_met os _)) ?_
  intro W base args ds gs before hval0 hW hcnd hsz0 hL _
  have hsz : (DataW.weightsEach Tryd.prog (Tryd.f6.params.toList ++ Rows.shuffleAllSpec.plain.varTypes Tryd.prog) (ds ++ gs)).all (· ≤ reachBytes) = true := hsz0
  have hval : ∀ (j : Nat) t v, Tryd.f6.params[j]? = some t → args[j]? = some v → Value.okWide Tryd.prog W .any base t v := hval0
  have hW' := hW
  obtain ⟨p, q, hA0, hV, rfl, hfz, hnd⟩ := hW
  have hA : DataW.TrodAll enc Tryd.prog W 0 (fun _ => true) true Tryd.f6.params.toList args.toList ds p := hA0
  have hAll := hA
  rw [Tryd.params6] at hA hval hsz
  obtain ⟨v0, vs0, d0, ds0, p0, q0, hargs, rfl, rfl, h0, r0⟩ := trodAll_cons hA
  obtain ⟨v1, vs1, d1, ds1, p1, q1, rfl, rfl, rfl, h1, r1⟩ := trodAll_cons r0
  obtain ⟨v2, vs2, d2, ds2, p2, q2, rfl, rfl, rfl, h2, r2⟩ := trodAll_cons r1
  obtain ⟨v3, vs3, d3, ds3, p3, q3, rfl, rfl, rfl, h3, r3⟩ := trodAll_cons r2
  obtain ⟨rfl, rfl, rfl⟩ := trodAll_nil r3
  obtain rfl : args = #[v0, v1, v2, v3] := by cases args; simp_all
  obtain ⟨rfl, rfl⟩ := trodVars_none hV
  have hlt := trodAll_lt hAll
  obtain ⟨n, rfl, rfl, rfl, w0⟩ := open_int Tryd.underlying3 (hval 0 3 v0 rfl rfl) h0
  obtain ⟨m, rfl, rfl, rfl, w1⟩ := open_int Tryd.underlying3 (hval 1 3 v1 rfl rfl) h1
  obtain ⟨s, rfl, rfl, rfl, w2⟩ := open_int Tryd.underlying22 (hval 2 22 v2 rfl rfl) h2
  obtain ⟨i, rfl, rfl, rfl, w3⟩ := open_int Tryd.underlying3 (hval 3 3 v3 rfl rfl) h3
  clear hA0 hval0 hsz0 hsz
  refine (ShuffleAll_calls n m s i (bounds_i64 w0) (bounds_i64 w1) (bounds_u64 w2).1 (bounds_i64 w3) W (laid_churn hL)).mono fun e W' ⟨he, bel⟩ => ?_
  subst he
  exact ⟨_, rfl, _, _, _, [], _, [], hW', trodAll_mk1 (shut_bool Tryd.underlying4 _), below_trodAll laidOut bel (by kernel_rfl) hAll hlt, rfl, bel.frame _, fun h => by cases h⟩
theorem shuffleAll_over : Rows.shuffleAllRow.holds Tryd.pinned (OpenSpec.ofChange Rows.shuffleAllSpec) :=
  OpenClaim.holds_of_wide 6 Tryd.f6 rfl rfl rfl rfl rfl rfl rfl ⟨rfl, rfl, rfl, rfl, rfl⟩ rfl rfl rfl rfl rfl (by kernel_rfl) Tryd.func6 (by kernel_rfl)
    (of_decide_eq_true (by kernel_rfl)) (by unfold Func.isWrapper; first | (rw [if_pos (by decide +kernel)]; kernel_rfl) | (rw [if_neg (by decide +kernel)]; exact ⟨rfl, rfl⟩))
    (fun os started H enc _ => shuffleAll_lifted os started H enc)
theorem shuffleAll_holds : Rows.ShuffleAllCardSaid :=
  Claim7.holds_tied_plain_at .later [] [.data] true (true, "ad9f1004cedb4bc7c2371e68acc3085cc2cad7a500822f0522e11316d8754be0") false
    shuffleAll_over (fun _ h => by cases h) (by kernel_rfl) (fun _ h => by cases h) shuffleAll_row_tie rfl ⟨rfl, rfl⟩ (by kernel_rfl) rfl
    (fun f fn hf hfn => by
      obtain rfl : f = 6 := Option.some.inj ((show Tryd.prog.funcNamed "mootbell/mootbelllaw09.ShuffleAll" = some 6 by kernel_rfl).symm.trans hf) |>.symm
      obtain rfl : fn = Tryd.f6 := (Option.some.inj (Tryd.func6.symm.trans hfn)).symm
      exact ⟨by kernel_rfl, fun j t ht => by
        have hm : t ∈ Tryd.f6.params.toList := by simpa using Array.mem_of_getElem? ht
        have hall : (Tryd.f6.params.toList.all fun u => !Tryd.prog.wantsStandIn u) = true := by kernel_rfl
        exact (show Tryd.prog.wantsStandIn t = false by simpa using List.all_eq_true.1 hall t hm)⟩)
    (by kernel_rfl)
#print axioms shuffleAll_holds
end Go.Proofs.YtkpbcmlbdggoaaaDoor
