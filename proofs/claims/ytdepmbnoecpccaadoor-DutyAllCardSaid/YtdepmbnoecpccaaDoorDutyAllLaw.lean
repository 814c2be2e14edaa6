
/- DutyAll: for every input the call of the statement returns true and leaves its arguments as they were, over the program whose tables lie as its own text lays them (the tied card). Conditions: none beyond the card's own. -/
import Derived.Deep.RegionHeld3
import Derived.Test.YtdepmbnoecpccaaDoorCards
import Derived.Test.YtdepmbnoecpccaaDoorTie
import Derived.Test.YtdepmbnoecpccaaDoorShellD
import Derived.Test.YtdepmbnoecpccaaDoorDutyMem
set_option linter.unusedVariables false
set_option linter.unusedSimpArgs false
namespace Go.Proofs.YtdepmbnoecpccaaDoor
open Go.RowKit Go.Proofs.YtdepmbnoecpccaaDoorW.PrintWords Go.Proofs.YtdepmbnoecpccaaDoorW.PrintLast Go.Proofs.YtdepmbnoecpccaaDoorW.PrintMore
open Go.ChangeShapes Go.WideShapes Go.ChangeAt
open Go.ChangeMaps (open_string shut_string)

def allP (c : ChainV) (e F : Int) : List Int := (List.range F.toNat).map fun (j : Nat) => placeF c.va (seedF c e) c.ro.toNat j
theorem allP_len (c : ChainV) (e F : Int) : (allP c e F).length = F.toNat := by simp [allP]
theorem allP_zero (c : ChainV) (e : Int) : allP c e 0 = [] := rfl
theorem allP_mem (c : ChainV) (e k : Int) (F F1 : Int) (hF : fromK c k = F) (h0 : 0 ≤ F) (hn : ((cntF c k : Nat) : Int) = F1 - F) : allP c e F ++ memF c e k = allP c e F1 := by
  unfold allP memF memPart
  rw [hF, show F1.toNat = F.toNat + cntF c k by omega, List.range_add, List.map_append, List.map_map]
  congr 1
  apply List.map_congr_left
  intro j _
  show placeF c.va (seedF c e) c.ro.toNat (F + (j : Int)) = placeF c.va (seedF c e) c.ro.toNat ((F.toNat + j : Nat) : Int)
  congr 1
  omega
theorem All_yesI (V seed R : Int) (w : World) (hN : 1 ≤ V ∧ V ≤ 65536) (hm : 0 ≤ R ∧ R ≤ 90) (hs : 0 ≤ seed) (hG : ChurnLaid w) :
    Calls Tryd.prog 24 #[.int .i64 V, .int .i64 R, .int .u64 seed] w fun e w' => ∃ (g cap : Nat), e = .returned (.tuple #[.slice (some ⟨g, 0, none⟩) V.toNat cap, .int .i64 0]) ∧ (Kd.int .i64).C w' (some ⟨g, 0, none⟩) V.toNat ((List.range V.toNat).map fun (j : Nat) => placeF V seed R.toNat j) ∧ Below w.heap.size w w' := by
  obtain ⟨N, rfl⟩ := Int.eq_ofNat_of_zero_le (show 0 ≤ V by omega)
  obtain ⟨M, rfl⟩ := Int.eq_ofNat_of_zero_le hm.1
  refine (All_yes N seed M w (by omega) (by omega) hs hG).mono ?_
  rintro e w' ⟨g, cap, rfl, hR, hb⟩
  refine ⟨g, cap, rfl, ?_, hb⟩
  obtain ⟨h1, h2, h3⟩ := Kd.R_reads' hR
  rw [← h1] at h3
  exact h3

set_option maxRecDepth 100000 in
set_option maxHeartbeats 8000000 in
theorem DutyAll_calls (n : Six) (seed p : Int) (hp : i64ok p) (hse : 0 ≤ seed) (w : World) (hG : DutyLaid w) : Calls Tryd.prog 8 #[.agg #[.int .i64 n.a, .int .i64 n.b, .int .i64 n.c, .int .i64 n.d, .int .i64 n.e, .int .i64 n.f], .int .u64 seed, .int .i64 p] w fun e w' =>
    e = .returned (.bool true) ∧ Below w.heap.size w w' := by
  obtain ⟨hp0, hp1⟩ := hp
  have HB := Aside0.mk (Below.refl w.heap.size w)
  have HG := Aside0.mk hG
  clear hG
  have HN := Aside0.mk (chainF_fits n seed)
  have hcse : 0 ≤ (chainF n seed).se := hse
  go_enter Tryd.func8, Tryd.ntmps8
  go_wp2_with fail
  refine (dawake_calls _ ?hG).mono ?_
  case hG => exact HG.out.below (by repeat (first | exact HB.out | apply below_alloc | apply pw_below_drewN | apply below_drew1 | refine below_set ?_ (by first | omega | (simp; omega))))
  rintro e w1 ⟨rfl, hb_⟩
  have YN : Box w1 (w.heap.size) _ _ := Box.below (by repeat (with_reducible first | exact XN.out | exact Box.new | exact Box.new1 | exact Box.new2 | exact Box.new3 | apply Box.alloc | apply Box.drew | apply Box.drewN | apply Box.set)) hb_
  (try clear XN rN kN fN); have XN := Aside0.mk YN; have rN := YN.cell; have fN := YN.frozen; have kN := YN.lt; clear YN
  have n_ := Aside0.mk (below_step (by repeat (first | exact HB.out | apply below_alloc | apply pw_below_drewN | apply below_drew1 | refine below_set ?_ (by first | omega | (simp; omega)))) hb_); clear HB hb_; have HB := n_; clear n_
  go_wp2_with fail
  refine (Chain_calls n seed _).mono ?_
  rintro e w2 ⟨rfl, hb_⟩
  have n_ := Aside0.mk (below_step (by repeat (first | exact HB.out | apply below_alloc | apply pw_below_drewN | apply below_drew1 | refine below_set ?_ (by first | omega | (simp; omega)))) hb_); clear HB hb_; have HB := n_; clear n_
  generalize chainF n seed = c at *
  have pe := pickF_bd p 1073741824 (by omega)
  obtain ⟨h1, h2, h3, h4, h5, h6, h7, h8, h9⟩ := (fitsC_iff c).1 HN.out
  obtain ⟨a1, a2, a3, a4⟩ := chain_A c HN.out
  go_upto_region 4 with (go_at_call 11; ((with_reducible refine (pick10_calls _ _ _ (by omega) (by omega) (by omega) (by omega)).mono ?_)); rintro e w_ ⟨rfl, rfl⟩)
  generalize pickF p 1073741824 = e at *
  clear hp0 hp1
  have gm := mul_bd pe.1 (show e ≤ 1073741823 by omega) (show 0 ≤ c.sl by omega) h2.2
  have z2 := HB.out.size
  have q0 := Int.ediv_nonneg (show 0 ≤ c.va by omega) (show 0 ≤ c.sl * c.co by omega)
  have e0 : fromK c (0 * c.co) = 0 := by rw [Int.zero_mul]; exact from_zero _ _
  go_wp2
  go_loopw [10, 11] (fun av sv wx => ∃ s : Int, 0 ≤ s ∧ s ≤ c.sl ∧ sv = .int .i64 s ∧ (Kd.int .i64).R 3 wx w.heap.size (fun _ => True) av (allP c e (fromK c (s * c.co))) ∧ Box wx w2.heap.size #[.int .i64 c.va, .int .i64 c.sl, .int .i64 c.co, .int .i64 c.su, .int .i64 c.ti, .int .i64 c.di, .int .i64 c.ra, .int .i64 c.ro, .int .i64 c.ag, .int .u64 c.se] 24 ∧ Below w.heap.size w wx) (fun _ sv _ => (c.sl - intOf sv).toNat)
  case atStart => exact ⟨0, by omega, by omega, rfl, by rw [e0, allP_zero]; exact Kd.R_nil _ _ _ _ _, Box.new, (by repeat (first | exact HB.out | apply below_alloc | apply pw_below_drewN | apply below_drew1 | refine below_set ?_ (by first | omega | (simp; omega))))⟩
  case round =>
    clear HB e0
    obtain ⟨s, hs0, hs1, rfl, hR, bC, hbl⟩ := hrel
    have HO := Aside0.mk hR
    have HB := Aside0.mk hbl
    clear hR hbl
    have XC := Aside0.mk bC; have rC := bC.cell; have fC := bC.frozen; have kC := bC.lt; clear bC
    rcases Int.lt_or_le s c.sl with hs | hs
    · have gs := mul_bd hs0 (show s ≤ c.sl - 1 by omega) (show 0 ≤ c.co by omega) (Int.le_refl c.co)
      rw [Int.sub_mul, Int.one_mul] at gs
      have HS := Aside0.mk (show (s + 1) * c.co = s * c.co + c.co by rw [Int.add_mul, Int.one_mul])
      generalize hX : s * c.co = X at *
      have HX := Aside0.mk hX
      clear hX
      go_wp2
      go_loopw [10, 12] (fun av iv wx => ∃ i : Int, 0 ≤ i ∧ i ≤ c.co ∧ iv = .int .i64 i ∧ (Kd.int .i64).R 3 wx w.heap.size (fun _ => True) av (allP c e (fromK c (X + i))) ∧ Box wx w2.heap.size #[.int .i64 c.va, .int .i64 c.sl, .int .i64 c.co, .int .i64 c.su, .int .i64 c.ti, .int .i64 c.di, .int .i64 c.ra, .int .i64 c.ro, .int .i64 c.ag, .int .u64 c.se] 24 ∧ Below w.heap.size w wx) (fun _ iv _ => (c.co - intOf iv).toNat)
      case atStart => exact ⟨0, by omega, by omega, rfl, by rw [Int.add_zero]; exact HO.out, XC.out, HB.out⟩
      case round =>
        clear HB HO XC rC fC kC
        obtain ⟨i, hi0, hi1, rfl, hR, bC, hbl⟩ := hrel
        have HO := Aside0.mk hR
        have HB := Aside0.mk hbl
        clear hR hbl
        have XC := Aside0.mk bC; have rC := bC.cell; have fC := bC.frozen; have kC := bC.lt; clear bC
        rcases Int.lt_or_le i c.co with hi | hi
        · have HM := Aside0.mk ((maySlot_iff c (e * c.sl + s) i).2 ⟨HN.out, by omega, by omega⟩)
          obtain ⟨t1, t2, t3, t4⟩ := fromK_facts c HN.out (X + i) (by omega)
          go_wp2_with fail
          refine (Members_c c (e * c.sl + s) i _ HM.out hcse ?hG).mono ?_
          case hG => exact HG.out.below (by repeat (first | exact HB.out | apply below_alloc | apply pw_below_drewN | apply below_drew1 | refine below_set ?_ (by first | omega | (simp; omega))))
          rintro e' w5 ⟨A, mc, rfl, -, hRm, hb_⟩
          rw [epoch_at c e s ⟨hs0, hs⟩, comm_at c e s i ⟨hs0, hs⟩, HX.out] at hRm
          rw [comm_at c e s i ⟨hs0, hs⟩, HX.out]
          have hC := (Kd.R_reads' hRm).2.2
          rw [← (Kd.R_reads' hRm).1] at hC
          have HC := Aside0.mk hC
          have HO2 := Aside0.mk (Kd.R_below HO.out hb_)
          have YC := XC.out.below hb_
          have HB2 := Aside0.mk (below_step HB.out hb_)
          clear HB HO hRm hb_ hC XC rC fC kC HM
          have HB := HB2
          have HO := HO2
          clear HB2 HO2
          have XC := Aside0.mk YC
          have rC := YC.cell
          have kC := YC.lt
          clear YC
          have HA := Aside0.mk (allP_mem c e (X + i) _ (fromK c (X + i + 1)) rfl t1 t4)
          have hl := allP_len c e (fromK c (X + i))
          have bC := XC.out
          generalize cntF c (X + i) = n at *
          go_wp2_with (first | ((with_reducible refine gate_builtin (b := .append) (xs := #[.tmp 49, .tmp 50]) rfl ?_); at_builtin; refine Kd.R_append_rows (Kd.int .i64) (w0 := w) w.heap.size rfl (.tmp 49) (.tmp 50) 29 3 (.int .i64 0) 8 rfl Tryd.underlying29 info_int rfl (by decide) (by omega) _ (allP c e (fromK c (X + i))) (memF c e (X + i)) (A) (n) (mc) (fun _ => True) (fun _ => False) rfl rfl ?aO HC.out ?aK (fun _ hk => hk.elim) ?aF ?aB ?aS ?aL ?_; (case aK => exact (fun _ _ hh => hh)); (case aB => exact (by repeat (first | exact HB.out | apply below_alloc | apply pw_below_drewN | apply below_drew1 | refine below_set ?_ (by first | omega | (simp; omega))))); (case aF => exact (fun _ _ => trivial)); (case aO => exact (by (with_reducible repeat (first | apply Kd.R_alloc | apply Kd.R_drewN | apply Kd.R_drew)); exact HO.out)); (case aS => exact below_size (by repeat (first | exact HB.out | apply below_alloc | apply pw_below_drewN | apply below_drew1 | refine below_set ?_ (by first | omega | (simp; omega))))); (case aL => first | omega | (simp; omega)); intro v1 w1 ho_ hb_ hg_ hat_; have bC2 := (hg_.block _ bC.lt (Kd.R_ne HO.out bC (by decide))).trans bC; clear HB; clear HO; have HB := Aside0.mk hb_; have HO := Aside0.mk ho_; clear ho_ hb_ hg_ hat_; ))
          refine ⟨⟨i + 1, by omega, by omega, rfl, ?_, bC2, HB.out⟩, ?_⟩
          · rw [HA.out, show X + i + 1 = X + (i + 1) by omega] at HO
            exact HO.out
          · simp [intOf]
            omega
        · obtain rfl : i = c.co := by omega
          go_wp2
          refine ⟨⟨s + 1, by omega, by omega, rfl, ?_, XC.out, HB.out⟩, ?_⟩
          · rw [HS.out]
            exact HO.out
          · simp [intOf]
            omega
    · obtain rfl : s = c.sl := by omega
      rw [show fromK c (c.sl * c.co) = c.va from from_all a3] at HO
      have hP : allP c e c.va = (List.range c.va.toNat).map fun (j : Nat) => placeF c.va (foldF [c.se, e]) c.ro.toNat j := rfl
      have hw : IntKind.u64.wrap e = e := by rw [IntKind.wrap_u64]; omega
      have hsd : 0 ≤ foldF [c.se, e] := (foldF_ok [c.se, e]).1
      go_upto_region 15 with (fail)
      obtain ⟨A, mc, rfl⟩ := Kd.R_slice HO.out
      have hC := (Kd.R_reads' HO.out).2.2
      rw [allP_len] at hC ⊢
      have HC := Aside0.mk hC
      have HGW := Aside0.mk (HG.out.below HB.out)
      clear hC
      go_region_held3 (fun w' => Below wr.heap.size wr w' ∧ (∀ j, w'.cell? ⟨w2.heap.size, j, none⟩ = (#[.int .i64 c.va, .int .i64 c.sl, .int .i64 c.co, .int .i64 c.su, .int .i64 c.ti, .int .i64 c.di, .int .i64 c.ra, .int .i64 c.ro, .int .i64 c.ag, .int .u64 c.se] : Array Value)[j]?))
        (first | exact ⟨below_drew1 (Below.refl _ _), rC⟩ | exact ⟨j0, jC⟩ | exact ⟨below_alloc j0 _, fun j => (cell_alloc_old (Nat.lt_of_lt_of_le kC j0.size)).trans (jC j)⟩ | exact ⟨below_alloc (below_drew1 (Below.refl _ _)) _, fun j => (cell_alloc_old kC).trans (rC j)⟩ | assumption)
        (first | (go_at_call 25; obtain ⟨g0, gC⟩ := ‹Below wr.heap.size wr _ ∧ _›; ((with_reducible refine (Fold2_calls c.se e _ 22 _ ?hb hcse pe.1 (HGW.out.below g0)).mono ?_)); (case hb => exact Box.new); rintro e' w5 ⟨rfl, hb_⟩; have j0 := below_step g0 hb_; have jC := fun j => (hb_.cell (p := ⟨w2.heap.size, j, none⟩) (Nat.lt_of_lt_of_le kC g0.size)).trans (gC j)) | (go_at_call 24; obtain ⟨g0, gC⟩ := ‹Below wr.heap.size wr _ ∧ _›; ((with_reducible refine (All_yesI c.va (foldF [c.se, e]) c.ro _ (by omega) (by omega) hsd (HGW.out.below g0).ch).mono ?_)); rintro e' w6 ⟨g, cap, rfl, HC6, hb_⟩; have j0 := below_step g0 hb_; have jC := fun j => (hb_.cell (p := ⟨w2.heap.size, j, none⟩) (Nat.lt_of_lt_of_le kC g0.size)).trans (gC j)))
      have HC2 := Aside0.mk (Kd.C_below HC.out j0)
      have HC6 := Aside0.mk HC6
      have HB2 := Aside0.mk (below_step HB.out j0)
      clear HB HC j0 jC XC rC fC kC HO
      have HB := HB2
      clear HB2
      rw [hP] at HC2
      go_wp2_with (first | (go_at_call 18; ((with_reducible refine (Ints_calls _ _ _ _ _ _ _ _ _ HC2.out HC6.out).mono ?_)); rw [decide_eq_true (Eq.refl _)]; rintro e w7 ⟨rfl, hb_⟩; have n_ := Aside0.mk (below_step (by repeat (first | exact HB.out | apply below_alloc | apply pw_below_drewN | apply below_drew1 | refine below_set ?_ (by first | omega | (simp; omega)))) hb_); clear HB hb_; have HB := n_; clear n_))
      go_ret
      exact ⟨rfl, HB.out⟩

set_option maxRecDepth 100000 in
theorem dutyAll_lifted (os : Os) (started : os.Started) (H : Type) (enc : TypeId × Value → H) :
    ReturnsInHanded {} Tryd.checked os 8 .any (fun w args => (Rows.dutyAllSpec.pre enc Tryd.prog Tryd.f8 [] false w args ∧ laidMetH Tryd.prog [("mootbell/clock.bounds", Rows.laid_mootbell_clock_bounds), ("mootbell/churn.sum", Rows.laid_mootbell_churn_sum)] w) ∧ sizedMet enc Tryd.prog Tryd.f8 (OpenSpec.ofChange Rows.dutyAllSpec) false w args)
      (Rows.dutyAllSpec.post enc Tryd.prog Tryd.f8 false true false false) := by
  refine returnsInHanded_of_change_and (C := Tryd.checked) (X := fun w _ => laidMetH Tryd.prog [("mootbell/clock.bounds", Rows.laid_mootbell_clock_bounds), ("mootbell/churn.sum", Rows.laid_mootbell_churn_sum)] w) (fun _ _ _ hh h => h.of_heap hh) own started (by kernel_rfl) Tryd.func8
    (ChangeSpec.witness_shaped (enc := enc) (C := Tryd.checked) (os := os) (X := fun w _ => laidMetH Tryd.prog [("mootbell/clock.bounds", Rows.laid_mootbell_clock_bounds), ("mootbell/churn.sum", Rows.laid_mootbell_churn_sum)] w) false (World.doorLaid Tryd.prog 400 os) #[.agg #[.int .i64 0, .int .i64 0, .int .i64 0, .int .i64 0, .int .i64 0, .int .i64 0], .int .u64 0, .int .i64 0] 8 rfl (World.shaped_of_RefB (by kernel_rfl) (by kernel_rfl)) (by kernel_rfl) (by kernel_rfl) (by kernel_rfl) (door_met os _)) ?_
  intro W base args ds gs before hval0 hW hcnd hsz0 hL _
  have hsz : (DataW.weightsEach Tryd.prog (Tryd.f8.params.toList ++ Rows.dutyAllSpec.plain.varTypes Tryd.prog) (ds ++ gs)).all (· ≤ reachBytes) = true := hsz0
  have hval : ∀ (j : Nat) t v, Tryd.f8.params[j]? = some t → args[j]? = some v → Value.okWide Tryd.prog W .any base t v := hval0
  have hW' := hW
  obtain ⟨p, q, hA0, hV, rfl, hfz, hnd⟩ := hW
  have hA : DataW.TrodAll enc Tryd.prog W 0 (fun _ => true) true Tryd.f8.params.toList args.toList ds p := hA0
  have hAll := hA
  rw [Tryd.params8] at hA hval hsz
  obtain ⟨v0, vs0, d0, ds0, p0, q0, hargs, rfl, rfl, h0, r0⟩ := trodAll_cons hA
  obtain ⟨v1, vs1, d1, ds1, p1, q1, rfl, rfl, rfl, h1, r1⟩ := trodAll_cons r0
  obtain ⟨v2, vs2, d2, ds2, p2, q2, rfl, rfl, rfl, h2, r2⟩ := trodAll_cons r1
  obtain ⟨rfl, rfl, rfl⟩ := trodAll_nil r2
  obtain rfl : args = #[v0, v1, v2] := by cases args; simp_all
  obtain ⟨rfl, rfl⟩ := trodVars_none hV
  have hlt := trodAll_lt hAll
  obtain ⟨n, rfl⟩ := six_came (hval 0 25 v0 rfl rfl)
  obtain ⟨s, rfl, rfl, rfl, w1⟩ := open_int Tryd.underlying22 (hval 1 22 v1 rfl rfl) h1
  obtain ⟨p, rfl, rfl, rfl, w2⟩ := open_int Tryd.underlying3 (hval 2 3 v2 rfl rfl) h2
  clear hA0 hval0 hsz0 hsz
  refine (DutyAll_calls n s p (bounds_i64 w2) (bounds_u64 w1).1 W (laid_two hL)).mono fun e W' ⟨he, bel⟩ => ?_
  subst he
  exact ⟨_, rfl, _, _, _, [], _, [], hW', trodAll_mk1 (shut_bool Tryd.underlying4 _), below_trodAll laidOut bel (by kernel_rfl) hAll hlt, rfl, bel.frame _, fun h => by cases h⟩
theorem dutyAll_over : Rows.dutyAllRow.holds Tryd.pinned (OpenSpec.ofChange Rows.dutyAllSpec) :=
  OpenClaim.holds_of_wide 8 Tryd.f8 rfl rfl rfl rfl rfl rfl rfl ⟨rfl, rfl, rfl, rfl, rfl⟩ rfl rfl rfl rfl rfl (by kernel_rfl) Tryd.func8 (by kernel_rfl)
    (of_decide_eq_true (by kernel_rfl)) (by unfold Func.isWrapper; first | (rw [if_pos (by decide +kernel)]; kernel_rfl) | (rw [if_neg (by decide +kernel)]; exact ⟨rfl, rfl⟩))
    (fun os started H enc _ => dutyAll_lifted os started H enc)
theorem dutyAll_holds : Rows.DutyAllCardSaid :=
  Claim7.holds_tied_plain_at .later [] [.data, .data] true (true, "2c5e98a607cbcae62023d210d94be34bd3150b76f193fa61f209550e3e68dd04") false
    dutyAll_over (fun _ h => by cases h) (by kernel_rfl) (fun _ h => by cases h) dutyAll_row_tie rfl ⟨rfl, rfl⟩ (by kernel_rfl) rfl
    (fun f fn hf hfn => by
      obtain rfl : f = 8 := Option.some.inj ((show Tryd.prog.funcNamed "mootbell/mootbelllaw10.DutyAll" = some 8 by kernel_rfl).symm.trans hf) |>.symm
      obtain rfl : fn = Tryd.f8 := (Option.some.inj (Tryd.func8.symm.trans hfn)).symm
      exact ⟨by kernel_rfl, fun j t ht => by
        have hm : t ∈ Tryd.f8.params.toList := by simpa using Array.mem_of_getElem? ht
        have hall : (Tryd.f8.params.toList.all fun u => !Tryd.prog.wantsStandIn u) = true := by kernel_rfl
        exact (show Tryd.prog.wantsStandIn t = false by simpa using List.all_eq_true.1 hall t hm)⟩)
    (by kernel_rfl)
#print axioms dutyAll_holds
end Go.Proofs.YtdepmbnoecpccaaDoor
