
/- Where a validator is (chapter 10). -/
import Derived.StillTailTactics
import Derived.Deep.RegionHeld3
import Derived.Test.YtdepmbnoecpccaaDoorDutyWalk2
set_option linter.unusedVariables false
set_option linter.unusedSimpArgs false
namespace Go.Proofs.YtdepmbnoecpccaaDoor
open Go.RowKit Go.Proofs.YtdepmbnoecpccaaDoorW.PrintWords Go.Proofs.YtdepmbnoecpccaaDoorW.PrintLast Go.Proofs.YtdepmbnoecpccaaDoorW.PrintMore

def mayVal (c : ChainV) (e v : Int) : Bool := fitsC c && (win e 0 1099511627776 && decide (0 ≤ v ∧ v < c.va))
theorem mayVal_iff (c : ChainV) (e v : Int) : mayVal c e v = true ↔ fitsC c = true ∧ (0 ≤ e ∧ e ≤ 1099511627776) ∧ (0 ≤ v ∧ v < c.va) := by
  unfold mayVal
  simp only [Bool.and_eq_true, win_iff, decide_eq_true_eq]
def placeOf (c : ChainV) (e v : Int) : Int := backF9 c.va (foldF [c.se, e]) c.ro.toNat v
def whichOf (c : ChainV) (e v : Int) : Int := kOf c.va (c.sl * c.co) (placeOf c e v)
theorem where_bd (c : ChainV) (e v : Int) (h : mayVal c e v = true) : (0 ≤ placeOf c e v ∧ placeOf c e v < c.va) ∧ 0 ≤ whichOf c e v ∧ whichOf c e v < c.sl * c.co ∧ fromF c.va (c.sl * c.co) (whichOf c e v) ≤ placeOf c e v ∧ placeOf c e v < fromF c.va (c.sl * c.co) (whichOf c e v + 1) := by
  obtain ⟨hf, he, hv⟩ := (mayVal_iff c e v).1 h
  obtain ⟨h1, h2, h3, h4⟩ := chain_A c hf
  have a := back_bd9 c.va (foldF [c.se, e]) c.ro.toNat v hv
  exact ⟨a, kOf_spec h1 h3 a⟩

theorem from_callsA (c : ChainV) (e k A : Int) (w : World) (hf : fitsC c = true) (hA : c.sl * c.co = A) (hk : 0 ≤ k ∧ k ≤ A) : Calls Tryd.prog 29 #[.agg #[.int .i64 c.va, .int .i64 c.sl, .int .i64 c.co, .int .i64 c.su, .int .i64 c.ti, .int .i64 c.di, .int .i64 c.ra, .int .i64 c.ro, .int .i64 c.ag, .int .u64 c.se, .int .i64 (e)], .int .i64 k] w fun e' w' => e' = .returned (.int .i64 (fromF c.va A k)) ∧ Below w.heap.size w w' := by
  subst hA
  exact from_calls c e k w hf hk
set_option maxRecDepth 100000 in
set_option maxHeartbeats 4000000 in
theorem Where_yes (c : ChainV) (e v : Int) (w : World) (h : mayVal c e v = true) (hse : 0 ≤ c.se) (hG : DutyLaid w) : Calls Tryd.prog 16 #[.agg #[.int .i64 c.va, .int .i64 c.sl, .int .i64 c.co, .int .i64 c.su, .int .i64 c.ti, .int .i64 c.di, .int .i64 c.ra, .int .i64 c.ro, .int .i64 c.ag, .int .u64 c.se], .int .i64 e, .int .i64 v] w fun e' w' =>
    e' = .returned (.tuple #[.int .i64 (e * c.sl + whichOf c e v / c.co), .int .i64 (whichOf c e v % c.co), .int .i64 (placeOf c e v - fromF c.va (c.sl * c.co) (whichOf c e v)), .int .i64 0]) ∧ Below w.heap.size w w' := by
  obtain ⟨hf, he, hv⟩ := (mayVal_iff c e v).1 h
  obtain ⟨p1, p2, p3, p4, p5⟩ := where_bd c e v h
  obtain ⟨a1, a2, a3, a4⟩ := chain_A c hf
  obtain ⟨h1, h2, h3, h4, h5, h6, h7, h8, h9⟩ := (fitsC_iff c).1 hf
  have hwn := win_iff.2 he
  have hsd : 0 ≤ foldF [c.se, e] := (foldF_ok [c.se, e]).1
  have hmy : mayB c.va c.ro v = true := (may_iff _ _ _).2 (by omega)
  have b1 := from_bd a1 a3 (k := whichOf c e v) ⟨p2, by omega⟩
  have g1 := mul_bd (show 0 ≤ c.sl * c.co by omega) a4 (show 0 ≤ placeOf c e v + 1 by omega) (show placeOf c e v + 1 ≤ 1024 by omega)
  have g0 : 1 * 1 ≤ (c.sl * c.co) * (placeOf c e v + 1) := Int.mul_le_mul a3 (show 1 ≤ placeOf c e v + 1 by omega) (by omega) (by omega)
  have g2 := mul_bd he.1 he.2 (show 0 ≤ c.sl by omega) h2.2
  have d1 := Int.ediv_nonneg p2 (show (0 : Int) ≤ c.co by omega)
  have d2 := Int.ediv_le_self c.co p2
  have d3 := Int.emod_nonneg (whichOf c e v) (show c.co ≠ 0 by omega)
  have d4 := Int.emod_lt_of_pos (whichOf c e v) (show 0 < c.co by omega)
  have hkq : (c.sl * c.co * (placeOf c e v + 1) - 1).tdiv c.va = whichOf c e v := Int.tdiv_eq_ediv_of_nonneg (by omega)
  have hko : (whichOf c e v).tdiv c.co = whichOf c e v / c.co := Int.tdiv_eq_ediv_of_nonneg p2
  have hkm : (whichOf c e v).tmod c.co = whichOf c e v % c.co := Int.tmod_eq_emod_of_nonneg p2
  have hva0 : ¬ c.va = 0 := by omega
  have hco0 : ¬ c.co = 0 := by omega
  have HB := Aside0.mk (Below.refl w.heap.size w)
  have HG := Aside0.mk hG
  have HF := Aside0.mk hf
  have hpl : backF9 c.va (foldF [c.se, e]) c.ro.toNat v = placeOf c e v := rfl
  have HP := Aside0.mk hpl
  clear hG h hpl
  generalize hpp : placeOf c e v = j at *
  generalize hww : whichOf c e v = k at *
  have HPP := Aside0.mk (And.intro hpp hww)
  clear hpp hww
  generalize hAA : c.sl * c.co = A at *
  have HA := Aside0.mk hAA
  clear hAA
  go_enter Tryd.func16, Tryd.ntmps16
  go_wp2_with fail
  refine (Fits_d c _ ?hG).mono ?_
  case hG => exact HG.out.below (by repeat (first | exact HB.out | apply below_alloc | apply pw_below_drewN | apply below_drew1 | refine below_set ?_ (by first | omega | (simp; omega))))
  rintro e w1 ⟨rfl, hb_⟩
  have YA : Box w1 (w.heap.size) _ _ := Box.below (by repeat (with_reducible first | exact XA.out | exact Box.new | exact Box.new1 | exact Box.new2 | exact Box.new3 | apply Box.alloc | apply Box.drew | apply Box.drewN | apply Box.set)) hb_
  (try clear XA rA kA fA); have XA := Aside0.mk YA; have rA := YA.cell; have fA := YA.frozen; have kA := YA.lt; clear YA
  have n_ := Aside0.mk (below_step (by repeat (first | exact HB.out | apply below_alloc | apply pw_below_drewN | apply below_drew1 | refine below_set ?_ (by first | omega | (simp; omega)))) hb_); clear HB hb_; have HB := n_; clear n_
  go_wp2_with fail
  refine (dmay_calls e _).mono ?_
  rintro e w2 ⟨rfl, hb_⟩
  have YA : Box w2 (w.heap.size) _ _ := Box.below (by repeat (with_reducible first | exact XA.out | exact Box.new | exact Box.new1 | exact Box.new2 | exact Box.new3 | apply Box.alloc | apply Box.drew | apply Box.drewN | apply Box.set)) hb_
  (try clear XA rA kA fA); have XA := Aside0.mk YA; have rA := YA.cell; have fA := YA.frozen; have kA := YA.lt; clear YA
  have n_ := Aside0.mk (below_step (by repeat (first | exact HB.out | apply below_alloc | apply pw_below_drewN | apply below_drew1 | refine below_set ?_ (by first | omega | (simp; omega)))) hb_); clear HB hb_; have HB := n_; clear n_
  go_upto_region 4 with (fail)
  obtain ⟨W, hW⟩ : ∃ W, w2.alloc (.cells #[.int .i64 c.va, .int .i64 c.sl, .int .i64 c.co, .int .i64 c.su, .int .i64 c.ti, .int .i64 c.di, .int .i64 c.ra, .int .i64 c.ro, .int .i64 c.ag, .int .u64 c.se, .int .i64 (e)] 58) = W := ⟨_, rfl⟩
  have bE : Box W w2.heap.size #[.int .i64 c.va, .int .i64 c.sl, .int .i64 c.co, .int .i64 c.su, .int .i64 c.ti, .int .i64 c.di, .int .i64 c.ra, .int .i64 c.ro, .int .i64 c.ag, .int .u64 c.se, .int .i64 (e)] 58 := hW ▸ Box.new
  have hbl : Below w.heap.size w W := hW ▸ below_alloc HB.out _
  rw [hW]
  clear hW HB XA rA fA kA
  have HB := Aside0.mk hbl
  have HGW := Aside0.mk (HG.out.below hbl)
  clear hbl
  have XE := Aside0.mk bE; have rE := bE.cell; have fE := bE.frozen; have kE := bE.lt; clear bE
  go_region_held3 (fun w' => Below W.heap.size W w' ∧ (∀ j, w'.cell? ⟨w2.heap.size, j, none⟩ = (#[.int .i64 c.va, .int .i64 c.sl, .int .i64 c.co, .int .i64 c.su, .int .i64 c.ti, .int .i64 c.di, .int .i64 c.ra, .int .i64 c.ro, .int .i64 c.ag, .int .u64 c.se, .int .i64 (e)] : Array Value)[j]?)) (first | exact ⟨below_drew1 (Below.refl _ _), rE⟩ | exact ⟨j0, jE⟩ | exact ⟨below_alloc j0 _, fun j => (cell_alloc_old (Nat.lt_of_lt_of_le kE j0.size)).trans (jE j)⟩ | exact ⟨below_alloc (below_drew1 (Below.refl _ _)) _, fun j => (cell_alloc_old kE).trans (rE j)⟩ | assumption) (first | (go_at_call 28; obtain ⟨g0, gE⟩ := ‹Below W.heap.size W _ ∧ _›; ((with_reducible refine (seed_calls c e _ hse he (HGW.out.below g0)).mono ?_)); rintro e w4 ⟨rfl, hb_⟩; have j0 := below_step g0 hb_; have jE := fun j => (hb_.cell (p := ⟨w2.heap.size, j, none⟩) (Nat.lt_of_lt_of_le kE g0.size)).trans (gE j)) | (go_at_call 38; obtain ⟨g0, gE⟩ := ‹Below W.heap.size W _ ∧ _›; ((with_reducible refine (Back_y c.va c.ro (foldF [c.se, e]) v _ hmy hsd (HGW.out.below g0).ch).mono ?_)); rintro e w5 ⟨rfl, hb_⟩; have j0 := below_step g0 hb_; have jE := fun j => (hb_.cell (p := ⟨w2.heap.size, j, none⟩) (Nat.lt_of_lt_of_le kE g0.size)).trans (gE j)))
  rw [HP.out]
  have bE := XE.out.below j0
  have HB2 := Aside0.mk (below_step HB.out j0)
  clear HB XE rE fE kE
  have HB := HB2
  clear HB2 j0 jE
  have XE := Aside0.mk bE; have rE := bE.cell; have fE := bE.frozen; have kE := bE.lt; clear bE
  go_upto_region 5 with (fail)
  have e1 : IntKind.i64.wrap (j + 1) = j + 1 := IntWalk.i64_in _ (by omega)
  have e2 : IntKind.i64.wrap (A * (j + 1)) = A * (j + 1) := IntWalk.i64_in _ (by omega)
  have e3 : IntKind.i64.wrap (A * (j + 1) - 1) = A * (j + 1) - 1 := IntWalk.i64_in _ (by omega)
  have e4 : IntKind.i64.wrap k = k := IntWalk.i64_in _ (by omega)
  go_region_held3 (fun w' => Below w5.heap.size w5 w' ∧ (∀ j, w'.cell? ⟨w2.heap.size, j, none⟩ = (#[.int .i64 c.va, .int .i64 c.sl, .int .i64 c.co, .int .i64 c.su, .int .i64 c.ti, .int .i64 c.di, .int .i64 c.ra, .int .i64 c.ro, .int .i64 c.ag, .int .u64 c.se, .int .i64 (e)] : Array Value)[j]?)) (first | exact ⟨below_drew1 (Below.refl _ _), rE⟩ | exact ⟨j0, jE⟩ | exact ⟨below_alloc j0 _, fun j => (cell_alloc_old (Nat.lt_of_lt_of_le kE j0.size)).trans (jE j)⟩ | exact ⟨below_alloc (below_drew1 (Below.refl _ _)) _, fun j => (cell_alloc_old kE).trans (rE j)⟩ | assumption) (first | (go_at_call 39; obtain ⟨g0, gE⟩ := ‹Below w5.heap.size w5 _ ∧ _›; ((with_reducible refine (all_callsA c e A _ HF.out HA.out).mono ?_)); rintro e w6 ⟨rfl, hb_⟩; have j0 := below_step g0 hb_; have jE := fun j => (hb_.cell (p := ⟨w2.heap.size, j, none⟩) (Nat.lt_of_lt_of_le kE g0.size)).trans (gE j)))
  have bE := XE.out.below j0
  have HB2 := Aside0.mk (below_step HB.out j0)
  clear HB XE rE fE kE e1 e2 e3 e4
  have HB := HB2
  clear HB2 j0 jE
  have XE := Aside0.mk bE; have rE := bE.cell; have fE := bE.frozen; have kE := bE.lt; clear bE
  go_upto_region 6 with (fail)
  have e1 : IntKind.i64.wrap (e * c.sl) = e * c.sl := IntWalk.i64_in _ (by omega)
  have e2 : IntKind.i64.wrap (k / c.co) = k / c.co := IntWalk.i64_in _ (by omega)
  have e3 : IntKind.i64.wrap (e * c.sl + k / c.co) = e * c.sl + k / c.co := IntWalk.i64_in _ (by omega)
  have e4 : IntKind.i64.wrap (k % c.co) = k % c.co := IntWalk.i64_in _ (by omega)
  have e5 : IntKind.i64.wrap (j - fromF c.va A k) = j - fromF c.va A k := IntWalk.i64_in _ (by omega)
  go_region_held3 (fun w' => Below w6.heap.size w6 w' ∧ (∀ j, w'.cell? ⟨w2.heap.size, j, none⟩ = (#[.int .i64 c.va, .int .i64 c.sl, .int .i64 c.co, .int .i64 c.su, .int .i64 c.ti, .int .i64 c.di, .int .i64 c.ra, .int .i64 c.ro, .int .i64 c.ag, .int .u64 c.se, .int .i64 (e)] : Array Value)[j]?)) (first | exact ⟨below_drew1 (Below.refl _ _), rE⟩ | exact ⟨j0, jE⟩ | exact ⟨below_alloc j0 _, fun j => (cell_alloc_old (Nat.lt_of_lt_of_le kE j0.size)).trans (jE j)⟩ | exact ⟨below_alloc (below_drew1 (Below.refl _ _)) _, fun j => (cell_alloc_old kE).trans (rE j)⟩ | assumption) (first | (go_at_call 29; obtain ⟨g0, gE⟩ := ‹Below w6.heap.size w6 _ ∧ _›; ((with_reducible refine (from_callsA c e k A _ HF.out HA.out ⟨p2, Int.le_of_lt p3⟩).mono ?_)); rintro e w7 ⟨rfl, hb_⟩; have j0 := below_step g0 hb_; have jE := fun j => (hb_.cell (p := ⟨w2.heap.size, j, none⟩) (Nat.lt_of_lt_of_le kE g0.size)).trans (gE j)))
  have HB2 := Aside0.mk (below_step HB.out j0)
  clear HB XE rE fE kE e1 e2 e3 e4 e5
  have HB := HB2
  clear HB2 j0 jE
  go_wp2
  exact bodyPost_ret (v := .tuple #[.int .i64 (e * c.sl + k / c.co), .int .i64 (k % c.co), .int .i64 (j - fromF c.va A k), .int .i64 0]) (by simp [results, Tryd.results16, go_sem]) rfl ⟨rfl, HB.out⟩
set_option maxHeartbeats 1000000 in
theorem Where_no (c : ChainV) (e v : Int) (w : World) (h : mayVal c e v = false) (hG : DutyLaid w) : Calls Tryd.prog 16 #[.agg #[.int .i64 c.va, .int .i64 c.sl, .int .i64 c.co, .int .i64 c.su, .int .i64 c.ti, .int .i64 c.di, .int .i64 c.ra, .int .i64 c.ro, .int .i64 c.ag, .int .u64 c.se], .int .i64 e, .int .i64 v] w fun e' w' =>
    e' = .returned (.tuple #[.int .i64 0, .int .i64 0, .int .i64 0, .int .i64 1]) ∧ Below w.heap.size w w' := by
  have HB := Aside0.mk (Below.refl w.heap.size w)
  have HG := Aside0.mk hG
  clear hG
  rcases Bool.eq_false_or_eq_true (fitsC c) with hf | hf
  · rcases Bool.eq_false_or_eq_true (win e 0 1099511627776) with hw | hw
    · have hv : v < 0 ∨ (0 ≤ v ∧ c.va ≤ v) := by
        simp [mayVal, hf, hw] at h
        omega
      clear h
      rcases hv with hv | hv
      all_goals
        go_enter Tryd.func16, Tryd.ntmps16
        go_wp2_with fail
        refine (Fits_d c _ ?hG).mono ?_
        case hG => exact HG.out.below (by repeat (first | exact HB.out | apply below_alloc | apply pw_below_drewN | apply below_drew1 | refine below_set ?_ (by first | omega | (simp; omega))))
        rintro e w1 ⟨rfl, hb_⟩
        have YA : Box w1 (w.heap.size) _ _ := Box.below (by repeat (with_reducible first | exact XA.out | exact Box.new | exact Box.new1 | exact Box.new2 | exact Box.new3 | apply Box.alloc | apply Box.drew | apply Box.drewN | apply Box.set)) hb_
        (try clear XA rA kA fA); have XA := Aside0.mk YA; have rA := YA.cell; have fA := YA.frozen; have kA := YA.lt; clear YA
        have n_ := Aside0.mk (below_step (by repeat (first | exact HB.out | apply below_alloc | apply pw_below_drewN | apply below_drew1 | refine below_set ?_ (by first | omega | (simp; omega)))) hb_); clear HB hb_; have HB := n_; clear n_
        go_wp2_with fail
        refine (dmay_calls e _).mono ?_
        rintro e w2 ⟨rfl, hb_⟩
        have YA : Box w2 (w.heap.size) _ _ := Box.below (by repeat (with_reducible first | exact XA.out | exact Box.new | exact Box.new1 | exact Box.new2 | exact Box.new3 | apply Box.alloc | apply Box.drew | apply Box.drewN | apply Box.set)) hb_
        (try clear XA rA kA fA); have XA := Aside0.mk YA; have rA := YA.cell; have fA := YA.frozen; have kA := YA.lt; clear YA
        have n_ := Aside0.mk (below_step (by repeat (first | exact HB.out | apply below_alloc | apply pw_below_drewN | apply below_drew1 | refine below_set ?_ (by first | omega | (simp; omega)))) hb_); clear HB hb_; have HB := n_; clear n_
        go_wp2
        exact bodyPost_ret (v := .tuple #[.int .i64 0, .int .i64 0, .int .i64 0, .int .i64 1]) (by simp [results, Tryd.results16, go_sem]) rfl ⟨rfl, HB.out⟩
    · clear h
      go_enter Tryd.func16, Tryd.ntmps16
      go_wp2_with fail
      refine (Fits_d c _ ?hG).mono ?_
      case hG => exact HG.out.below (by repeat (first | exact HB.out | apply below_alloc | apply pw_below_drewN | apply below_drew1 | refine below_set ?_ (by first | omega | (simp; omega))))
      rintro e w1 ⟨rfl, hb_⟩
      have YA : Box w1 (w.heap.size) _ _ := Box.below (by repeat (with_reducible first | exact XA.out | exact Box.new | exact Box.new1 | exact Box.new2 | exact Box.new3 | apply Box.alloc | apply Box.drew | apply Box.drewN | apply Box.set)) hb_
      (try clear XA rA kA fA); have XA := Aside0.mk YA; have rA := YA.cell; have fA := YA.frozen; have kA := YA.lt; clear YA
      have n_ := Aside0.mk (below_step (by repeat (first | exact HB.out | apply below_alloc | apply pw_below_drewN | apply below_drew1 | refine below_set ?_ (by first | omega | (simp; omega)))) hb_); clear HB hb_; have HB := n_; clear n_
      go_wp2_with fail
      refine (dmay_calls e _).mono ?_
      rintro e w2 ⟨rfl, hb_⟩
      have YA : Box w2 (w.heap.size) _ _ := Box.below (by repeat (with_reducible first | exact XA.out | exact Box.new | exact Box.new1 | exact Box.new2 | exact Box.new3 | apply Box.alloc | apply Box.drew | apply Box.drewN | apply Box.set)) hb_
      (try clear XA rA kA fA); have XA := Aside0.mk YA; have rA := YA.cell; have fA := YA.frozen; have kA := YA.lt; clear YA
      have n_ := Aside0.mk (below_step (by repeat (first | exact HB.out | apply below_alloc | apply pw_below_drewN | apply below_drew1 | refine below_set ?_ (by first | omega | (simp; omega)))) hb_); clear HB hb_; have HB := n_; clear n_
      go_wp2
      exact bodyPost_ret (v := .tuple #[.int .i64 0, .int .i64 0, .int .i64 0, .int .i64 1]) (by simp [results, Tryd.results16, go_sem]) rfl ⟨rfl, HB.out⟩
  · clear h
    go_enter Tryd.func16, Tryd.ntmps16
    go_wp2_with fail
    refine (Fits_d c _ ?hG).mono ?_
    case hG => exact HG.out.below (by repeat (first | exact HB.out | apply below_alloc | apply pw_below_drewN | apply below_drew1 | refine below_set ?_ (by first | omega | (simp; omega))))
    rintro e w1 ⟨rfl, hb_⟩
    have YA : Box w1 (w.heap.size) _ _ := Box.below (by repeat (with_reducible first | exact XA.out | exact Box.new | exact Box.new1 | exact Box.new2 | exact Box.new3 | apply Box.alloc | apply Box.drew | apply Box.drewN | apply Box.set)) hb_
    (try clear XA rA kA fA); have XA := Aside0.mk YA; have rA := YA.cell; have fA := YA.frozen; have kA := YA.lt; clear YA
    have n_ := Aside0.mk (below_step (by repeat (first | exact HB.out | apply below_alloc | apply pw_below_drewN | apply below_drew1 | refine below_set ?_ (by first | omega | (simp; omega)))) hb_); clear HB hb_; have HB := n_; clear n_
    go_wp2
    exact bodyPost_ret (v := .tuple #[.int .i64 0, .int .i64 0, .int .i64 0, .int .i64 1]) (by simp [results, Tryd.results16, go_sem]) rfl ⟨rfl, HB.out⟩
end Go.Proofs.YtdepmbnoecpccaaDoor
