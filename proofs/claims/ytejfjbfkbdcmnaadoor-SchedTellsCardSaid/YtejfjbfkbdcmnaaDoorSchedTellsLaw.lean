
/- SchedTells: for every input the call of the statement returns true and leaves its arguments as they were, over the program whose tables lie as its own text lays them (the tied card). Conditions: none beyond the card's own. -/
import Derived.Deep.RegionHeld3
import Derived.Test.YtejfjbfkbdcmnaaDoorCards
import Derived.Test.YtejfjbfkbdcmnaaDoorTie
import Derived.Test.YtejfjbfkbdcmnaaDoorCame
import Derived.Test.YtejfjbfkbdcmnaaDoorSchedRef3
set_option linter.unusedVariables false
set_option linter.unusedSimpArgs false
namespace Go.Proofs.YtejfjbfkbdcmnaaDoor
open Go.RowKit Go.Proofs.YtejfjbfkbdcmnaaDoorW.PrintWords Go.Proofs.YtejfjbfkbdcmnaaDoorW.PrintLast Go.Proofs.YtejfjbfkbdcmnaaDoorW.PrintMore
open Go.ChangeShapes Go.WideShapes Go.ChangeAt
open Go.ChangeMaps (open_string shut_string)

theorem C_nil (w : World) : (Kd.int .i64).C w none 0 [] := (Kd.R_reads' (Kd.R_nil (Kd.int .i64) 3 w 0 (fun _ => True))).2.2
set_option maxRecDepth 100000 in
set_option maxHeartbeats 8000000 in
theorem SchedTells_calls (o : ChainV) (p0 : PlanV) (n : Six) (node k q x0 : Int) (u : Nat) (hp0 : 0 ≤ p0.no) (hno : 0 ≤ node) (hk : i64ok k) (hq : i64ok q) (hx : i64ok x0) (hu : u < 18446744073709551616) (w : World) (hG : DutyLaid w) : Calls Tryd.prog 3 #[.agg #[.int .i64 o.va, .int .i64 o.sl, .int .i64 o.co, .int .i64 o.su, .int .i64 o.ti, .int .i64 o.di, .int .i64 o.ra, .int .i64 o.ro, .int .i64 o.ag, .int .u64 o.se], .agg #[.int .u64 p0.no, .int .i64 p0.ke, .int .i64 p0.pe], .agg #[.int .i64 n.a, .int .i64 n.b, .int .i64 n.c, .int .i64 n.d, .int .i64 n.e, .int .i64 n.f], .int .u64 node, .int .i64 k, .int .i64 q, .int .i64 x0, .int .u64 u] w fun e w' =>
    e = .returned (.bool true) ∧ Below w.heap.size w w' := by
  obtain ⟨hx0, hx1⟩ := hx
  have HB := Aside0.mk (Below.refl w.heap.size w)
  have HG := Aside0.mk hG
  clear hG
  have hpn : 0 ≤ (planF node k q).no := hno
  have px1 := pickF_bd x0 1000 (by omega)
  have px2 := pickF_bd x0 1099511627777 (by omega)
  go_enter Tryd.func3, Tryd.ntmps3
  go_wp2_with fail
  refine (sawake_calls _ ?hG).mono ?_
  case hG => exact HG.out.below (by repeat (first | exact HB.out | apply below_alloc | apply pw_below_drewN | apply below_drew1 | refine below_set ?_ (by first | omega | (simp; omega))))
  rintro e w1 ⟨rfl, hb_⟩
  have YO : Box w1 (w.heap.size) _ _ := Box.below (by repeat (with_reducible first | exact XO.out | exact Box.new | exact Box.new1 | exact Box.new2 | exact Box.new3 | apply Box.alloc | apply Box.drew | apply Box.drewN | apply Box.set)) hb_
  (try clear XO rO kO fO); have XO := Aside0.mk YO; have rO := YO.cell; have fO := YO.frozen; have kO := YO.lt; clear YO
  have YP : Box w1 (w.heap.size + 1) _ _ := Box.below (by repeat (with_reducible first | exact XP.out | exact Box.new | exact Box.new1 | exact Box.new2 | exact Box.new3 | apply Box.alloc | apply Box.drew | apply Box.drewN | apply Box.set)) hb_
  (try clear XP rP kP fP); have XP := Aside0.mk YP; have rP := YP.cell; have fP := YP.frozen; have kP := YP.lt; clear YP
  have YN : Box w1 (w.heap.size + 1 + 1) _ _ := Box.below (by repeat (with_reducible first | exact XN.out | exact Box.new | exact Box.new1 | exact Box.new2 | exact Box.new3 | apply Box.alloc | apply Box.drew | apply Box.drewN | apply Box.set)) hb_
  (try clear XN rN kN fN); have XN := Aside0.mk YN; have rN := YN.cell; have fN := YN.frozen; have kN := YN.lt; clear YN
  have n_ := Aside0.mk (below_step (by repeat (first | exact HB.out | apply below_alloc | apply pw_below_drewN | apply below_drew1 | refine below_set ?_ (by first | omega | (simp; omega)))) hb_); clear HB hb_; have HB := n_; clear n_
  go_wp2_with fail
  refine (Chain_calls n 3 _).mono ?_
  rintro e w2 ⟨rfl, hb_⟩
  have YO : Box w2 (w.heap.size) _ _ := Box.below (by repeat (with_reducible first | exact XO.out | exact Box.new | exact Box.new1 | exact Box.new2 | exact Box.new3 | apply Box.alloc | apply Box.drew | apply Box.drewN | apply Box.set)) hb_
  (try clear XO rO kO fO); have XO := Aside0.mk YO; have rO := YO.cell; have fO := YO.frozen; have kO := YO.lt; clear YO
  have YP : Box w2 (w.heap.size + 1) _ _ := Box.below (by repeat (with_reducible first | exact XP.out | exact Box.new | exact Box.new1 | exact Box.new2 | exact Box.new3 | apply Box.alloc | apply Box.drew | apply Box.drewN | apply Box.set)) hb_
  (try clear XP rP kP fP); have XP := Aside0.mk YP; have rP := YP.cell; have fP := YP.frozen; have kP := YP.lt; clear YP
  have n_ := Aside0.mk (below_step (by repeat (first | exact HB.out | apply below_alloc | apply pw_below_drewN | apply below_drew1 | refine below_set ?_ (by first | omega | (simp; omega)))) hb_); clear HB hb_; have HB := n_; clear n_
  generalize chainF n 3 = c at *
  go_wp2_with fail
  refine (Plan_calls node k q hk hq _).mono ?_
  rintro e w3 ⟨rfl, hb_⟩
  have YO : Box w3 (w.heap.size) _ _ := Box.below (by repeat (with_reducible first | exact XO.out | exact Box.new | exact Box.new1 | exact Box.new2 | exact Box.new3 | apply Box.alloc | apply Box.drew | apply Box.drewN | apply Box.set)) hb_
  (try clear XO rO kO fO); have XO := Aside0.mk YO; have rO := YO.cell; have fO := YO.frozen; have kO := YO.lt; clear YO
  have YP : Box w3 (w.heap.size + 1) _ _ := Box.below (by repeat (with_reducible first | exact XP.out | exact Box.new | exact Box.new1 | exact Box.new2 | exact Box.new3 | apply Box.alloc | apply Box.drew | apply Box.drewN | apply Box.set)) hb_
  (try clear XP rP kP fP); have XP := Aside0.mk YP; have rP := YP.cell; have fP := YP.frozen; have kP := YP.lt; clear YP
  have YC : Box w3 (w2.heap.size) _ _ := Box.below (by repeat (with_reducible first | exact XC.out | exact Box.new | exact Box.new1 | exact Box.new2 | exact Box.new3 | apply Box.alloc | apply Box.drew | apply Box.drewN | apply Box.set)) hb_
  (try clear XC rC kC fC); have XC := Aside0.mk YC; have rC := YC.cell; have fC := YC.frozen; have kC := YC.lt; clear YC
  have n_ := Aside0.mk (below_step (by repeat (first | exact HB.out | apply below_alloc | apply pw_below_drewN | apply below_drew1 | refine below_set ?_ (by first | omega | (simp; omega)))) hb_); clear HB hb_; have HB := n_; clear n_
  generalize planF node k q = p at *
  go_upto_region 4 with (fail)
  obtain ⟨W, hW⟩ : ∃ W, w3.alloc (.cells #[.int .u64 p.no, .int .i64 p.ke, .int .i64 p.pe] 26) = W := ⟨_, rfl⟩
  rw [hW]
  have bQ : Box W w3.heap.size #[.int .u64 p.no, .int .i64 p.ke, .int .i64 p.pe] 26 := hW ▸ Box.new
  have bO : Box W w.heap.size #[.int .i64 o.va, .int .i64 o.sl, .int .i64 o.co, .int .i64 o.su, .int .i64 o.ti, .int .i64 o.di, .int .i64 o.ra, .int .i64 o.ro, .int .i64 o.ag, .int .u64 o.se] 24 := hW ▸ XO.out.alloc
  have bP : Box W (w.heap.size + 1) #[.int .u64 p0.no, .int .i64 p0.ke, .int .i64 p0.pe] 26 := hW ▸ XP.out.alloc
  have bC : Box W w2.heap.size #[.int .i64 c.va, .int .i64 c.sl, .int .i64 c.co, .int .i64 c.su, .int .i64 c.ti, .int .i64 c.di, .int .i64 c.ra, .int .i64 c.ro, .int .i64 c.ag, .int .u64 c.se] 24 := hW ▸ XC.out.alloc
  have hbl : Below w.heap.size w W := hW ▸ below_alloc HB.out _
  clear hW HB XO rO kO fO XP rP kP fP XC rC kC fC
  have HB := Aside0.mk hbl
  clear hbl
  have XO := Aside0.mk bO; have rO := bO.cell; have fO := bO.frozen; have kO := bO.lt; clear bO
  have XP := Aside0.mk bP; have rP := bP.cell; have fP := bP.frozen; have kP := bP.lt; clear bP
  have XC := Aside0.mk bC; have rC := bC.cell; have fC := bC.frozen; have kC := bC.lt; clear bC
  have XQ := Aside0.mk bQ; have rQ := bQ.cell; have fQ := bQ.frozen; have kQ := bQ.lt; clear bQ
  go_cut [56] (fun v wc => v = .bool false ∧ Below W.heap.size W wc)
  case first =>
    have HF1 : ∀ w, Calls Tryd.prog 11 #[.agg #[.int .u64 p0.no, .int .i64 p0.ke, .int .i64 p0.pe]] w fun e w' => e = .returned (.bool (fitsP p0)) ∧ Below w.heap.size w w' := fun w => SFits_calls p0 w
    have HF2 : ∀ w, Calls Tryd.prog 12 #[.agg #[.int .u64 p0.no, .int .i64 p0.ke, .int .i64 p0.pe]] w fun e w' => e = .returned (.bool (fitsP p0)) ∧ Below w.heap.size w w' := fun w => RSFits_calls p0 w
    have HF3 : ∀ w, Calls Tryd.prog 11 #[.agg #[.int .u64 p.no, .int .i64 p.ke, .int .i64 p.pe]] w fun e w' => e = .returned (.bool (fitsP p)) ∧ Below w.heap.size w w' := fun w => SFits_calls p w
    have HF4 : ∀ w, Calls Tryd.prog 12 #[.agg #[.int .u64 p.no, .int .i64 p.ke, .int .i64 p.pe]] w fun e w' => e = .returned (.bool (fitsP p)) ∧ Below w.heap.size w w' := fun w => RSFits_calls p w
    generalize fitsP p0 = b0 at *
    generalize fitsP p = b1 at *
    have H1 := Aside0.mk HF1
    have H2 := Aside0.mk HF2
    have H3 := Aside0.mk HF3
    have H4 := Aside0.mk HF4
    clear HF1 HF2 HF3 HF4
    go_region_held3 (fun w' => Below W.heap.size W w' ∧ (∀ j, w'.cell? ⟨w.heap.size + 1, j, none⟩ = (#[.int .u64 p0.no, .int .i64 p0.ke, .int .i64 p0.pe] : Array Value)[j]?) ∧ (∀ j, w'.cell? ⟨w3.heap.size, j, none⟩ = (#[.int .u64 p.no, .int .i64 p.ke, .int .i64 p.pe] : Array Value)[j]?)) (first | exact ⟨below_drew1 (Below.refl _ _), rP, rQ⟩ | exact ⟨below_drew1 b0_, rP, rQ⟩ | exact ⟨j0, jP, jQ⟩ | exact ⟨below_alloc j0 _, fun j => (cell_alloc_old (Nat.lt_of_lt_of_le kP j0.size)).trans (jP j), fun j => (cell_alloc_old (Nat.lt_of_lt_of_le kQ j0.size)).trans (jQ j)⟩ | exact ⟨below_alloc (below_drew1 (Below.refl _ _)) _, fun j => (cell_alloc_old kP).trans (rP j), fun j => (cell_alloc_old kQ).trans (rQ j)⟩ | exact ⟨below_set (below_alloc j0 _) (by first | omega | (simp only; omega)), fun j => (cell_far (by first | omega | (simp only; omega))).trans ((cell_alloc_old (Nat.lt_of_lt_of_le kP j0.size)).trans (jP j)), fun j => (cell_far (by first | omega | (simp only; omega))).trans ((cell_alloc_old (Nat.lt_of_lt_of_le kQ j0.size)).trans (jQ j))⟩ | exact ⟨below_set (j0) (by first | omega | (simp only; omega)), fun j => (cell_far (by first | omega | (simp only; omega))).trans ((jP j)), fun j => (cell_far (by first | omega | (simp only; omega))).trans ((jQ j))⟩ | exact ⟨below_set (below_set (below_alloc j0 _) (by first | omega | (simp only; omega))) (by first | omega | (simp only; omega)), fun j => (cell_far (by first | omega | (simp only; omega))).trans ((cell_far (by first | omega | (simp only; omega))).trans ((cell_alloc_old (Nat.lt_of_lt_of_le kP j0.size)).trans (jP j))), fun j => (cell_far (by first | omega | (simp only; omega))).trans ((cell_far (by first | omega | (simp only; omega))).trans ((cell_alloc_old (Nat.lt_of_lt_of_le kQ j0.size)).trans (jQ j)))⟩ | exact ⟨below_set (below_set (j0) (by first | omega | (simp only; omega))) (by first | omega | (simp only; omega)), fun j => (cell_far (by first | omega | (simp only; omega))).trans ((cell_far (by first | omega | (simp only; omega))).trans ((jP j))), fun j => (cell_far (by first | omega | (simp only; omega))).trans ((cell_far (by first | omega | (simp only; omega))).trans ((jQ j)))⟩ | exact ⟨below_set (below_set (below_set (below_alloc j0 _) (by first | omega | (simp only; omega))) (by first | omega | (simp only; omega))) (by first | omega | (simp only; omega)), fun j => (cell_far (by first | omega | (simp only; omega))).trans ((cell_far (by first | omega | (simp only; omega))).trans ((cell_far (by first | omega | (simp only; omega))).trans ((cell_alloc_old (Nat.lt_of_lt_of_le kP j0.size)).trans (jP j)))), fun j => (cell_far (by first | omega | (simp only; omega))).trans ((cell_far (by first | omega | (simp only; omega))).trans ((cell_far (by first | omega | (simp only; omega))).trans ((cell_alloc_old (Nat.lt_of_lt_of_le kQ j0.size)).trans (jQ j))))⟩ | exact ⟨below_set (below_set (below_set (j0) (by first | omega | (simp only; omega))) (by first | omega | (simp only; omega))) (by first | omega | (simp only; omega)), fun j => (cell_far (by first | omega | (simp only; omega))).trans ((cell_far (by first | omega | (simp only; omega))).trans ((cell_far (by first | omega | (simp only; omega))).trans ((jP j)))), fun j => (cell_far (by first | omega | (simp only; omega))).trans ((cell_far (by first | omega | (simp only; omega))).trans ((cell_far (by first | omega | (simp only; omega))).trans ((jQ j))))⟩ | assumption) (first | (go_at_call 11; obtain ⟨g0, gP, gQ⟩ := ‹Below W.heap.size W _ ∧ _›; ((with_reducible refine (H1.out _).mono ?_));  rintro e w5 ⟨rfl, hb_⟩; have j0 := below_step g0 hb_; have s5 := j0.size; have jP := fun j => (hb_.cell (p := ⟨w.heap.size + 1, j, none⟩) (Nat.lt_of_lt_of_le kP g0.size)).trans (gP j); have jQ := fun j => (hb_.cell (p := ⟨w3.heap.size, j, none⟩) (Nat.lt_of_lt_of_le kQ g0.size)).trans (gQ j)) | (go_at_call 12; obtain ⟨g0, gP, gQ⟩ := ‹Below W.heap.size W _ ∧ _›; ((with_reducible refine (H2.out _).mono ?_));  rintro e w6 ⟨rfl, hb_⟩; have j0 := below_step g0 hb_; have s6 := j0.size; have jP := fun j => (hb_.cell (p := ⟨w.heap.size + 1, j, none⟩) (Nat.lt_of_lt_of_le kP g0.size)).trans (gP j); have jQ := fun j => (hb_.cell (p := ⟨w3.heap.size, j, none⟩) (Nat.lt_of_lt_of_le kQ g0.size)).trans (gQ j)) | (go_at_call 11; obtain ⟨g0, gP, gQ⟩ := ‹Below W.heap.size W _ ∧ _›; ((with_reducible refine (H3.out _).mono ?_));  rintro e w7 ⟨rfl, hb_⟩; have j0 := below_step g0 hb_; have s7 := j0.size; have jP := fun j => (hb_.cell (p := ⟨w.heap.size + 1, j, none⟩) (Nat.lt_of_lt_of_le kP g0.size)).trans (gP j); have jQ := fun j => (hb_.cell (p := ⟨w3.heap.size, j, none⟩) (Nat.lt_of_lt_of_le kQ g0.size)).trans (gQ j)) | (go_at_call 12; obtain ⟨g0, gP, gQ⟩ := ‹Below W.heap.size W _ ∧ _›; ((with_reducible refine (H4.out _).mono ?_));  rintro e w8 ⟨rfl, hb_⟩; have j0 := below_step g0 hb_; have s8 := j0.size; have jP := fun j => (hb_.cell (p := ⟨w.heap.size + 1, j, none⟩) (Nat.lt_of_lt_of_le kP g0.size)).trans (gP j); have jQ := fun j => (hb_.cell (p := ⟨w3.heap.size, j, none⟩) (Nat.lt_of_lt_of_le kQ g0.size)).trans (gQ j)))
    all_goals
      go_wp2
      go_meet
      case rel => exact ⟨by simp, j0⟩
  case rest =>
    obtain ⟨rfl, hb4⟩ := hcut
    have bO := XO.out.below hb4
    have bP := XP.out.below hb4
    have bC := XC.out.below hb4
    have bQ := XQ.out.below hb4
    have HB2 := Aside0.mk (below_step HB.out hb4)
    clear HB XO rO kO fO XP rP kP fP XC rC kC fC XQ rQ kQ fQ hb4
    have HB := HB2
    clear HB2
    have XO := Aside0.mk bO; have rO := bO.cell; have fO := bO.frozen; have kO := bO.lt; clear bO
    have XP := Aside0.mk bP; have rP := bP.cell; have fP := bP.frozen; have kP := bP.lt; clear bP
    have XC := Aside0.mk bC; have rC := bC.cell; have fC := bC.frozen; have kC := bC.lt; clear bC
    have XQ := Aside0.mk bQ; have rQ := bQ.cell; have fQ := bQ.frozen; have kQ := bQ.lt; clear bQ
    go_upto_region 7 with (fail)
    obtain ⟨W1, hW1⟩ : ∃ W, wc.alloc (.cells #[.int .i64 o.va, .int .i64 o.sl, .int .i64 o.co, .int .i64 o.su, .int .i64 o.ti, .int .i64 o.di, .int .i64 o.ra, .int .i64 o.ro, .int .i64 o.ag, .int .u64 o.se, .int .i64 c.va, .int .i64 c.sl, .int .i64 c.co, .int .i64 c.su, .int .i64 c.ti, .int .i64 c.di, .int .i64 c.ra, .int .i64 c.ro, .int .i64 c.ag, .int .u64 c.se] 24) = W := ⟨_, rfl⟩
    rw [hW1]
    have bS : Box W1 wc.heap.size #[.int .i64 o.va, .int .i64 o.sl, .int .i64 o.co, .int .i64 o.su, .int .i64 o.ti, .int .i64 o.di, .int .i64 o.ra, .int .i64 o.ro, .int .i64 o.ag, .int .u64 o.se, .int .i64 c.va, .int .i64 c.sl, .int .i64 c.co, .int .i64 c.su, .int .i64 c.ti, .int .i64 c.di, .int .i64 c.ra, .int .i64 c.ro, .int .i64 c.ag, .int .u64 c.se] 24 := hW1 ▸ Box.new
    have bP := hW1 ▸ XP.out.alloc
    have bQ := hW1 ▸ XQ.out.alloc
    have hbl := hW1 ▸ below_alloc HB.out _
    clear hW1 HB XO rO kO fO XP rP kP fP XC rC kC fC XQ rQ kQ fQ
    have HB := Aside0.mk hbl
    clear hbl
    have XP := Aside0.mk bP; have rP := bP.cell; have fP := bP.frozen; have kP := bP.lt; clear bP
    have XQ := Aside0.mk bQ; have rQ := bQ.cell; have fQ := bQ.frozen; have kQ := bQ.lt; clear bQ
    have XS := Aside0.mk bS; have rS := bS.cell; have fS := bS.frozen; have kS := bS.lt; clear bS
    have HW1 := Aside0.mk (Below.refl W1.heap.size W1)
    generalize hws : wc.heap.size = ws at *
    clear hws
    go_loopw [61] (fun iv wx => ∃ i : Nat, i ≤ 2 ∧ iv = .int .i64 i ∧ Below W1.heap.size W1 wx) (fun iv _ => 2 - (intOf iv).toNat)
    case atStart => exact ⟨0, by omega, rfl, HW1.out⟩
    case round =>
      obtain ⟨i, hi, rfl, hb1⟩ := hrel
      have bP := XP.out.below hb1
      have bQ := XQ.out.below hb1
      have bS := XS.out.below hb1
      have HB2 := Aside0.mk (below_step HB.out hb1)
      have HB1 := Aside0.mk hb1
      clear HB XP rP kP fP XQ rQ kQ fQ XS rS kS fS hb1
      have HB := HB2
      clear HB2
      have XP := Aside0.mk bP; have rP := bP.cell; have fP := bP.frozen; have kP := bP.lt; clear bP
      have XQ := Aside0.mk bQ; have rQ := bQ.cell; have fQ := bQ.frozen; have kQ := bQ.lt; clear bQ
      have XS := Aside0.mk bS; have rS := bS.cell; have fS := bS.frozen; have kS := bS.lt; clear bS
      rcases Nat.lt_or_ge i 2 with hlt | hge
      · go_upto_region 8 with (fail)
        go_cut [21, 61] (fun v21 v61 wd => ∃ ch : ChainV, v61 = .int .i64 i ∧ v21 = .pointer (some ⟨wr.heap.size, 0, none⟩) ∧ Box wd wr.heap.size #[.int .i64 ch.va, .int .i64 ch.sl, .int .i64 ch.co, .int .i64 ch.su, .int .i64 ch.ti, .int .i64 ch.di, .int .i64 ch.ra, .int .i64 ch.ro, .int .i64 ch.ag, .int .u64 ch.se] 24 ∧ Below wr.heap.size wr wd)
        case first =>
          have hv : i = 0 ∨ i = 1 := by omega
          rcases hv with rfl | rfl
          all_goals
            go_wp2
            go_meet
            case rel =>
              first
                | exact ⟨o, rfl, rfl, Box.new, below_alloc (Below.refl _ _) _⟩
                | exact ⟨c, rfl, rfl, Box.new, below_alloc (Below.refl _ _) _⟩
        case rest =>
          obtain ⟨ch, rfl, rfl, bH, hbc⟩ := hcut
          have bP := XP.out.below hbc
          have bQ := XQ.out.below hbc
          have HB2 := Aside0.mk (below_step HB.out hbc)
          have HB12 := Aside0.mk (below_step HB1.out hbc)
          clear HB HB1 XP rP kP fP XQ rQ kQ fQ XS rS kS fS hbc
          have HB := HB2
          have HB1 := HB12
          clear HB2 HB12
          have XP := Aside0.mk bP; have rP := bP.cell; have fP := bP.frozen; have kP := bP.lt; clear bP
          have XQ := Aside0.mk bQ; have rQ := bQ.cell; have fQ := bQ.frozen; have kQ := bQ.lt; clear bQ
          have XH := Aside0.mk bH; have rH := bH.cell; have fH := bH.frozen; have kH := bH.lt; clear bH
          go_upto_region 10 with (fail)
          obtain ⟨W2, hW2⟩ : ∃ W, wc.alloc (.cells #[.int .u64 p0.no, .int .i64 p0.ke, .int .i64 p0.pe, .int .u64 p.no, .int .i64 p.ke, .int .i64 p.pe, .int .u64 node, .int .i64 k, .int .i64 p.pe, .int .u64 node, .int .i64 p.ke, .int .i64 q] 26) = W := ⟨_, rfl⟩
          rw [hW2]
          have bR : Box W2 wc.heap.size #[.int .u64 p0.no, .int .i64 p0.ke, .int .i64 p0.pe, .int .u64 p.no, .int .i64 p.ke, .int .i64 p.pe, .int .u64 node, .int .i64 k, .int .i64 p.pe, .int .u64 node, .int .i64 p.ke, .int .i64 q] 26 := hW2 ▸ Box.new
          have bH := hW2 ▸ XH.out.alloc
          have hbl := hW2 ▸ below_alloc HB.out _
          have hbl1 := hW2 ▸ below_alloc HB1.out _
          clear hW2 HB HB1 XP rP kP fP XQ rQ kQ fQ XH rH kH fH
          have HB := Aside0.mk hbl
          have HB1 := Aside0.mk hbl1
          clear hbl hbl1
          have XR := Aside0.mk bR; have rR := bR.cell; have fR := bR.frozen; have kR := bR.lt; clear bR
          have XH := Aside0.mk bH; have rH := bH.cell; have fH := bH.frozen; have kH := bH.lt; clear bH
          have HW2 := Aside0.mk (Below.refl W2.heap.size W2)
          generalize hwp : wc.heap.size = wp at *
          clear hwp
          generalize hwh : wr.heap.size = wh at *
          clear hwh
          go_loopw [79] (fun iv wx => ∃ j : Nat, j ≤ 4 ∧ iv = .int .i64 j ∧ Below W2.heap.size W2 wx) (fun iv _ => 4 - (intOf iv).toNat)
          case atStart => exact ⟨0, by omega, rfl, HW2.out⟩
          case round =>
            obtain ⟨j, hj, rfl, hb2⟩ := hrel
            have bR := XR.out.below hb2
            have bH := XH.out.below hb2
            have HB2 := Aside0.mk (below_step HB.out hb2)
            have HB12 := Aside0.mk (below_step HB1.out hb2)
            have HBB := Aside0.mk hb2
            clear HB HB1 XR rR kR fR XH rH kH fH hb2
            have HB := HB2
            have HB1 := HB12
            clear HB2 HB12
            have XR := Aside0.mk bR; have rR := bR.cell; have fR := bR.frozen; have kR := bR.lt; clear bR
            have XH := Aside0.mk bH; have rH := bH.cell; have fH := bH.frozen; have kH := bH.lt; clear bH
            rcases Nat.lt_or_ge j 4 with hlt2 | hge2
            · go_upto_region 11 with (fail)
              go_cut [23, 79] (fun v23 v79 wd => ∃ pl : PlanV, 0 ≤ pl.no ∧ v79 = .int .i64 j ∧ v23 = .pointer (some ⟨wr.heap.size, 0, none⟩) ∧ Box wd wr.heap.size #[.int .u64 pl.no, .int .i64 pl.ke, .int .i64 pl.pe] 26 ∧ Below wr.heap.size wr wd)
              case first =>
                have hv : j = 0 ∨ j = 1 ∨ j = 2 ∨ j = 3 := by omega
                rcases hv with rfl | rfl | rfl | rfl
                all_goals
                  go_wp2
                  go_meet
                  case rel =>
                    first
                      | exact ⟨p0, hp0, rfl, rfl, Box.new, below_alloc (Below.refl _ _) _⟩
                      | exact ⟨p, hpn, rfl, rfl, Box.new, below_alloc (Below.refl _ _) _⟩
                      | exact ⟨⟨node, k, p.pe⟩, hno, rfl, rfl, Box.new, below_alloc (Below.refl _ _) _⟩
                      | exact ⟨⟨node, p.ke, q⟩, hno, rfl, rfl, Box.new, below_alloc (Below.refl _ _) _⟩
              case rest =>
                obtain ⟨pl, hpl, rfl, rfl, bL, hbc⟩ := hcut
                have bH := XH.out.below hbc
                have HB2 := Aside0.mk (below_step HB.out hbc)
                have HB12 := Aside0.mk (below_step HB1.out hbc)
                have HB22 := Aside0.mk (below_step HBB.out hbc)
                clear HB HB1 HBB XR rR kR fR XH rH kH fH hbc
                have HB := HB2
                have HB1 := HB12
                have HBB := HB22
                clear HB2 HB12 HB22
                have XH := Aside0.mk bH; have rH := bH.cell; have fH := bH.frozen; have kH := bH.lt; clear bH
                have XL := Aside0.mk bL; have rL := bL.cell; have fL := bL.frozen; have kL := bL.lt; clear bL
                generalize hwl : wr.heap.size = wl at *
                clear hwl
                go_upto_region 13 with (go_at_call 13; ((with_reducible refine (pick11_calls _ _ _ (by omega) (by omega) (by omega) (by omega)).mono ?_)); rintro e w_ ⟨rfl, rfl⟩)
                generalize pickF x0 1000 = x1 at *
                generalize pickF x0 1099511627777 = x2 at *
                obtain ⟨W3, hW3⟩ : ∃ W, wc.alloc (.cells #[.int .i64 x0, .int .i64 x1, .int .i64 x2] 3) = W := ⟨_, rfl⟩
                rw [hW3]
                have bE : Box W3 wc.heap.size #[.int .i64 x0, .int .i64 x1, .int .i64 x2] 3 := hW3 ▸ Box.new
                have bH := hW3 ▸ XH.out.alloc
                have bL := hW3 ▸ XL.out.alloc
                have hbl := hW3 ▸ below_alloc HB.out _
                have hbl1 := hW3 ▸ below_alloc HB1.out _
                have hbl2 := hW3 ▸ below_alloc HBB.out _
                clear hW3 HB HB1 HBB XL rL kL fL XH rH kH fH
                have HB := Aside0.mk hbl
                have HB1 := Aside0.mk hbl1
                have HBB := Aside0.mk hbl2
                clear hbl hbl1 hbl2
                have XE := Aside0.mk bE; have rE := bE.cell; have fE := bE.frozen; have kE := bE.lt; clear bE
                have XH := Aside0.mk bH; have rH := bH.cell; have fH := bH.frozen; have kH := bH.lt; clear bH
                have XL := Aside0.mk bL; have rL := bL.cell; have fL := bL.frozen; have kL := bL.lt; clear bL
                have HW3 := Aside0.mk (Below.refl W3.heap.size W3)
                have HG3 := Aside0.mk (HG.out.below HB.out)
                generalize hwe : wc.heap.size = we at *
                clear hwe
                go_loopw [90] (fun iv wx => ∃ z : Nat, z ≤ 3 ∧ iv = .int .i64 z ∧ Below W3.heap.size W3 wx) (fun iv _ => 3 - (intOf iv).toNat)
                case atStart => exact ⟨0, by omega, rfl, HW3.out⟩
                case round =>
                  obtain ⟨z, hz, rfl, hb3⟩ := hrel
                  have bE := XE.out.below hb3
                  have bH := XH.out.below hb3
                  have bL := XL.out.below hb3
                  have HB2 := Aside0.mk (below_step HB.out hb3)
                  have HB12 := Aside0.mk (below_step HB1.out hb3)
                  have HB22 := Aside0.mk (below_step HBB.out hb3)
                  have HB3 := Aside0.mk hb3
                  clear HB HB1 HBB XE rE kE fE XL rL kL fL XH rH kH fH hb3
                  have HB := HB2
                  have HB1 := HB12
                  have HBB := HB22
                  clear HB2 HB12 HB22
                  have XE := Aside0.mk bE; have rE := bE.cell; have fE := bE.frozen; have kE := bE.lt; clear bE
                  have XH := Aside0.mk bH; have rH := bH.cell; have fH := bH.frozen; have kH := bH.lt; clear bH
                  have XL := Aside0.mk bL; have rL := bL.cell; have fL := bL.frozen; have kL := bL.lt; clear bL
                  rcases Nat.lt_or_ge z 3 with hlt3 | hge3
                  · obtain ⟨kk, hkk⟩ : ∃ kk : Int, (#[.int .i64 x0, .int .i64 x1, .int .i64 x2] : Array Value)[z]? = some (.int .i64 kk) := by
                      have hv : z = 0 ∨ z = 1 ∨ z = 2 := by omega
                      rcases hv with rfl | rfl | rfl
                      · exact ⟨x0, rfl⟩
                      · exact ⟨x1, rfl⟩
                      · exact ⟨x2, rfl⟩
                    have hcz := (rE z).trans hkk
                    clear XE rE kE fE hkk
                    go_upto_region 15 with (fail)
                    clear HB
                    have HB := HB3
                    have HG := HG3
                    rcases Bool.eq_false_or_eq_true (mayP ch pl kk) with hmy | hmy
                    · have HM := Aside0.mk hmy
                      have hfe := (mayP_iff ch pl kk).1 hmy
                      have hbb := block_bd pl kk hfe.2.1 hfe.2.2
                      clear hmy hfe
                      go_wp2_with fail
                      refine (Nets_C ch pl kk _ HM.out hpl ?hG).mono ?_
                      case hG => exact HG.out.below (by repeat (first | exact HB.out | apply below_alloc | apply pw_below_drewN | apply below_drew1 | refine below_set ?_ (by first | omega | (simp; omega))))
                      rintro e w5 ⟨A1, m1, rfl, hc, hb_⟩
                      have YH : Box w5 (wh) _ _ := Box.below (by repeat (with_reducible first | exact XH.out | exact Box.new | exact Box.new1 | exact Box.new2 | exact Box.new3 | apply Box.alloc | apply Box.drew | apply Box.drewN | apply Box.set)) hb_
                      (try clear XH rH kH fH); have XH := Aside0.mk YH; have rH := YH.cell; have fH := YH.frozen; have kH := YH.lt; clear YH
                      have YL : Box w5 (wl) _ _ := Box.below (by repeat (with_reducible first | exact XL.out | exact Box.new | exact Box.new1 | exact Box.new2 | exact Box.new3 | apply Box.alloc | apply Box.drew | apply Box.drewN | apply Box.set)) hb_
                      (try clear XL rL kL fL); have XL := Aside0.mk YL; have rL := YL.cell; have fL := YL.frozen; have kL := YL.lt; clear YL
                      have n_ := Aside0.mk (below_step (by repeat (first | exact HB.out | apply below_alloc | apply pw_below_drewN | apply below_drew1 | refine below_set ?_ (by first | omega | (simp; omega)))) hb_); clear HB hb_; have HB := n_; clear n_
                      have C1 := Aside0.mk hc
                      clear hc
                      go_wp2_with fail
                      refine (RNets_C ch pl kk _ HM.out hpl).mono ?_
                      rintro e w6 ⟨A2, m2, rfl, hc, -, hb_⟩
                      have YH : Box w6 (wh) _ _ := Box.below (by repeat (with_reducible first | exact XH.out | exact Box.new | exact Box.new1 | exact Box.new2 | exact Box.new3 | apply Box.alloc | apply Box.drew | apply Box.drewN | apply Box.set)) hb_
                      (try clear XH rH kH fH); have XH := Aside0.mk YH; have rH := YH.cell; have fH := YH.frozen; have kH := YH.lt; clear YH
                      have YL : Box w6 (wl) _ _ := Box.below (by repeat (with_reducible first | exact XL.out | exact Box.new | exact Box.new1 | exact Box.new2 | exact Box.new3 | apply Box.alloc | apply Box.drew | apply Box.drewN | apply Box.set)) hb_
                      (try clear XL rL kL fL); have XL := Aside0.mk YL; have rL := YL.cell; have fL := YL.frozen; have kL := YL.lt; clear YL
                      have YA : Box w6 (w5.heap.size) _ _ := Box.below (by repeat (with_reducible first | exact XA.out | exact Box.new | exact Box.new1 | exact Box.new2 | exact Box.new3 | apply Box.alloc | apply Box.drew | apply Box.drewN | apply Box.set)) hb_
                      (try clear XA rA kA fA); have XA := Aside0.mk YA; have rA := YA.cell; have fA := YA.frozen; have kA := YA.lt; clear YA
                      have ZC1 := Aside0.mk (Kd.C_below (by repeat (with_reducible first | exact C1.out | apply C_alloc)) hb_); clear C1; have C1 := ZC1; clear ZC1
                      have n_ := Aside0.mk (below_step (by repeat (first | exact HB.out | apply below_alloc | apply pw_below_drewN | apply below_drew1 | refine below_set ?_ (by first | omega | (simp; omega)))) hb_); clear HB hb_; have HB := n_; clear n_
                      have C2 := Aside0.mk hc
                      clear hc
                      generalize onList (onP ch.su (firstP ch pl (blockP pl kk)) pl.ke) 64 = xl at *
                      go_wp2_with fail
                      refine (Next_yes ch pl kk _ HM.out hpl ?hG).mono ?_
                      case hG => exact HG.out.below (by repeat (first | exact HB.out | apply below_alloc | apply pw_below_drewN | apply below_drew1 | refine below_set ?_ (by first | omega | (simp; omega))))
                      rintro e w7 ⟨rfl, hb_⟩
                      have YH : Box w7 (wh) _ _ := Box.below (by repeat (with_reducible first | exact XH.out | exact Box.new | exact Box.new1 | exact Box.new2 | exact Box.new3 | apply Box.alloc | apply Box.drew | apply Box.drewN | apply Box.set)) hb_
                      (try clear XH rH kH fH); have XH := Aside0.mk YH; have rH := YH.cell; have fH := YH.frozen; have kH := YH.lt; clear YH
                      have YL : Box w7 (wl) _ _ := Box.below (by repeat (with_reducible first | exact XL.out | exact Box.new | exact Box.new1 | exact Box.new2 | exact Box.new3 | apply Box.alloc | apply Box.drew | apply Box.drewN | apply Box.set)) hb_
                      (try clear XL rL kL fL); have XL := Aside0.mk YL; have rL := YL.cell; have fL := YL.frozen; have kL := YL.lt; clear YL
                      have YA : Box w7 (w5.heap.size) _ _ := Box.below (by repeat (with_reducible first | exact XA.out | exact Box.new | exact Box.new1 | exact Box.new2 | exact Box.new3 | apply Box.alloc | apply Box.drew | apply Box.drewN | apply Box.set)) hb_
                      (try clear XA rA kA fA); have XA := Aside0.mk YA; have rA := YA.cell; have fA := YA.frozen; have kA := YA.lt; clear YA
                      have YB : Box w7 (w6.heap.size) _ _ := Box.below (by repeat (with_reducible first | exact XB.out | exact Box.new | exact Box.new1 | exact Box.new2 | exact Box.new3 | apply Box.alloc | apply Box.drew | apply Box.drewN | apply Box.set)) hb_
                      (try clear XB rB kB fB); have XB := Aside0.mk YB; have rB := YB.cell; have fB := YB.frozen; have kB := YB.lt; clear YB
                      have ZC1 := Aside0.mk (Kd.C_below (by repeat (with_reducible first | exact C1.out | apply C_alloc)) hb_); clear C1; have C1 := ZC1; clear ZC1
                      have ZC2 := Aside0.mk (Kd.C_below (by repeat (with_reducible first | exact C2.out | apply C_alloc)) hb_); clear C2; have C2 := ZC2; clear ZC2
                      have n_ := Aside0.mk (below_step (by repeat (first | exact HB.out | apply below_alloc | apply pw_below_drewN | apply below_drew1 | refine below_set ?_ (by first | omega | (simp; omega)))) hb_); clear HB hb_; have HB := n_; clear n_
                      go_wp2_with fail
                      refine (RNext_yes ch pl kk _ HM.out hpl).mono ?_
                      rintro e w8 ⟨rfl, hb_⟩
                      have YH : Box w8 (wh) _ _ := Box.below (by repeat (with_reducible first | exact XH.out | exact Box.new | exact Box.new1 | exact Box.new2 | exact Box.new3 | apply Box.alloc | apply Box.drew | apply Box.drewN | apply Box.set)) hb_
                      (try clear XH rH kH fH); have XH := Aside0.mk YH; have rH := YH.cell; have fH := YH.frozen; have kH := YH.lt; clear YH
                      have YL : Box w8 (wl) _ _ := Box.below (by repeat (with_reducible first | exact XL.out | exact Box.new | exact Box.new1 | exact Box.new2 | exact Box.new3 | apply Box.alloc | apply Box.drew | apply Box.drewN | apply Box.set)) hb_
                      (try clear XL rL kL fL); have XL := Aside0.mk YL; have rL := YL.cell; have fL := YL.frozen; have kL := YL.lt; clear YL
                      have YA : Box w8 (w5.heap.size) _ _ := Box.below (by repeat (with_reducible first | exact XA.out | exact Box.new | exact Box.new1 | exact Box.new2 | exact Box.new3 | apply Box.alloc | apply Box.drew | apply Box.drewN | apply Box.set)) hb_
                      (try clear XA rA kA fA); have XA := Aside0.mk YA; have rA := YA.cell; have fA := YA.frozen; have kA := YA.lt; clear YA
                      have YB : Box w8 (w6.heap.size) _ _ := Box.below (by repeat (with_reducible first | exact XB.out | exact Box.new | exact Box.new1 | exact Box.new2 | exact Box.new3 | apply Box.alloc | apply Box.drew | apply Box.drewN | apply Box.set)) hb_
                      (try clear XB rB kB fB); have XB := Aside0.mk YB; have rB := YB.cell; have fB := YB.frozen; have kB := YB.lt; clear YB
                      have ZC1 := Aside0.mk (Kd.C_below (by repeat (with_reducible first | exact C1.out | apply C_alloc)) hb_); clear C1; have C1 := ZC1; clear ZC1
                      have ZC2 := Aside0.mk (Kd.C_below (by repeat (with_reducible first | exact C2.out | apply C_alloc)) hb_); clear C2; have C2 := ZC2; clear ZC2
                      have n_ := Aside0.mk (below_step (by repeat (first | exact HB.out | apply below_alloc | apply pw_below_drewN | apply below_drew1 | refine below_set ?_ (by first | omega | (simp; omega)))) hb_); clear HB hb_; have HB := n_; clear n_
                      generalize nextP pl kk = nx at *
                      go_wp2_with fail
                      refine (Record_yes ch pl kk u _ HM.out hpl ?hG).mono ?_
                      case hG => exact HG.out.below (by repeat (first | exact HB.out | apply below_alloc | apply pw_below_drewN | apply below_drew1 | refine below_set ?_ (by first | omega | (simp; omega))))
                      rintro e w9 ⟨rfl, hb_⟩
                      have YH : Box w9 (wh) _ _ := Box.below (by repeat (with_reducible first | exact XH.out | exact Box.new | exact Box.new1 | exact Box.new2 | exact Box.new3 | apply Box.alloc | apply Box.drew | apply Box.drewN | apply Box.set)) hb_
                      (try clear XH rH kH fH); have XH := Aside0.mk YH; have rH := YH.cell; have fH := YH.frozen; have kH := YH.lt; clear YH
                      have YL : Box w9 (wl) _ _ := Box.below (by repeat (with_reducible first | exact XL.out | exact Box.new | exact Box.new1 | exact Box.new2 | exact Box.new3 | apply Box.alloc | apply Box.drew | apply Box.drewN | apply Box.set)) hb_
                      (try clear XL rL kL fL); have XL := Aside0.mk YL; have rL := YL.cell; have fL := YL.frozen; have kL := YL.lt; clear YL
                      have YA : Box w9 (w5.heap.size) _ _ := Box.below (by repeat (with_reducible first | exact XA.out | exact Box.new | exact Box.new1 | exact Box.new2 | exact Box.new3 | apply Box.alloc | apply Box.drew | apply Box.drewN | apply Box.set)) hb_
                      (try clear XA rA kA fA); have XA := Aside0.mk YA; have rA := YA.cell; have fA := YA.frozen; have kA := YA.lt; clear YA
                      have YB : Box w9 (w6.heap.size) _ _ := Box.below (by repeat (with_reducible first | exact XB.out | exact Box.new | exact Box.new1 | exact Box.new2 | exact Box.new3 | apply Box.alloc | apply Box.drew | apply Box.drewN | apply Box.set)) hb_
                      (try clear XB rB kB fB); have XB := Aside0.mk YB; have rB := YB.cell; have fB := YB.frozen; have kB := YB.lt; clear YB
                      have ZC1 := Aside0.mk (Kd.C_below (by repeat (with_reducible first | exact C1.out | apply C_alloc)) hb_); clear C1; have C1 := ZC1; clear ZC1
                      have ZC2 := Aside0.mk (Kd.C_below (by repeat (with_reducible first | exact C2.out | apply C_alloc)) hb_); clear C2; have C2 := ZC2; clear ZC2
                      have n_ := Aside0.mk (below_step (by repeat (first | exact HB.out | apply below_alloc | apply pw_below_drewN | apply below_drew1 | refine below_set ?_ (by first | omega | (simp; omega)))) hb_); clear HB hb_; have HB := n_; clear n_
                      go_wp2_with fail
                      refine (RRecord_yes ch pl kk u hu _ HM.out hpl).mono ?_
                      rintro e w10 ⟨rfl, hb_⟩
                      have YA : Box w10 (w5.heap.size) _ _ := Box.below (by repeat (with_reducible first | exact XA.out | exact Box.new | exact Box.new1 | exact Box.new2 | exact Box.new3 | apply Box.alloc | apply Box.drew | apply Box.drewN | apply Box.set)) hb_
                      (try clear XA rA kA fA); have XA := Aside0.mk YA; have rA := YA.cell; have fA := YA.frozen; have kA := YA.lt; clear YA
                      have YB : Box w10 (w6.heap.size) _ _ := Box.below (by repeat (with_reducible first | exact XB.out | exact Box.new | exact Box.new1 | exact Box.new2 | exact Box.new3 | apply Box.alloc | apply Box.drew | apply Box.drewN | apply Box.set)) hb_
                      (try clear XB rB kB fB); have XB := Aside0.mk YB; have rB := YB.cell; have fB := YB.frozen; have kB := YB.lt; clear YB
                      have YR : Box w10 (w9.heap.size) _ _ := Box.below (by repeat (with_reducible first | exact XR.out | exact Box.new | exact Box.new1 | exact Box.new2 | exact Box.new3 | apply Box.alloc | apply Box.drew | apply Box.drewN | apply Box.set)) hb_
                      (try clear XR rR kR fR); have XR := Aside0.mk YR; have rR := YR.cell; have fR := YR.frozen; have kR := YR.lt; clear YR
                      have ZC1 := Aside0.mk (Kd.C_below (by repeat (with_reducible first | exact C1.out | apply C_alloc)) hb_); clear C1; have C1 := ZC1; clear ZC1
                      have ZC2 := Aside0.mk (Kd.C_below (by repeat (with_reducible first | exact C2.out | apply C_alloc)) hb_); clear C2; have C2 := ZC2; clear ZC2
                      have n_ := Aside0.mk (below_step (by repeat (first | exact HB.out | apply below_alloc | apply pw_below_drewN | apply below_drew1 | refine below_set ?_ (by first | omega | (simp; omega)))) hb_); clear HB hb_; have HB := n_; clear n_
                      generalize onBits (onP ch.su (firstP ch pl (blockP pl kk)) pl.ke) 64 = xb at *
                      generalize blockP pl kk = bl at *
                      have hS := Same_calls ch.su ch.su A1 A2 xl.length xl.length m1 m2 xl xl (w10.alloc (.cells #[.int .u64 (bl + 1), .int .u64 xb, .int .u64 (plainF u)] 44)) (C_alloc C1.out) (C_alloc C2.out)
                      rw [decide_eq_true ⟨rfl, rfl⟩] at hS
                      have HS := Aside0.mk hS
                      clear hS
                      go_wp2_with fail
                      refine (HS.out).mono ?_
                      rintro e w11 ⟨rfl, hb_⟩
                      have YR : Box w11 (w9.heap.size) _ _ := Box.below (by repeat (with_reducible first | exact XR.out | exact Box.new | exact Box.new1 | exact Box.new2 | exact Box.new3 | apply Box.alloc | apply Box.drew | apply Box.drewN | apply Box.set)) hb_
                      (try clear XR rR kR fR); have XR := Aside0.mk YR; have rR := YR.cell; have fR := YR.frozen; have kR := YR.lt; clear YR
                      have YS : Box w11 (w10.heap.size) _ _ := Box.below (by repeat (with_reducible first | exact XS.out | exact Box.new | exact Box.new1 | exact Box.new2 | exact Box.new3 | apply Box.alloc | apply Box.drew | apply Box.drewN | apply Box.set)) hb_
                      (try clear XS rS kS fS); have XS := Aside0.mk YS; have rS := YS.cell; have fS := YS.frozen; have kS := YS.lt; clear YS
                      have n_ := Aside0.mk (below_step (by repeat (first | exact HB.out | apply below_alloc | apply pw_below_drewN | apply below_drew1 | refine below_set ?_ (by first | omega | (simp; omega)))) hb_); clear HB hb_; have HB := n_; clear n_
                      go_wp2
                      go_roundw
                      case rel => exact ⟨z + 1, by omega, by go_num, HB.out⟩
                      case measure => simp [intOf]; omega
                    · have HM := Aside0.mk hmy
                      clear hmy
                      go_wp2_with fail
                      refine (Nets_no ch pl kk _ HM.out ?hG).mono ?_
                      case hG => exact HG.out.below (by repeat (first | exact HB.out | apply below_alloc | apply pw_below_drewN | apply below_drew1 | refine below_set ?_ (by first | omega | (simp; omega))))
                      rintro e w5 ⟨rfl, hb_⟩
                      have YH : Box w5 (wh) _ _ := Box.below (by repeat (with_reducible first | exact XH.out | exact Box.new | exact Box.new1 | exact Box.new2 | exact Box.new3 | apply Box.alloc | apply Box.drew | apply Box.drewN | apply Box.set)) hb_
                      (try clear XH rH kH fH); have XH := Aside0.mk YH; have rH := YH.cell; have fH := YH.frozen; have kH := YH.lt; clear YH
                      have YL : Box w5 (wl) _ _ := Box.below (by repeat (with_reducible first | exact XL.out | exact Box.new | exact Box.new1 | exact Box.new2 | exact Box.new3 | apply Box.alloc | apply Box.drew | apply Box.drewN | apply Box.set)) hb_
                      (try clear XL rL kL fL); have XL := Aside0.mk YL; have rL := YL.cell; have fL := YL.frozen; have kL := YL.lt; clear YL
                      have n_ := Aside0.mk (below_step (by repeat (first | exact HB.out | apply below_alloc | apply pw_below_drewN | apply below_drew1 | refine below_set ?_ (by first | omega | (simp; omega)))) hb_); clear HB hb_; have HB := n_; clear n_
                      go_wp2_with fail
                      refine (RNets_no ch pl kk _ HM.out).mono ?_
                      rintro e w6 ⟨rfl, hb_⟩
                      have YH : Box w6 (wh) _ _ := Box.below (by repeat (with_reducible first | exact XH.out | exact Box.new | exact Box.new1 | exact Box.new2 | exact Box.new3 | apply Box.alloc | apply Box.drew | apply Box.drewN | apply Box.set)) hb_
                      (try clear XH rH kH fH); have XH := Aside0.mk YH; have rH := YH.cell; have fH := YH.frozen; have kH := YH.lt; clear YH
                      have YL : Box w6 (wl) _ _ := Box.below (by repeat (with_reducible first | exact XL.out | exact Box.new | exact Box.new1 | exact Box.new2 | exact Box.new3 | apply Box.alloc | apply Box.drew | apply Box.drewN | apply Box.set)) hb_
                      (try clear XL rL kL fL); have XL := Aside0.mk YL; have rL := YL.cell; have fL := YL.frozen; have kL := YL.lt; clear YL
                      have YA : Box w6 (w5.heap.size) _ _ := Box.below (by repeat (with_reducible first | exact XA.out | exact Box.new | exact Box.new1 | exact Box.new2 | exact Box.new3 | apply Box.alloc | apply Box.drew | apply Box.drewN | apply Box.set)) hb_
                      (try clear XA rA kA fA); have XA := Aside0.mk YA; have rA := YA.cell; have fA := YA.frozen; have kA := YA.lt; clear YA
                      have n_ := Aside0.mk (below_step (by repeat (first | exact HB.out | apply below_alloc | apply pw_below_drewN | apply below_drew1 | refine below_set ?_ (by first | omega | (simp; omega)))) hb_); clear HB hb_; have HB := n_; clear n_
                      go_wp2_with fail
                      refine (Next_no ch pl kk _ HM.out ?hG).mono ?_
                      case hG => exact HG.out.below (by repeat (first | exact HB.out | apply below_alloc | apply pw_below_drewN | apply below_drew1 | refine below_set ?_ (by first | omega | (simp; omega))))
                      rintro e w7 ⟨rfl, hb_⟩
                      have YH : Box w7 (wh) _ _ := Box.below (by repeat (with_reducible first | exact XH.out | exact Box.new | exact Box.new1 | exact Box.new2 | exact Box.new3 | apply Box.alloc | apply Box.drew | apply Box.drewN | apply Box.set)) hb_
                      (try clear XH rH kH fH); have XH := Aside0.mk YH; have rH := YH.cell; have fH := YH.frozen; have kH := YH.lt; clear YH
                      have YL : Box w7 (wl) _ _ := Box.below (by repeat (with_reducible first | exact XL.out | exact Box.new | exact Box.new1 | exact Box.new2 | exact Box.new3 | apply Box.alloc | apply Box.drew | apply Box.drewN | apply Box.set)) hb_
                      (try clear XL rL kL fL); have XL := Aside0.mk YL; have rL := YL.cell; have fL := YL.frozen; have kL := YL.lt; clear YL
                      have YA : Box w7 (w5.heap.size) _ _ := Box.below (by repeat (with_reducible first | exact XA.out | exact Box.new | exact Box.new1 | exact Box.new2 | exact Box.new3 | apply Box.alloc | apply Box.drew | apply Box.drewN | apply Box.set)) hb_
                      (try clear XA rA kA fA); have XA := Aside0.mk YA; have rA := YA.cell; have fA := YA.frozen; have kA := YA.lt; clear YA
                      have YB : Box w7 (w6.heap.size) _ _ := Box.below (by repeat (with_reducible first | exact XB.out | exact Box.new | exact Box.new1 | exact Box.new2 | exact Box.new3 | apply Box.alloc | apply Box.drew | apply Box.drewN | apply Box.set)) hb_
                      (try clear XB rB kB fB); have XB := Aside0.mk YB; have rB := YB.cell; have fB := YB.frozen; have kB := YB.lt; clear YB
                      have n_ := Aside0.mk (below_step (by repeat (first | exact HB.out | apply below_alloc | apply pw_below_drewN | apply below_drew1 | refine below_set ?_ (by first | omega | (simp; omega)))) hb_); clear HB hb_; have HB := n_; clear n_
                      go_wp2_with fail
                      refine (RNext_no ch pl kk _ HM.out).mono ?_
                      rintro e w8 ⟨rfl, hb_⟩
                      have YH : Box w8 (wh) _ _ := Box.below (by repeat (with_reducible first | exact XH.out | exact Box.new | exact Box.new1 | exact Box.new2 | exact Box.new3 | apply Box.alloc | apply Box.drew | apply Box.drewN | apply Box.set)) hb_
                      (try clear XH rH kH fH); have XH := Aside0.mk YH; have rH := YH.cell; have fH := YH.frozen; have kH := YH.lt; clear YH
                      have YL : Box w8 (wl) _ _ := Box.below (by repeat (with_reducible first | exact XL.out | exact Box.new | exact Box.new1 | exact Box.new2 | exact Box.new3 | apply Box.alloc | apply Box.drew | apply Box.drewN | apply Box.set)) hb_
                      (try clear XL rL kL fL); have XL := Aside0.mk YL; have rL := YL.cell; have fL := YL.frozen; have kL := YL.lt; clear YL
                      have YA : Box w8 (w5.heap.size) _ _ := Box.below (by repeat (with_reducible first | exact XA.out | exact Box.new | exact Box.new1 | exact Box.new2 | exact Box.new3 | apply Box.alloc | apply Box.drew | apply Box.drewN | apply Box.set)) hb_
                      (try clear XA rA kA fA); have XA := Aside0.mk YA; have rA := YA.cell; have fA := YA.frozen; have kA := YA.lt; clear YA
                      have YB : Box w8 (w6.heap.size) _ _ := Box.below (by repeat (with_reducible first | exact XB.out | exact Box.new | exact Box.new1 | exact Box.new2 | exact Box.new3 | apply Box.alloc | apply Box.drew | apply Box.drewN | apply Box.set)) hb_
                      (try clear XB rB kB fB); have XB := Aside0.mk YB; have rB := YB.cell; have fB := YB.frozen; have kB := YB.lt; clear YB
                      have n_ := Aside0.mk (below_step (by repeat (first | exact HB.out | apply below_alloc | apply pw_below_drewN | apply below_drew1 | refine below_set ?_ (by first | omega | (simp; omega)))) hb_); clear HB hb_; have HB := n_; clear n_
                      go_wp2_with fail
                      refine (Record_no ch pl kk u _ HM.out ?hG).mono ?_
                      case hG => exact HG.out.below (by repeat (first | exact HB.out | apply below_alloc | apply pw_below_drewN | apply below_drew1 | refine below_set ?_ (by first | omega | (simp; omega))))
                      rintro e w9 ⟨rfl, hb_⟩
                      have YH : Box w9 (wh) _ _ := Box.below (by repeat (with_reducible first | exact XH.out | exact Box.new | exact Box.new1 | exact Box.new2 | exact Box.new3 | apply Box.alloc | apply Box.drew | apply Box.drewN | apply Box.set)) hb_
                      (try clear XH rH kH fH); have XH := Aside0.mk YH; have rH := YH.cell; have fH := YH.frozen; have kH := YH.lt; clear YH
                      have YL : Box w9 (wl) _ _ := Box.below (by repeat (with_reducible first | exact XL.out | exact Box.new | exact Box.new1 | exact Box.new2 | exact Box.new3 | apply Box.alloc | apply Box.drew | apply Box.drewN | apply Box.set)) hb_
                      (try clear XL rL kL fL); have XL := Aside0.mk YL; have rL := YL.cell; have fL := YL.frozen; have kL := YL.lt; clear YL
                      have YA : Box w9 (w5.heap.size) _ _ := Box.below (by repeat (with_reducible first | exact XA.out | exact Box.new | exact Box.new1 | exact Box.new2 | exact Box.new3 | apply Box.alloc | apply Box.drew | apply Box.drewN | apply Box.set)) hb_
                      (try clear XA rA kA fA); have XA := Aside0.mk YA; have rA := YA.cell; have fA := YA.frozen; have kA := YA.lt; clear YA
                      have YB : Box w9 (w6.heap.size) _ _ := Box.below (by repeat (with_reducible first | exact XB.out | exact Box.new | exact Box.new1 | exact Box.new2 | exact Box.new3 | apply Box.alloc | apply Box.drew | apply Box.drewN | apply Box.set)) hb_
                      (try clear XB rB kB fB); have XB := Aside0.mk YB; have rB := YB.cell; have fB := YB.frozen; have kB := YB.lt; clear YB
                      have n_ := Aside0.mk (below_step (by repeat (first | exact HB.out | apply below_alloc | apply pw_below_drewN | apply below_drew1 | refine below_set ?_ (by first | omega | (simp; omega)))) hb_); clear HB hb_; have HB := n_; clear n_
                      go_wp2_with fail
                      refine (RRecord_no ch pl kk u _ HM.out).mono ?_
                      rintro e w10 ⟨rfl, hb_⟩
                      have YA : Box w10 (w5.heap.size) _ _ := Box.below (by repeat (with_reducible first | exact XA.out | exact Box.new | exact Box.new1 | exact Box.new2 | exact Box.new3 | apply Box.alloc | apply Box.drew | apply Box.drewN | apply Box.set)) hb_
                      (try clear XA rA kA fA); have XA := Aside0.mk YA; have rA := YA.cell; have fA := YA.frozen; have kA := YA.lt; clear YA
                      have YB : Box w10 (w6.heap.size) _ _ := Box.below (by repeat (with_reducible first | exact XB.out | exact Box.new | exact Box.new1 | exact Box.new2 | exact Box.new3 | apply Box.alloc | apply Box.drew | apply Box.drewN | apply Box.set)) hb_
                      (try clear XB rB kB fB); have XB := Aside0.mk YB; have rB := YB.cell; have fB := YB.frozen; have kB := YB.lt; clear YB
                      have YR : Box w10 (w9.heap.size) _ _ := Box.below (by repeat (with_reducible first | exact XR.out | exact Box.new | exact Box.new1 | exact Box.new2 | exact Box.new3 | apply Box.alloc | apply Box.drew | apply Box.drewN | apply Box.set)) hb_
                      (try clear XR rR kR fR); have XR := Aside0.mk YR; have rR := YR.cell; have fR := YR.frozen; have kR := YR.lt; clear YR
                      have n_ := Aside0.mk (below_step (by repeat (first | exact HB.out | apply below_alloc | apply pw_below_drewN | apply below_drew1 | refine below_set ?_ (by first | omega | (simp; omega)))) hb_); clear HB hb_; have HB := n_; clear n_
                      have hS := Same_calls 0 0 none none 0 0 0 0 [] [] (w10.alloc (.cells #[.int .u64 0, .int .u64 0, .int .u64 0] 44)) (C_nil _) (C_nil _)
                      rw [decide_eq_true ⟨rfl, rfl⟩] at hS
                      have HS := Aside0.mk hS
                      clear hS
                      go_wp2_with fail
                      refine (HS.out).mono ?_
                      rintro e w11 ⟨rfl, hb_⟩
                      have YR : Box w11 (w9.heap.size) _ _ := Box.below (by repeat (with_reducible first | exact XR.out | exact Box.new | exact Box.new1 | exact Box.new2 | exact Box.new3 | apply Box.alloc | apply Box.drew | apply Box.drewN | apply Box.set)) hb_
                      (try clear XR rR kR fR); have XR := Aside0.mk YR; have rR := YR.cell; have fR := YR.frozen; have kR := YR.lt; clear YR
                      have YS : Box w11 (w10.heap.size) _ _ := Box.below (by repeat (with_reducible first | exact XS.out | exact Box.new | exact Box.new1 | exact Box.new2 | exact Box.new3 | apply Box.alloc | apply Box.drew | apply Box.drewN | apply Box.set)) hb_
                      (try clear XS rS kS fS); have XS := Aside0.mk YS; have rS := YS.cell; have fS := YS.frozen; have kS := YS.lt; clear YS
                      have n_ := Aside0.mk (below_step (by repeat (first | exact HB.out | apply below_alloc | apply pw_below_drewN | apply below_drew1 | refine below_set ?_ (by first | omega | (simp; omega)))) hb_); clear HB hb_; have HB := n_; clear n_
                      go_wp2
                      go_roundw
                      case rel => exact ⟨z + 1, by omega, by go_num, HB.out⟩
                      case measure => simp [intOf]; omega
                  · obtain rfl : z = 3 := by omega
                    go_wp2
                    go_roundw
                    case rel => exact ⟨j + 1, by omega, by go_num, HBB.out⟩
                    case measure => simp [intOf]; omega
            · obtain rfl : j = 4 := by omega
              go_wp2
              go_roundw
              case rel => exact ⟨i + 1, by omega, by go_num, HB1.out⟩
              case measure => simp [intOf]; omega
      · obtain rfl : i = 2 := by omega
        go_wp2
        go_ret
        exact ⟨rfl, HB.out⟩

set_option maxRecDepth 100000 in
theorem schedTells_lifted (os : Os) (started : os.Started) (H : Type) (enc : TypeId × Value → H) :
    ReturnsInHanded {} Tryd.checked os 3 .any (fun w args => (Rows.schedTellsSpec.pre enc Tryd.prog Tryd.f3 [] false w args ∧ laidMetH Tryd.prog [("mootbell/clock.bounds", Rows.laid_mootbell_clock_bounds), ("mootbell/churn.sum", Rows.laid_mootbell_churn_sum)] w) ∧ sizedMet enc Tryd.prog Tryd.f3 (OpenSpec.ofChange Rows.schedTellsSpec) false w args)
      (Rows.schedTellsSpec.post enc Tryd.prog Tryd.f3 false true false false) := by
  refine returnsInHanded_of_change_and (C := Tryd.checked) (X := fun w _ => laidMetH Tryd.prog [("mootbell/clock.bounds", Rows.laid_mootbell_clock_bounds), ("mootbell/churn.sum", Rows.laid_mootbell_churn_sum)] w) (fun _ _ _ hh h => h.of_heap hh) own started (by kernel_rfl) Tryd.func3
    (ChangeSpec.witness_shaped (enc := enc) (C := Tryd.checked) (os := os) (X := fun w _ => laidMetH Tryd.prog [("mootbell/clock.bounds", Rows.laid_mootbell_clock_bounds), ("mootbell/churn.sum", Rows.laid_mootbell_churn_sum)] w) false (World.doorLaid Tryd.prog 400 os) #[.agg #[.int .i64 0, .int .i64 0, .int .i64 0, .int .i64 0, .int .i64 0, .int .i64 0, .int .i64 0, .int .i64 0, .int .i64 0, .int .u64 0], .agg #[.int .u64 0, .int .i64 0, .int .i64 0], .agg #[.int .i64 0, .int .i64 0, .int .i64 0, .int .i64 0, .int .i64 0, .int .i64 0], .int .u64 0, .int .i64 0, .int .i64 0, .int .i64 0, .int .u64 0] 8 rfl (World.shaped_of_RefB (by kernel_rfl) (by kernel_rfl)) (by kernel_rfl) (by kernel_rfl) (by kernel_rfl) (door_met os _)) ?_
  intro W base args ds gs before hval0 hW hcnd hsz0 hL _
  have hsz : (DataW.weightsEach Tryd.prog (Tryd.f3.params.toList ++ Rows.schedTellsSpec.plain.varTypes Tryd.prog) (ds ++ gs)).all (· ≤ reachBytes) = true := hsz0
  have hval : ∀ (j : Nat) t v, Tryd.f3.params[j]? = some t → args[j]? = some v → Value.okWide Tryd.prog W .any base t v := hval0
  have hW' := hW
  obtain ⟨p, q, hA0, hV, rfl, hfz, hnd⟩ := hW
  have hA : DataW.TrodAll enc Tryd.prog W 0 (fun _ => true) true Tryd.f3.params.toList args.toList ds p := hA0
  have hAll := hA
  rw [Tryd.params3] at hA hval hsz
  obtain ⟨v0, vs0, d0, ds0, p0, q0, hargs, rfl, rfl, h0, r0⟩ := trodAll_cons hA
  obtain ⟨v1, vs1, d1, ds1, p1, q1, rfl, rfl, rfl, h1, r1⟩ := trodAll_cons r0
  obtain ⟨v2, vs2, d2, ds2, p2, q2, rfl, rfl, rfl, h2, r2⟩ := trodAll_cons r1
  obtain ⟨v3, vs3, d3, ds3, p3, q3, rfl, rfl, rfl, h3, r3⟩ := trodAll_cons r2
  obtain ⟨v4, vs4, d4, ds4, p4, q4, rfl, rfl, rfl, h4, r4⟩ := trodAll_cons r3
  obtain ⟨v5, vs5, d5, ds5, p5, q5, rfl, rfl, rfl, h5, r5⟩ := trodAll_cons r4
  obtain ⟨v6, vs6, d6, ds6, p6, q6, rfl, rfl, rfl, h6, r6⟩ := trodAll_cons r5
  obtain ⟨v7, vs7, d7, ds7, p7, q7, rfl, rfl, rfl, h7, r7⟩ := trodAll_cons r6
  obtain ⟨rfl, rfl, rfl⟩ := trodAll_nil r7
  obtain rfl : args = #[v0, v1, v2, v3, v4, v5, v6, v7] := by cases args; simp_all
  obtain ⟨rfl, rfl⟩ := trodVars_none hV
  have hlt := trodAll_lt hAll
  obtain ⟨ch, rfl, -⟩ := chain_came (hval 0 24 v0 rfl rfl)
  obtain ⟨pl, rfl, hpl⟩ := plan_came (hval 1 26 v1 rfl rfl)
  obtain ⟨n, rfl⟩ := six_came (hval 2 27 v2 rfl rfl)
  obtain ⟨s, rfl, rfl, rfl, w3⟩ := open_int Tryd.underlying22 (hval 3 22 v3 rfl rfl) h3
  obtain ⟨k, rfl, rfl, rfl, w4⟩ := open_int Tryd.underlying3 (hval 4 3 v4 rfl rfl) h4
  obtain ⟨q, rfl, rfl, rfl, w5⟩ := open_int Tryd.underlying3 (hval 5 3 v5 rfl rfl) h5
  obtain ⟨x, rfl, rfl, rfl, w6⟩ := open_int Tryd.underlying3 (hval 6 3 v6 rfl rfl) h6
  obtain ⟨l, rfl, rfl, rfl, w7⟩ := open_int Tryd.underlying22 (hval 7 22 v7 rfl rfl) h7
  obtain ⟨l, rfl⟩ := Int.eq_ofNat_of_zero_le (bounds_u64 w7).1
  clear hA0 hval0 hsz0 hsz
  refine (SchedTells_calls ch pl n s k q x l hpl (bounds_u64 w3).1 (bounds_i64 w4) (bounds_i64 w5) (bounds_i64 w6) (by have := (bounds_u64 w7).2; omega) W (laid_two hL)).mono fun e W' ⟨he, bel⟩ => ?_
  subst he
  exact ⟨_, rfl, _, _, _, [], _, [], hW', trodAll_mk1 (shut_bool Tryd.underlying4 _), below_trodAll laidOut bel (by kernel_rfl) hAll hlt, rfl, bel.frame _, fun h => by cases h⟩
theorem schedTells_over : Rows.schedTellsRow.holds Tryd.pinned (OpenSpec.ofChange Rows.schedTellsSpec) :=
  OpenClaim.holds_of_wide 3 Tryd.f3 rfl rfl rfl rfl rfl rfl rfl ⟨rfl, rfl, rfl, rfl, rfl⟩ rfl rfl rfl rfl rfl (by kernel_rfl) Tryd.func3 (by kernel_rfl)
    (of_decide_eq_true (by kernel_rfl)) (by unfold Func.isWrapper; first | (rw [if_pos (by decide +kernel)]; kernel_rfl) | (rw [if_neg (by decide +kernel)]; exact ⟨rfl, rfl⟩))
    (fun os started H enc _ => schedTells_lifted os started H enc)
theorem schedTells_holds : Rows.SchedTellsCardSaid :=
  Claim7.holds_tied_plain_at .later [] [.data, .data] true (true, "0ddeac45a7b70d49f8df9f462b7721ed8eafdaa6662d0bdb8e444e0da0cb2087") false
    schedTells_over (fun _ h => by cases h) (by kernel_rfl) (fun _ h => by cases h) schedTells_row_tie rfl ⟨rfl, rfl⟩ (by kernel_rfl) rfl
    (fun f fn hf hfn => by
      obtain rfl : f = 3 := Option.some.inj ((show Tryd.prog.funcNamed "mootbell/mootbelllaw11.SchedTells" = some 3 by kernel_rfl).symm.trans hf) |>.symm
      obtain rfl : fn = Tryd.f3 := (Option.some.inj (Tryd.func3.symm.trans hfn)).symm
      exact ⟨by kernel_rfl, fun j t ht => by
        have hm : t ∈ Tryd.f3.params.toList := by simpa using Array.mem_of_getElem? ht
        have hall : (Tryd.f3.params.toList.all fun u => !Tryd.prog.wantsStandIn u) = true := by kernel_rfl
        exact (show Tryd.prog.wantsStandIn t = false by simpa using List.all_eq_true.1 hall t hm)⟩)
    (by kernel_rfl)
#print axioms schedTells_holds
end Go.Proofs.YtejfjbfkbdcmnaaDoor
