
/- SchedAll: for every input the call of the statement returns true and leaves its arguments as they were, over the program whose tables lie as its own text lays them (the tied card). Conditions: none beyond the card's own. -/
import Derived.Deep.RegionHeld3
import Derived.Test.YtejfjbfkbdcmnaaDoorCards
import Derived.Test.YtejfjbfkbdcmnaaDoorTie
import Derived.Test.YtejfjbfkbdcmnaaDoorShellD
import Derived.Test.YtejfjbfkbdcmnaaDoorSchedLawBase
import Derived.Test.YtejfjbfkbdcmnaaDoorSchedPure2
import Derived.Test.YtejfjbfkbdcmnaaDoorBitsSub
set_option linter.unusedVariables false
set_option linter.unusedSimpArgs false
namespace Go.Proofs.YtejfjbfkbdcmnaaDoor
open Go.RowKit Go.Proofs.YtejfjbfkbdcmnaaDoorW.PrintWords Go.Proofs.YtejfjbfkbdcmnaaDoorW.PrintLast Go.Proofs.YtejfjbfkbdcmnaaDoorW.PrintMore
open Go.ChangeShapes Go.WideShapes Go.ChangeAt
open Go.ChangeMaps (open_string shut_string)
attribute [local go_sem] max2_int min2_int max_two min_two

theorem Subset_v (la lb : Int) (A B : Option Addr) (n m c d : Nat) (xs ys : List Int) (w : World) (hx : (Kd.int .i64).C w A n xs) (hy : (Kd.int .i64).C w B m ys) (hs : subB la xs lb ys = true) :
    Calls Tryd.prog 24 #[.agg #[.int .i64 la, .slice A n c], .agg #[.int .i64 lb, .slice B m d]] w fun e w' => e = .returned (.bool true) ∧ Below w.heap.size w w' := hs ▸ Subset_calls la lb A B n m c d xs ys w hx hy
theorem sub_onList (F G : Nat → Bool) (s : Int) (h0 : 0 ≤ s) (h1 : s ≤ 64) (hF : ∀ j, F j = true → (j : Int) < s) (hG : ∀ j, G j = true → (j : Int) < s) (h : ∀ j, F j = true → G j = true) : subB s (onList F 64) s (onList G 64) = true := by
  unfold subB alikeB
  rw [right_onList F s 64 h0 (by omega) hF, right_onList G s 64 h0 (by omega) hG, decide_eq_true rfl]
  simp only [Bool.true_and, List.all_eq_true]
  intro x hx
  obtain ⟨j, hj, hf, rfl⟩ := (mem_onList F 64 x).1 hx
  rw [has_onList G s 64 j h0 (by omega) hG hj]
  exact h j hf
theorem onP_mono (s f t u : Int) (h : t ≤ u) (j : Nat) (hj : onP s f t j = true) : onP s f u j = true := by
  rw [onP_iff] at hj ⊢
  omega
theorem chain_su (n : Six) (s : Int) : (chainF n s).su ≤ 15 := by
  unfold chainF
  have := pickF_bd n.d 9 (by omega)
  simp only
  omega
/-- The same plan, another number of subnets. -/
def keepP (p : PlanV) (k : Int) : PlanV := ⟨p.no, k, p.pe⟩
theorem first_keep (c : ChainV) (p : PlanV) (k b : Int) : firstP c (keepP p k) b = firstP c p b := rfl
theorem block_keep (p : PlanV) (k e : Int) : blockP (keepP p k) e = blockP p e := rfl
theorem Nets_K (c : ChainV) (p : PlanV) (k e : Int) (w : World) (h : mayP c (keepP p k) e = true) (hno : 0 ≤ p.no) (hG : DutyLaid w) : Calls Tryd.prog 14 #[.agg #[.int .i64 c.va, .int .i64 c.sl, .int .i64 c.co, .int .i64 c.su, .int .i64 c.ti, .int .i64 c.di, .int .i64 c.ra, .int .i64 c.ro, .int .i64 c.ag, .int .u64 c.se], .agg #[.int .u64 p.no, .int .i64 k, .int .i64 p.pe], .int .i64 e] w fun e' w' =>
    ∃ A mc, e' = .returned (.tuple #[.agg #[.int .i64 c.su, .slice A (onList (onP c.su (firstP c p (blockP p e)) k) 64).length mc], .int .i64 0]) ∧ (Kd.int .i64).C w' A (onList (onP c.su (firstP c p (blockP p e)) k) 64).length (onList (onP c.su (firstP c p (blockP p e)) k) 64) ∧ Below w.heap.size w w' :=
  Nets_C c (keepP p k) e w h hno hG
set_option maxRecDepth 100000 in
set_option maxHeartbeats 8000000 in
theorem SchedAll_calls (n : Six) (node k q x0 : Int) (hno : 0 ≤ node) (hk : i64ok k) (hq : i64ok q) (hx : i64ok x0) (w : World) (hG : DutyLaid w) : Calls Tryd.prog 7 #[.agg #[.int .i64 n.a, .int .i64 n.b, .int .i64 n.c, .int .i64 n.d, .int .i64 n.e, .int .i64 n.f], .int .u64 node, .int .i64 k, .int .i64 q, .int .i64 x0] w fun e w' =>
    e = .returned (.bool true) ∧ Below w.heap.size w w' := by
  obtain ⟨hx0, hx1⟩ := hx
  have HB := Aside0.mk (Below.refl w.heap.size w)
  have HG := Aside0.mk hG
  clear hG
  have HN := Aside0.mk (chainF_fits n 3)
  have HS := Aside0.mk (chain_su n 3)
  have HP := Aside0.mk (planF_fits node k q)
  have hpn : 0 ≤ (planF node k q).no := hno
  have px := pickF_bd x0 1073741824 (by omega)
  have pk := pickF_bd k 50 (by omega)
  have hki := hk
  obtain ⟨hk0, hk1⟩ := hki
  have HK0 := Aside0.mk (show (planF node k q).ke ≤ 11 by have := pickF_bd k 12 (by omega); unfold planF; simp only; omega)
  go_enter Tryd.func7, Tryd.ntmps7
  go_wp2_with fail
  refine (sawake_calls _ ?hG).mono ?_
  case hG => exact HG.out.below (by repeat (first | exact HB.out | apply below_alloc | apply pw_below_drewN | apply below_drew1 | refine below_set ?_ (by first | omega | (simp; omega))))
  rintro e w1 ⟨rfl, hb_⟩
  have YN : Box w1 (w.heap.size) _ _ := Box.below (by repeat (with_reducible first | exact XN.out | exact Box.new | exact Box.new1 | exact Box.new2 | exact Box.new3 | apply Box.alloc | apply Box.drew | apply Box.drewN | apply Box.set)) hb_
  (try clear XN rN kN fN); have XN := Aside0.mk YN; have rN := YN.cell; have fN := YN.frozen; have kN := YN.lt; clear YN
  have n_ := Aside0.mk (below_step (by repeat (first | exact HB.out | apply below_alloc | apply pw_below_drewN | apply below_drew1 | refine below_set ?_ (by first | omega | (simp; omega)))) hb_); clear HB hb_; have HB := n_; clear n_
  go_wp2_with fail
  refine (Chain_calls n 3 _).mono ?_
  rintro e w2 ⟨rfl, hb_⟩
  have n_ := Aside0.mk (below_step (by repeat (first | exact HB.out | apply below_alloc | apply pw_below_drewN | apply below_drew1 | refine below_set ?_ (by first | omega | (simp; omega)))) hb_); clear HB hb_; have HB := n_; clear n_
  generalize chainF n 3 = c at *
  go_wp2_with fail
  refine (Plan_calls node k q hk hq _).mono ?_
  rintro e w3 ⟨rfl, hb_⟩
  have YC : Box w3 (w2.heap.size) _ _ := Box.below (by repeat (with_reducible first | exact XC.out | exact Box.new | exact Box.new1 | exact Box.new2 | exact Box.new3 | apply Box.alloc | apply Box.drew | apply Box.drewN | apply Box.set)) hb_
  (try clear XC rC kC fC); have XC := Aside0.mk YC; have rC := YC.cell; have fC := YC.frozen; have kC := YC.lt; clear YC
  have n_ := Aside0.mk (below_step (by repeat (first | exact HB.out | apply below_alloc | apply pw_below_drewN | apply below_drew1 | refine below_set ?_ (by first | omega | (simp; omega)))) hb_); clear HB hb_; have HB := n_; clear n_
  have hpp : fitsP (planF node k q) = true := HP.out
  generalize planF node k q = p at *
  obtain ⟨p1, p2⟩ := (fitsP_iff p).1 hpp
  obtain ⟨g1, g2, g3, g4, g5, g6, g7, g8, g9⟩ := (fitsC_iff c).1 HN.out
  go_upto_region 6 with (go_at_call 13; ((with_reducible refine (pick11_calls _ _ _ (by omega) (by omega) (by omega) (by omega)).mono ?_)); rintro e w_ ⟨rfl, rfl⟩)
  generalize pickF x0 1073741824 = x at *
  have kC3 := kC
  obtain ⟨W0, hW0⟩ : ∃ W, w3.alloc (.cells #[.int .u64 p.no, .int .i64 p.ke, .int .i64 p.pe] 26) = W := ⟨_, rfl⟩
  have hz0 : W0.heap.size = w3.heap.size + 1 := by rw [← hW0, size_alloc]
  rw [hW0]
  have bP0 : Box W0 w3.heap.size #[.int .u64 p.no, .int .i64 p.ke, .int .i64 p.pe] 26 := hW0 ▸ Box.new
  have bC0 : Box W0 w2.heap.size #[.int .i64 c.va, .int .i64 c.sl, .int .i64 c.co, .int .i64 c.su, .int .i64 c.ti, .int .i64 c.di, .int .i64 c.ra, .int .i64 c.ro, .int .i64 c.ag, .int .u64 c.se] 24 := hW0 ▸ XC.out.alloc
  have hbl0 : Below w.heap.size w W0 := hW0 ▸ below_alloc HB.out _
  obtain ⟨W, hW⟩ : ∃ W, W0.alloc (.cells #[.int .u64 p.no, .int .i64 p.ke, .int .i64 p.pe] 26) = W := ⟨_, rfl⟩
  rw [hW]
  have bP : Box W w3.heap.size #[.int .u64 p.no, .int .i64 p.ke, .int .i64 p.pe] 26 := hW ▸ bP0.alloc
  have bA : Box W (w3.heap.size + 1) #[.int .u64 p.no, .int .i64 p.ke, .int .i64 p.pe] 26 := by rw [← hz0]; exact hW ▸ Box.new
  have bC : Box W w2.heap.size #[.int .i64 c.va, .int .i64 c.sl, .int .i64 c.co, .int .i64 c.su, .int .i64 c.ti, .int .i64 c.di, .int .i64 c.ra, .int .i64 c.ro, .int .i64 c.ag, .int .u64 c.se] 24 := hW ▸ bC0.alloc
  have b0_ : Below W0.heap.size W0 W := hW ▸ below_alloc (Below.refl _ _) _
  have kC0 := bC0.lt
  have kP0 := bP0.lt
  clear hW hW0 HB XC rC kC fC bC0 bP0
  have HB := Aside0.mk hbl0
  clear hbl0
  have XC := Aside0.mk bC; have rC := bC.cell; have fC := bC.frozen; have kC := bC.lt; clear bC
  have XP := Aside0.mk bP; have rP := bP.cell; have fP := bP.frozen; have kP := bP.lt; clear bP
  have XA := Aside0.mk bA; have rA := bA.cell; have fA := bA.frozen; have kA := bA.lt; clear bA
  have kCs := kC
  have kPs := kP
  have kC := kC0
  have kP := kP0
  have hsk : (c.su + pickF k 50) ≤ 64 := by have := HS.out; omega
  have z3 := HB.out.size
  go_region_held3 (fun w' => Below W0.heap.size W0 w' ∧ (∀ j, w'.cell? ⟨w2.heap.size, j, none⟩ = (#[.int .i64 c.va, .int .i64 c.sl, .int .i64 c.co, .int .i64 c.su, .int .i64 c.ti, .int .i64 c.di, .int .i64 c.ra, .int .i64 c.ro, .int .i64 c.ag, .int .u64 c.se] : Array Value)[j]?) ∧ (∀ j, w'.cell? ⟨w3.heap.size, j, none⟩ = (#[.int .u64 p.no, .int .i64 p.ke, .int .i64 p.pe] : Array Value)[j]?)) (first | exact ⟨below_drew1 (Below.refl _ _), rC, rP⟩ | exact ⟨below_drew1 b0_, rC, rP⟩ | exact ⟨j0, jC, jP⟩ | exact ⟨below_alloc j0 _, fun j => (cell_alloc_old (Nat.lt_of_lt_of_le kC j0.size)).trans (jC j), fun j => (cell_alloc_old (Nat.lt_of_lt_of_le kP j0.size)).trans (jP j)⟩ | exact ⟨below_alloc (below_drew1 (Below.refl _ _)) _, fun j => (cell_alloc_old kC).trans (rC j), fun j => (cell_alloc_old kP).trans (rP j)⟩ | exact ⟨below_set (below_alloc j0 _) (by first | omega | (simp only; omega)), fun j => (cell_far (by first | omega | (simp only; omega))).trans ((cell_alloc_old (Nat.lt_of_lt_of_le kC j0.size)).trans (jC j)), fun j => (cell_far (by first | omega | (simp only; omega))).trans ((cell_alloc_old (Nat.lt_of_lt_of_le kP j0.size)).trans (jP j))⟩ | exact ⟨below_set (j0) (by first | omega | (simp only; omega)), fun j => (cell_far (by first | omega | (simp only; omega))).trans ((jC j)), fun j => (cell_far (by first | omega | (simp only; omega))).trans ((jP j))⟩ | exact ⟨below_set (below_set (below_alloc j0 _) (by first | omega | (simp only; omega))) (by first | omega | (simp only; omega)), fun j => (cell_far (by first | omega | (simp only; omega))).trans ((cell_far (by first | omega | (simp only; omega))).trans ((cell_alloc_old (Nat.lt_of_lt_of_le kC j0.size)).trans (jC j))), fun j => (cell_far (by first | omega | (simp only; omega))).trans ((cell_far (by first | omega | (simp only; omega))).trans ((cell_alloc_old (Nat.lt_of_lt_of_le kP j0.size)).trans (jP j)))⟩ | exact ⟨below_set (below_set (j0) (by first | omega | (simp only; omega))) (by first | omega | (simp only; omega)), fun j => (cell_far (by first | omega | (simp only; omega))).trans ((cell_far (by first | omega | (simp only; omega))).trans ((jC j))), fun j => (cell_far (by first | omega | (simp only; omega))).trans ((cell_far (by first | omega | (simp only; omega))).trans ((jP j)))⟩ | exact ⟨below_set (below_set (below_set (below_alloc j0 _) (by first | omega | (simp only; omega))) (by first | omega | (simp only; omega))) (by first | omega | (simp only; omega)), fun j => (cell_far (by first | omega | (simp only; omega))).trans ((cell_far (by first | omega | (simp only; omega))).trans ((cell_far (by first | omega | (simp only; omega))).trans ((cell_alloc_old (Nat.lt_of_lt_of_le kC j0.size)).trans (jC j)))), fun j => (cell_far (by first | omega | (simp only; omega))).trans ((cell_far (by first | omega | (simp only; omega))).trans ((cell_far (by first | omega | (simp only; omega))).trans ((cell_alloc_old (Nat.lt_of_lt_of_le kP j0.size)).trans (jP j))))⟩ | exact ⟨below_set (below_set (below_set (j0) (by first | omega | (simp only; omega))) (by first | omega | (simp only; omega))) (by first | omega | (simp only; omega)), fun j => (cell_far (by first | omega | (simp only; omega))).trans ((cell_far (by first | omega | (simp only; omega))).trans ((cell_far (by first | omega | (simp only; omega))).trans ((jC j)))), fun j => (cell_far (by first | omega | (simp only; omega))).trans ((cell_far (by first | omega | (simp only; omega))).trans ((cell_far (by first | omega | (simp only; omega))).trans ((jP j))))⟩ | assumption) (first | (go_at_call 13; obtain ⟨g0, gC, gP⟩ := ‹Below W0.heap.size W0 _ ∧ _›; ((with_reducible refine (pickB11 k 50 _ hk0 hk1 (by omega) (by omega)).mono ?_));  rintro e w5 ⟨rfl, hb_⟩; have j0 := below_step g0 hb_; have s5 := j0.size; have jC := fun j => (hb_.cell (p := ⟨w2.heap.size, j, none⟩) (Nat.lt_of_lt_of_le kC g0.size)).trans (gC j); have jP := fun j => (hb_.cell (p := ⟨w3.heap.size, j, none⟩) (Nat.lt_of_lt_of_le kP g0.size)).trans (gP j); have bq5 : Box w5 (w3.heap.size + 1) #[.int .u64 p.no, .int .i64 p.ke, .int .i64 p.pe] 26 := Box.below (Box.drew XA.out) hb_; have rq5 := bq5.cell; have fq5 := bq5.frozen))
  rw [show IntKind.i64.wrap (c.su + pickF k 50) = c.su + pickF k 50 from IntWalk.i64_in _ (by omega)]
  generalize hV : World.setCell _ _ _ = V
  have hs5 := j0.size
  have bC5 : Box w5 w2.heap.size #[.int .i64 c.va, .int .i64 c.sl, .int .i64 c.co, .int .i64 c.su, .int .i64 c.ti, .int .i64 c.di, .int .i64 c.ra, .int .i64 c.ro, .int .i64 c.ag, .int .u64 c.se] 24 := (Box.drew XC.out).below hb_
  have bP5 : Box w5 w3.heap.size #[.int .u64 p.no, .int .i64 p.ke, .int .i64 p.pe] 26 := (Box.drew XP.out).below hb_
  have bC : Box V w2.heap.size #[.int .i64 c.va, .int .i64 c.sl, .int .i64 c.co, .int .i64 c.su, .int .i64 c.ti, .int .i64 c.di, .int .i64 c.ra, .int .i64 c.ro, .int .i64 c.ag, .int .u64 c.se] 24 := hV ▸ bC5.far (by simp only; omega)
  have bP : Box V w3.heap.size #[.int .u64 p.no, .int .i64 p.ke, .int .i64 p.pe] 26 := hV ▸ bP5.far (by simp only; omega)
  have bA : Box V (w3.heap.size + 1) #[.int .u64 p.no, .int .i64 (c.su + pickF k 50), .int .i64 p.pe] 26 := hV ▸ Box.put bq5
  have hblV : Below w.heap.size w V := hV ▸ below_set (below_step HB.out j0) (by omega)
  clear hV HB XC rC fC XP rP fP XA rA fA kA bq5 rq5 fq5 bC5 bP5 j0 jC jP kC kP hb_
  have HB := Aside0.mk hblV
  clear hblV
  have XC := Aside0.mk bC; have rC := bC.cell; have fC := bC.frozen; have kC := bC.lt; clear bC
  have XP := Aside0.mk bP; have rP := bP.cell; have fP := bP.frozen; have kP := bP.lt; clear bP
  have XA := Aside0.mk bA; have rA := bA.cell; have fA := bA.frozen; have kA := bA.lt; clear bA
  obtain ⟨f1, f2, f3, f4⟩ := first_bd c p (blockP p x) HN.out
  have HM1 := Aside0.mk ((mayP_iff c (keepP p (c.su + pickF k 50)) x).2 ⟨HN.out, (fitsP_iff _).2 (by unfold keepP; simp only; omega), by omega⟩)
  have HM2 := Aside0.mk ((mayP_iff c (keepP p 0) x).2 ⟨HN.out, (fitsP_iff _).2 (by unfold keepP; simp only; omega), by omega⟩)
  have HM3 := Aside0.mk ((mayP_iff c (keepP p p.ke) x).2 ⟨HN.out, (fitsP_iff _).2 (by unfold keepP; simp only; omega), by omega⟩)
  have HM4 := Aside0.mk ((mayP_iff c (keepP p (p.ke + 1)) x).2 ⟨HN.out, (fitsP_iff _).2 (by have := HK0.out; unfold keepP; simp only; omega), by omega⟩)
  have kV := HB.out.size
  go_wp2_with fail
  refine (Nets_K c p (c.su + pickF k 50) x _ HM1.out hpn ?hG).mono ?_
  case hG => exact HG.out.below (by repeat (first | exact HB.out | apply below_alloc | apply pw_below_drewN | apply below_drew1 | refine below_set ?_ (by first | omega | (simp; omega))))
  rintro e w6 ⟨A1, m1, rfl, hc, hb_⟩
  have YC : Box w6 (w2.heap.size) _ _ := Box.below (by repeat (with_reducible first | exact XC.out | exact Box.new | exact Box.new1 | exact Box.new2 | exact Box.new3 | apply Box.alloc | apply Box.drew | apply Box.drewN | apply Box.set)) hb_
  (try clear XC rC kC fC); have XC := Aside0.mk YC; have rC := YC.cell; have fC := YC.frozen; have kC := YC.lt; clear YC
  have YP : Box w6 (w3.heap.size) _ _ := Box.below (by repeat (with_reducible first | exact XP.out | exact Box.new | exact Box.new1 | exact Box.new2 | exact Box.new3 | apply Box.alloc | apply Box.drew | apply Box.drewN | apply Box.set)) hb_
  (try clear XP rP kP fP); have XP := Aside0.mk YP; have rP := YP.cell; have fP := YP.frozen; have kP := YP.lt; clear YP
  have YN : Box w6 (V.heap.size) _ _ := Box.below (by repeat (with_reducible first | exact XN.out | exact Box.new | exact Box.new1 | exact Box.new2 | exact Box.new3 | apply Box.alloc | apply Box.drew | apply Box.drewN | apply Box.set)) hb_
  (try clear XN rN kN fN); have XN := Aside0.mk YN; have rN := YN.cell; have fN := YN.frozen; have kN := YN.lt; clear YN
  have YM : Box w6 (V.heap.size + 1) _ _ := Box.below (by repeat (with_reducible first | exact XM.out | exact Box.new | exact Box.new1 | exact Box.new2 | exact Box.new3 | apply Box.alloc | apply Box.drew | apply Box.drewN | apply Box.set)) hb_
  (try clear XM rM kM fM); have XM := Aside0.mk YM; have rM := YM.cell; have fM := YM.frozen; have kM := YM.lt; clear YM
  have n_ := Aside0.mk (below_step (by repeat (first | exact HB.out | apply below_alloc | apply pw_below_drewN | apply below_drew1 | refine below_set ?_ (by first | omega | (simp; omega)))) hb_); clear HB hb_; have HB := n_; clear n_
  have C1 := Aside0.mk hc
  clear hc
  go_wp2_with fail
  refine (Nets_K c p 0 x _ HM2.out hpn ?hG).mono ?_
  case hG => exact HG.out.below (by repeat (first | exact HB.out | apply below_alloc | apply pw_below_drewN | apply below_drew1 | refine below_set ?_ (by first | omega | (simp; omega))))
  rintro e w7 ⟨A2, m2, rfl, hc, hb_⟩
  have YC : Box w7 (w2.heap.size) _ _ := Box.below (by repeat (with_reducible first | exact XC.out | exact Box.new | exact Box.new1 | exact Box.new2 | exact Box.new3 | apply Box.alloc | apply Box.drew | apply Box.drewN | apply Box.set)) hb_
  (try clear XC rC kC fC); have XC := Aside0.mk YC; have rC := YC.cell; have fC := YC.frozen; have kC := YC.lt; clear YC
  have YP : Box w7 (w3.heap.size) _ _ := Box.below (by repeat (with_reducible first | exact XP.out | exact Box.new | exact Box.new1 | exact Box.new2 | exact Box.new3 | apply Box.alloc | apply Box.drew | apply Box.drewN | apply Box.set)) hb_
  (try clear XP rP kP fP); have XP := Aside0.mk YP; have rP := YP.cell; have fP := YP.frozen; have kP := YP.lt; clear YP
  have YM : Box w7 (V.heap.size + 1) _ _ := Box.below (by repeat (with_reducible first | exact XM.out | exact Box.new | exact Box.new1 | exact Box.new2 | exact Box.new3 | apply Box.alloc | apply Box.drew | apply Box.drewN | apply Box.set)) hb_
  (try clear XM rM kM fM); have XM := Aside0.mk YM; have rM := YM.cell; have fM := YM.frozen; have kM := YM.lt; clear YM
  have Y1 : Box w7 (w6.heap.size) _ _ := Box.below (by repeat (with_reducible first | exact X1.out | exact Box.new | exact Box.new1 | exact Box.new2 | exact Box.new3 | apply Box.alloc | apply Box.drew | apply Box.drewN | apply Box.set)) hb_
  (try clear X1 r1 k1 f1); have X1 := Aside0.mk Y1; have r1 := Y1.cell; have f1 := Y1.frozen; have k1 := Y1.lt; clear Y1
  have ZC1 := Aside0.mk (Kd.C_below (by repeat (with_reducible first | exact C1.out | apply C_alloc)) hb_); clear C1; have C1 := ZC1; clear ZC1
  have n_ := Aside0.mk (below_step (by repeat (first | exact HB.out | apply below_alloc | apply pw_below_drewN | apply below_drew1 | refine below_set ?_ (by first | omega | (simp; omega)))) hb_); clear HB hb_; have HB := n_; clear n_
  have C2 := Aside0.mk hc
  clear hc
  go_wp2_with fail
  refine (Nets_K c p p.ke x _ HM3.out hpn ?hG).mono ?_
  case hG => exact HG.out.below (by repeat (first | exact HB.out | apply below_alloc | apply pw_below_drewN | apply below_drew1 | refine below_set ?_ (by first | omega | (simp; omega))))
  rintro e w8 ⟨A3, m3, rfl, hc, hb_⟩
  have YC : Box w8 (w2.heap.size) _ _ := Box.below (by repeat (with_reducible first | exact XC.out | exact Box.new | exact Box.new1 | exact Box.new2 | exact Box.new3 | apply Box.alloc | apply Box.drew | apply Box.drewN | apply Box.set)) hb_
  (try clear XC rC kC fC); have XC := Aside0.mk YC; have rC := YC.cell; have fC := YC.frozen; have kC := YC.lt; clear YC
  have YM : Box w8 (V.heap.size + 1) _ _ := Box.below (by repeat (with_reducible first | exact XM.out | exact Box.new | exact Box.new1 | exact Box.new2 | exact Box.new3 | apply Box.alloc | apply Box.drew | apply Box.drewN | apply Box.set)) hb_
  (try clear XM rM kM fM); have XM := Aside0.mk YM; have rM := YM.cell; have fM := YM.frozen; have kM := YM.lt; clear YM
  have Y1 : Box w8 (w6.heap.size) _ _ := Box.below (by repeat (with_reducible first | exact X1.out | exact Box.new | exact Box.new1 | exact Box.new2 | exact Box.new3 | apply Box.alloc | apply Box.drew | apply Box.drewN | apply Box.set)) hb_
  (try clear X1 r1 k1 f1); have X1 := Aside0.mk Y1; have r1 := Y1.cell; have f1 := Y1.frozen; have k1 := Y1.lt; clear Y1
  have Y2 : Box w8 (w7.heap.size) _ _ := Box.below (by repeat (with_reducible first | exact X2.out | exact Box.new | exact Box.new1 | exact Box.new2 | exact Box.new3 | apply Box.alloc | apply Box.drew | apply Box.drewN | apply Box.set)) hb_
  (try clear X2 r2 k2 f2); have X2 := Aside0.mk Y2; have r2 := Y2.cell; have f2 := Y2.frozen; have k2 := Y2.lt; clear Y2
  have ZC1 := Aside0.mk (Kd.C_below (by repeat (with_reducible first | exact C1.out | apply C_alloc)) hb_); clear C1; have C1 := ZC1; clear ZC1
  have ZC2 := Aside0.mk (Kd.C_below (by repeat (with_reducible first | exact C2.out | apply C_alloc)) hb_); clear C2; have C2 := ZC2; clear ZC2
  have n_ := Aside0.mk (below_step (by repeat (first | exact HB.out | apply below_alloc | apply pw_below_drewN | apply below_drew1 | refine below_set ?_ (by first | omega | (simp; omega)))) hb_); clear HB hb_; have HB := n_; clear n_
  have C3 := Aside0.mk hc
  clear hc
  go_wp2_with fail
  refine (Nets_K c p (p.ke + 1) x _ HM4.out hpn ?hG).mono ?_
  case hG => exact HG.out.below (by repeat (first | exact HB.out | apply below_alloc | apply pw_below_drewN | apply below_drew1 | refine below_set ?_ (by first | omega | (simp; omega))))
  rintro e w9 ⟨A4, m4, rfl, hc, hb_⟩
  have YC : Box w9 (w2.heap.size) _ _ := Box.below (by repeat (with_reducible first | exact XC.out | exact Box.new | exact Box.new1 | exact Box.new2 | exact Box.new3 | apply Box.alloc | apply Box.drew | apply Box.drewN | apply Box.set)) hb_
  (try clear XC rC kC fC); have XC := Aside0.mk YC; have rC := YC.cell; have fC := YC.frozen; have kC := YC.lt; clear YC
  have Y1 : Box w9 (w6.heap.size) _ _ := Box.below (by repeat (with_reducible first | exact X1.out | exact Box.new | exact Box.new1 | exact Box.new2 | exact Box.new3 | apply Box.alloc | apply Box.drew | apply Box.drewN | apply Box.set)) hb_
  (try clear X1 r1 k1 f1); have X1 := Aside0.mk Y1; have r1 := Y1.cell; have f1 := Y1.frozen; have k1 := Y1.lt; clear Y1
  have Y2 : Box w9 (w7.heap.size) _ _ := Box.below (by repeat (with_reducible first | exact X2.out | exact Box.new | exact Box.new1 | exact Box.new2 | exact Box.new3 | apply Box.alloc | apply Box.drew | apply Box.drewN | apply Box.set)) hb_
  (try clear X2 r2 k2 f2); have X2 := Aside0.mk Y2; have r2 := Y2.cell; have f2 := Y2.frozen; have k2 := Y2.lt; clear Y2
  have Y3 : Box w9 (w8.heap.size) _ _ := Box.below (by repeat (with_reducible first | exact X3.out | exact Box.new | exact Box.new1 | exact Box.new2 | exact Box.new3 | apply Box.alloc | apply Box.drew | apply Box.drewN | apply Box.set)) hb_
  (try clear X3 r3 k3 f3); have X3 := Aside0.mk Y3; have r3 := Y3.cell; have f3 := Y3.frozen; have k3 := Y3.lt; clear Y3
  have ZC1 := Aside0.mk (Kd.C_below (by repeat (with_reducible first | exact C1.out | apply C_alloc)) hb_); clear C1; have C1 := ZC1; clear ZC1
  have ZC2 := Aside0.mk (Kd.C_below (by repeat (with_reducible first | exact C2.out | apply C_alloc)) hb_); clear C2; have C2 := ZC2; clear ZC2
  have ZC3 := Aside0.mk (Kd.C_below (by repeat (with_reducible first | exact C3.out | apply C_alloc)) hb_); clear C3; have C3 := ZC3; clear ZC3
  have n_ := Aside0.mk (below_step (by repeat (first | exact HB.out | apply below_alloc | apply pw_below_drewN | apply below_drew1 | refine below_set ?_ (by first | omega | (simp; omega)))) hb_); clear HB hb_; have HB := n_; clear n_
  have C4 := Aside0.mk hc
  clear hc
  generalize firstP c p (blockP p x) = f at *
  have hl1 := onP_len c.su f (c.su + pickF k 50) ⟨f3, f4⟩ g4.2 (by omega)
  have hl2 := onP_len c.su f 0 ⟨f3, f4⟩ g4.2 (by omega)
  have hl3 := onP_len c.su f p.ke ⟨f3, f4⟩ g4.2 (by omega)
  have hl4 := onP_len c.su f (p.ke + 1) ⟨f3, f4⟩ g4.2 (by omega)
  have HS1 := Aside0.mk (sub_onList (onP c.su f p.ke) (onP c.su f (p.ke + 1)) c.su (by omega) g4.2 (fun j hj => onP_lt _ _ _ _ hj) (fun j hj => onP_lt _ _ _ _ hj) (fun j hj => onP_mono _ _ _ _ (by omega) j hj))
  have HS2 := Aside0.mk (sub_onList (onP c.su f (p.ke + 1)) (onP c.su f (c.su + pickF k 50)) c.su (by omega) g4.2 (fun j hj => onP_lt _ _ _ _ hj) (fun j hj => onP_lt _ _ _ _ hj) (fun j hj => by
    have hj2 := onP_lt _ _ _ _ hj
    rw [onP_all c.su f (c.su + pickF k 50) (by omega) (by omega)]
    exact decide_eq_true hj2))
  generalize onList (onP c.su f (c.su + pickF k 50)) 64 = l1 at *
  generalize onList (onP c.su f 0) 64 = l2 at *
  generalize onList (onP c.su f p.ke) 64 = l3 at *
  generalize onList (onP c.su f (p.ke + 1)) 64 = l4 at *
  generalize l1.length = n1 at *
  generalize l2.length = n2 at *
  generalize l3.length = n3 at *
  generalize l4.length = n4 at *
  have e1 : (n1 : Int) = c.su := by rw [hl1]; split <;> omega
  obtain rfl : n2 = 0 := by
    rw [if_neg (by omega)] at hl2
    omega
  have e4 : (if c.su < (n3 : Int) + 1 then c.su else (n3 : Int) + 1) = (n4 : Int) := by
    rw [hl3, hl4]
    (repeat' split) <;> omega
  have hn3 : (n3 : Int) ≤ 64 := by rw [hl3]; split <;> omega
  clear hl1 hl2 hl3 hl4
  go_wp2_with fail
  refine (Subset_v c.su c.su A3 A4 n3 n4 m3 m4 l3 l4 _ ?h1 ?h2 HS1.out).mono ?_
  (case h1 => exact C_alloc C3.out); (case h2 => exact C_alloc C4.out)
  rintro e w10 ⟨rfl, hb_⟩
  have YC : Box w10 (w2.heap.size) _ _ := Box.below (by repeat (with_reducible first | exact XC.out | exact Box.new | exact Box.new1 | exact Box.new2 | exact Box.new3 | apply Box.alloc | apply Box.drew | apply Box.drewN | apply Box.set)) hb_
  (try clear XC rC kC fC); have XC := Aside0.mk YC; have rC := YC.cell; have fC := YC.frozen; have kC := YC.lt; clear YC
  have Y1 : Box w10 (w6.heap.size) _ _ := Box.below (by repeat (with_reducible first | exact X1.out | exact Box.new | exact Box.new1 | exact Box.new2 | exact Box.new3 | apply Box.alloc | apply Box.drew | apply Box.drewN | apply Box.set)) hb_
  (try clear X1 r1 k1 f1); have X1 := Aside0.mk Y1; have r1 := Y1.cell; have f1 := Y1.frozen; have k1 := Y1.lt; clear Y1
  have Y3 : Box w10 (w8.heap.size) _ _ := Box.below (by repeat (with_reducible first | exact X3.out | exact Box.new | exact Box.new1 | exact Box.new2 | exact Box.new3 | apply Box.alloc | apply Box.drew | apply Box.drewN | apply Box.set)) hb_
  (try clear X3 r3 k3 f3); have X3 := Aside0.mk Y3; have r3 := Y3.cell; have f3 := Y3.frozen; have k3 := Y3.lt; clear Y3
  have Y4 : Box w10 (w9.heap.size) _ _ := Box.below (by repeat (with_reducible first | exact X4.out | exact Box.new | exact Box.new1 | exact Box.new2 | exact Box.new3 | apply Box.alloc | apply Box.drew | apply Box.drewN | apply Box.set)) hb_
  (try clear X4 r4 k4 f4); have X4 := Aside0.mk Y4; have r4 := Y4.cell; have f4 := Y4.frozen; have k4 := Y4.lt; clear Y4
  have ZC1 := Aside0.mk (Kd.C_below (by repeat (with_reducible first | exact C1.out | apply C_alloc)) hb_); clear C1; have C1 := ZC1; clear ZC1
  have ZC4 := Aside0.mk (Kd.C_below (by repeat (with_reducible first | exact C4.out | apply C_alloc)) hb_); clear C4; have C4 := ZC4; clear ZC4
  have n_ := Aside0.mk (below_step (by repeat (first | exact HB.out | apply below_alloc | apply pw_below_drewN | apply below_drew1 | refine below_set ?_ (by first | omega | (simp; omega)))) hb_); clear HB hb_; have HB := n_; clear n_
  go_wp2_with fail
  refine (Subset_v c.su c.su A4 A1 n4 n1 m4 m1 l4 l1 _ C4.out C1.out HS2.out).mono ?_
  rintro e w11 ⟨rfl, hb_⟩
  have n_ := Aside0.mk (below_step (by repeat (first | exact HB.out | apply below_alloc | apply pw_below_drewN | apply below_drew1 | refine below_set ?_ (by first | omega | (simp; omega)))) hb_); clear HB hb_; have HB := n_; clear n_
  go_wp2
  go_ret
  exact ⟨rfl, HB.out⟩

set_option maxRecDepth 100000 in
theorem schedAll_lifted (os : Os) (started : os.Started) (H : Type) (enc : TypeId × Value → H) :
    ReturnsInHanded {} Tryd.checked os 7 .any (fun w args => (Rows.schedAllSpec.pre enc Tryd.prog Tryd.f7 [] false w args ∧ laidMetH Tryd.prog [("mootbell/clock.bounds", Rows.laid_mootbell_clock_bounds), ("mootbell/churn.sum", Rows.laid_mootbell_churn_sum)] w) ∧ sizedMet enc Tryd.prog Tryd.f7 (OpenSpec.ofChange Rows.schedAllSpec) false w args)
      (Rows.schedAllSpec.post enc Tryd.prog Tryd.f7 false true false false) := by
  refine returnsInHanded_of_change_and (C := Tryd.checked) (X := fun w _ => laidMetH Tryd.prog [("mootbell/clock.bounds", Rows.laid_mootbell_clock_bounds), ("mootbell/churn.sum", Rows.laid_mootbell_churn_sum)] w) (fun _ _ _ hh h => h.of_heap hh) own started (by kernel_rfl) Tryd.func7
    (ChangeSpec.witness_shaped (enc := enc) (C := Tryd.checked) (os := os) (X := fun w _ => laidMetH Tryd.prog [("mootbell/clock.bounds", Rows.laid_mootbell_clock_bounds), ("mootbell/churn.sum", Rows.laid_mootbell_churn_sum)] w) false (World.doorLaid Tryd.prog 400 os) #[.agg #[.int .i64 0, .int .i64 0, .int .i64 0, .int .i64 0, .int .i64 0, .int .i64 0], .int .u64 0, .int .i64 0, .int .i64 0, .int .i64 0] 8 rfl (World.shaped_of_RefB (by kernel_rfl) (by kernel_rfl)) (by kernel_rfl) (by kernel_rfl) (by kernel_rfl) (door_met os _)) ?_
  intro W base args ds gs before hval0 hW hcnd hsz0 hL _
  have hsz : (DataW.weightsEach Tryd.prog (Tryd.f7.params.toList ++ Rows.schedAllSpec.plain.varTypes Tryd.prog) (ds ++ gs)).all (· ≤ reachBytes) = true := hsz0
  have hval : ∀ (j : Nat) t v, Tryd.f7.params[j]? = some t → args[j]? = some v → Value.okWide Tryd.prog W .any base t v := hval0
  have hW' := hW
  obtain ⟨p, q, hA0, hV, rfl, hfz, hnd⟩ := hW
  have hA : DataW.TrodAll enc Tryd.prog W 0 (fun _ => true) true Tryd.f7.params.toList args.toList ds p := hA0
  have hAll := hA
  rw [Tryd.params7] at hA hval hsz
  obtain ⟨v0, vs0, d0, ds0, p0, q0, hargs, rfl, rfl, h0, r0⟩ := trodAll_cons hA
  obtain ⟨v1, vs1, d1, ds1, p1, q1, rfl, rfl, rfl, h1, r1⟩ := trodAll_cons r0
  obtain ⟨v2, vs2, d2, ds2, p2, q2, rfl, rfl, rfl, h2, r2⟩ := trodAll_cons r1
  obtain ⟨v3, vs3, d3, ds3, p3, q3, rfl, rfl, rfl, h3, r3⟩ := trodAll_cons r2
  obtain ⟨v4, vs4, d4, ds4, p4, q4, rfl, rfl, rfl, h4, r4⟩ := trodAll_cons r3
  obtain ⟨rfl, rfl, rfl⟩ := trodAll_nil r4
  obtain rfl : args = #[v0, v1, v2, v3, v4] := by cases args; simp_all
  obtain ⟨rfl, rfl⟩ := trodVars_none hV
  have hlt := trodAll_lt hAll
  obtain ⟨n, rfl⟩ := six_came (hval 0 27 v0 rfl rfl)
  obtain ⟨s, rfl, rfl, rfl, w1⟩ := open_int Tryd.underlying22 (hval 1 22 v1 rfl rfl) h1
  obtain ⟨k, rfl, rfl, rfl, w2⟩ := open_int Tryd.underlying3 (hval 2 3 v2 rfl rfl) h2
  obtain ⟨q, rfl, rfl, rfl, w3⟩ := open_int Tryd.underlying3 (hval 3 3 v3 rfl rfl) h3
  obtain ⟨x, rfl, rfl, rfl, w4⟩ := open_int Tryd.underlying3 (hval 4 3 v4 rfl rfl) h4
  clear hA0 hval0 hsz0 hsz
  refine (SchedAll_calls n s k q x (bounds_u64 w1).1 (bounds_i64 w2) (bounds_i64 w3) (bounds_i64 w4) W (laid_two hL)).mono fun e W' ⟨he, bel⟩ => ?_
  subst he
  exact ⟨_, rfl, _, _, _, [], _, [], hW', trodAll_mk1 (shut_bool Tryd.underlying4 _), below_trodAll laidOut bel (by kernel_rfl) hAll hlt, rfl, bel.frame _, fun h => by cases h⟩
theorem schedAll_over : Rows.schedAllRow.holds Tryd.pinned (OpenSpec.ofChange Rows.schedAllSpec) :=
  OpenClaim.holds_of_wide 7 Tryd.f7 rfl rfl rfl rfl rfl rfl rfl ⟨rfl, rfl, rfl, rfl, rfl⟩ rfl rfl rfl rfl rfl (by kernel_rfl) Tryd.func7 (by kernel_rfl)
    (of_decide_eq_true (by kernel_rfl)) (by unfold Func.isWrapper; first | (rw [if_pos (by decide +kernel)]; kernel_rfl) | (rw [if_neg (by decide +kernel)]; exact ⟨rfl, rfl⟩))
    (fun os started H enc _ => schedAll_lifted os started H enc)
theorem schedAll_holds : Rows.SchedAllCardSaid :=
  Claim7.holds_tied_plain_at .later [] [.data, .data] true (true, "0ddeac45a7b70d49f8df9f462b7721ed8eafdaa6662d0bdb8e444e0da0cb2087") false
    schedAll_over (fun _ h => by cases h) (by kernel_rfl) (fun _ h => by cases h) schedAll_row_tie rfl ⟨rfl, rfl⟩ (by kernel_rfl) rfl
    (fun f fn hf hfn => by
      obtain rfl : f = 7 := Option.some.inj ((show Tryd.prog.funcNamed "mootbell/mootbelllaw11.SchedAll" = some 7 by kernel_rfl).symm.trans hf) |>.symm
      obtain rfl : fn = Tryd.f7 := (Option.some.inj (Tryd.func7.symm.trans hfn)).symm
      exact ⟨by kernel_rfl, fun j t ht => by
        have hm : t ∈ Tryd.f7.params.toList := by simpa using Array.mem_of_getElem? ht
        have hall : (Tryd.f7.params.toList.all fun u => !Tryd.prog.wantsStandIn u) = true := by kernel_rfl
        exact (show Tryd.prog.wantsStandIn t = false by simpa using List.all_eq_true.1 hall t hm)⟩)
    (by kernel_rfl)
#print axioms schedAll_holds
end Go.Proofs.YtejfjbfkbdcmnaaDoor
