
/- What the document's own answer (mootbellref11) tells of subnets. -/
import Derived.StillTailTactics
import Derived.Deep.RegionHeld3
import Derived.Test.YtejfjbfkbdcmnaaDoorSchedRef
set_option linter.unusedVariables false
set_option linter.unusedSimpArgs false
namespace Go.Proofs.YtejfjbfkbdcmnaaDoor
open Go.RowKit Go.Proofs.YtejfjbfkbdcmnaaDoorW.PrintWords Go.Proofs.YtejfjbfkbdcmnaaDoorW.PrintLast Go.Proofs.YtejfjbfkbdcmnaaDoorW.PrintMore

theorem on_ref (s f t : Int) (h : 0 ≤ f ∧ f < s) (k : Nat) (hk : (k : Int) < s) : ((k : Int) - f + s).tmod s = ((k : Int) - f) % s := by
  rw [Int.tmod_eq_emod_of_nonneg (by omega)]
  have := Int.add_mul_emod_self_right ((k : Int) - f) 1 s
  rwa [Int.one_mul] at this
theorem onList_more (F : Nat → Bool) (s : Int) (h : ∀ j, F j = true → (j : Int) < s) (k m : Nat) (hk : s ≤ (k : Int)) (hm : k ≤ m) : onList F m = onList F k := by
  induction m with
  | zero => rw [show k = 0 by omega]
  | succ m ih =>
    rcases Nat.lt_or_ge m k with h1 | h1
    · rw [show k = m + 1 by omega]
    · rw [onList_succ, if_neg (fun hf => by have := h m hf; omega)]
      exact ih h1
set_option maxRecDepth 100000 in
set_option maxHeartbeats 4000000 in
theorem RNets_yes (c : ChainV) (p : PlanV) (e : Int) (w : World) (h : mayP c p e = true) (hno : 0 ≤ p.no) : Calls Tryd.prog 15 #[.agg #[.int .i64 c.va, .int .i64 c.sl, .int .i64 c.co, .int .i64 c.su, .int .i64 c.ti, .int .i64 c.di, .int .i64 c.ra, .int .i64 c.ro, .int .i64 c.ag, .int .u64 c.se], .agg #[.int .u64 p.no, .int .i64 p.ke, .int .i64 p.pe], .int .i64 e] w fun e' w' =>
    ∃ v, e' = .returned (.tuple #[.agg #[.int .i64 c.su, v], .int .i64 0]) ∧ (Kd.int .i64).R 3 w' w.heap.size (fun _ => True) v (onList (onP c.su (firstP c p (blockP p e)) p.ke) 64) ∧ Below w.heap.size w w' := by
  obtain ⟨hf, hp, he⟩ := (mayP_iff c p e).1 h
  obtain ⟨b1, b2, b3, b4⟩ := block_bd p e hp he
  obtain ⟨p1, p2⟩ := (fitsP_iff p).1 hp
  obtain ⟨g1, g2, g3, g4, g5, g6, g7, g8, g9⟩ := (fitsC_iff c).1 hf
  have HB := Aside0.mk (Below.refl w.heap.size w)
  have H1 : ∀ w, Calls Tryd.prog 29 #[.agg #[.int .i64 c.va, .int .i64 c.sl, .int .i64 c.co, .int .i64 c.su, .int .i64 c.ti, .int .i64 c.di, .int .i64 c.ra, .int .i64 c.ro, .int .i64 c.ag, .int .u64 c.se], .agg #[.int .u64 p.no, .int .i64 p.ke, .int .i64 p.pe], .int .i64 e] w fun e' w' => e' = .returned (.bool true) ∧ Below w.heap.size w w' := fun w => h ▸ Rmay_calls c p e w
  have HM := Aside0.mk H1
  clear H1 h
  go_enter Tryd.func15, Tryd.ntmps15
  go_wp2_with fail
  refine (HM.out _).mono ?_
  rintro e w8 ⟨rfl, hb_⟩
  have YC : Box w8 (w.heap.size) _ _ := Box.below (by repeat (with_reducible first | exact XC.out | exact Box.new | exact Box.new1 | exact Box.new2 | exact Box.new3 | apply Box.alloc | apply Box.drew | apply Box.drewN | apply Box.set)) hb_
  (try clear XC rC kC fC); have XC := Aside0.mk YC; have rC := YC.cell; have fC := YC.frozen; have kC := YC.lt; clear YC
  have YP : Box w8 (w.heap.size + 1) _ _ := Box.below (by repeat (with_reducible first | exact XP.out | exact Box.new | exact Box.new1 | exact Box.new2 | exact Box.new3 | apply Box.alloc | apply Box.drew | apply Box.drewN | apply Box.set)) hb_
  (try clear XP rP kP fP); have XP := Aside0.mk YP; have rP := YP.cell; have fP := YP.frozen; have kP := YP.lt; clear YP
  have YR : Box w8 (w.heap.size + 1 + 1) _ _ := Box.below (by repeat (with_reducible first | exact XR.out | exact Box.new | exact Box.new1 | exact Box.new2 | exact Box.new3 | apply Box.alloc | apply Box.drew | apply Box.drewN | apply Box.set)) hb_
  (try clear XR rR kR fR); have XR := Aside0.mk YR; have rR := YR.cell; have fR := YR.frozen; have kR := YR.lt; clear YR
  have n_ := Aside0.mk (below_step (by repeat (first | exact HB.out | apply below_alloc | apply pw_below_drewN | apply below_drew1 | refine below_set ?_ (by first | omega | (simp; omega)))) hb_); clear HB hb_; have HB := n_; clear n_
  go_upto_region 4 with (fail)
  have hkC := kC
  have hkP := kP
  have hkR := kR
  have HBL := Aside0.mk (fun w => RBlock_calls p e w hp (by omega) hno)
  obtain ⟨f1, f2, f3, f4⟩ := first_bd c p (blockP p e) hf
  have hu2 : IntKind.u64.wrap (blockP p e) = blockP p e := by rw [IntKind.wrap_u64]; omega
  generalize hn : blockP p e = n at *
  have HN := Aside0.mk hn
  clear hn
  go_region_held3 (fun w' => Below w8.heap.size w8 w' ∧ (∀ j, w'.cell? ⟨w.heap.size, j, none⟩ = (#[.int .i64 c.va, .int .i64 c.sl, .int .i64 c.co, .int .i64 c.su, .int .i64 c.ti, .int .i64 c.di, .int .i64 c.ra, .int .i64 c.ro, .int .i64 c.ag, .int .u64 c.se] : Array Value)[j]?) ∧ (∀ j, w'.cell? ⟨w.heap.size + 1, j, none⟩ = (#[.int .u64 p.no, .int .i64 p.ke, .int .i64 p.pe] : Array Value)[j]?)) (first | exact ⟨below_drew1 (Below.refl _ _), rC, rP⟩ | exact ⟨below_drew1 b0_, rC, rP⟩ | exact ⟨j0, jC, jP⟩ | exact ⟨below_alloc j0 _, fun j => (cell_alloc_old (Nat.lt_of_lt_of_le kC j0.size)).trans (jC j), fun j => (cell_alloc_old (Nat.lt_of_lt_of_le kP j0.size)).trans (jP j)⟩ | exact ⟨below_alloc (below_drew1 (Below.refl _ _)) _, fun j => (cell_alloc_old kC).trans (rC j), fun j => (cell_alloc_old kP).trans (rP j)⟩ | exact ⟨below_set (below_alloc j0 _) (by first | omega | (simp only; omega)), fun j => (cell_far (by first | omega | (simp only; omega))).trans ((cell_alloc_old (Nat.lt_of_lt_of_le kC j0.size)).trans (jC j)), fun j => (cell_far (by first | omega | (simp only; omega))).trans ((cell_alloc_old (Nat.lt_of_lt_of_le kP j0.size)).trans (jP j))⟩ | exact ⟨below_set (j0) (by first | omega | (simp only; omega)), fun j => (cell_far (by first | omega | (simp only; omega))).trans ((jC j)), fun j => (cell_far (by first | omega | (simp only; omega))).trans ((jP j))⟩ | exact ⟨below_set (below_set (below_alloc j0 _) (by first | omega | (simp only; omega))) (by first | omega | (simp only; omega)), fun j => (cell_far (by first | omega | (simp only; omega))).trans ((cell_far (by first | omega | (simp only; omega))).trans ((cell_alloc_old (Nat.lt_of_lt_of_le kC j0.size)).trans (jC j))), fun j => (cell_far (by first | omega | (simp only; omega))).trans ((cell_far (by first | omega | (simp only; omega))).trans ((cell_alloc_old (Nat.lt_of_lt_of_le kP j0.size)).trans (jP j)))⟩ | exact ⟨below_set (below_set (j0) (by first | omega | (simp only; omega))) (by first | omega | (simp only; omega)), fun j => (cell_far (by first | omega | (simp only; omega))).trans ((cell_far (by first | omega | (simp only; omega))).trans ((jC j))), fun j => (cell_far (by first | omega | (simp only; omega))).trans ((cell_far (by first | omega | (simp only; omega))).trans ((jP j)))⟩ | exact ⟨below_set (below_set (below_set (below_alloc j0 _) (by first | omega | (simp only; omega))) (by first | omega | (simp only; omega))) (by first | omega | (simp only; omega)), fun j => (cell_far (by first | omega | (simp only; omega))).trans ((cell_far (by first | omega | (simp only; omega))).trans ((cell_far (by first | omega | (simp only; omega))).trans ((cell_alloc_old (Nat.lt_of_lt_of_le kC j0.size)).trans (jC j)))), fun j => (cell_far (by first | omega | (simp only; omega))).trans ((cell_far (by first | omega | (simp only; omega))).trans ((cell_far (by first | omega | (simp only; omega))).trans ((cell_alloc_old (Nat.lt_of_lt_of_le kP j0.size)).trans (jP j))))⟩ | exact ⟨below_set (below_set (below_set (j0) (by first | omega | (simp only; omega))) (by first | omega | (simp only; omega))) (by first | omega | (simp only; omega)), fun j => (cell_far (by first | omega | (simp only; omega))).trans ((cell_far (by first | omega | (simp only; omega))).trans ((cell_far (by first | omega | (simp only; omega))).trans ((jC j)))), fun j => (cell_far (by first | omega | (simp only; omega))).trans ((cell_far (by first | omega | (simp only; omega))).trans ((cell_far (by first | omega | (simp only; omega))).trans ((jP j))))⟩ | assumption) (first | (go_at_call 31; obtain ⟨g0, gC, gP⟩ := ‹Below w8.heap.size w8 _ ∧ _›; ((with_reducible refine (HBL.out _).mono ?_));  rintro e w5 ⟨rfl, hb_⟩; have j0 := below_step g0 hb_; have s5 := j0.size; have jC := fun j => (hb_.cell (p := ⟨w.heap.size, j, none⟩) (Nat.lt_of_lt_of_le kC g0.size)).trans (gC j); have jP := fun j => (hb_.cell (p := ⟨w.heap.size + 1, j, none⟩) (Nat.lt_of_lt_of_le kP g0.size)).trans (gP j)) | (go_at_call 30; obtain ⟨g0, gC, gP⟩ := ‹Below w8.heap.size w8 _ ∧ _›; ((with_reducible refine (RFold2_calls p.no n _ 22 _ ?hb hno b3).mono ?_)); (case hb => exact Box.new); rintro e w6 ⟨rfl, hb_⟩; have j0 := below_step g0 hb_; have s6 := j0.size; have jC := fun j => (hb_.cell (p := ⟨w.heap.size, j, none⟩) (Nat.lt_of_lt_of_le kC g0.size)).trans (gC j); have jP := fun j => (hb_.cell (p := ⟨w.heap.size + 1, j, none⟩) (Nat.lt_of_lt_of_le kP g0.size)).trans (gP j)))
  have bC := XC.out.below j0
  have bP := XP.out.below j0
  have bR := XR.out.below j0
  have HB2 := Aside0.mk (below_step HB.out j0)
  clear HB XC rC fC kC XP rP fP kP XR rR fR kR j0 jC jP hu2
  have HB := HB2
  clear HB2
  have XC := Aside0.mk bC; have rC := bC.cell; have fC := bC.frozen; have kC := bC.lt; clear bC
  have XP := Aside0.mk bP; have rP := bP.cell; have fP := bP.frozen; have kP := bP.lt; clear bP
  have XR := Aside0.mk bR; have rR := bR.cell; have fR := bR.frozen; have kR := bR.lt; clear bR
  have hu1 : IntKind.u64.wrap c.su = c.su := by rw [IntKind.wrap_u64]; omega
  have hm : p.no.tmod c.su = p.no % c.su := Int.tmod_eq_emod_of_nonneg hno
  have hsu0 : ¬ c.su = 0 := by omega
  have hw : IntKind.i64.wrap (p.no % c.su) = p.no % c.su := IntWalk.i64_in _ (by omega)
  have hmy : mayB c.su c.ro (p.no % c.su) = true := (may_iff _ _ _).2 (by omega)
  have hsd : 0 ≤ foldF [p.no, n] := (foldF_ok [p.no, n]).1
  go_upto_region 5 with (fail)
  go_region_held3 (fun w' => Below w6.heap.size w6 w' ∧ (∀ j, w'.cell? ⟨w.heap.size, j, none⟩ = (#[.int .i64 c.va, .int .i64 c.sl, .int .i64 c.co, .int .i64 c.su, .int .i64 c.ti, .int .i64 c.di, .int .i64 c.ra, .int .i64 c.ro, .int .i64 c.ag, .int .u64 c.se] : Array Value)[j]?) ∧ (∀ j, w'.cell? ⟨w.heap.size + 1, j, none⟩ = (#[.int .u64 p.no, .int .i64 p.ke, .int .i64 p.pe] : Array Value)[j]?)) (first | exact ⟨below_drew1 (Below.refl _ _), rC, rP⟩ | exact ⟨below_drew1 b0_, rC, rP⟩ | exact ⟨j0, jC, jP⟩ | exact ⟨below_alloc j0 _, fun j => (cell_alloc_old (Nat.lt_of_lt_of_le kC j0.size)).trans (jC j), fun j => (cell_alloc_old (Nat.lt_of_lt_of_le kP j0.size)).trans (jP j)⟩ | exact ⟨below_alloc (below_drew1 (Below.refl _ _)) _, fun j => (cell_alloc_old kC).trans (rC j), fun j => (cell_alloc_old kP).trans (rP j)⟩ | exact ⟨below_set (below_alloc j0 _) (by first | omega | (simp only; omega)), fun j => (cell_far (by first | omega | (simp only; omega))).trans ((cell_alloc_old (Nat.lt_of_lt_of_le kC j0.size)).trans (jC j)), fun j => (cell_far (by first | omega | (simp only; omega))).trans ((cell_alloc_old (Nat.lt_of_lt_of_le kP j0.size)).trans (jP j))⟩ | exact ⟨below_set (j0) (by first | omega | (simp only; omega)), fun j => (cell_far (by first | omega | (simp only; omega))).trans ((jC j)), fun j => (cell_far (by first | omega | (simp only; omega))).trans ((jP j))⟩ | exact ⟨below_set (below_set (below_alloc j0 _) (by first | omega | (simp only; omega))) (by first | omega | (simp only; omega)), fun j => (cell_far (by first | omega | (simp only; omega))).trans ((cell_far (by first | omega | (simp only; omega))).trans ((cell_alloc_old (Nat.lt_of_lt_of_le kC j0.size)).trans (jC j))), fun j => (cell_far (by first | omega | (simp only; omega))).trans ((cell_far (by first | omega | (simp only; omega))).trans ((cell_alloc_old (Nat.lt_of_lt_of_le kP j0.size)).trans (jP j)))⟩ | exact ⟨below_set (below_set (j0) (by first | omega | (simp only; omega))) (by first | omega | (simp only; omega)), fun j => (cell_far (by first | omega | (simp only; omega))).trans ((cell_far (by first | omega | (simp only; omega))).trans ((jC j))), fun j => (cell_far (by first | omega | (simp only; omega))).trans ((cell_far (by first | omega | (simp only; omega))).trans ((jP j)))⟩ | exact ⟨below_set (below_set (below_set (below_alloc j0 _) (by first | omega | (simp only; omega))) (by first | omega | (simp only; omega))) (by first | omega | (simp only; omega)), fun j => (cell_far (by first | omega | (simp only; omega))).trans ((cell_far (by first | omega | (simp only; omega))).trans ((cell_far (by first | omega | (simp only; omega))).trans ((cell_alloc_old (Nat.lt_of_lt_of_le kC j0.size)).trans (jC j)))), fun j => (cell_far (by first | omega | (simp only; omega))).trans ((cell_far (by first | omega | (simp only; omega))).trans ((cell_far (by first | omega | (simp only; omega))).trans ((cell_alloc_old (Nat.lt_of_lt_of_le kP j0.size)).trans (jP j))))⟩ | exact ⟨below_set (below_set (below_set (j0) (by first | omega | (simp only; omega))) (by first | omega | (simp only; omega))) (by first | omega | (simp only; omega)), fun j => (cell_far (by first | omega | (simp only; omega))).trans ((cell_far (by first | omega | (simp only; omega))).trans ((cell_far (by first | omega | (simp only; omega))).trans ((jC j)))), fun j => (cell_far (by first | omega | (simp only; omega))).trans ((cell_far (by first | omega | (simp only; omega))).trans ((cell_far (by first | omega | (simp only; omega))).trans ((jP j))))⟩ | assumption) (first | (go_at_call 32; obtain ⟨g0, gC, gP⟩ := ‹Below w6.heap.size w6 _ ∧ _›; ((with_reducible refine (RPlace_y c.su c.ro (foldF [p.no, n]) (p.no % c.su) _ hmy hsd).mono ?_));  rintro e w7 ⟨rfl, hb_⟩; have j0 := below_step g0 hb_; have s7 := j0.size; have jC := fun j => (hb_.cell (p := ⟨w.heap.size, j, none⟩) (Nat.lt_of_lt_of_le kC g0.size)).trans (gC j); have jP := fun j => (hb_.cell (p := ⟨w.heap.size + 1, j, none⟩) (Nat.lt_of_lt_of_le kP g0.size)).trans (gP j)))
  have bC := XC.out.below j0
  have bP := XP.out.below j0
  have bR := XR.out.below j0
  have HB2 := Aside0.mk (below_step HB.out j0)
  clear HB XC rC fC kC XP rP fP kP XR rR fR kR j0 jC jP hu1 hm hw hmy hsd
  have HB := HB2
  clear HB2
  have XC := Aside0.mk bC; have rC := bC.cell; have fC := bC.frozen; have kC := bC.lt; clear bC
  have XP := Aside0.mk bP; have rP := bP.cell; have fP := bP.frozen; have kP := bP.lt; clear bP
  have XR := Aside0.mk bR; have rR := bR.cell; have fR := bR.frozen; have kR := bR.lt; clear bR
  rw [show placeF c.su (foldF [p.no, n]) c.ro.toNat (p.no % c.su) = firstP c p n from rfl]
  have HOR := Aside0.mk (on_ref c.su (firstP c p n) p.ke ⟨f3, f4⟩)
  have HLT := Aside0.mk (fun j hj => onP_lt c.su (firstP c p n) p.ke j hj)
  have HIF := Aside0.mk (onP_iff c.su (firstP c p n) p.ke)
  generalize hff : firstP c p n = f at *
  have HFF := Aside0.mk hff
  clear hff
  generalize hF : onP c.su f p.ke = F at *
  have HF := Aside0.mk hF
  clear hF
  have kR7 := kR
  go_wp2
  go_loopw [13] (fun iv wx => ∃ k : Nat, (k : Int) ≤ c.su ∧ iv = .int .i64 k ∧ (∃ v, Box wx w7.heap.size #[.int .i64 c.su, v] 37 ∧ (Kd.int .i64).R 3 wx w.heap.size (fun q => q ≠ w7.heap.size ∧ q ≠ w.heap.size + 1 + 1) v (onList F k)) ∧ (∃ x y, Box wx (w.heap.size + 1 + 1) #[x, y] 37) ∧ Box wx w.heap.size #[.int .i64 c.va, .int .i64 c.sl, .int .i64 c.co, .int .i64 c.su, .int .i64 c.ti, .int .i64 c.di, .int .i64 c.ra, .int .i64 c.ro, .int .i64 c.ag, .int .u64 c.se] 24 ∧ Box wx (w.heap.size + 1) #[.int .u64 p.no, .int .i64 p.ke, .int .i64 p.pe] 26 ∧ Below w.heap.size w wx) (fun iv _ => (c.su - intOf iv).toNat)
  case atStart => exact ⟨0, by omega, rfl, ⟨_, Box.new, Kd.R_nil _ _ _ _ _⟩, ⟨_, _, XR.out.alloc⟩, XC.out.alloc, XP.out.alloc, below_alloc HB.out _⟩
  case round =>
    have z7 := HB.out.size
    clear HB XR rR fR kR XC rC fC kC XP rP fP kP
    obtain ⟨k, hk, rfl, ⟨v, bO, hR⟩, ⟨x, y, bR⟩, bC, bP, hbl⟩ := hrel
    obtain ⟨A, mc, rfl⟩ := Kd.R_slice hR
    have HB := Aside0.mk hbl
    have HO := Aside0.mk hR
    clear hbl hR
    have HBO := Aside0.mk bO
    have HBR := Aside0.mk bR
    have HBC := Aside0.mk bC
    have HBP := Aside0.mk bP
    have XO := Aside0.mk bO; have rO := bO.cell; have fO := bO.frozen; have kO := bO.lt; clear bO
    have XR := Aside0.mk bR; have rR := bR.cell; have fR := bR.frozen; have kR := bR.lt; clear bR
    have XC := Aside0.mk bC; have rC := bC.cell; have fC := bC.frozen; have kC := bC.lt; clear bC
    have XP := Aside0.mk bP; have rP := bP.cell; have fP := bP.frozen; have kP := bP.lt; clear bP
    rcases Int.lt_or_le (k : Int) c.su with hlt | hge
    · have hl := onList_len F k
      have hor := HOR.out k hlt
      have hiff := HIF.out k
      have hm0 := Int.emod_nonneg ((k : Int) - f) (show c.su ≠ 0 by omega)
      have hm1 := Int.emod_lt_of_pos ((k : Int) - f) (show 0 < c.su by omega)
      go_upto_region 10 with (fail)
      have e1 : IntKind.i64.wrap ((k : Int) - f) = (k : Int) - f := IntWalk.i64_in _ (by omega)
      have e2 : IntKind.i64.wrap ((k : Int) - f + c.su) = (k : Int) - f + c.su := IntWalk.i64_in _ (by omega)
      have e3 : IntKind.i64.wrap (((k : Int) - f) % c.su) = ((k : Int) - f) % c.su := IntWalk.i64_in _ (by omega)
      go_region_held3 (fun w' => Below wr.heap.size wr w' ∧ (∀ j, w'.cell? ⟨w.heap.size, j, none⟩ = (#[.int .i64 c.va, .int .i64 c.sl, .int .i64 c.co, .int .i64 c.su, .int .i64 c.ti, .int .i64 c.di, .int .i64 c.ra, .int .i64 c.ro, .int .i64 c.ag, .int .u64 c.se] : Array Value)[j]?) ∧ (∀ j, w'.cell? ⟨w.heap.size + 1, j, none⟩ = (#[.int .u64 p.no, .int .i64 p.ke, .int .i64 p.pe] : Array Value)[j]?)) (first | exact ⟨below_drew1 (Below.refl _ _), rC, rP⟩ | exact ⟨below_drew1 b0_, rC, rP⟩ | exact ⟨j0, jC, jP⟩ | exact ⟨below_alloc j0 _, fun j => (cell_alloc_old (Nat.lt_of_lt_of_le kC j0.size)).trans (jC j), fun j => (cell_alloc_old (Nat.lt_of_lt_of_le kP j0.size)).trans (jP j)⟩ | exact ⟨below_alloc (below_drew1 (Below.refl _ _)) _, fun j => (cell_alloc_old kC).trans (rC j), fun j => (cell_alloc_old kP).trans (rP j)⟩ | exact ⟨below_set (below_alloc j0 _) (by first | omega | (simp only; omega)), fun j => (cell_far (by first | omega | (simp only; omega))).trans ((cell_alloc_old (Nat.lt_of_lt_of_le kC j0.size)).trans (jC j)), fun j => (cell_far (by first | omega | (simp only; omega))).trans ((cell_alloc_old (Nat.lt_of_lt_of_le kP j0.size)).trans (jP j))⟩ | exact ⟨below_set (j0) (by first | omega | (simp only; omega)), fun j => (cell_far (by first | omega | (simp only; omega))).trans ((jC j)), fun j => (cell_far (by first | omega | (simp only; omega))).trans ((jP j))⟩ | exact ⟨below_set (below_set (below_alloc j0 _) (by first | omega | (simp only; omega))) (by first | omega | (simp only; omega)), fun j => (cell_far (by first | omega | (simp only; omega))).trans ((cell_far (by first | omega | (simp only; omega))).trans ((cell_alloc_old (Nat.lt_of_lt_of_le kC j0.size)).trans (jC j))), fun j => (cell_far (by first | omega | (simp only; omega))).trans ((cell_far (by first | omega | (simp only; omega))).trans ((cell_alloc_old (Nat.lt_of_lt_of_le kP j0.size)).trans (jP j)))⟩ | exact ⟨below_set (below_set (j0) (by first | omega | (simp only; omega))) (by first | omega | (simp only; omega)), fun j => (cell_far (by first | omega | (simp only; omega))).trans ((cell_far (by first | omega | (simp only; omega))).trans ((jC j))), fun j => (cell_far (by first | omega | (simp only; omega))).trans ((cell_far (by first | omega | (simp only; omega))).trans ((jP j)))⟩ | exact ⟨below_set (below_set (below_set (below_alloc j0 _) (by first | omega | (simp only; omega))) (by first | omega | (simp only; omega))) (by first | omega | (simp only; omega)), fun j => (cell_far (by first | omega | (simp only; omega))).trans ((cell_far (by first | omega | (simp only; omega))).trans ((cell_far (by first | omega | (simp only; omega))).trans ((cell_alloc_old (Nat.lt_of_lt_of_le kC j0.size)).trans (jC j)))), fun j => (cell_far (by first | omega | (simp only; omega))).trans ((cell_far (by first | omega | (simp only; omega))).trans ((cell_far (by first | omega | (simp only; omega))).trans ((cell_alloc_old (Nat.lt_of_lt_of_le kP j0.size)).trans (jP j))))⟩ | exact ⟨below_set (below_set (below_set (j0) (by first | omega | (simp only; omega))) (by first | omega | (simp only; omega))) (by first | omega | (simp only; omega)), fun j => (cell_far (by first | omega | (simp only; omega))).trans ((cell_far (by first | omega | (simp only; omega))).trans ((cell_far (by first | omega | (simp only; omega))).trans ((jC j)))), fun j => (cell_far (by first | omega | (simp only; omega))).trans ((cell_far (by first | omega | (simp only; omega))).trans ((cell_far (by first | omega | (simp only; omega))).trans ((jP j))))⟩ | assumption) (fail)
      clear e1 e2 e3 hor
      generalize hW9 : wr.drew = w9
      have bO := hW9 ▸ HBO.out.drew
      have bR := hW9 ▸ HBR.out.drew
      have bC := hW9 ▸ HBC.out.drew
      have bP := hW9 ▸ HBP.out.drew
      have HO9 := Aside0.mk (hW9 ▸ Kd.R_drew HO.out)
      have HB9 := Aside0.mk (show Below w.heap.size w w9 from hW9 ▸ below_drew1 HB.out)
      clear HBO HBR HBC HBP HO HB XO rO fO kO XR rR fR kR XC rC fC kC XP rP fP kP hW9
      have HO := HO9
      have HB := HB9
      clear HO9 HB9
      have HBO := Aside0.mk bO
      have HBR := Aside0.mk bR
      have HBC := Aside0.mk bC
      have HBP := Aside0.mk bP
      have XO := Aside0.mk bO; have rO := bO.cell; have fO := bO.frozen; have kO := bO.lt; clear bO
      have XR := Aside0.mk bR; have rR := bR.cell; have fR := bR.frozen; have kR := bR.lt; clear bR
      have XC := Aside0.mk bC; have rC := bC.cell; have fC := bC.frozen; have kC := bC.lt; clear bC
      have XP := Aside0.mk bP; have rP := bP.cell; have fP := bP.frozen; have kP := bP.lt; clear bP
      generalize ((k : Int) - f) % c.su = r at *
      rcases Bool.eq_false_or_eq_true (F k) with hon | hon
      · have HS := Aside0.mk (onList_succ F k)
        rw [hon, if_pos rfl] at HS
        have hrk : r < p.ke := (hiff.1 hon).2
        go_wp2_with (first | (((with_reducible refine gate_builtin (b := .append) (xs := #[.tmp 67, .tmp 69]) rfl ?_); at_builtin; go_must (refine Kd.R_append (Kd.int .i64) (w0 := w) w.heap.size rfl (.tmp 67) (.tmp 69) 35 3 (.int .i64 0) 8 rfl Tryd.underlying35 info_int rfl (by decide) (by omega) (_) (onList F k) ((k : Int)) [.int .i64 k] (fun q => q ≠ w7.heap.size ∧ q ≠ w.heap.size + 1 + 1) (fun _ => False) rfl rfl ?aP (fun _ hk => hk.elim) ?aF ?aO ?aB ?aS ?aL ?_; (case aP => exact rfl); (case aB => exact (by repeat (first | exact HB.out | apply below_alloc | apply pw_below_drewN | apply below_drew1 | refine below_set ?_ (by first | omega | (simp; omega))))); (case aF => exact (fun q hq => by show q ≠ _ ∧ q ≠ _; (try simp at hq); omega)); (case aO => exact (by (with_reducible repeat (first | apply Kd.R_alloc | apply Kd.R_drewN | apply Kd.R_drew)); exact HO.out)); (case aS => exact below_size (by repeat (first | exact HB.out | apply below_alloc | apply pw_below_drewN | apply below_drew1 | refine below_set ?_ (by first | omega | (simp; omega))))); (case aL => first | omega | (simp; omega)); intro v1 w1 ho_ hb_ hg_ hat_; obtain ⟨A1, mc1, rfl⟩ := Kd.R_slice ho_; rw [show (onList F k ++ [(k : Int)]).length = (onList F k).length + 1 from by simp] at ho_ ⊢; have bO2 : Box w1 _ _ _ := (hg_.block _ HBO.out.lt (Kd.R_ne HO.out HBO.out (by decide))).trans HBO.out; have bR2 : Box w1 _ _ _ := (hg_.block _ HBR.out.lt (Kd.R_ne HO.out HBR.out (by decide))).trans HBR.out; have bC2 : Box w1 _ _ _ := (hg_.block _ HBC.out.lt (Kd.R_ne HO.out HBC.out (by decide))).trans HBC.out; have bP2 : Box w1 _ _ _ := (hg_.block _ HBP.out.lt (Kd.R_ne HO.out HBP.out (by decide))).trans HBP.out; have rO2 := bO2.cell; have fO2 := bO2.frozen; have kO2 := bO2.lt; clear HB; clear HO; have HB := Aside0.mk hb_; have HO := Aside0.mk ho_; clear ho_ hb_ hg_ hat_; ))))
        go_roundw
        case rel => exact ⟨k + 1, by omega, by go_num, ⟨_, Box.put bO2, by rw [HS.out]; exact Kd.R_far (p := ⟨w7.heap.size, 1, none⟩) HO.out (fun q hq => hq.1) _⟩, ⟨_, _, Box.far (p := ⟨w7.heap.size, 1, none⟩) bR2 (by simp only; omega)⟩, Box.far (p := ⟨w7.heap.size, 1, none⟩) bC2 (by simp only; omega), Box.far (p := ⟨w7.heap.size, 1, none⟩) bP2 (by simp only; omega), below_set HB.out (by omega)⟩
        case measure => simp [intOf]; omega
      · have HS := Aside0.mk (onList_succ F k)
        rw [hon, if_neg (by simp)] at HS
        have hrk : ¬ r < p.ke := fun hr => by
          have := hiff.2 ⟨hlt, hr⟩
          rw [hon] at this
          cases this
        go_wp2
        go_roundw
        case rel => exact ⟨k + 1, by omega, by go_num, ⟨_, HBO.out, by rw [HS.out]; exact HO.out⟩, ⟨_, _, HBR.out⟩, HBC.out, HBP.out, HB.out⟩
        case measure => simp [intOf]; omega
    · have HE := Aside0.mk (onList_more F c.su HLT.out k 64 hge (by omega))
      go_wp2
      generalize hWf : World.setCell _ _ _ = Wf
      have Y : Box Wf (w.heap.size + 1 + 1) #[.int .i64 c.su, .slice A (onList F k).length mc] 37 := hWf ▸ Box.two HBR.out
      have hb : Below w.heap.size w Wf := hWf ▸ below_set (below_set HB.out (by omega)) (by omega)
      have hRf : (Kd.int .i64).R 3 Wf w.heap.size (fun _ => True) (.slice A (onList F k).length mc) (onList F k) := hWf ▸ Kd.R_mono (Kd.R_far (Kd.R_far HO.out (fun q hq => hq.2) _) (fun q hq => hq.2) _) (fun _ _ => trivial)
      have rY := Y.cell
      clear hWf
      exact bodyPost_ret (v := .tuple #[.agg #[.int .i64 c.su, .slice A (onList F k).length mc], .int .i64 0]) (by simp [results, Tryd.results15, go_sem, rY]) rfl ⟨_, rfl, by rw [HN.out, HFF.out, HF.out, HE.out]; exact hRf, hb⟩
end Go.Proofs.YtejfjbfkbdcmnaaDoor
