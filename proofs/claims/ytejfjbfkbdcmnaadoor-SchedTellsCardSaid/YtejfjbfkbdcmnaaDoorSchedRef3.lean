
/- What the document's own answer (mootbellref11) tells as a record. -/
import Derived.StillTailTactics
import Derived.Deep.RegionHeld3
import Derived.Laws.Bits64b
import Derived.Test.YtejfjbfkbdcmnaaDoorSchedRef2
set_option linter.unusedVariables false
set_option linter.unusedSimpArgs false
namespace Go.Proofs.YtejfjbfkbdcmnaaDoor
open Go.RowKit Go.Proofs.YtejfjbfkbdcmnaaDoorW.PrintWords Go.Proofs.YtejfjbfkbdcmnaaDoorW.PrintLast Go.Proofs.YtejfjbfkbdcmnaaDoorW.PrintMore

set_option maxHeartbeats 1000000 in
theorem RNets_no (c : ChainV) (p : PlanV) (e : Int) (w : World) (h : mayP c p e = false) : Calls Tryd.prog 15 #[.agg #[.int .i64 c.va, .int .i64 c.sl, .int .i64 c.co, .int .i64 c.su, .int .i64 c.ti, .int .i64 c.di, .int .i64 c.ra, .int .i64 c.ro, .int .i64 c.ag, .int .u64 c.se], .agg #[.int .u64 p.no, .int .i64 p.ke, .int .i64 p.pe], .int .i64 e] w fun e' w' =>
    e' = .returned (.tuple #[.agg #[.int .i64 0, .slice none 0 0], .int .i64 1]) ∧ Below w.heap.size w w' := by
  have HB := Aside0.mk (Below.refl w.heap.size w)
  have H1 : ∀ w, Calls Tryd.prog 29 #[.agg #[.int .i64 c.va, .int .i64 c.sl, .int .i64 c.co, .int .i64 c.su, .int .i64 c.ti, .int .i64 c.di, .int .i64 c.ra, .int .i64 c.ro, .int .i64 c.ag, .int .u64 c.se], .agg #[.int .u64 p.no, .int .i64 p.ke, .int .i64 p.pe], .int .i64 e] w fun e' w' => e' = .returned (.bool false) ∧ Below w.heap.size w w' := fun w => h ▸ Rmay_calls c p e w
  have HM := Aside0.mk H1
  clear H1 h
  go_enter Tryd.func15, Tryd.ntmps15
  go_wp2_with fail
  refine (HM.out _).mono ?_
  rintro e w8 ⟨rfl, hb_⟩
  have YR : Box w8 (w.heap.size + 1 + 1) _ _ := Box.below (by repeat (with_reducible first | exact XR.out | exact Box.new | exact Box.new1 | exact Box.new2 | exact Box.new3 | apply Box.alloc | apply Box.drew | apply Box.drewN | apply Box.set)) hb_
  (try clear XR rR kR fR); have XR := Aside0.mk YR; have rR := YR.cell; have fR := YR.frozen; have kR := YR.lt; clear YR
  have n_ := Aside0.mk (below_step (by repeat (first | exact HB.out | apply below_alloc | apply pw_below_drewN | apply below_drew1 | refine below_set ?_ (by first | omega | (simp; omega)))) hb_); clear HB hb_; have HB := n_; clear n_
  go_wp2
  generalize hWf : World.setCell _ _ _ = Wf
  have Y : Box Wf (w.heap.size + 1 + 1) #[.int .i64 0, .slice none 0 0] 37 := hWf ▸ Box.two XR.out
  have hb : Below w.heap.size w Wf := hWf ▸ below_set (below_set HB.out (by omega)) (by omega)
  have rY := Y.cell
  clear hWf
  exact bodyPost_ret (v := .tuple #[.agg #[.int .i64 0, .slice none 0 0], .int .i64 1]) (by simp [results, Tryd.results15, go_sem, rY]) rfl ⟨rfl, hb⟩
set_option maxHeartbeats 1000000 in
theorem RRecord_no (c : ChainV) (p : PlanV) (e : Int) (x : Nat) (w : World) (h : mayP c p e = false) : Calls Tryd.prog 19 #[.agg #[.int .i64 c.va, .int .i64 c.sl, .int .i64 c.co, .int .i64 c.su, .int .i64 c.ti, .int .i64 c.di, .int .i64 c.ra, .int .i64 c.ro, .int .i64 c.ag, .int .u64 c.se], .agg #[.int .u64 p.no, .int .i64 p.ke, .int .i64 p.pe], .int .i64 e, .int .u64 x] w fun e' w' =>
    e' = .returned (.tuple #[.agg #[.int .u64 0, .int .u64 0, .int .u64 0], .int .i64 1]) ∧ Below w.heap.size w w' := by
  have HB := Aside0.mk (Below.refl w.heap.size w)
  have HM := Aside0.mk h
  clear h
  go_enter Tryd.func19, Tryd.ntmps19
  go_wp2_with fail
  refine (RNets_no c p e _ HM.out).mono ?_
  rintro e w8 ⟨rfl, hb_⟩
  have YR : Box w8 (w.heap.size + 1 + 1) _ _ := Box.below (by repeat (with_reducible first | exact XR.out | exact Box.new | exact Box.new1 | exact Box.new2 | exact Box.new3 | apply Box.alloc | apply Box.drew | apply Box.drewN | apply Box.set)) hb_
  (try clear XR rR kR fR); have XR := Aside0.mk YR; have rR := YR.cell; have fR := YR.frozen; have kR := YR.lt; clear YR
  have n_ := Aside0.mk (below_step (by repeat (first | exact HB.out | apply below_alloc | apply pw_below_drewN | apply below_drew1 | refine below_set ?_ (by first | omega | (simp; omega)))) hb_); clear HB hb_; have HB := n_; clear n_
  go_wp2
  generalize hWf : World.setCell _ _ _ = Wf
  have Y : Box Wf (w.heap.size + 1 + 1) #[.int .u64 0, .int .u64 0, .int .u64 0] 44 := hWf ▸ Box.three XR.out
  have hb : Below w.heap.size w Wf := hWf ▸ below_set (below_set (below_set HB.out (by omega)) (by omega)) (by omega)
  have rY := fun (o : Obj) => (Box.alloc (o := o) Y).cell
  clear hWf
  exact bodyPost_ret (v := .tuple #[.agg #[.int .u64 0, .int .u64 0, .int .u64 0], .int .i64 1]) (by simp [results, Tryd.results19, go_sem, rY]) rfl ⟨rfl, below_alloc hb _⟩

/-- The numbers of bits as one number. -/
def sumB (l : List Int) : Nat := (l.map fun x => 2 ^ x.toNat).sum
theorem sumB_append (a b : List Int) : sumB (a ++ b) = sumB a + sumB b := by simp [sumB]
theorem sumB_onList (F : Nat → Bool) (k : Nat) : sumB (onList F k) = onBits F k := by
  induction k with
  | zero => rfl
  | succ k ih =>
    rw [onList_succ, onBits]
    split
    · rw [sumB_append, ih]
      simp [sumB]
    · rw [ih]; rfl
theorem sumB_take (l : List Int) (i : Nat) (h : i < l.length) : sumB (l.take (i + 1)) = sumB (l.take i) + 2 ^ (nth l i).toNat := by
  rw [List.take_succ_eq_append_getElem h, sumB_append, nth_eq h]
  simp [sumB]
theorem sumB_le (l : List Int) (i : Nat) : sumB (l.take i) ≤ sumB l := by
  have h := sumB_append (l.take i) (l.drop i)
  rw [List.take_append_drop] at h
  omega
theorem RPlainB (x : Nat) (hx : x < 18446744073709551616) (w : World) : Calls Tryd.prog 33 #[.int .u64 x] w fun e w' => e = .returned (.int .u64 (plainF x)) ∧ Below w.heap.size w w' :=
  (RPlain_calls x hx w).mono fun e w' h => ⟨h.1, h.2 ▸ Below.refl _ _⟩
theorem RNets_C (c : ChainV) (p : PlanV) (e : Int) (w : World) (h : mayP c p e = true) (hno : 0 ≤ p.no) : Calls Tryd.prog 15 #[.agg #[.int .i64 c.va, .int .i64 c.sl, .int .i64 c.co, .int .i64 c.su, .int .i64 c.ti, .int .i64 c.di, .int .i64 c.ra, .int .i64 c.ro, .int .i64 c.ag, .int .u64 c.se], .agg #[.int .u64 p.no, .int .i64 p.ke, .int .i64 p.pe], .int .i64 e] w fun e' w' =>
    ∃ A mc, e' = .returned (.tuple #[.agg #[.int .i64 c.su, .slice A (onList (onP c.su (firstP c p (blockP p e)) p.ke) 64).length mc], .int .i64 0]) ∧ (Kd.int .i64).C w' A (onList (onP c.su (firstP c p (blockP p e)) p.ke) 64).length (onList (onP c.su (firstP c p (blockP p e)) p.ke) 64) ∧ (∀ ad, A = some ad → w.heap.size ≤ ad.block) ∧ Below w.heap.size w w' := by
  refine (RNets_yes c p e w h hno).mono fun e' w' hh => ?_
  obtain ⟨v, he, hR, hb⟩ := hh
  have hl := Kd.R_bound hR
  obtain ⟨A, mc, rfl, _, hC⟩ := Kd.R_reads hR
  refine ⟨A, mc, he, hC, fun ad ha => ?_, hb⟩
  subst ha
  exact (hl.1 ad.block (by simp [Value.ownBlock])).2.1
set_option maxRecDepth 100000 in
set_option maxHeartbeats 4000000 in
theorem RRecord_yes (c : ChainV) (p : PlanV) (e : Int) (x : Nat) (hx : x < 18446744073709551616) (w : World) (h : mayP c p e = true) (hno : 0 ≤ p.no) : Calls Tryd.prog 19 #[.agg #[.int .i64 c.va, .int .i64 c.sl, .int .i64 c.co, .int .i64 c.su, .int .i64 c.ti, .int .i64 c.di, .int .i64 c.ra, .int .i64 c.ro, .int .i64 c.ag, .int .u64 c.se], .agg #[.int .u64 p.no, .int .i64 p.ke, .int .i64 p.pe], .int .i64 e, .int .u64 x] w fun e' w' =>
    e' = .returned (.tuple #[.agg #[.int .u64 (blockP p e + 1), .int .u64 (onBits (onP c.su (firstP c p (blockP p e)) p.ke) 64), .int .u64 (plainF x)], .int .i64 0]) ∧ Below w.heap.size w w' := by
  obtain ⟨hf, hp, he⟩ := (mayP_iff c p e).1 h
  obtain ⟨b1, b2, b3, b4⟩ := block_bd p e hp he
  obtain ⟨g1, g2, g3, g4, g5, g6, g7, g8, g9⟩ := (fitsC_iff c).1 hf
  have HB := Aside0.mk (Below.refl w.heap.size w)
  have HM := Aside0.mk h
  clear h
  go_enter Tryd.func19, Tryd.ntmps19
  go_wp2_with fail
  refine (RNets_C c p e _ HM.out hno).mono ?_
  rintro e w7 ⟨A, mc, rfl, hc, hA, hb_⟩
  have YP : Box w7 (w.heap.size + 1) _ _ := Box.below (by repeat (with_reducible first | exact XP.out | exact Box.new | exact Box.new1 | exact Box.new2 | exact Box.new3 | apply Box.alloc | apply Box.drew | apply Box.drewN | apply Box.set)) hb_
  (try clear XP rP kP fP); have XP := Aside0.mk YP; have rP := YP.cell; have fP := YP.frozen; have kP := YP.lt; clear YP
  have YR : Box w7 (w.heap.size + 1 + 1) _ _ := Box.below (by repeat (with_reducible first | exact XR.out | exact Box.new | exact Box.new1 | exact Box.new2 | exact Box.new3 | apply Box.alloc | apply Box.drew | apply Box.drewN | apply Box.set)) hb_
  (try clear XR rR kR fR); have XR := Aside0.mk YR; have rR := YR.cell; have fR := YR.frozen; have kR := YR.lt; clear YR
  have n_ := Aside0.mk (below_step (by repeat (first | exact HB.out | apply below_alloc | apply pw_below_drewN | apply below_drew1 | refine below_set ?_ (by first | omega | (simp; omega)))) hb_); clear HB hb_; have HB := n_; clear n_
  have C7 := Aside0.mk hc
  have kR7 := kR
  clear hc
  have HLT := Aside0.mk (fun j hj => onP_lt c.su (firstP c p (blockP p e)) p.ke j hj)
  generalize hF : onP c.su (firstP c p (blockP p e)) p.ke = F at *
  have HF := Aside0.mk hF
  clear hF
  have hln := onList_len F 64
  go_wp2_with fail
  refine (RBlock_calls p e _ hp (by omega) hno).mono ?_
  rintro e w8 ⟨rfl, hb_⟩
  have YR : Box w8 (w.heap.size + 1 + 1) _ _ := Box.below (by repeat (with_reducible first | exact XR.out | exact Box.new | exact Box.new1 | exact Box.new2 | exact Box.new3 | apply Box.alloc | apply Box.drew | apply Box.drewN | apply Box.set)) hb_
  (try clear XR rR kR fR); have XR := Aside0.mk YR; have rR := YR.cell; have fR := YR.frozen; have kR := YR.lt; clear YR
  have YB : Box w8 (w7.heap.size) _ _ := Box.below (by repeat (with_reducible first | exact XB.out | exact Box.new | exact Box.new1 | exact Box.new2 | exact Box.new3 | apply Box.alloc | apply Box.drew | apply Box.drewN | apply Box.set)) hb_
  (try clear XB rB kB fB); have XB := Aside0.mk YB; have rB := YB.cell; have fB := YB.frozen; have kB := YB.lt; clear YB
  have ZC7 := Aside0.mk (Kd.C_below (by repeat (with_reducible first | exact C7.out | apply C_alloc)) hb_); clear C7; have C7 := ZC7; clear ZC7
  have n_ := Aside0.mk (below_step (by repeat (first | exact HB.out | apply below_alloc | apply pw_below_drewN | apply below_drew1 | refine below_set ?_ (by first | omega | (simp; omega)))) hb_); clear HB hb_; have HB := n_; clear n_
  have hu1 : IntKind.u64.wrap (blockP p e) = blockP p e := by rw [IntKind.wrap_u64]; omega
  have hu2 : IntKind.u64.wrap (blockP p e + 1) = blockP p e + 1 := by rw [IntKind.wrap_u64]; omega
  generalize hn : blockP p e = n at *
  have HN := Aside0.mk hn
  clear hn
  go_wp2_with fail
  refine (RPlainB x hx _).mono ?_
  rintro e w9 ⟨rfl, hb_⟩
  have YR : Box w9 (w.heap.size + 1 + 1) _ _ := Box.below (by repeat (with_reducible first | exact XR.out | exact Box.new | exact Box.new1 | exact Box.new2 | exact Box.new3 | apply Box.alloc | apply Box.drew | apply Box.drewN | apply Box.set)) hb_
  (try clear XR rR kR fR); have XR := Aside0.mk YR; have rR := YR.cell; have fR := YR.frozen; have kR := YR.lt; clear YR
  have YB : Box w9 (w7.heap.size) _ _ := Box.below (by repeat (with_reducible first | exact XB.out | exact Box.new | exact Box.new1 | exact Box.new2 | exact Box.new3 | apply Box.alloc | apply Box.drew | apply Box.drewN | apply Box.set)) hb_
  (try clear XB rB kB fB); have XB := Aside0.mk YB; have rB := YB.cell; have fB := YB.frozen; have kB := YB.lt; clear YB
  have ZC7 := Aside0.mk (Kd.C_below (by repeat (with_reducible first | exact C7.out | apply C_alloc)) hb_); clear C7; have C7 := ZC7; clear ZC7
  have n_ := Aside0.mk (below_step (by repeat (first | exact HB.out | apply below_alloc | apply pw_below_drewN | apply below_drew1 | refine below_set ?_ (by first | omega | (simp; omega)))) hb_); clear HB hb_; have HB := n_; clear n_
  clear hu1 hu2
  have HS := Aside0.mk (sumB_onList F 64)
  have hbl := onBits_lt F 64
  have HMEM := Aside0.mk (fun y => mem_onList F 64 y)
  generalize hL : onList F 64 = l at *
  have z9 := HB.out.size
  have kB9 := kB
  have HC9 := Aside0.mk (show (Kd.int .i64).C w9 A l.length l from C7.out)
  generalize hlen : l.length = ln at *
  go_wp2
  go_loopw [13] (fun iv wx => ∃ i : Nat, i ≤ ln ∧ iv = .int .i64 i ∧ Box wx w9.heap.size #[.int .u64 (n + 1), .int .u64 (sumB (l.take i)), .int .u64 (plainF x)] 44 ∧ Box wx w7.heap.size #[.int .i64 c.su, .slice A ln mc] 37 ∧ (∃ x y z, Box wx (w.heap.size + 1 + 1) #[x, y, z] 44) ∧ Below w9.heap.size w9 wx) (fun iv _ => ln - (intOf iv).toNat)
  case atStart => exact ⟨0, by omega, rfl, Box.new, XB.out.alloc, ⟨_, _, _, XR.out.alloc⟩, below_alloc (Below.refl _ _) _⟩
  case round =>
    obtain ⟨i, hi, rfl, bO, bB, ⟨x1, y1, z1, bR⟩, hb9⟩ := hrel
    have HB9 := Aside0.mk hb9
    have HB2 := Aside0.mk (below_step HB.out hb9)
    have HCW := Aside0.mk (Kd.C_below HC9.out hb9)
    clear HB XR rR fR kR XB rB fB kB hb9
    have HB := HB2
    clear HB2
    have HBO := Aside0.mk bO
    have HBB := Aside0.mk bB
    have HBR := Aside0.mk bR
    have XO := Aside0.mk bO; have rO := bO.cell; have fO := bO.frozen; have kO := bO.lt; clear bO
    have XB := Aside0.mk bB; have rB := bB.cell; have fB := bB.frozen; have kB := bB.lt; clear bB
    have XR := Aside0.mk bR; have rR := bR.cell; have fR := bR.frozen; have kR := bR.lt; clear bR
    rcases Nat.lt_or_ge i ln with hlt | hge
    · have hll : i < l.length := by rw [hlen]; exact hlt
      obtain ⟨b1, o1, s1, rfl, hc1⟩ := C_nat HCW.out i hlt
      obtain ⟨j, hj, hon, hv⟩ := (HMEM.out (nth l i)).1 (nth_mem hll)
      rw [hv] at hc1
      have hst := sumB_take l i hll
      rw [hv, Int.toNat_natCast] at hst
      have hsl := sumB_le l (i + 1)
      rw [HS.out, hst] at hsl
      have HST := Aside0.mk hst
      have p63 : 2 ^ j ≤ 2 ^ 63 := Nat.pow_le_pow_right (by omega) (by omega)
      obtain ⟨q, hq⟩ : ∃ q, 2 ^ j = q := ⟨_, rfl⟩
      have hq2 : (2 : Int) ^ j = (q : Int) := by rw [← hq]; simp
      rw [hq] at p63 hsl HST
      generalize sumB (l.take i) = sm at *
      have e1 : IntKind.u64.wrap (2 ^ j) = (q : Int) := by
        rw [IntKind.wrap_u64, hq2]
        omega
      have e2 : IntKind.u64.wrap ((sm : Int) + (q : Int)) = ((sm + q : Nat) : Int) := by
        rw [IntKind.wrap_u64]
        omega
      clear hq2 hq p63
      clear hst hv hon
      go_upto_region 8 with (fail)
      have hne : w9.heap.size ≠ w7.heap.size := by omega
      go_region
      go_wp2
      go_roundw
      case rel => exact ⟨i + 1, by omega, by go_num, by rw [HST.out, Int.natCast_add]; exact Box.put HBO.out, HBB.out.far (p := ⟨w9.heap.size, 1, none⟩) (by simp only; omega), ⟨_, _, _, HBR.out.far (p := ⟨w9.heap.size, 1, none⟩) (by simp only; omega)⟩, below_drew1 (below_set HB9.out (by omega))⟩
      case measure => simp [intOf]; omega
    · obtain rfl : i = ln := by omega
      rw [show sumB (l.take i) = onBits F 64 by rw [List.take_of_length_le (by omega)]; exact HS.out] at HBO rO
      go_wp2
      generalize hWf : World.setCell _ _ _ = Wf
      have Y : Box Wf (w.heap.size + 1 + 1) #[.int .u64 (n + 1), .int .u64 (onBits F 64), .int .u64 (plainF x)] 44 := hWf ▸ Box.three HBR.out
      have hb : Below w.heap.size w Wf := hWf ▸ below_set (below_set (below_set HB.out (by omega)) (by omega)) (by omega)
      have rY := Y.cell
      clear hWf
      exact bodyPost_ret (v := .tuple #[.agg #[.int .u64 (n + 1), .int .u64 (onBits F 64), .int .u64 (plainF x)], .int .i64 0]) (by simp [results, Tryd.results19, go_sem, rY]) rfl ⟨by rw [HN.out, HF.out], hb⟩
end Go.Proofs.YtejfjbfkbdcmnaaDoor
