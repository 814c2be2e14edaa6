
/- What sched.Nets, Next and Record (chapter 11) tell. -/
import Derived.StillTailTactics
import Derived.Deep.RegionHeld3
import Derived.Test.YtejfjbfkbdcmnaaDoorSchedWalk
set_option linter.unusedVariables false
set_option linter.unusedSimpArgs false
namespace Go.Proofs.YtejfjbfkbdcmnaaDoor
open Go.RowKit Go.Proofs.YtejfjbfkbdcmnaaDoorW.PrintWords Go.Proofs.YtejfjbfkbdcmnaaDoorW.PrintLast Go.Proofs.YtejfjbfkbdcmnaaDoorW.PrintMore
attribute [local go_sem] max2_int min2_int max_two min_two

theorem kept_index (s f t : Int) (k : Nat) (h : k < 64) (w : World) : (Instr.index 58 (.agg (keptV s f t)) (.int .i64 k)).run Tryd.prog w = .ok (.bool (onP s f t k)) w := by
  have h1 := keptV_at s f t k h
  have h2 : (0 : Int) ≤ k ∧ (k : Int) < (64 : Nat) := by omega
  simp [Instr.index, run_underlying Tryd.underlying58, asIntOf, go_sem, h1, h2]
  omega
set_option maxRecDepth 100000 in
set_option maxHeartbeats 4000000 in
theorem Nets_yes (c : ChainV) (p : PlanV) (e : Int) (w : World) (h : mayP c p e = true) (hno : 0 ≤ p.no) (hG : DutyLaid w) : Calls Tryd.prog 14 #[.agg #[.int .i64 c.va, .int .i64 c.sl, .int .i64 c.co, .int .i64 c.su, .int .i64 c.ti, .int .i64 c.di, .int .i64 c.ra, .int .i64 c.ro, .int .i64 c.ag, .int .u64 c.se], .agg #[.int .u64 p.no, .int .i64 p.ke, .int .i64 p.pe], .int .i64 e] w fun e' w' =>
    ∃ v, e' = .returned (.tuple #[.agg #[.int .i64 c.su, v], .int .i64 0]) ∧ (Kd.int .i64).R 3 w' w.heap.size (fun _ => True) v (onList (onP c.su (firstP c p (blockP p e)) p.ke) 64) ∧ Below w.heap.size w w' := by
  obtain ⟨hf, hp, he⟩ := (mayP_iff c p e).1 h
  obtain ⟨b1, b2, b3, b4⟩ := block_bd p e hp he
  have HB := Aside0.mk (Below.refl w.heap.size w)
  have HG := Aside0.mk hG
  have HM := Aside0.mk h
  clear hG h
  go_enter Tryd.func14, Tryd.ntmps14
  go_wp2_with fail
  refine (block_yes c p e _ HM.out hno ?hG).mono ?_
  case hG => exact HG.out.below (by repeat (first | exact HB.out | apply below_alloc | apply pw_below_drewN | apply below_drew1 | refine below_set ?_ (by first | omega | (simp; omega))))
  rintro e w8 ⟨rfl, hb_⟩
  have YA : Box w8 (w.heap.size) _ _ := Box.below (by repeat (with_reducible first | exact XA.out | exact Box.new | exact Box.new1 | exact Box.new2 | exact Box.new3 | apply Box.alloc | apply Box.drew | apply Box.drewN | apply Box.set)) hb_
  (try clear XA rA kA fA); have XA := Aside0.mk YA; have rA := YA.cell; have fA := YA.frozen; have kA := YA.lt; clear YA
  have YP : Box w8 (w.heap.size + 1) _ _ := Box.below (by repeat (with_reducible first | exact XP.out | exact Box.new | exact Box.new1 | exact Box.new2 | exact Box.new3 | apply Box.alloc | apply Box.drew | apply Box.drewN | apply Box.set)) hb_
  (try clear XP rP kP fP); have XP := Aside0.mk YP; have rP := YP.cell; have fP := YP.frozen; have kP := YP.lt; clear YP
  have YR : Box w8 (w.heap.size + 1 + 1) _ _ := Box.below (by repeat (with_reducible first | exact XR.out | exact Box.new | exact Box.new1 | exact Box.new2 | exact Box.new3 | apply Box.alloc | apply Box.drew | apply Box.drewN | apply Box.set)) hb_
  (try clear XR rR kR fR); have XR := Aside0.mk YR; have rR := YR.cell; have fR := YR.frozen; have kR := YR.lt; clear YR
  have n_ := Aside0.mk (below_step (by repeat (first | exact HB.out | apply below_alloc | apply pw_below_drewN | apply below_drew1 | refine below_set ?_ (by first | omega | (simp; omega)))) hb_); clear HB hb_; have HB := n_; clear n_
  have kR8 := kR
  generalize hn : blockP p e = n at *
  have HN := Aside0.mk hn
  clear hn
  go_wp2_with fail
  refine (kept_calls c p n _ hf hp ⟨b3, by omega⟩ hno ?hG).mono ?_
  case hG => exact HG.out.below (by repeat (first | exact HB.out | apply below_alloc | apply pw_below_drewN | apply below_drew1 | refine below_set ?_ (by first | omega | (simp; omega))))
  rintro e w9 ⟨rfl, hb_⟩
  have YR : Box w9 (w.heap.size + 1 + 1) _ _ := Box.below (by repeat (with_reducible first | exact XR.out | exact Box.new | exact Box.new1 | exact Box.new2 | exact Box.new3 | apply Box.alloc | apply Box.drew | apply Box.drewN | apply Box.set)) hb_
  (try clear XR rR kR fR); have XR := Aside0.mk YR; have rR := YR.cell; have fR := YR.frozen; have kR := YR.lt; clear YR
  have YO : Box w9 (w8.heap.size) _ _ := Box.below (by repeat (with_reducible first | exact XO.out | exact Box.new | exact Box.new1 | exact Box.new2 | exact Box.new3 | apply Box.alloc | apply Box.drew | apply Box.drewN | apply Box.set)) hb_
  (try clear XO rO kO fO); have XO := Aside0.mk YO; have rO := YO.cell; have fO := YO.frozen; have kO := YO.lt; clear YO
  have n_ := Aside0.mk (below_step (by repeat (first | exact HB.out | apply below_alloc | apply pw_below_drewN | apply below_drew1 | refine below_set ?_ (by first | omega | (simp; omega)))) hb_); clear HB hb_; have HB := n_; clear n_
  obtain ⟨g1, g2, g3, g4, g5, g6, g7, g8, g9⟩ := (fitsC_iff c).1 hf
  have hff : ∃ F, onP c.su (firstP c p n) p.ke = F := ⟨_, rfl⟩
  have hidx : ∀ (k : Nat), k < 64 → ∀ W, (Instr.index 58 (.agg (keptV c.su (firstP c p n) p.ke)) (.int .i64 k)).run Tryd.prog W = .ok (.bool (onP c.su (firstP c p n) p.ke k)) W := fun k hk W => kept_index _ _ _ k hk W
  generalize keptV c.su (firstP c p n) p.ke = KV at *
  obtain ⟨F, hF⟩ := hff
  rw [hF] at hidx
  have HF := Aside0.mk hF
  have HIX := Aside0.mk hidx
  clear hF hidx
  have z1 := HB.out.size
  have kO2 := kO
  go_wp2
  go_loopw [32] (fun iv wx => ∃ k : Nat, k ≤ 64 ∧ iv = .int .i64 k ∧ (∃ v, Box wx w8.heap.size #[.int .i64 c.su, v] 37 ∧ (Kd.int .i64).R 3 wx w.heap.size (fun q => q ≠ w8.heap.size ∧ q ≠ w.heap.size + 1 + 1) v (onList F k)) ∧ (∃ x y, Box wx (w.heap.size + 1 + 1) #[x, y] 37) ∧ Below w.heap.size w wx) (fun iv _ => 64 - (intOf iv).toNat)
  case atStart => exact ⟨0, by omega, rfl, ⟨_, XO.out, Kd.R_nil _ _ _ _ _⟩, ⟨_, _, XR.out⟩, HB.out⟩
  case round =>
    clear HB XO rO fO kO kO2 XR rR fR kR
    obtain ⟨k, hk, rfl, ⟨v, bO, hR⟩, ⟨x, y, bR⟩, hbl⟩ := hrel
    obtain ⟨A, mc, rfl⟩ := Kd.R_slice hR
    have HB := Aside0.mk hbl
    have HO := Aside0.mk hR
    clear hbl hR
    have bO0 := bO
    have HBO := Aside0.mk bO
    have HBR := Aside0.mk bR
    have XO := Aside0.mk bO; have rO := bO.cell; have fO := bO.frozen; have kO := bO.lt; clear bO
    have XR := Aside0.mk bR; have rR := bR.cell; have fR := bR.frozen; have kR := bR.lt; clear bR
    rcases Nat.lt_or_ge k 64 with hlt | hge
    · have hix := HIX.out k hlt
      have hl := onList_len F k
      rcases Bool.eq_false_or_eq_true (F k) with hon | hon
      · have HS := Aside0.mk (onList_succ F k)
        rw [hon, if_pos rfl] at HS
        rw [hon] at hix
        go_wp2_with (first | (((with_reducible refine gate_builtin (b := .append) (xs := #[.tmp 38, .tmp 40]) rfl ?_); at_builtin; go_must (refine Kd.R_append (Kd.int .i64) (w0 := w) w.heap.size rfl (.tmp 38) (.tmp 40) 35 3 (.int .i64 0) 8 rfl Tryd.underlying35 info_int rfl (by decide) (by omega) (_) (onList F k) ((k : Int)) [.int .i64 k] (fun q => q ≠ w8.heap.size ∧ q ≠ w.heap.size + 1 + 1) (fun _ => False) rfl rfl ?aP (fun _ hk => hk.elim) ?aF ?aO ?aB ?aS ?aL ?_; (case aP => exact rfl); (case aB => exact (by repeat (first | exact HB.out | apply below_alloc | apply pw_below_drewN | apply below_drew1 | refine below_set ?_ (by first | omega | (simp; omega))))); (case aF => exact (fun q hq => by show q ≠ _ ∧ q ≠ _; omega)); (case aO => exact (by (with_reducible repeat (first | apply Kd.R_alloc | apply Kd.R_drewN | apply Kd.R_drew)); exact HO.out)); (case aS => exact below_size (by repeat (first | exact HB.out | apply below_alloc | apply pw_below_drewN | apply below_drew1 | refine below_set ?_ (by first | omega | (simp; omega))))); (case aL => first | omega | (simp; omega)); intro v1 w1 ho_ hb_ hg_ hat_; obtain ⟨A1, mc1, rfl⟩ := Kd.R_slice ho_; rw [show (onList F k ++ [(k : Int)]).length = (onList F k).length + 1 from by simp] at ho_ ⊢; have bO2 : Box w1 _ _ _ := (hg_.block _ HBO.out.lt (Kd.R_ne HO.out HBO.out (by decide))).trans HBO.out; have bR2 : Box w1 _ _ _ := (hg_.block _ HBR.out.lt (Kd.R_ne HO.out HBR.out (by decide))).trans HBR.out; have rO2 := bO2.cell; have fO2 := bO2.frozen; have kO2 := bO2.lt; clear HB; clear HO; have HB := Aside0.mk hb_; have HO := Aside0.mk ho_; clear ho_ hb_ hg_ hat_; ))))
        go_roundw
        case rel => exact ⟨k + 1, by omega, by go_num, ⟨_, Box.put bO2, by rw [HS.out]; exact Kd.R_far (p := ⟨w8.heap.size, 1, none⟩) HO.out (fun q hq => hq.1) _⟩, ⟨_, _, Box.far (p := ⟨w8.heap.size, 1, none⟩) bR2 (by simp only; omega)⟩, below_set HB.out (by omega)⟩
        case measure => simp [intOf]; omega
      · have HS := Aside0.mk (onList_succ F k)
        rw [hon, if_neg (by simp)] at HS
        rw [hon] at hix
        go_wp2
        go_roundw
        case rel => exact ⟨k + 1, by omega, by go_num, ⟨_, bO0, by rw [HS.out]; exact HO.out⟩, ⟨_, _, HBR.out⟩, HB.out⟩
        case measure => simp [intOf]; omega
    · obtain rfl : k = 64 := by omega
      go_wp2
      generalize hWf : World.setCell _ _ _ = Wf
      have Y : Box Wf (w.heap.size + 1 + 1) #[.int .i64 c.su, .slice A (onList F 64).length mc] 37 := hWf ▸ Box.two HBR.out
      have hb : Below w.heap.size w Wf := hWf ▸ below_set (below_set HB.out (by omega)) (by omega)
      have hRf : (Kd.int .i64).R 3 Wf w.heap.size (fun _ => True) (.slice A (onList F 64).length mc) (onList F 64) := hWf ▸ Kd.R_mono (Kd.R_far (Kd.R_far HO.out (fun q hq => hq.2) _) (fun q hq => hq.2) _) (fun _ _ => trivial)
      have rY := Y.cell
      clear hWf
      exact bodyPost_ret (v := .tuple #[.agg #[.int .i64 c.su, .slice A (onList F 64).length mc], .int .i64 0]) (by simp [results, Tryd.results14, go_sem, rY]) rfl ⟨_, rfl, by rw [HN.out, HF.out]; exact hRf, hb⟩
set_option maxHeartbeats 1000000 in
theorem Nets_no (c : ChainV) (p : PlanV) (e : Int) (w : World) (h : mayP c p e = false) (hG : DutyLaid w) : Calls Tryd.prog 14 #[.agg #[.int .i64 c.va, .int .i64 c.sl, .int .i64 c.co, .int .i64 c.su, .int .i64 c.ti, .int .i64 c.di, .int .i64 c.ra, .int .i64 c.ro, .int .i64 c.ag, .int .u64 c.se], .agg #[.int .u64 p.no, .int .i64 p.ke, .int .i64 p.pe], .int .i64 e] w fun e' w' =>
    e' = .returned (.tuple #[.agg #[.int .i64 0, .slice none 0 0], .int .i64 1]) ∧ Below w.heap.size w w' := by
  have HB := Aside0.mk (Below.refl w.heap.size w)
  have HG := Aside0.mk hG
  have HM := Aside0.mk h
  clear hG h
  go_enter Tryd.func14, Tryd.ntmps14
  go_wp2_with fail
  refine (block_no c p e _ HM.out ?hG).mono ?_
  case hG => exact HG.out.below (by repeat (first | exact HB.out | apply below_alloc | apply pw_below_drewN | apply below_drew1 | refine below_set ?_ (by first | omega | (simp; omega))))
  rintro e w8 ⟨rfl, hb_⟩
  have YR : Box w8 (w.heap.size + 1 + 1) _ _ := Box.below (by repeat (with_reducible first | exact XR.out | exact Box.new | exact Box.new1 | exact Box.new2 | exact Box.new3 | apply Box.alloc | apply Box.drew | apply Box.drewN | apply Box.set)) hb_
  (try clear XR rR kR fR); have XR := Aside0.mk YR; have rR := YR.cell; have fR := YR.frozen; have kR := YR.lt; clear YR
  have n_ := Aside0.mk (below_step (by repeat (first | exact HB.out | apply below_alloc | apply pw_below_drewN | apply below_drew1 | refine below_set ?_ (by first | omega | (simp; omega)))) hb_); clear HB hb_; have HB := n_; clear n_
  go_wp2
  generalize hWf : World.setCell _ _ _ = Wf
  have Y : Box Wf (w.heap.size + 1 + 1) #[.int .i64 0, .slice none 0 0] 37 := hWf ▸ Box.two XR.out
  have hb : Below w.heap.size w Wf := hWf ▸ below_set (below_set HB.out (by omega)) (by omega)
  have rY := Y.cell
  clear hWf
  exact bodyPost_ret (v := .tuple #[.agg #[.int .i64 0, .slice none 0 0], .int .i64 1]) (by simp [results, Tryd.results14, go_sem, rY]) rfl ⟨rfl, hb⟩
def nextP (p : PlanV) (e : Int) : Int := (blockP p e + 1) * p.pe - p.no % p.pe
theorem next_bd (p : PlanV) (e : Int) (h : fitsP p = true) (he : 0 ≤ e ∧ e ≤ 1099511627776) : e < nextP p e ∧ nextP p e ≤ e + p.pe := by
  obtain ⟨h1, h2⟩ := (fitsP_iff p).1 h
  obtain ⟨b1, b2, b3, b4⟩ := block_bd p e h he
  have a1 := Int.lt_ediv_add_one_mul_self (e + p.no % p.pe) (show 0 < p.pe by omega)
  have a2 := Int.ediv_mul_le (e + p.no % p.pe) (show p.pe ≠ 0 by omega)
  have a3 : nextP p e = ((e + p.no % p.pe) / p.pe + 1) * p.pe - p.no % p.pe := rfl
  have a4 : ((e + p.no % p.pe) / p.pe + 1) * p.pe = (e + p.no % p.pe) / p.pe * p.pe + p.pe := by rw [Int.add_mul, Int.one_mul]
  omega
set_option maxHeartbeats 1000000 in
theorem Next_yes (c : ChainV) (p : PlanV) (e : Int) (w : World) (h : mayP c p e = true) (hno : 0 ≤ p.no) (hG : DutyLaid w) : Calls Tryd.prog 16 #[.agg #[.int .i64 c.va, .int .i64 c.sl, .int .i64 c.co, .int .i64 c.su, .int .i64 c.ti, .int .i64 c.di, .int .i64 c.ra, .int .i64 c.ro, .int .i64 c.ag, .int .u64 c.se], .agg #[.int .u64 p.no, .int .i64 p.ke, .int .i64 p.pe], .int .i64 e] w fun e' w' =>
    e' = .returned (.tuple #[.int .i64 (nextP p e), .int .i64 0]) ∧ Below w.heap.size w w' := by
  obtain ⟨hf, hp, he⟩ := (mayP_iff c p e).1 h
  obtain ⟨b1, b2, b3, b4⟩ := block_bd p e hp he
  obtain ⟨h1, h2⟩ := (fitsP_iff p).1 hp
  have hnb := next_bd p e hp he
  have en : nextP p e = (blockP p e + 1) * p.pe - p.no % p.pe := rfl
  have e1 : IntKind.i64.wrap ((blockP p e + 1) * p.pe) = (blockP p e + 1) * p.pe := IntWalk.i64_in _ (by omega)
  have e2 : IntKind.i64.wrap ((blockP p e + 1) * p.pe - p.no % p.pe) = (blockP p e + 1) * p.pe - p.no % p.pe := IntWalk.i64_in _ (by omega)
  have HB := Aside0.mk (Below.refl w.heap.size w)
  have HG := Aside0.mk hG
  have HM := Aside0.mk h
  clear hG h
  go_enter Tryd.func16, Tryd.ntmps16
  go_wp2_with fail
  refine (block_yes c p e _ HM.out hno ?hG).mono ?_
  case hG => exact HG.out.below (by repeat (first | exact HB.out | apply below_alloc | apply pw_below_drewN | apply below_drew1 | refine below_set ?_ (by first | omega | (simp; omega))))
  rintro e w8 ⟨rfl, hb_⟩
  have YP : Box w8 (w.heap.size + 1) _ _ := Box.below (by repeat (with_reducible first | exact XP.out | exact Box.new | exact Box.new1 | exact Box.new2 | exact Box.new3 | apply Box.alloc | apply Box.drew | apply Box.drewN | apply Box.set)) hb_
  (try clear XP rP kP fP); have XP := Aside0.mk YP; have rP := YP.cell; have fP := YP.frozen; have kP := YP.lt; clear YP
  have n_ := Aside0.mk (below_step (by repeat (first | exact HB.out | apply below_alloc | apply pw_below_drewN | apply below_drew1 | refine below_set ?_ (by first | omega | (simp; omega)))) hb_); clear HB hb_; have HB := n_; clear n_
  go_wp2
  go_ret2
  exact ⟨rfl, (by repeat (first | exact HB.out | apply below_alloc | apply pw_below_drewN | apply below_drew1 | refine below_set ?_ (by first | omega | (simp; omega))))⟩
set_option maxHeartbeats 1000000 in
theorem Next_no (c : ChainV) (p : PlanV) (e : Int) (w : World) (h : mayP c p e = false) (hG : DutyLaid w) : Calls Tryd.prog 16 #[.agg #[.int .i64 c.va, .int .i64 c.sl, .int .i64 c.co, .int .i64 c.su, .int .i64 c.ti, .int .i64 c.di, .int .i64 c.ra, .int .i64 c.ro, .int .i64 c.ag, .int .u64 c.se], .agg #[.int .u64 p.no, .int .i64 p.ke, .int .i64 p.pe], .int .i64 e] w fun e' w' =>
    e' = .returned (.tuple #[.int .i64 0, .int .i64 1]) ∧ Below w.heap.size w w' := by
  have HB := Aside0.mk (Below.refl w.heap.size w)
  have HG := Aside0.mk hG
  have HM := Aside0.mk h
  clear hG h
  go_enter Tryd.func16, Tryd.ntmps16
  go_wp2_with fail
  refine (block_no c p e _ HM.out ?hG).mono ?_
  case hG => exact HG.out.below (by repeat (first | exact HB.out | apply below_alloc | apply pw_below_drewN | apply below_drew1 | refine below_set ?_ (by first | omega | (simp; omega))))
  rintro e w8 ⟨rfl, hb_⟩
  have n_ := Aside0.mk (below_step (by repeat (first | exact HB.out | apply below_alloc | apply pw_below_drewN | apply below_drew1 | refine below_set ?_ (by first | omega | (simp; omega)))) hb_); clear HB hb_; have HB := n_; clear n_
  go_wp2
  go_ret2
  exact ⟨rfl, (by repeat (first | exact HB.out | apply below_alloc | apply pw_below_drewN | apply below_drew1 | refine below_set ?_ (by first | omega | (simp; omega))))⟩
end Go.Proofs.YtejfjbfkbdcmnaaDoor
