
/- What sched.Record (chapter 11) tells. -/
import Derived.StillTailTactics
import Derived.Deep.RegionHeld3
import Derived.Laws.Bits64b
import Derived.Test.YtejfjbfkbdcmnaaDoorSchedWalk2
import Derived.Test.YtejfjbfkbdcmnaaDoorLagWalk
set_option linter.unusedVariables false
set_option linter.unusedSimpArgs false
namespace Go.Proofs.YtejfjbfkbdcmnaaDoor
open Go.RowKit Go.Proofs.YtejfjbfkbdcmnaaDoorW.PrintWords Go.Proofs.YtejfjbfkbdcmnaaDoorW.PrintLast Go.Proofs.YtejfjbfkbdcmnaaDoorW.PrintMore

theorem or_onBits (F : Nat → Bool) (k : Nat) (h : k < 64) : bits BinOp.or IntKind.u64 (onBits F k : Int) (IntKind.u64.wrap (2 ^ k)) = ((onBits F k + 2 ^ k : Nat) : Int) := by
  have p : 2 ^ k ≤ 2 ^ 63 := Nat.pow_le_pow_right (by omega) (by omega)
  have q := onBits_lt F k
  have e : IntKind.u64.wrap (2 ^ k) = ((2 ^ k : Nat) : Int) := by
    rw [IntKind.wrap_u64, show (2 : Int) ^ k = ((2 ^ k : Nat) : Int) by simp]
    omega
  rw [e, bits_or_u64_nat _ _ (by omega) (by omega), onBits_or]
theorem PlainB (x : Nat) (w : World) : Calls Tryd.prog 23 #[.int .u64 x] w fun e w' => e = .returned (.int .u64 (plainF x)) ∧ Below w.heap.size w w' :=
  (Plain_calls x w).mono fun e w' h => ⟨h.1, h.2 ▸ Below.refl _ _⟩
set_option maxRecDepth 100000 in
set_option maxHeartbeats 4000000 in
theorem Record_yes (c : ChainV) (p : PlanV) (e : Int) (x : Nat) (w : World) (h : mayP c p e = true) (hno : 0 ≤ p.no) (hG : DutyLaid w) : Calls Tryd.prog 18 #[.agg #[.int .i64 c.va, .int .i64 c.sl, .int .i64 c.co, .int .i64 c.su, .int .i64 c.ti, .int .i64 c.di, .int .i64 c.ra, .int .i64 c.ro, .int .i64 c.ag, .int .u64 c.se], .agg #[.int .u64 p.no, .int .i64 p.ke, .int .i64 p.pe], .int .i64 e, .int .u64 x] w fun e' w' =>
    e' = .returned (.tuple #[.agg #[.int .u64 (blockP p e + 1), .int .u64 (onBits (onP c.su (firstP c p (blockP p e)) p.ke) 64), .int .u64 (plainF x)], .int .i64 0]) ∧ Below w.heap.size w w' := by
  obtain ⟨hf, hp, he⟩ := (mayP_iff c p e).1 h
  obtain ⟨b1, b2, b3, b4⟩ := block_bd p e hp he
  have HB := Aside0.mk (Below.refl w.heap.size w)
  have HG := Aside0.mk hG
  have HM := Aside0.mk h
  clear hG h
  go_enter Tryd.func18, Tryd.ntmps18
  go_wp2_with fail
  refine (block_yes c p e _ HM.out hno ?hG).mono ?_
  case hG => exact HG.out.below (by repeat (first | exact HB.out | apply below_alloc | apply pw_below_drewN | apply below_drew1 | refine below_set ?_ (by first | omega | (simp; omega))))
  rintro e w7 ⟨rfl, hb_⟩
  have YA : Box w7 (w.heap.size) _ _ := Box.below (by repeat (with_reducible first | exact XA.out | exact Box.new | exact Box.new1 | exact Box.new2 | exact Box.new3 | apply Box.alloc | apply Box.drew | apply Box.drewN | apply Box.set)) hb_
  (try clear XA rA kA fA); have XA := Aside0.mk YA; have rA := YA.cell; have fA := YA.frozen; have kA := YA.lt; clear YA
  have YP : Box w7 (w.heap.size + 1) _ _ := Box.below (by repeat (with_reducible first | exact XP.out | exact Box.new | exact Box.new1 | exact Box.new2 | exact Box.new3 | apply Box.alloc | apply Box.drew | apply Box.drewN | apply Box.set)) hb_
  (try clear XP rP kP fP); have XP := Aside0.mk YP; have rP := YP.cell; have fP := YP.frozen; have kP := YP.lt; clear YP
  have YR : Box w7 (w.heap.size + 1 + 1) _ _ := Box.below (by repeat (with_reducible first | exact XR.out | exact Box.new | exact Box.new1 | exact Box.new2 | exact Box.new3 | apply Box.alloc | apply Box.drew | apply Box.drewN | apply Box.set)) hb_
  (try clear XR rR kR fR); have XR := Aside0.mk YR; have rR := YR.cell; have fR := YR.frozen; have kR := YR.lt; clear YR
  have n_ := Aside0.mk (below_step (by repeat (first | exact HB.out | apply below_alloc | apply pw_below_drewN | apply below_drew1 | refine below_set ?_ (by first | omega | (simp; omega)))) hb_); clear HB hb_; have HB := n_; clear n_
  have hu1 : IntKind.u64.wrap (blockP p e) = blockP p e := by rw [IntKind.wrap_u64]; omega
  have hu2 : IntKind.u64.wrap (blockP p e + 1) = blockP p e + 1 := by rw [IntKind.wrap_u64]; omega
  generalize hn : blockP p e = n at *
  have HN := Aside0.mk hn
  clear hn
  go_wp2_with fail
  refine (PlainB x _).mono ?_
  rintro e w8 ⟨rfl, hb_⟩
  have YA : Box w8 (w.heap.size) _ _ := Box.below (by repeat (with_reducible first | exact XA.out | exact Box.new | exact Box.new1 | exact Box.new2 | exact Box.new3 | apply Box.alloc | apply Box.drew | apply Box.drewN | apply Box.set)) hb_
  (try clear XA rA kA fA); have XA := Aside0.mk YA; have rA := YA.cell; have fA := YA.frozen; have kA := YA.lt; clear YA
  have YP : Box w8 (w.heap.size + 1) _ _ := Box.below (by repeat (with_reducible first | exact XP.out | exact Box.new | exact Box.new1 | exact Box.new2 | exact Box.new3 | apply Box.alloc | apply Box.drew | apply Box.drewN | apply Box.set)) hb_
  (try clear XP rP kP fP); have XP := Aside0.mk YP; have rP := YP.cell; have fP := YP.frozen; have kP := YP.lt; clear YP
  have YR : Box w8 (w.heap.size + 1 + 1) _ _ := Box.below (by repeat (with_reducible first | exact XR.out | exact Box.new | exact Box.new1 | exact Box.new2 | exact Box.new3 | apply Box.alloc | apply Box.drew | apply Box.drewN | apply Box.set)) hb_
  (try clear XR rR kR fR); have XR := Aside0.mk YR; have rR := YR.cell; have fR := YR.frozen; have kR := YR.lt; clear YR
  have n_ := Aside0.mk (below_step (by repeat (first | exact HB.out | apply below_alloc | apply pw_below_drewN | apply below_drew1 | refine below_set ?_ (by first | omega | (simp; omega)))) hb_); clear HB hb_; have HB := n_; clear n_
  have kR8 := kR
  go_wp2_with fail
  refine (kept_calls c p n _ hf hp ⟨b3, by omega⟩ hno ?hG).mono ?_
  case hG => exact HG.out.below (by repeat (first | exact HB.out | apply below_alloc | apply pw_below_drewN | apply below_drew1 | refine below_set ?_ (by first | omega | (simp; omega))))
  rintro e w9 ⟨rfl, hb_⟩
  have YR : Box w9 (w.heap.size + 1 + 1) _ _ := Box.below (by repeat (with_reducible first | exact XR.out | exact Box.new | exact Box.new1 | exact Box.new2 | exact Box.new3 | apply Box.alloc | apply Box.drew | apply Box.drewN | apply Box.set)) hb_
  (try clear XR rR kR fR); have XR := Aside0.mk YR; have rR := YR.cell; have fR := YR.frozen; have kR := YR.lt; clear YR
  have YO : Box w9 (w8.heap.size) _ _ := Box.below (by repeat (with_reducible first | exact XO.out | exact Box.new | exact Box.new1 | exact Box.new2 | exact Box.new3 | apply Box.alloc | apply Box.drew | apply Box.drewN | apply Box.set)) hb_
  (try clear XO rO kO fO); have XO := Aside0.mk YO; have rO := YO.cell; have fO := YO.frozen; have kO := YO.lt; clear YO
  have n_ := Aside0.mk (below_step (by repeat (first | exact HB.out | apply below_alloc | apply pw_below_drewN | apply below_drew1 | refine below_set ?_ (by first | omega | (simp; omega)))) hb_); clear HB hb_; have HB := n_; clear n_
  clear hu1 hu2
  have hff : ∃ F, onP c.su (firstP c p n) p.ke = F := ⟨_, rfl⟩
  have hidx : ∀ (k : Nat), k < 64 → ∀ W, (Instr.index 58 (.agg (keptV c.su (firstP c p n) p.ke)) (.int .i64 k)).run Tryd.prog W = .ok (.bool (onP c.su (firstP c p n) p.ke k)) W := fun k hk W => kept_index _ _ _ k hk W
  generalize keptV c.su (firstP c p n) p.ke = KV at *
  obtain ⟨F, hF⟩ := hff
  rw [hF] at hidx
  have HF := Aside0.mk hF
  have HIX := Aside0.mk hidx
  clear hF hidx
  have z1 := HB.out.size
  go_wp2
  go_loopw [37] (fun iv wx => ∃ k : Nat, k ≤ 64 ∧ iv = .int .i64 k ∧ Box wx w8.heap.size #[.int .u64 (n + 1), .int .u64 (onBits F k), .int .u64 (plainF x)] 44 ∧ (∃ x y z, Box wx (w.heap.size + 1 + 1) #[x, y, z] 44) ∧ Below w.heap.size w wx) (fun iv _ => 64 - (intOf iv).toNat)
  case atStart => exact ⟨0, by omega, rfl, XO.out, ⟨_, _, _, XR.out⟩, HB.out⟩
  case round =>
    clear HB XO rO fO kO XR rR fR kR
    obtain ⟨k, hk, rfl, bO, ⟨x1, y1, z1, bR⟩, hbl⟩ := hrel
    have HB := Aside0.mk hbl
    clear hbl
    have HBO := Aside0.mk bO
    have HBR := Aside0.mk bR
    have XO := Aside0.mk bO; have rO := bO.cell; have fO := bO.frozen; have kO := bO.lt; clear bO
    have XR := Aside0.mk bR; have rR := bR.cell; have fR := bR.frozen; have kR := bR.lt; clear bR
    rcases Nat.lt_or_ge k 64 with hlt | hge
    · have hix := HIX.out k hlt
      rcases Bool.eq_false_or_eq_true (F k) with hon | hon
      · have HS : onBits F (k + 1) = onBits F k + 2 ^ k := by rw [onBits, hon, if_pos rfl]
        have HS := Aside0.mk HS
        rw [hon] at hix
        go_upto_region 9 with (fail)
        have hor := or_onBits F k hlt
        rw [← HS.out] at hor
        have HR9 := Aside0.mk hor
        clear hor
        go_region
        go_wp2
        rw [HR9.out]
        go_roundw
        case rel => exact ⟨k + 1, by omega, by go_num, Box.put HBO.out, ⟨_, _, _, Box.far (p := ⟨w8.heap.size, 1, none⟩) HBR.out (by simp only; omega)⟩, below_drew1 (below_set HB.out (by omega))⟩
        case measure => simp [intOf]; omega
      · have HS : onBits F (k + 1) = onBits F k := by rw [onBits, hon, if_neg (by simp), Nat.add_zero]
        have HS := Aside0.mk HS
        rw [hon] at hix
        go_wp2
        go_roundw
        case rel => exact ⟨k + 1, by omega, by go_num, by rw [HS.out]; exact HBO.out, ⟨_, _, _, HBR.out⟩, HB.out⟩
        case measure => simp [intOf]; omega
    · obtain rfl : k = 64 := by omega
      go_wp2
      generalize hWf : World.setCell _ _ _ = Wf
      have Y : Box Wf (w.heap.size + 1 + 1) #[.int .u64 (n + 1), .int .u64 (onBits F 64), .int .u64 (plainF x)] 44 := hWf ▸ Box.three HBR.out
      have hb : Below w.heap.size w Wf := hWf ▸ below_set (below_set (below_set HB.out (by omega)) (by omega)) (by omega)
      have rY := Y.cell
      clear hWf
      exact bodyPost_ret (v := .tuple #[.agg #[.int .u64 (n + 1), .int .u64 (onBits F 64), .int .u64 (plainF x)], .int .i64 0]) (by simp [results, Tryd.results18, go_sem, rY]) rfl ⟨by rw [HN.out, HF.out], hb⟩
set_option maxHeartbeats 1000000 in
theorem Record_no (c : ChainV) (p : PlanV) (e : Int) (x : Nat) (w : World) (h : mayP c p e = false) (hG : DutyLaid w) : Calls Tryd.prog 18 #[.agg #[.int .i64 c.va, .int .i64 c.sl, .int .i64 c.co, .int .i64 c.su, .int .i64 c.ti, .int .i64 c.di, .int .i64 c.ra, .int .i64 c.ro, .int .i64 c.ag, .int .u64 c.se], .agg #[.int .u64 p.no, .int .i64 p.ke, .int .i64 p.pe], .int .i64 e, .int .u64 x] w fun e' w' =>
    e' = .returned (.tuple #[.agg #[.int .u64 0, .int .u64 0, .int .u64 0], .int .i64 1]) ∧ Below w.heap.size w w' := by
  have HB := Aside0.mk (Below.refl w.heap.size w)
  have HG := Aside0.mk hG
  have HM := Aside0.mk h
  clear hG h
  go_enter Tryd.func18, Tryd.ntmps18
  go_wp2_with fail
  refine (block_no c p e _ HM.out ?hG).mono ?_
  case hG => exact HG.out.below (by repeat (first | exact HB.out | apply below_alloc | apply pw_below_drewN | apply below_drew1 | refine below_set ?_ (by first | omega | (simp; omega))))
  rintro e w8 ⟨rfl, hb_⟩
  have YR : Box w8 (w.heap.size + 1 + 1) _ _ := Box.below (by repeat (with_reducible first | exact XR.out | exact Box.new | exact Box.new1 | exact Box.new2 | exact Box.new3 | apply Box.alloc | apply Box.drew | apply Box.drewN | apply Box.set)) hb_
  (try clear XR rR kR fR); have XR := Aside0.mk YR; have rR := YR.cell; have fR := YR.frozen; have kR := YR.lt; clear YR
  have n_ := Aside0.mk (below_step (by repeat (first | exact HB.out | apply below_alloc | apply pw_below_drewN | apply below_drew1 | refine below_set ?_ (by first | omega | (simp; omega)))) hb_); clear HB hb_; have HB := n_; clear n_
  go_wp2
  generalize hWf : World.setCell _ _ _ = Wf
  have Y : Box Wf (w.heap.size + 1 + 1) #[.int .u64 0, .int .u64 0, .int .u64 0] 44 := hWf ▸ Box.three XR.out
  have hb : Below w.heap.size w Wf := hWf ▸ below_set (below_set (below_set HB.out (by omega)) (by omega)) (by omega)
  have rY := Y.cell
  clear hWf
  exact bodyPost_ret (v := .tuple #[.agg #[.int .u64 0, .int .u64 0, .int .u64 0], .int .i64 1]) (by simp [results, Tryd.results18, go_sem, rY]) rfl ⟨rfl, hb⟩
end Go.Proofs.YtejfjbfkbdcmnaaDoor
