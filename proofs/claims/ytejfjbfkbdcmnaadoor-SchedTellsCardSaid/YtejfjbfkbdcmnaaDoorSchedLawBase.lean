
/- What the statements of chapter 11 share. -/
import Derived.Test.YtejfjbfkbdcmnaaDoorSchedAwake
set_option linter.unusedVariables false
set_option linter.unusedSimpArgs false
namespace Go.Proofs.YtejfjbfkbdcmnaaDoor
open Go.RowKit Go.Proofs.YtejfjbfkbdcmnaaDoorW.PrintWords Go.Proofs.YtejfjbfkbdcmnaaDoorW.PrintLast Go.Proofs.YtejfjbfkbdcmnaaDoorW.PrintMore

/-- The plan of raw numbers. -/
def planF (node k q : Int) : PlanV := ⟨node, pickF k 12, 1 + pickF q 9⟩
theorem planF_fits (node k q : Int) : fitsP (planF node k q) = true := by
  have a := pickF_bd k 12 (by omega)
  have b := pickF_bd q 9 (by omega)
  rw [fitsP_iff]
  unfold planF
  simp only
  omega
theorem pickB11 (c n : Int) (w : World) (h0 : -9223372036854775808 ≤ c) (h1 : c ≤ 9223372036854775807) (h2 : 1 ≤ n) (h3 : n ≤ 9223372036854775807) : Calls Tryd.prog 13 #[.int .i64 c, .int .i64 n] w fun e w' => e = .returned (.int .i64 (pickF c n)) ∧ Below w.heap.size w w' :=
  (pick11_calls c n w h0 h1 h2 h3).mono fun e w' h => ⟨h.1, h.2 ▸ Below.refl _ _⟩
set_option maxHeartbeats 1000000 in
theorem Plan_calls (node k q : Int) (hk : i64ok k) (hq : i64ok q) (w : World) : Calls Tryd.prog 10 #[.int .u64 node, .int .i64 k, .int .i64 q] w fun e w' => e = .returned (.agg #[.int .u64 (planF node k q).no, .int .i64 (planF node k q).ke, .int .i64 (planF node k q).pe]) ∧ Below w.heap.size w w' := by
  obtain ⟨hk0, hk1⟩ := hk
  obtain ⟨hq0, hq1⟩ := hq
  have a := pickF_bd k 12 (by omega)
  have b := pickF_bd q 9 (by omega)
  have HB := Aside0.mk (Below.refl w.heap.size w)
  go_enter Tryd.func10, Tryd.ntmps10
  go_wp2_with fail
  refine (pickB11 k 12 _ (by omega) (by omega) (by omega) (by omega)).mono ?_
  rintro e w1 ⟨rfl, hb_⟩
  have YR : Box w1 (w.heap.size) _ _ := Box.below (by repeat (with_reducible first | exact XR.out | exact Box.new | exact Box.new1 | exact Box.new2 | exact Box.new3 | apply Box.alloc | apply Box.drew | apply Box.drewN | apply Box.set)) hb_
  (try clear XR rR kR fR); have XR := Aside0.mk YR; have rR := YR.cell; have fR := YR.frozen; have kR := YR.lt; clear YR
  have n_ := Aside0.mk (below_step (by repeat (first | exact HB.out | apply below_alloc | apply pw_below_drewN | apply below_drew1 | refine below_set ?_ (by first | omega | (simp; omega)))) hb_); clear HB hb_; have HB := n_; clear n_
  go_wp2_with fail
  refine (pickB11 q 9 _ (by omega) (by omega) (by omega) (by omega)).mono ?_
  rintro e w2 ⟨rfl, hb_⟩
  have YR : Box w2 (w.heap.size) _ _ := Box.below (by repeat (with_reducible first | exact XR.out | exact Box.new | exact Box.new1 | exact Box.new2 | exact Box.new3 | apply Box.alloc | apply Box.drew | apply Box.drewN | apply Box.set)) hb_
  (try clear XR rR kR fR); have XR := Aside0.mk YR; have rR := YR.cell; have fR := YR.frozen; have kR := YR.lt; clear YR
  have n_ := Aside0.mk (below_step (by repeat (first | exact HB.out | apply below_alloc | apply pw_below_drewN | apply below_drew1 | refine below_set ?_ (by first | omega | (simp; omega)))) hb_); clear HB hb_; have HB := n_; clear n_
  go_wp2
  generalize hWf : World.setCell _ _ _ = Wf
  have Y : Box Wf w.heap.size #[.int .u64 node, .int .i64 (pickF k 12), .int .i64 (1 + pickF q 9)] 26 := hWf ▸ Box.three XR.out
  have hb : Below w.heap.size w Wf := hWf ▸ below_set (below_set (below_set HB.out (by omega)) (by omega)) (by omega)
  have rY := Y.cell
  clear hWf
  exact bodyPost_ret (v := .agg #[.int .u64 node, .int .i64 (pickF k 12), .int .i64 (1 + pickF q 9)]) (by simp [results, Tryd.results10, go_sem, rY]) rfl ⟨rfl, hb⟩
/-- Behind an epoch, ahead of its next one. -/
theorem block_same (p : PlanV) (x y : Int) (h : fitsP p = true) (hx : 0 ≤ x ∧ x ≤ 1099511627776) (h1 : x ≤ y) (h2 : y < nextP p x) : blockP p y = blockP p x := by
  obtain ⟨k1, k2⟩ := (fitsP_iff p).1 h
  obtain ⟨b1, b2, b3, b4⟩ := block_bd p x h hx
  have a2 := Int.ediv_mul_le (x + p.no % p.pe) (show p.pe ≠ 0 by omega)
  have a3 : nextP p x = (blockP p x + 1) * p.pe - p.no % p.pe := rfl
  have e : blockP p x = (x + p.no % p.pe) / p.pe := rfl
  rw [← e] at a2
  unfold blockP
  apply Int.le_antisymm
  · have : (y + p.no % p.pe) / p.pe < blockP p x + 1 := by
      rw [Int.ediv_lt_iff_lt_mul (by omega)]
      omega
    unfold blockP at this
    omega
  · have : blockP p x ≤ (y + p.no % p.pe) / p.pe := by
      rw [Int.le_ediv_iff_mul_le (by omega)]
      omega
    exact this
theorem block_next (p : PlanV) (x : Int) (h : fitsP p = true) : blockP p (nextP p x) = blockP p x + 1 := by
  obtain ⟨k1, k2⟩ := (fitsP_iff p).1 h
  unfold blockP nextP
  rw [Int.sub_add_cancel]
  exact Int.mul_ediv_cancel _ (by omega)
theorem next_same (p : PlanV) (x y : Int) (h : blockP p y = blockP p x) : nextP p y = nextP p x := by unfold nextP; rw [h]
theorem next_next (p : PlanV) (x : Int) (h : fitsP p = true) : nextP p (nextP p x) = nextP p x + p.pe := by
  show (blockP p (nextP p x) + 1) * p.pe - p.no % p.pe = _
  rw [block_next p x h]
  unfold nextP
  rw [Int.add_mul (blockP p x + 1), Int.one_mul]
  omega
theorem plain_zero : plainF 0 = 0 := by decide
theorem Record_z (c : ChainV) (p : PlanV) (e : Int) (w : World) (h : mayP c p e = true) (hno : 0 ≤ p.no) (hG : DutyLaid w) : Calls Tryd.prog 18 #[.agg #[.int .i64 c.va, .int .i64 c.sl, .int .i64 c.co, .int .i64 c.su, .int .i64 c.ti, .int .i64 c.di, .int .i64 c.ra, .int .i64 c.ro, .int .i64 c.ag, .int .u64 c.se], .agg #[.int .u64 p.no, .int .i64 p.ke, .int .i64 p.pe], .int .i64 e, .int .u64 0] w fun e' w' =>
    e' = .returned (.tuple #[.agg #[.int .u64 (blockP p e + 1), .int .u64 (onBits (onP c.su (firstP c p (blockP p e)) p.ke) 64), .int .u64 0], .int .i64 0]) ∧ Below w.heap.size w w' := Record_yes c p e 0 w h hno hG
theorem Nets_C (c : ChainV) (p : PlanV) (e : Int) (w : World) (h : mayP c p e = true) (hno : 0 ≤ p.no) (hG : DutyLaid w) : Calls Tryd.prog 14 #[.agg #[.int .i64 c.va, .int .i64 c.sl, .int .i64 c.co, .int .i64 c.su, .int .i64 c.ti, .int .i64 c.di, .int .i64 c.ra, .int .i64 c.ro, .int .i64 c.ag, .int .u64 c.se], .agg #[.int .u64 p.no, .int .i64 p.ke, .int .i64 p.pe], .int .i64 e] w fun e' w' =>
    ∃ A mc, e' = .returned (.tuple #[.agg #[.int .i64 c.su, .slice A (onList (onP c.su (firstP c p (blockP p e)) p.ke) 64).length mc], .int .i64 0]) ∧ (Kd.int .i64).C w' A (onList (onP c.su (firstP c p (blockP p e)) p.ke) 64).length (onList (onP c.su (firstP c p (blockP p e)) p.ke) 64) ∧ Below w.heap.size w w' := by
  refine (Nets_yes c p e w h hno hG).mono fun e' w' hh => ?_
  obtain ⟨v, he, hR, hb⟩ := hh
  obtain ⟨A, mc, rfl, _, hC⟩ := Kd.R_reads hR
  exact ⟨A, mc, he, hC, hb⟩
theorem Nets_R (c : ChainV) (p : PlanV) (e : Int) (w : World) (h : mayP c p e = true) (hno : 0 ≤ p.no) (hG : DutyLaid w) : Calls Tryd.prog 14 #[.agg #[.int .i64 c.va, .int .i64 c.sl, .int .i64 c.co, .int .i64 c.su, .int .i64 c.ti, .int .i64 c.di, .int .i64 c.ra, .int .i64 c.ro, .int .i64 c.ag, .int .u64 c.se], .agg #[.int .u64 p.no, .int .i64 p.ke, .int .i64 p.pe], .int .i64 e] w fun e' w' =>
    ∃ A mc, e' = .returned (.tuple #[.agg #[.int .i64 c.su, .slice A (onList (onP c.su (firstP c p (blockP p e)) p.ke) 64).length mc], .int .i64 0]) ∧ (Kd.int .i64).R 3 w' w.heap.size (fun k => w.heap.size ≤ k ∧ k < w'.heap.size) (.slice A (onList (onP c.su (firstP c p (blockP p e)) p.ke) 64).length mc) (onList (onP c.su (firstP c p (blockP p e)) p.ke) 64) ∧ Below w.heap.size w w' := by
  refine (Nets_yes c p e w h hno hG).mono fun e' w' hh => ?_
  obtain ⟨v, he, hR, hb⟩ := hh
  obtain ⟨A, mc, rfl⟩ := Kd.R_slice hR
  exact ⟨A, mc, he, Kd.R_mono (Kd.R_bound hR) (fun k hk => ⟨hk.2.1, hk.2.2.1⟩), hb⟩
end Go.Proofs.YtejfjbfkbdcmnaaDoor
