
/- ShuffleTells: for every input the call of the statement returns true and leaves its arguments as they were, over the program whose table churn.sum lies as its own text lays it (the tied card). Conditions: none beyond the card's own. -/
import Derived.Deep.CutRange
import Derived.Deep.CutBlock
import Derived.Test.YtkpbcmlbdggoaaaDoorCards
import Derived.Test.YtkpbcmlbdggoaaaDoorTie
import Derived.Test.YtkpbcmlbdggoaaaDoorShell
import Derived.Test.YtkpbcmlbdggoaaaDoorShufLawBase
set_option linter.unusedVariables false
set_option linter.unusedSimpArgs false
namespace Go.Proofs.YtkpbcmlbdggoaaaDoor
open Go.RowKit Go.Proofs.YtkpbcmlbdggoaaaDoorW.PrintWords Go.Proofs.YtkpbcmlbdggoaaaDoorW.PrintLast Go.Proofs.YtkpbcmlbdggoaaaDoorW.PrintMore
open Go.ChangeShapes Go.WideShapes Go.ChangeAt
open Go.ChangeMaps (open_string shut_string)
attribute [local go_sem] max2_int min2_int max_two min_two

theorem Round_a (n seed r i : Int) (w : World) (hs : 0 ≤ seed) (hG : ChurnLaid w) : Calls Tryd.prog 10 #[.int .i64 n, .int .u64 seed, .int .i64 r, .int .i64 i] w fun e w' =>
    e = .returned (.tuple #[.int .i64 (roundA n seed r i), .int .i64 (errA (mayB n 0 i && decide (0 ≤ r ∧ r < 90)))]) ∧ Below w.heap.size w w' := by
  rcases Bool.eq_false_or_eq_true (mayB n 0 i && decide (0 ≤ r ∧ r < 90)) with h | h
  · rw [roundA, h, if_pos rfl, errA, if_pos rfl]
    simp only [Bool.and_eq_true, decide_eq_true_eq] at h
    exact Round_yes n seed r i w h.1 h.2 hs hG
  · rw [roundA, h, if_neg (by simp), errA, if_neg (by simp)]
    exact Round_no n seed r i w h
theorem RRound_a (n seed r i : Int) (w : World) (hs : 0 ≤ seed) : Calls Tryd.prog 11 #[.int .i64 n, .int .u64 seed, .int .i64 r, .int .i64 i] w fun e w' =>
    e = .returned (.tuple #[.int .i64 (roundA n seed r i), .int .i64 (errA (mayB n 0 i && decide (0 ≤ r ∧ r < 90)))]) ∧ Below w.heap.size w w' := by
  rcases Bool.eq_false_or_eq_true (mayB n 0 i && decide (0 ≤ r ∧ r < 90)) with h | h
  · rw [roundA, h, if_pos rfl, errA, if_pos rfl]
    simp only [Bool.and_eq_true, decide_eq_true_eq] at h
    exact RRound_yes n seed r i w h.1 h.2 hs
  · rw [roundA, h, if_neg (by simp), errA, if_neg (by simp)]
    exact RRound_no n seed r i w h
theorem Place_a (n m seed i : Int) (w : World) (hs : 0 ≤ seed) (hG : ChurnLaid w) : Calls Tryd.prog 12 #[.int .i64 n, .int .i64 m, .int .u64 seed, .int .i64 i] w fun e w' =>
    e = .returned (.tuple #[.int .i64 (placeA n seed m i), .int .i64 (errA (mayB n m i))]) ∧ Below w.heap.size w w' := by
  rcases Bool.eq_false_or_eq_true (mayB n m i) with h | h
  · rw [placeA, h, if_pos rfl, errA, if_pos rfl]
    exact Place_y n m seed i w h hs hG
  · rw [placeA, h, if_neg (by simp), errA, if_neg (by simp)]
    exact Place_no n m seed i w h
theorem RPlace_a (n m seed i : Int) (w : World) (hs : 0 ≤ seed) : Calls Tryd.prog 13 #[.int .i64 n, .int .i64 m, .int .u64 seed, .int .i64 i] w fun e w' =>
    e = .returned (.tuple #[.int .i64 (placeA n seed m i), .int .i64 (errA (mayB n m i))]) ∧ Below w.heap.size w w' := by
  rcases Bool.eq_false_or_eq_true (mayB n m i) with h | h
  · rw [placeA, h, if_pos rfl, errA, if_pos rfl]
    obtain ⟨hn, hm, hi⟩ := (may_iff n m i).1 h
    obtain ⟨k, rfl⟩ := Int.eq_ofNat_of_zero_le hm.1
    exact RPlace_yes n seed i k w h hs
  · rw [placeA, h, if_neg (by simp), errA, if_neg (by simp)]
    exact RPlace_no n m seed i w h
theorem Back_a (n m seed i : Int) (w : World) (hs : 0 ≤ seed) (hG : ChurnLaid w) : Calls Tryd.prog 14 #[.int .i64 n, .int .i64 m, .int .u64 seed, .int .i64 i] w fun e w' =>
    e = .returned (.tuple #[.int .i64 (backA n seed m i), .int .i64 (errA (mayB n m i))]) ∧ Below w.heap.size w w' := by
  rcases Bool.eq_false_or_eq_true (mayB n m i) with h | h
  · rw [backA, h, if_pos rfl, errA, if_pos rfl]
    exact Back_y n m seed i w h hs hG
  · rw [backA, h, if_neg (by simp), errA, if_neg (by simp)]
    exact Back_no n m seed i w h
theorem RBack_a (n m seed i : Int) (w : World) (hs : 0 ≤ seed) : Calls Tryd.prog 15 #[.int .i64 n, .int .i64 m, .int .u64 seed, .int .i64 i] w fun e w' =>
    e = .returned (.tuple #[.int .i64 (backA n seed m i), .int .i64 (errA (mayB n m i))]) ∧ Below w.heap.size w w' := by
  rcases Bool.eq_false_or_eq_true (mayB n m i) with h | h
  · rw [backA, h, if_pos rfl, errA, if_pos rfl]
    obtain ⟨hn, hm, hi⟩ := (may_iff n m i).1 h
    obtain ⟨k, rfl⟩ := Int.eq_ofNat_of_zero_le hm.1
    exact RBack_yes n seed i k w h hs
  · rw [backA, h, if_neg (by simp), errA, if_neg (by simp)]
    exact RBack_no n m seed i w h

set_option maxHeartbeats 8000000 in
set_option maxRecDepth 100000 in
theorem ShuffleTells_calls (n m seed r i : Int) (hn : i64ok n) (hm : i64ok m) (hs : 0 ≤ seed) (hr : i64ok r) (hi : i64ok i) (w : World) (hG : ChurnLaid w) :
    Calls Tryd.prog 3 #[.int .i64 n, .int .i64 m, .int .u64 seed, .int .i64 r, .int .i64 i] w fun e w' => e = .returned (.bool true) ∧ Below w.heap.size w w' := by
  obtain ⟨hn0, hn1⟩ := hn
  obtain ⟨hm0, hm1⟩ := hm
  obtain ⟨hr0, hr1⟩ := hr
  obtain ⟨hi0, hi1⟩ := hi
  have HB := Aside0.mk (Below.refl w.heap.size w)
  have HG := Aside0.mk hG
  clear hG
  go_enter Tryd.func3, Tryd.ntmps3
  go_wp2_with fail
  refine (awake_calls _ ?hG).mono ?_
  case hG => exact HG.out.below (by repeat (first | exact HB.out | apply below_alloc | apply pw_below_drewN | apply below_drew1 | refine below_set ?_ (by first | omega | (simp; omega))))
  rintro e w1 ⟨rfl, hb_⟩
  have n_ := Aside0.mk (below_step (by repeat (first | exact HB.out | apply below_alloc | apply pw_below_drewN | apply below_drew1 | refine below_set ?_ (by first | omega | (simp; omega)))) hb_); clear HB hb_; have HB := n_; clear n_
  have p1 := pickF_bd n 60 (by omega)
  have p2 := pickF_bd m 13 (by omega)
  have p3 := pickF_bd n 65536 (by omega)
  have p4 := pickF_bd r 90 (by omega)
  have p5 := pickF_bd i (1 + pickF n 65536) (by omega)
  have p6 := pickF_bd i (1 + pickF n 60) (by omega)
  have p7 := pickF_bd i (1 + pickF n 60 + 1) (by omega)
  have p8 := pickF_bd m 1000 (by omega)
  go_wp2_with (go_at_call 9; ((with_reducible refine (pick_calls _ _ _ (by omega) (by omega) (by omega) (by omega)).mono ?_)); rintro e w_ ⟨rfl, rfl⟩)
  go_loopw [77] (fun iv wx => ∃ z : Int, 0 ≤ z ∧ z ≤ 4 ∧ iv = .int .i64 z ∧ Box wx w1.heap.size #[.int .i64 n, .int .i64 m, .int .i64 r, .int .i64 i, .int .i64 (1 + pickF n 65536), .int .i64 (pickF m 13), .int .i64 (pickF r 90), .int .i64 (pickF i (1 + pickF n 65536)), .int .i64 (1 + pickF n 60), .int .i64 (pickF m 13), .int .i64 (pickF r 90), .int .i64 (pickF i (1 + pickF n 60)), .int .i64 (1 + pickF n 60), .int .i64 m, .int .i64 r, .int .i64 (pickF i (1 + pickF n 60 + 1))] 25 ∧ Below w.heap.size w wx) (fun iv _ => 4 - (intOf iv).toNat)
  case atStart => exact ⟨0, by omega, by omega, rfl, Box.new, (by repeat (first | exact HB.out | apply below_alloc | apply pw_below_drewN | apply below_drew1 | refine below_set ?_ (by first | omega | (simp; omega))))⟩
  case round =>
    clear HB
    obtain ⟨z, hz0, hz4, rfl, bS, hbl⟩ := hrel
    have HB := Aside0.mk hbl
    clear hbl
    have XS := Aside0.mk bS; have rS := bS.cell; have fS := bS.frozen; have kS := bS.lt; clear bS
    rcases Int.lt_or_le z 4 with hz | hz
    · go_upto_region 6 with (fail)
      go_cut [15, 77] from 77 to 175 (fun v15 v77 wx => ∃ (bx : Nat) (a b c d : Int), v77 = .int .i64 z ∧ v15 = .pointer (some ⟨bx, 0, none⟩) ∧ Box wx bx #[.int .i64 a, .int .i64 b, .int .i64 c, .int .i64 d] 25 ∧ Box wx w1.heap.size #[.int .i64 n, .int .i64 m, .int .i64 r, .int .i64 i, .int .i64 (1 + pickF n 65536), .int .i64 (pickF m 13), .int .i64 (pickF r 90), .int .i64 (pickF i (1 + pickF n 65536)), .int .i64 (1 + pickF n 60), .int .i64 (pickF m 13), .int .i64 (pickF r 90), .int .i64 (pickF i (1 + pickF n 60)), .int .i64 (1 + pickF n 60), .int .i64 m, .int .i64 r, .int .i64 (pickF i (1 + pickF n 60 + 1))] 25 ∧ Below w.heap.size w wx)
      case first =>
        have hv : z = 0 ∨ z = 1 ∨ z = 2 ∨ z = 3 := by omega
        rcases hv with rfl | rfl | rfl | rfl
        all_goals
          go_wp2
          go_meet
          case rel => exact ⟨_, _, _, _, _, rfl, rfl, Box.new, Box.alloc XS.out, below_alloc HB.out _⟩
      case rest =>
        obtain ⟨bx, a, b, c, d, rfl, rfl, bX, bS, hbl⟩ := hcut
        clear HB XS rS fS kS
        have HB := Aside0.mk hbl
        clear hbl
        have XX := Aside0.mk bX; have rX := bX.cell; have fX := bX.frozen; have kX := bX.lt; clear bX
        have XS := Aside0.mk bS; have rS := bS.cell; have fS := bS.frozen; have kS := bS.lt; clear bS
        go_wp2_with fail
        refine (Round_a a seed c d _ hs ?hG).mono ?_
        case hG => exact HG.out.below (by repeat (first | exact HB.out | apply below_alloc | apply pw_below_drewN | apply below_drew1 | refine below_set ?_ (by first | omega | (simp; omega))))
        rintro e w2 ⟨rfl, hb_⟩
        have YX : Box w2 (bx) _ _ := Box.below (by repeat (with_reducible first | exact XX.out | exact Box.new | exact Box.new1 | exact Box.new2 | exact Box.new3 | apply Box.alloc | apply Box.drew | apply Box.drewN | apply Box.set)) hb_
        (try clear XX rX kX fX); have XX := Aside0.mk YX; have rX := YX.cell; have fX := YX.frozen; have kX := YX.lt; clear YX
        have YS : Box w2 (w1.heap.size) _ _ := Box.below (by repeat (with_reducible first | exact XS.out | exact Box.new | exact Box.new1 | exact Box.new2 | exact Box.new3 | apply Box.alloc | apply Box.drew | apply Box.drewN | apply Box.set)) hb_
        (try clear XS rS kS fS); have XS := Aside0.mk YS; have rS := YS.cell; have fS := YS.frozen; have kS := YS.lt; clear YS
        have n_ := Aside0.mk (below_step (by repeat (first | exact HB.out | apply below_alloc | apply pw_below_drewN | apply below_drew1 | refine below_set ?_ (by first | omega | (simp; omega)))) hb_); clear HB hb_; have HB := n_; clear n_
        go_wp2_with fail
        refine (RRound_a a seed c d _ hs).mono ?_
        rintro e w3 ⟨rfl, hb_⟩
        have YX : Box w3 (bx) _ _ := Box.below (by repeat (with_reducible first | exact XX.out | exact Box.new | exact Box.new1 | exact Box.new2 | exact Box.new3 | apply Box.alloc | apply Box.drew | apply Box.drewN | apply Box.set)) hb_
        (try clear XX rX kX fX); have XX := Aside0.mk YX; have rX := YX.cell; have fX := YX.frozen; have kX := YX.lt; clear YX
        have YS : Box w3 (w1.heap.size) _ _ := Box.below (by repeat (with_reducible first | exact XS.out | exact Box.new | exact Box.new1 | exact Box.new2 | exact Box.new3 | apply Box.alloc | apply Box.drew | apply Box.drewN | apply Box.set)) hb_
        (try clear XS rS kS fS); have XS := Aside0.mk YS; have rS := YS.cell; have fS := YS.frozen; have kS := YS.lt; clear YS
        have n_ := Aside0.mk (below_step (by repeat (first | exact HB.out | apply below_alloc | apply pw_below_drewN | apply below_drew1 | refine below_set ?_ (by first | omega | (simp; omega)))) hb_); clear HB hb_; have HB := n_; clear n_
        go_wp2_with fail
        refine (Place_a a b seed d _ hs ?hG).mono ?_
        case hG => exact HG.out.below (by repeat (first | exact HB.out | apply below_alloc | apply pw_below_drewN | apply below_drew1 | refine below_set ?_ (by first | omega | (simp; omega))))
        rintro e w4 ⟨rfl, hb_⟩
        have YX : Box w4 (bx) _ _ := Box.below (by repeat (with_reducible first | exact XX.out | exact Box.new | exact Box.new1 | exact Box.new2 | exact Box.new3 | apply Box.alloc | apply Box.drew | apply Box.drewN | apply Box.set)) hb_
        (try clear XX rX kX fX); have XX := Aside0.mk YX; have rX := YX.cell; have fX := YX.frozen; have kX := YX.lt; clear YX
        have YS : Box w4 (w1.heap.size) _ _ := Box.below (by repeat (with_reducible first | exact XS.out | exact Box.new | exact Box.new1 | exact Box.new2 | exact Box.new3 | apply Box.alloc | apply Box.drew | apply Box.drewN | apply Box.set)) hb_
        (try clear XS rS kS fS); have XS := Aside0.mk YS; have rS := YS.cell; have fS := YS.frozen; have kS := YS.lt; clear YS
        have n_ := Aside0.mk (below_step (by repeat (first | exact HB.out | apply below_alloc | apply pw_below_drewN | apply below_drew1 | refine below_set ?_ (by first | omega | (simp; omega)))) hb_); clear HB hb_; have HB := n_; clear n_
        go_wp2_with fail
        refine (RPlace_a a b seed d _ hs).mono ?_
        rintro e w5 ⟨rfl, hb_⟩
        have YX : Box w5 (bx) _ _ := Box.below (by repeat (with_reducible first | exact XX.out | exact Box.new | exact Box.new1 | exact Box.new2 | exact Box.new3 | apply Box.alloc | apply Box.drew | apply Box.drewN | apply Box.set)) hb_
        (try clear XX rX kX fX); have XX := Aside0.mk YX; have rX := YX.cell; have fX := YX.frozen; have kX := YX.lt; clear YX
        have YS : Box w5 (w1.heap.size) _ _ := Box.below (by repeat (with_reducible first | exact XS.out | exact Box.new | exact Box.new1 | exact Box.new2 | exact Box.new3 | apply Box.alloc | apply Box.drew | apply Box.drewN | apply Box.set)) hb_
        (try clear XS rS kS fS); have XS := Aside0.mk YS; have rS := YS.cell; have fS := YS.frozen; have kS := YS.lt; clear YS
        have n_ := Aside0.mk (below_step (by repeat (first | exact HB.out | apply below_alloc | apply pw_below_drewN | apply below_drew1 | refine below_set ?_ (by first | omega | (simp; omega)))) hb_); clear HB hb_; have HB := n_; clear n_
        go_wp2_with fail
        refine (Back_a a b seed d _ hs ?hG).mono ?_
        case hG => exact HG.out.below (by repeat (first | exact HB.out | apply below_alloc | apply pw_below_drewN | apply below_drew1 | refine below_set ?_ (by first | omega | (simp; omega))))
        rintro e w6 ⟨rfl, hb_⟩
        have YX : Box w6 (bx) _ _ := Box.below (by repeat (with_reducible first | exact XX.out | exact Box.new | exact Box.new1 | exact Box.new2 | exact Box.new3 | apply Box.alloc | apply Box.drew | apply Box.drewN | apply Box.set)) hb_
        (try clear XX rX kX fX); have XX := Aside0.mk YX; have rX := YX.cell; have fX := YX.frozen; have kX := YX.lt; clear YX
        have YS : Box w6 (w1.heap.size) _ _ := Box.below (by repeat (with_reducible first | exact XS.out | exact Box.new | exact Box.new1 | exact Box.new2 | exact Box.new3 | apply Box.alloc | apply Box.drew | apply Box.drewN | apply Box.set)) hb_
        (try clear XS rS kS fS); have XS := Aside0.mk YS; have rS := YS.cell; have fS := YS.frozen; have kS := YS.lt; clear YS
        have n_ := Aside0.mk (below_step (by repeat (first | exact HB.out | apply below_alloc | apply pw_below_drewN | apply below_drew1 | refine below_set ?_ (by first | omega | (simp; omega)))) hb_); clear HB hb_; have HB := n_; clear n_
        go_wp2_with fail
        refine (RBack_a a b seed d _ hs).mono ?_
        rintro e w7 ⟨rfl, hb_⟩
        have YS : Box w7 (w1.heap.size) _ _ := Box.below (by repeat (with_reducible first | exact XS.out | exact Box.new | exact Box.new1 | exact Box.new2 | exact Box.new3 | apply Box.alloc | apply Box.drew | apply Box.drewN | apply Box.set)) hb_
        (try clear XS rS kS fS); have XS := Aside0.mk YS; have rS := YS.cell; have fS := YS.frozen; have kS := YS.lt; clear YS
        have n_ := Aside0.mk (below_step (by repeat (first | exact HB.out | apply below_alloc | apply pw_below_drewN | apply below_drew1 | refine below_set ?_ (by first | omega | (simp; omega)))) hb_); clear HB hb_; have HB := n_; clear n_
        go_wp2
        go_roundw
        case rel => exact ⟨z + 1, by omega, by omega, by go_num, XS.out, HB.out⟩
        case measure => simp [intOf]; omega
    · clear XS rS fS kS
      have hno1 : mayB (if 0 < n then 0 else n) m 0 = false := by
        rw [← Bool.not_eq_true, may_iff]
        split <;> omega
      have hno2 : mayB (1 + pickF n 60) (91 + pickF m 1000) 0 = false := by
        rw [← Bool.not_eq_true, may_iff]
        omega
      generalize hmn : (if 0 < n then 0 else n) = mn at *
      generalize hk : 1 + pickF n 60 = k at *
      generalize pickF m 13 = q at *
      obtain ⟨N, rfl⟩ : ∃ N : Nat, k = (N : Int) := ⟨k.toNat, by omega⟩
      obtain ⟨M, rfl⟩ : ∃ M : Nat, q = (M : Int) := ⟨q.toNat, by omega⟩
      have hN : 1 ≤ N ∧ N ≤ 60 := by omega
      have hM : M ≤ 12 := by omega
      go_wp2_with fail
      refine (All_yes N seed M _ (by omega) (by omega) hs ?hG).mono ?_
      case hG => exact HG.out.below (by repeat (first | exact HB.out | apply below_alloc | apply pw_below_drewN | apply below_drew1 | refine below_set ?_ (by first | omega | (simp; omega))))
      rintro e w2 ⟨g, cap, rfl, hR, hb_⟩
      obtain ⟨A, c1, hv1, _, hC⟩ := Kd.R_reads hR
      injection hv1 with hA hl1 _
      subst hA
      rw [← hl1] at hC
      have HC := Aside0.mk hC
      have n_ := Aside0.mk (below_step (by repeat (first | exact HB.out | apply below_alloc | apply pw_below_drewN | apply below_drew1 | refine below_set ?_ (by first | omega | (simp; omega)))) hb_); clear HB hb_ hR hC hl1; have HB := n_; clear n_
      go_wp2_with fail
      refine (RAll_yes N seed M _ (by omega) (by omega) hs).mono ?_
      rintro e w3 ⟨v3, rfl, hR, hb_⟩
      obtain ⟨A3, c3, rfl, _, hC3⟩ := Kd.R_reads hR
      have HC2 := Aside0.mk (Kd.C_below HC.out hb_)
      have HC3 := Aside0.mk hC3
      have n_ := Aside0.mk (below_step (by repeat (first | exact HB.out | apply below_alloc | apply pw_below_drewN | apply below_drew1 | refine below_set ?_ (by first | omega | (simp; omega)))) hb_); clear HB hb_ hR hC3 HC; have HB := n_; clear n_
      go_wp2_with fail
      refine (All_no mn m seed _ hno1).mono ?_
      rintro e w4 ⟨rfl, hb_⟩
      have HC4 := Aside0.mk (Kd.C_below HC2.out hb_)
      have HC5 := Aside0.mk (Kd.C_below HC3.out hb_)
      have n_ := Aside0.mk (below_step (by repeat (first | exact HB.out | apply below_alloc | apply pw_below_drewN | apply below_drew1 | refine below_set ?_ (by first | omega | (simp; omega)))) hb_); clear HB hb_ HC2 HC3; have HB := n_; clear n_
      go_wp2_with (first
        | (go_at_call 9; ((with_reducible refine (pick_calls _ _ _ (by omega) (by omega) (by omega) (by omega)).mono ?_)); rintro e w_ ⟨rfl, rfl⟩)
        | (go_at_call 16; ((with_reducible refine (All_no N (91 + pickF m 1000) seed _ hno2).mono ?_)); rintro e w5 ⟨rfl, hb_⟩; have HC6 := Aside0.mk (Kd.C_below HC4.out hb_); have HC7 := Aside0.mk (Kd.C_below HC5.out hb_); have n_ := Aside0.mk (below_step (by repeat (first | exact HB.out | apply below_alloc | apply pw_below_drewN | apply below_drew1 | refine below_set ?_ (by first | omega | (simp; omega)))) hb_); clear HB hb_; have HB := n_; clear n_)
        | (go_at_call 18; ((with_reducible refine (Ints_calls _ _ _ _ _ _ _ _ _ HC6.out HC7.out).mono ?_)); rw [decide_eq_true (Eq.refl (allF N seed M))]; rintro e w6 ⟨rfl, hb_⟩; have n_ := Aside0.mk (below_step (by repeat (first | exact HB.out | apply below_alloc | apply pw_below_drewN | apply below_drew1 | refine below_set ?_ (by first | omega | (simp; omega)))) hb_); clear HB hb_; have HB := n_; clear n_))
      go_ret
      exact ⟨rfl, HB.out⟩

set_option maxRecDepth 100000 in
theorem shuffleTells_lifted (os : Os) (started : os.Started) (H : Type) (enc : TypeId × Value → H) :
    ReturnsInHanded {} Tryd.checked os 3 .any (fun w args => (Rows.shuffleTellsSpec.pre enc Tryd.prog Tryd.f3 [] false w args ∧ laidMetH Tryd.prog [("mootbell/churn.sum", Rows.laid_mootbell_churn_sum)] w) ∧ sizedMet enc Tryd.prog Tryd.f3 (OpenSpec.ofChange Rows.shuffleTellsSpec) false w args)
      (Rows.shuffleTellsSpec.post enc Tryd.prog Tryd.f3 false true false false) := by
  refine returnsInHanded_of_change_and (C := Tryd.checked) (X := fun w _ => laidMetH Tryd.prog [("mootbell/churn.sum", Rows.laid_mootbell_churn_sum)] w) (fun _ _ _ hh h => h.of_heap hh) own started (by kernel_rfl) Tryd.func3
    (ChangeSpec.witness_shaped (enc := enc) (C := Tryd.checked) (os := os) (X := fun w _ => laidMetH Tryd.prog [("mootbell/churn.sum", Rows.laid_mootbell_churn_sum)] w) false (World.doorLaid Tryd.prog 400 os) #[.int .i64 0, .int .i64 0, .int .u64 0, .int .i64 0, .int .i64 0] 8 rfl (World.shaped_of_RefB (by kernel_rfl) (by kernel_rfl)) (by kernel_rfl) (by kernel_rfl) (by kernel_rfl) (door_met os _)) ?_
  intro W base args ds gs before hval0 hW hcnd hsz0 hL _
  have hsz : (DataW.weightsEach Tryd.prog (Tryd.f3.params.toList ++ Rows.shuffleTellsSpec.plain.varTypes Tryd.prog) (ds ++ gs)).all (· ≤ reachBytes) = true := hsz0
  have hval : ∀ (j : Nat) t v, Tryd.f3.params[j]? = some t → args[j]? = some v → Value.okWide Tryd.prog W .any base t v := hval0
  have hW' := hW
  obtain ⟨p, q, hA0, hV, rfl, hfz, hnd⟩ := hW
  have hA : DataW.TrodAll enc Tryd.prog W 0 (fun _ => true) true Tryd.f3.params.toList args.toList ds p := hA0
  have hAll := hA
  rw [Tryd.params3] at hA hval hsz
  obtain ⟨v0, vs0, d0, ds0, p0, q0, hargs, rfl, rfl, h0, r0⟩ := trodAll_cons hA
  obtain ⟨v1, vs1, d1, ds1, p1, q1, rfl, rfl, rfl, h1, r1⟩ := trodAll_cons r0
  obtain ⟨v2, vs2, d2, ds2, p2, q2, rfl, rfl, rfl, h2, r2⟩ := trodAll_cons r1
  obtain ⟨v3, vs3, d3, ds3, p3, q3, rfl, rfl, rfl, h3, r3⟩ := trodAll_cons r2
  obtain ⟨v4, vs4, d4, ds4, p4, q4, rfl, rfl, rfl, h4, r4⟩ := trodAll_cons r3
  obtain ⟨rfl, rfl, rfl⟩ := trodAll_nil r4
  obtain rfl : args = #[v0, v1, v2, v3, v4] := by cases args; simp_all
  obtain ⟨rfl, rfl⟩ := trodVars_none hV
  have hlt := trodAll_lt hAll
  obtain ⟨n, rfl, rfl, rfl, w0⟩ := open_int Tryd.underlying3 (hval 0 3 v0 rfl rfl) h0
  obtain ⟨m, rfl, rfl, rfl, w1⟩ := open_int Tryd.underlying3 (hval 1 3 v1 rfl rfl) h1
  obtain ⟨s, rfl, rfl, rfl, w2⟩ := open_int Tryd.underlying22 (hval 2 22 v2 rfl rfl) h2
  obtain ⟨r, rfl, rfl, rfl, w3⟩ := open_int Tryd.underlying3 (hval 3 3 v3 rfl rfl) h3
  obtain ⟨i, rfl, rfl, rfl, w4⟩ := open_int Tryd.underlying3 (hval 4 3 v4 rfl rfl) h4
  clear hA0 hval0 hsz0 hsz
  refine (ShuffleTells_calls n m s r i (bounds_i64 w0) (bounds_i64 w1) (bounds_u64 w2).1 (bounds_i64 w3) (bounds_i64 w4) W (laid_churn hL)).mono fun e W' ⟨he, bel⟩ => ?_
  subst he
  exact ⟨_, rfl, _, _, _, [], _, [], hW', trodAll_mk1 (shut_bool Tryd.underlying4 _), below_trodAll laidOut bel (by kernel_rfl) hAll hlt, rfl, bel.frame _, fun h => by cases h⟩
theorem shuffleTells_over : Rows.shuffleTellsRow.holds Tryd.pinned (OpenSpec.ofChange Rows.shuffleTellsSpec) :=
  OpenClaim.holds_of_wide 3 Tryd.f3 rfl rfl rfl rfl rfl rfl rfl ⟨rfl, rfl, rfl, rfl, rfl⟩ rfl rfl rfl rfl rfl (by kernel_rfl) Tryd.func3 (by kernel_rfl)
    (of_decide_eq_true (by kernel_rfl)) (by unfold Func.isWrapper; first | (rw [if_pos (by decide +kernel)]; kernel_rfl) | (rw [if_neg (by decide +kernel)]; exact ⟨rfl, rfl⟩))
    (fun os started H enc _ => shuffleTells_lifted os started H enc)
theorem shuffleTells_holds : Rows.ShuffleTellsCardSaid :=
  Claim7.holds_tied_plain_at .later [] [.data] true (true, "ad9f1004cedb4bc7c2371e68acc3085cc2cad7a500822f0522e11316d8754be0") false
    shuffleTells_over (fun _ h => by cases h) (by kernel_rfl) (fun _ h => by cases h) shuffleTells_row_tie rfl ⟨rfl, rfl⟩ (by kernel_rfl) rfl
    (fun f fn hf hfn => by
      obtain rfl : f = 3 := Option.some.inj ((show Tryd.prog.funcNamed "mootbell/mootbelllaw09.ShuffleTells" = some 3 by kernel_rfl).symm.trans hf) |>.symm
      obtain rfl : fn = Tryd.f3 := (Option.some.inj (Tryd.func3.symm.trans hfn)).symm
      exact ⟨by kernel_rfl, fun j t ht => by
        have hm : t ∈ Tryd.f3.params.toList := by simpa using Array.mem_of_getElem? ht
        have hall : (Tryd.f3.params.toList.all fun u => !Tryd.prog.wantsStandIn u) = true := by kernel_rfl
        exact (show Tryd.prog.wantsStandIn t = false by simpa using List.all_eq_true.1 hall t hm)⟩)
    (by kernel_rfl)
#print axioms shuffleTells_holds
end Go.Proofs.YtkpbcmlbdggoaaaDoor
