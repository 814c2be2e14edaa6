
/- What the chain's own functions (chapter 8) compute, as far as other chapters use them. -/
import Derived.StillTailTactics
import Derived.Deep.RegionHeld3
import Derived.Test.YtdepmbnoecpccaaDoorDutyPure
set_option linter.unusedVariables false
set_option linter.unusedSimpArgs false
namespace Go.Proofs.YtdepmbnoecpccaaDoor
open Go.RowKit Go.Proofs.YtdepmbnoecpccaaDoorW.PrintWords Go.Proofs.YtdepmbnoecpccaaDoorW.PrintLast Go.Proofs.YtdepmbnoecpccaaDoorW.PrintMore

/-- The table of a chain's bounds lies there. -/
def boundsArr : Array Value := #[.int .i64 1, .int .i64 1024, .int .i64 1, .int .i64 32, .int .i64 1, .int .i64 8, .int .i64 1, .int .i64 64, .int .i64 1, .int .i64 1000, .int .i64 1, .int .i64 64, .int .i64 0, .int .i64 90, .int .i64 1, .int .i64 16]
structure BoundsLaid (w : World) : Prop where
  at_ : ∀ j, j < 16 → w.cell? ⟨1, j, none⟩ = boundsArr[j]?
theorem BoundsLaid.lt {w : World} (h : BoundsLaid w) : 1 < w.heap.size := cell_lt (h.at_ 0 (by omega))
theorem BoundsLaid.below {w w' : World} (h : BoundsLaid w) (hb : Below w.heap.size w w') : BoundsLaid w' := ⟨fun j hj => (hb.cell (p := ⟨1, j, none⟩) h.lt).trans (h.at_ j hj)⟩

set_option maxHeartbeats 400000 in
theorem cwithin_calls (x a b : Int) (w : World) : Calls Tryd.prog 57 #[.int .i64 x, .int .i64 a, .int .i64 b] w fun e w' => e = .returned (.bool (win x a b)) ∧ w = w' := by
  by_cases h1 : a ≤ x
  · by_cases h2 : x ≤ b
    · rw [win_iff.2 ⟨h1, h2⟩]
      go_enter Tryd.func57, Tryd.ntmps57
      go_wp2
      go_ret
      exact ⟨rfl, rfl⟩
    · rw [show win x a b = false by rw [← Bool.not_eq_true, win_iff]; omega]
      go_enter Tryd.func57, Tryd.ntmps57
      go_wp2
      go_ret
      exact ⟨rfl, rfl⟩
  · rw [show win x a b = false by rw [← Bool.not_eq_true, win_iff]; omega]
    go_enter Tryd.func57, Tryd.ntmps57
    go_wp2
    go_ret
    exact ⟨rfl, rfl⟩

theorem cwithin_q (x a b : Int) (w : World) : Calls Tryd.prog 57 #[.int .i64 x, .int .i64 a, .int .i64 b] w fun e w' => e = .returned (.bool (win x a b)) ∧ w' = w :=
  (cwithin_calls x a b w).mono fun _ _ ⟨h1, h2⟩ => ⟨h1, h2.symm⟩
def okList (c : ChainV) : List Bool := [win c.va 1 1024, win c.sl 1 32, win c.co 1 8, win c.su 1 64, win c.ti 1 1000, win c.ra 1 64, win c.ro 0 90, win c.ag 1 16]
def okAt (c : ChainV) (j : Nat) : Bool := (okList c).getD j false
theorem fits_of (c : ChainV) (h : ∀ j : Nat, (j : Int) < 8 → okAt c j = true) : fitsC c = win c.di 0 c.ti := by
  have h0 := h 0 (by omega)
  have h1 := h 1 (by omega)
  have h2 := h 2 (by omega)
  have h3 := h 3 (by omega)
  have h4 := h 4 (by omega)
  have h5 := h 5 (by omega)
  have h6 := h 6 (by omega)
  have h7 := h 7 (by omega)
  simp only [okAt, okList, List.getD_eq_getElem?_getD, List.getElem?_cons_zero, List.getElem?_cons_succ, Option.getD_some] at h0 h1 h2 h3 h4 h5 h6 h7
  simp [fitsC, h0, h1, h2, h3, h4, h5, h6, h7]
theorem fits_not (c : ChainV) (j : Nat) (hj : j < 8) (h : okAt c j = false) : fitsC c = false := by
  have hv : j = 0 ∨ j = 1 ∨ j = 2 ∨ j = 3 ∨ j = 4 ∨ j = 5 ∨ j = 6 ∨ j = 7 := by omega
  rcases hv with rfl | rfl | rfl | rfl | rfl | rfl | rfl | rfl
  all_goals
    simp only [okAt, okList, List.getD_eq_getElem?_getD, List.getElem?_cons_zero, List.getElem?_cons_succ, Option.getD_some] at h
    simp [fitsC, h]
set_option maxHeartbeats 4000000 in
theorem clockFits_calls (c : ChainV) (w : World) (hG : BoundsLaid w) : Calls Tryd.prog 36 #[.agg #[.int .i64 c.va, .int .i64 c.sl, .int .i64 c.co, .int .i64 c.su, .int .i64 c.ti, .int .i64 c.di, .int .i64 c.ra, .int .i64 c.ro, .int .i64 c.ag, .int .u64 c.se]] w fun e w' => e = .returned (.bool (fitsC c)) ∧ Below w.heap.size w w' := by
  have HG := Aside0.mk hG
  clear hG
  have i0 : ∀ (a b c d e f g h : Value) (w : World), (Instr.index 86 (.agg #[a, b, c, d, e, f, g, h]) (.int .i64 0)).run Tryd.prog w = .ok a w := fun _ _ _ _ _ _ _ _ _ => by kernel_rfl
  have i1 : ∀ (a b c d e f g h : Value) (w : World), (Instr.index 86 (.agg #[a, b, c, d, e, f, g, h]) (.int .i64 1)).run Tryd.prog w = .ok b w := fun _ _ _ _ _ _ _ _ _ => by kernel_rfl
  have i2 : ∀ (a b c d e f g h : Value) (w : World), (Instr.index 86 (.agg #[a, b, c, d, e, f, g, h]) (.int .i64 2)).run Tryd.prog w = .ok c w := fun _ _ _ _ _ _ _ _ _ => by kernel_rfl
  have i3 : ∀ (a b c d e f g h : Value) (w : World), (Instr.index 86 (.agg #[a, b, c, d, e, f, g, h]) (.int .i64 3)).run Tryd.prog w = .ok d w := fun _ _ _ _ _ _ _ _ _ => by kernel_rfl
  have i4 : ∀ (a b c d e f g h : Value) (w : World), (Instr.index 86 (.agg #[a, b, c, d, e, f, g, h]) (.int .i64 4)).run Tryd.prog w = .ok e w := fun _ _ _ _ _ _ _ _ _ => by kernel_rfl
  have i5 : ∀ (a b c d e f g h : Value) (w : World), (Instr.index 86 (.agg #[a, b, c, d, e, f, g, h]) (.int .i64 5)).run Tryd.prog w = .ok f w := fun _ _ _ _ _ _ _ _ _ => by kernel_rfl
  have i6 : ∀ (a b c d e f g h : Value) (w : World), (Instr.index 86 (.agg #[a, b, c, d, e, f, g, h]) (.int .i64 6)).run Tryd.prog w = .ok g w := fun _ _ _ _ _ _ _ _ _ => by kernel_rfl
  have i7 : ∀ (a b c d e f g h : Value) (w : World), (Instr.index 86 (.agg #[a, b, c, d, e, f, g, h]) (.int .i64 7)).run Tryd.prog w = .ok h w := fun _ _ _ _ _ _ _ _ _ => by kernel_rfl
  go_enter Tryd.func36, Tryd.ntmps36
  go_wp2
  go_loopw [22] (fun iv wx => ∃ z : Int, 0 ≤ z ∧ z ≤ 8 ∧ iv = .int .i64 z ∧ (∀ j : Nat, (j : Int) < z → okAt c j = true) ∧ Box wx w.heap.size #[.int .i64 c.va, .int .i64 c.sl, .int .i64 c.co, .int .i64 c.su, .int .i64 c.ti, .int .i64 c.di, .int .i64 c.ra, .int .i64 c.ro, .int .i64 c.ag, .int .u64 c.se] 24 ∧ Below w.heap.size w wx) (fun iv _ => 8 - (intOf iv).toNat)
  case atStart => exact ⟨0, by omega, by omega, rfl, fun j hj => by omega, Box.new, below_alloc (Below.refl _ _) _⟩
  case round =>
    obtain ⟨z, hz0, hz8, rfl, hok, bA, hbl⟩ := hrel
    have HB := Aside0.mk hbl
    have HO := Aside0.mk hok
    have hG2 := HG.out.below hbl
    have XA := Aside0.mk bA
    have g0 := hG2.at_ 0 (by omega)
    have g1 := hG2.at_ 1 (by omega)
    have g2 := hG2.at_ 2 (by omega)
    have g3 := hG2.at_ 3 (by omega)
    have g4 := hG2.at_ 4 (by omega)
    have g5 := hG2.at_ 5 (by omega)
    have g6 := hG2.at_ 6 (by omega)
    have g7 := hG2.at_ 7 (by omega)
    have g8 := hG2.at_ 8 (by omega)
    have g9 := hG2.at_ 9 (by omega)
    have g10 := hG2.at_ 10 (by omega)
    have g11 := hG2.at_ 11 (by omega)
    have g12 := hG2.at_ 12 (by omega)
    have g13 := hG2.at_ 13 (by omega)
    have g14 := hG2.at_ 14 (by omega)
    have g15 := hG2.at_ 15 (by omega)
    simp only [boundsArr, List.getElem?_toArray, List.getElem?_cons_zero, List.getElem?_cons_succ] at g0 g1 g2 g3 g4 g5 g6 g7 g8 g9 g10 g11 g12 g13 g14 g15
    clear hbl hok hG2
    rcases Int.lt_or_le z 8 with hz | hz
    · clear bA
      have hv : z = 0 ∨ z = 1 ∨ z = 2 ∨ z = 3 ∨ z = 4 ∨ z = 5 ∨ z = 6 ∨ z = 7 := by omega
      clear hz0 hz8 hz
      rcases hv with rfl | rfl | rfl | rfl | rfl | rfl | rfl | rfl
      · go_wp2
        go_quiet ((go_at_call 57; exact Calls.quiet_of_same (cwithin_q _ _ _ _)))
        clear g0 g1 g2 g3 g4 g5 g6 g7 g8 g9 g10 g11 g12 g13 g14 g15
        go_wp2
        · go_ret
          clear i0 i1 i2 i3 i4 i5 i6 i7
          rename_i hx
          rw [Bool.not_eq_true'] at hx
          exact ⟨ret_bool (fits_not c 0 (by omega) hx).symm, pw_below_drewN HB.out _⟩
        · rename_i hx
          rw [Bool.not_eq_false'] at hx
          have HX := Aside0.mk (show okAt c 0 = true from hx)
          clear hx
          go_roundw
          case rel =>
            refine ⟨1, by omega, by omega, rfl, fun j hj => ?_, Box.drewN XA.out, pw_below_drewN HB.out _⟩
            rcases Nat.lt_or_ge j 0 with hl | hl
            · exact HO.out j (by omega)
            · obtain rfl : j = 0 := by omega
              exact HX.out
          case measure => simp [intOf]
      · go_wp2
        go_quiet ((go_at_call 57; exact Calls.quiet_of_same (cwithin_q _ _ _ _)))
        clear g0 g1 g2 g3 g4 g5 g6 g7 g8 g9 g10 g11 g12 g13 g14 g15
        go_wp2
        · go_ret
          clear i0 i1 i2 i3 i4 i5 i6 i7
          rename_i hx
          rw [Bool.not_eq_true'] at hx
          exact ⟨ret_bool (fits_not c 1 (by omega) hx).symm, pw_below_drewN HB.out _⟩
        · rename_i hx
          rw [Bool.not_eq_false'] at hx
          have HX := Aside0.mk (show okAt c 1 = true from hx)
          clear hx
          go_roundw
          case rel =>
            refine ⟨2, by omega, by omega, rfl, fun j hj => ?_, Box.drewN XA.out, pw_below_drewN HB.out _⟩
            rcases Nat.lt_or_ge j 1 with hl | hl
            · exact HO.out j (by omega)
            · obtain rfl : j = 1 := by omega
              exact HX.out
          case measure => simp [intOf]
      · go_wp2
        go_quiet ((go_at_call 57; exact Calls.quiet_of_same (cwithin_q _ _ _ _)))
        clear g0 g1 g2 g3 g4 g5 g6 g7 g8 g9 g10 g11 g12 g13 g14 g15
        go_wp2
        · go_ret
          clear i0 i1 i2 i3 i4 i5 i6 i7
          rename_i hx
          rw [Bool.not_eq_true'] at hx
          exact ⟨ret_bool (fits_not c 2 (by omega) hx).symm, pw_below_drewN HB.out _⟩
        · rename_i hx
          rw [Bool.not_eq_false'] at hx
          have HX := Aside0.mk (show okAt c 2 = true from hx)
          clear hx
          go_roundw
          case rel =>
            refine ⟨3, by omega, by omega, rfl, fun j hj => ?_, Box.drewN XA.out, pw_below_drewN HB.out _⟩
            rcases Nat.lt_or_ge j 2 with hl | hl
            · exact HO.out j (by omega)
            · obtain rfl : j = 2 := by omega
              exact HX.out
          case measure => simp [intOf]
      · go_wp2
        go_quiet ((go_at_call 57; exact Calls.quiet_of_same (cwithin_q _ _ _ _)))
        clear g0 g1 g2 g3 g4 g5 g6 g7 g8 g9 g10 g11 g12 g13 g14 g15
        go_wp2
        · go_ret
          clear i0 i1 i2 i3 i4 i5 i6 i7
          rename_i hx
          rw [Bool.not_eq_true'] at hx
          exact ⟨ret_bool (fits_not c 3 (by omega) hx).symm, pw_below_drewN HB.out _⟩
        · rename_i hx
          rw [Bool.not_eq_false'] at hx
          have HX := Aside0.mk (show okAt c 3 = true from hx)
          clear hx
          go_roundw
          case rel =>
            refine ⟨4, by omega, by omega, rfl, fun j hj => ?_, Box.drewN XA.out, pw_below_drewN HB.out _⟩
            rcases Nat.lt_or_ge j 3 with hl | hl
            · exact HO.out j (by omega)
            · obtain rfl : j = 3 := by omega
              exact HX.out
          case measure => simp [intOf]
      · go_wp2
        go_quiet ((go_at_call 57; exact Calls.quiet_of_same (cwithin_q _ _ _ _)))
        clear g0 g1 g2 g3 g4 g5 g6 g7 g8 g9 g10 g11 g12 g13 g14 g15
        go_wp2
        · go_ret
          clear i0 i1 i2 i3 i4 i5 i6 i7
          rename_i hx
          rw [Bool.not_eq_true'] at hx
          exact ⟨ret_bool (fits_not c 4 (by omega) hx).symm, pw_below_drewN HB.out _⟩
        · rename_i hx
          rw [Bool.not_eq_false'] at hx
          have HX := Aside0.mk (show okAt c 4 = true from hx)
          clear hx
          go_roundw
          case rel =>
            refine ⟨5, by omega, by omega, rfl, fun j hj => ?_, Box.drewN XA.out, pw_below_drewN HB.out _⟩
            rcases Nat.lt_or_ge j 4 with hl | hl
            · exact HO.out j (by omega)
            · obtain rfl : j = 4 := by omega
              exact HX.out
          case measure => simp [intOf]
      · go_wp2
        go_quiet ((go_at_call 57; exact Calls.quiet_of_same (cwithin_q _ _ _ _)))
        clear g0 g1 g2 g3 g4 g5 g6 g7 g8 g9 g10 g11 g12 g13 g14 g15
        go_wp2
        · go_ret
          clear i0 i1 i2 i3 i4 i5 i6 i7
          rename_i hx
          rw [Bool.not_eq_true'] at hx
          exact ⟨ret_bool (fits_not c 5 (by omega) hx).symm, pw_below_drewN HB.out _⟩
        · rename_i hx
          rw [Bool.not_eq_false'] at hx
          have HX := Aside0.mk (show okAt c 5 = true from hx)
          clear hx
          go_roundw
          case rel =>
            refine ⟨6, by omega, by omega, rfl, fun j hj => ?_, Box.drewN XA.out, pw_below_drewN HB.out _⟩
            rcases Nat.lt_or_ge j 5 with hl | hl
            · exact HO.out j (by omega)
            · obtain rfl : j = 5 := by omega
              exact HX.out
          case measure => simp [intOf]
      · go_wp2
        go_quiet ((go_at_call 57; exact Calls.quiet_of_same (cwithin_q _ _ _ _)))
        clear g0 g1 g2 g3 g4 g5 g6 g7 g8 g9 g10 g11 g12 g13 g14 g15
        go_wp2
        · go_ret
          clear i0 i1 i2 i3 i4 i5 i6 i7
          rename_i hx
          rw [Bool.not_eq_true'] at hx
          exact ⟨ret_bool (fits_not c 6 (by omega) hx).symm, pw_below_drewN HB.out _⟩
        · rename_i hx
          rw [Bool.not_eq_false'] at hx
          have HX := Aside0.mk (show okAt c 6 = true from hx)
          clear hx
          go_roundw
          case rel =>
            refine ⟨7, by omega, by omega, rfl, fun j hj => ?_, Box.drewN XA.out, pw_below_drewN HB.out _⟩
            rcases Nat.lt_or_ge j 6 with hl | hl
            · exact HO.out j (by omega)
            · obtain rfl : j = 6 := by omega
              exact HX.out
          case measure => simp [intOf]
      · go_wp2
        go_quiet ((go_at_call 57; exact Calls.quiet_of_same (cwithin_q _ _ _ _)))
        clear g0 g1 g2 g3 g4 g5 g6 g7 g8 g9 g10 g11 g12 g13 g14 g15
        go_wp2
        · go_ret
          clear i0 i1 i2 i3 i4 i5 i6 i7
          rename_i hx
          rw [Bool.not_eq_true'] at hx
          exact ⟨ret_bool (fits_not c 7 (by omega) hx).symm, pw_below_drewN HB.out _⟩
        · rename_i hx
          rw [Bool.not_eq_false'] at hx
          have HX := Aside0.mk (show okAt c 7 = true from hx)
          clear hx
          go_roundw
          case rel =>
            refine ⟨8, by omega, by omega, rfl, fun j hj => ?_, Box.drewN XA.out, pw_below_drewN HB.out _⟩
            rcases Nat.lt_or_ge j 7 with hl | hl
            · exact HO.out j (by omega)
            · obtain rfl : j = 7 := by omega
              exact HX.out
          case measure => simp [intOf]
    · obtain rfl : z = 8 := by omega
      have HF := Aside0.mk (fits_of c HO.out)
      have rA := bA.cell
      clear g0 g1 g2 g3 g4 g5 g6 g7 g8 g9 g10 g11 g12 g13 g14 g15 hz0 hz8 hz bA
      go_wp2_with (go_at_call 57; ((with_reducible refine (cwithin_calls _ _ _ _).mono ?_)); rintro e w_ ⟨rfl, rfl⟩)
      go_ret
      exact ⟨ret_bool HF.out.symm, HB.out⟩
set_option maxHeartbeats 2000000 in
theorem r8Fits_calls (c : ChainV) (w : World) : Calls Tryd.prog 40 #[.agg #[.int .i64 c.va, .int .i64 c.sl, .int .i64 c.co, .int .i64 c.su, .int .i64 c.ti, .int .i64 c.di, .int .i64 c.ra, .int .i64 c.ro, .int .i64 c.ag, .int .u64 c.se]] w fun e w' => e = .returned (.bool (fitsC c)) ∧ Below w.heap.size w w' := by
  have HB := Aside0.mk (Below.refl w.heap.size w)
  go_enter Tryd.func40, Tryd.ntmps40
  go_wp2
  all_goals go_ret
  all_goals exact ⟨ret_bool (by rw [Bool.eq_iff_iff, fitsC_iff]; simp; omega), (by repeat (first | exact HB.out | apply below_alloc | apply pw_below_drewN | apply below_drew1 | refine below_set ?_ (by first | omega | (simp; omega))))⟩

set_option maxHeartbeats 400000 in
theorem pick8_calls (c n : Int) (w : World) (hc0 : -9223372036854775808 ≤ c) (hc1 : c ≤ 9223372036854775807) (hn : 1 ≤ n) (hn1 : n ≤ 9223372036854775807) :
    Calls Tryd.prog 26 #[.int .i64 c, .int .i64 n] w fun e w' => e = .returned (.int .i64 (pickF c n)) ∧ w = w' := by
  unfold pickF
  have hb : -9223372036854775808 ≤ (if c < 0 then -(c + 1) else c) % n ∧ (if c < 0 then -(c + 1) else c) % n ≤ 9223372036854775807 := by
    have := pickF_bd c n hn
    unfold pickF at this
    omega
  by_cases h : c < 0
  · rw [if_pos h] at hb ⊢
    go_enter Tryd.func26, Tryd.ntmps26
    go_wp2
    go_ret
    exact ⟨by first | rfl | exact ret_int (by rw [← Int.neg_tmod, Int.tmod_eq_emod_of_nonneg (by omega)]), rfl⟩
  · rw [if_neg h] at hb ⊢
    go_enter Tryd.func26, Tryd.ntmps26
    go_wp2
    go_ret
    exact ⟨by first | rfl | exact ret_int (by rw [Int.tmod_eq_emod_of_nonneg (by omega)]), rfl⟩

/-- Six raw numbers, and the chain that is made of them. -/
structure Six where
  (a b c d e f : Int)
  (ha : i64ok a) (hb : i64ok b) (hc : i64ok c) (hd : i64ok d) (he : i64ok e) (hf : i64ok f)
def chainF (n : Six) (seed : Int) : ChainV := ⟨1 + pickF n.a 60, 1 + pickF n.b 6, 1 + pickF (n.b.tdiv 8) 4, 1 + pickF n.d 9, 1 + pickF n.c 12, pickF (n.c.tdiv 16) (1 + pickF n.c 12 + 1), 1 + pickF n.e 8, pickF n.f 12, 1 + pickF (n.f.tdiv 16) 4, seed⟩
theorem tdiv_ok {x d : Int} (hx : i64ok x) (hd : 1 ≤ d) : i64ok (x.tdiv d) := by
  obtain ⟨h0, h1⟩ := hx
  rcases Int.le_total 0 x with h | h
  · rw [Int.tdiv_eq_ediv_of_nonneg h]
    have a := Int.ediv_nonneg h (show (0 : Int) ≤ d by omega)
    have b := Int.ediv_le_self d h
    exact ⟨by omega, by omega⟩
  · have e : x.tdiv d = -((-x).tdiv d) := by rw [Int.neg_tdiv, Int.neg_neg]
    rw [e, Int.tdiv_eq_ediv_of_nonneg (by omega)]
    have a := Int.ediv_nonneg (show (0 : Int) ≤ -x by omega) (show (0 : Int) ≤ d by omega)
    have b := Int.ediv_le_self d (show (0 : Int) ≤ -x by omega)
    exact ⟨by omega, by omega⟩
theorem chainF_fits (n : Six) (seed : Int) : fitsC (chainF n seed) = true := by
  have p1 := pickF_bd n.a 60 (by omega)
  have p2 := pickF_bd n.b 6 (by omega)
  have p3 := pickF_bd (n.b.tdiv 8) 4 (by omega)
  have p4 := pickF_bd n.d 9 (by omega)
  have p5 := pickF_bd n.c 12 (by omega)
  have p6 := pickF_bd (n.c.tdiv 16) (1 + pickF n.c 12 + 1) (by omega)
  have p7 := pickF_bd n.e 8 (by omega)
  have p8 := pickF_bd n.f 12 (by omega)
  have p9 := pickF_bd (n.f.tdiv 16) 4 (by omega)
  rw [fitsC_iff]
  simp only [chainF]
  omega
set_option maxHeartbeats 2000000 in
theorem Chain_calls (n : Six) (seed : Int) (w : World) : Calls Tryd.prog 10 #[.agg #[.int .i64 n.a, .int .i64 n.b, .int .i64 n.c, .int .i64 n.d, .int .i64 n.e, .int .i64 n.f], .int .u64 seed] w fun e w' =>
    e = .returned (.agg #[.int .i64 (chainF n seed).va, .int .i64 (chainF n seed).sl, .int .i64 (chainF n seed).co, .int .i64 (chainF n seed).su, .int .i64 (chainF n seed).ti, .int .i64 (chainF n seed).di, .int .i64 (chainF n seed).ra, .int .i64 (chainF n seed).ro, .int .i64 (chainF n seed).ag, .int .u64 (chainF n seed).se]) ∧ Below w.heap.size w w' := by
  obtain ⟨t1a, t1b⟩ := tdiv_ok n.hb (show (1 : Int) ≤ 8 by omega)
  obtain ⟨t2a, t2b⟩ := tdiv_ok n.hc (show (1 : Int) ≤ 16 by omega)
  obtain ⟨t3a, t3b⟩ := tdiv_ok n.hf (show (1 : Int) ≤ 16 by omega)
  obtain ⟨a, b, c, d, e, f, ⟨ha0, ha1⟩, ⟨hb0, hb1⟩, ⟨hc0, hc1⟩, ⟨hd0, hd1⟩, ⟨he0, he1⟩, ⟨hf0, hf1⟩⟩ := n
  simp only at t1a t1b t2a t2b t3a t3b
  have p1 := pickF_bd a 60 (by omega)
  have p2 := pickF_bd b 6 (by omega)
  have p3 := pickF_bd (b.tdiv 8) 4 (by omega)
  have p4 := pickF_bd d 9 (by omega)
  have p5 := pickF_bd c 12 (by omega)
  have p7 := pickF_bd e 8 (by omega)
  have p9 := pickF_bd (f.tdiv 16) 4 (by omega)
  show Calls _ _ _ _ (fun e' w' => e' = .returned (.agg #[.int .i64 (1 + pickF a 60), .int .i64 (1 + pickF b 6), .int .i64 (1 + pickF (b.tdiv 8) 4), .int .i64 (1 + pickF d 9), .int .i64 (1 + pickF c 12), .int .i64 (pickF (c.tdiv 16) (1 + pickF c 12 + 1)), .int .i64 (1 + pickF e 8), .int .i64 (pickF f 12), .int .i64 (1 + pickF (f.tdiv 16) 4), .int .u64 seed]) ∧ Below w.heap.size w w')
  go_enter Tryd.func10, Tryd.ntmps10
  go_wp2_with (go_at_call 26; ((with_reducible refine (pick8_calls _ _ _ (by omega) (by omega) (by omega) (by omega)).mono ?_)); rintro e w_ ⟨rfl, rfl⟩)
  have w1 : IntKind.i64.wrap (1 + pickF a 60) = 1 + pickF a 60 := IntWalk.i64_in _ (by omega)
  have w2 : IntKind.i64.wrap (1 + pickF b 6) = 1 + pickF b 6 := IntWalk.i64_in _ (by omega)
  have w3 : IntKind.i64.wrap (1 + pickF (b.tdiv 8) 4) = 1 + pickF (b.tdiv 8) 4 := IntWalk.i64_in _ (by omega)
  have w4 : IntKind.i64.wrap (1 + pickF d 9) = 1 + pickF d 9 := IntWalk.i64_in _ (by omega)
  have w5 : IntKind.i64.wrap (1 + pickF c 12 + 1) = 1 + pickF c 12 + 1 := IntWalk.i64_in _ (by omega)
  have w6 : IntKind.i64.wrap (1 + pickF e 8) = 1 + pickF e 8 := IntWalk.i64_in _ (by omega)
  have w7 : IntKind.i64.wrap (1 + pickF (f.tdiv 16) 4) = 1 + pickF (f.tdiv 16) 4 := IntWalk.i64_in _ (by omega)
  have w8 : IntKind.i64.wrap (b.tdiv 8) = b.tdiv 8 := IntWalk.i64_in _ (by omega)
  have w9 : IntKind.i64.wrap (c.tdiv 16) = c.tdiv 16 := IntWalk.i64_in _ (by omega)
  have w10 : IntKind.i64.wrap (f.tdiv 16) = f.tdiv 16 := IntWalk.i64_in _ (by omega)
  generalize hW : (w.alloc _).alloc _ = W
  have c0 : W.cell? ⟨w.heap.size, 0, none⟩ = some (.int .i64 a) := by rw [← hW]; simp [go_sem]
  have c1 : W.cell? ⟨w.heap.size, 1, none⟩ = some (.int .i64 b) := by rw [← hW]; simp [go_sem]
  have c2 : W.cell? ⟨w.heap.size, 2, none⟩ = some (.int .i64 c) := by rw [← hW]; simp [go_sem]
  have c3 : W.cell? ⟨w.heap.size, 3, none⟩ = some (.int .i64 d) := by rw [← hW]; simp [go_sem]
  have c4 : W.cell? ⟨w.heap.size, 4, none⟩ = some (.int .i64 e) := by rw [← hW]; simp [go_sem]
  have c5 : W.cell? ⟨w.heap.size, 5, none⟩ = some (.int .i64 f) := by rw [← hW]; simp [go_sem]
  have d0 : W.cell? ⟨w.heap.size + 1, 0, none⟩ = some (.int .i64 0) := by rw [← hW]; simp [go_sem]
  have d1 : W.cell? ⟨w.heap.size + 1, 1, none⟩ = some (.int .i64 0) := by rw [← hW]; simp [go_sem]
  have d2 : W.cell? ⟨w.heap.size + 1, 2, none⟩ = some (.int .i64 0) := by rw [← hW]; simp [go_sem]
  have d3 : W.cell? ⟨w.heap.size + 1, 3, none⟩ = some (.int .i64 0) := by rw [← hW]; simp [go_sem]
  have d4 : W.cell? ⟨w.heap.size + 1, 4, none⟩ = some (.int .i64 0) := by rw [← hW]; simp [go_sem]
  have d5 : W.cell? ⟨w.heap.size + 1, 5, none⟩ = some (.int .i64 0) := by rw [← hW]; simp [go_sem]
  have d6 : W.cell? ⟨w.heap.size + 1, 6, none⟩ = some (.int .i64 0) := by rw [← hW]; simp [go_sem]
  have d7 : W.cell? ⟨w.heap.size + 1, 7, none⟩ = some (.int .i64 0) := by rw [← hW]; simp [go_sem]
  have d8 : W.cell? ⟨w.heap.size + 1, 8, none⟩ = some (.int .i64 0) := by rw [← hW]; simp [go_sem]
  have d9 : W.cell? ⟨w.heap.size + 1, 9, none⟩ = some (.int .u64 0) := by rw [← hW]; simp [go_sem]
  have f2 : ∀ j, W.frozen? ⟨w.heap.size + 1, j, none⟩ = false := fun j => by rw [← hW]; simp [go_sem]
  have HW := Aside0.mk hW
  clear hW
  go_region_held3 (fun w' => w'.cell? ⟨w.heap.size, 0, none⟩ = some (.int .i64 a) ∧ w'.cell? ⟨w.heap.size, 1, none⟩ = some (.int .i64 b) ∧ w'.cell? ⟨w.heap.size, 2, none⟩ = some (.int .i64 c) ∧ w'.cell? ⟨w.heap.size, 3, none⟩ = some (.int .i64 d) ∧ w'.cell? ⟨w.heap.size, 4, none⟩ = some (.int .i64 e) ∧ w'.cell? ⟨w.heap.size, 5, none⟩ = some (.int .i64 f)) (go_keep) (first | (go_at_call 26; ((with_reducible refine (pick8_calls _ _ _ (by omega) (by omega) (by omega) (by omega)).mono ?_)); rintro e w_ ⟨rfl, rfl⟩))
  go_wp2
  refine bodyPost_ret (v := .agg #[.int .i64 (1 + pickF a 60), .int .i64 (1 + pickF b 6), .int .i64 (1 + pickF (b.tdiv 8) 4), .int .i64 (1 + pickF d 9), .int .i64 (1 + pickF c 12), .int .i64 (pickF (c.tdiv 16) (1 + pickF c 12 + 1)), .int .i64 (1 + pickF e 8), .int .i64 (pickF f 12), .int .i64 (1 + pickF (f.tdiv 16) 4), .int .u64 seed]) (by simp [results, Tryd.results10, go_sem, d0, d1, d2, d3, d4, d5, d6, d7, d8, d9]) rfl ⟨rfl, ?_⟩
  have B2 : Below w.heap.size w W := by rw [← HW.out]; exact (by repeat (with_reducible first | assumption | exact Below.refl _ _ | apply below_alloc | refine below_set ?_ (by first | omega | (simp; omega)) | apply pw_below_drewN | apply below_drew1))
  exact (by repeat (with_reducible first | assumption | exact Below.refl _ _ | apply below_alloc | refine below_set ?_ (by first | omega | (simp; omega)) | apply pw_below_drewN | apply below_drew1))
end Go.Proofs.YtdepmbnoecpccaaDoor
