
/- What the functions of bits (chapter 2) tell, as far as other chapters use them. -/
import Derived.StillTailTactics
import Derived.Test.YtejfjbfkbdcmnaaDoorBitsPure
import Derived.Test.YtejfjbfkbdcmnaaDoorBoxes
set_option linter.unusedVariables false
set_option linter.unusedSimpArgs false
namespace Go.Proofs.YtejfjbfkbdcmnaaDoor
open Go.RowKit Go.Proofs.YtejfjbfkbdcmnaaDoorW.PrintWords Go.Proofs.YtejfjbfkbdcmnaaDoorW.PrintLast Go.Proofs.YtejfjbfkbdcmnaaDoorW.PrintMore

theorem take_sameB {xs ys : List Int} (k : Nat) (h : xs.take k = ys.take k) (h1 : k < xs.length) (h2 : k < ys.length) (h3 : nth xs k = nth ys k) : xs.take (k + 1) = ys.take (k + 1) := by
  rw [List.take_succ_eq_append_getElem h1, List.take_succ_eq_append_getElem h2, h, ← nth_eq h1, ← nth_eq h2, h3]
theorem nth_of_eqB {xs ys : List Int} (h : xs = ys) (k : Nat) : nth xs k = nth ys k := by rw [h]
set_option maxHeartbeats 2000000 in
theorem Same_calls (la lb : Int) (A B : Option Addr) (m n c d : Nat) (xs ys : List Int) (w : World) (hx : (Kd.int .i64).C w A m xs) (hy : (Kd.int .i64).C w B n ys) :
    Calls Tryd.prog 20 #[.agg #[.int .i64 la, .slice A m c], .agg #[.int .i64 lb, .slice B n d]] w fun e w' => e = .returned (.bool (decide (la = lb ∧ xs = ys))) ∧ Below w.heap.size w w' := by
  have hmx := Kd.C_max hx
  have HM := Aside0.mk (show m = xs.length from (Kd.C_len hx).symm)
  have HN := Aside0.mk (show n = ys.length from (Kd.C_len hy).symm)
  have HX := Aside0.mk hx
  have HY := Aside0.mk hy
  clear hx hy
  have hne : w.heap.size ≠ w.heap.size + 1 := by omega
  have HP := Aside0.mk (Below.refl w.heap.size w)
  by_cases hla : la = lb
  · subst hla
    by_cases hl : m = n
    · subst hl
      go_enter Tryd.func20, Tryd.ntmps20
      go_upto_region 3 with (fail)
      obtain ⟨W, hW⟩ : ∃ W, (w.alloc (.cells #[.int .i64 la, .slice A m c] 37)).alloc (.cells #[.int .i64 la, .slice B m d] 37) = W := ⟨_, rfl⟩
      rw [hW]
      have bA : Box W w.heap.size #[.int .i64 la, .slice A m c] 37 := hW ▸ Box.new.alloc
      have bB : Box W (w.heap.size + 1) #[.int .i64 la, .slice B m d] 37 := hW ▸ Box.new1
      have hbl : Below w.heap.size w W := hW ▸ below_alloc (below_alloc (Below.refl _ _) _) _
      clear hW
      have XA := Aside0.mk bA
      have XB := Aside0.mk bB
      have HB := Aside0.mk hbl
      clear bA bB hbl
      go_wp2
      go_loopw [5] (fun i wr => ∃ k : Nat, k ≤ m ∧ i = .int .i64 k ∧ xs.take k = ys.take k ∧ Box wr w.heap.size #[.int .i64 la, .slice A m c] 37 ∧ Box wr (w.heap.size + 1) #[.int .i64 la, .slice B m d] 37 ∧ Below w.heap.size w wr) (fun i _ => m - (intOf i).toNat)
      case atStart => exact ⟨0, by omega, rfl, rfl, XA.out, XB.out, HB.out⟩
      case round =>
        clear XA XB HB
        obtain ⟨k, hk, rfl, ht, bA, bB, hbl⟩ := hrel
        have HT := Aside0.mk ht
        have HB := Aside0.mk hbl
        clear ht hbl
        have rA := bA.cell
        have rB := bB.cell
        have XA := Aside0.mk bA
        have XB := Aside0.mk bB
        clear bA bB
        by_cases hlt : k < m
        · have hlt1 : k < xs.length := by rw [← HM.out]; exact hlt
          have hlt2 : k < ys.length := by rw [← HN.out]; exact hlt
          obtain ⟨b1, o1, s1, rfl, hc1⟩ := C_nat HX.out k hlt
          obtain ⟨b2, o2, s2, rfl, hc2⟩ := C_nat HY.out k hlt
          replace hc1 := (HB.out.cell (cell_lt hc1)).trans hc1
          replace hc2 := (HB.out.cell (cell_lt hc2)).trans hc2
          have HE := Aside0.mk (fun h => take_sameB k HT.out hlt1 hlt2 h)
          have HF := Aside0.mk (fun (h : xs = ys) => nth_of_eqB h k)
          generalize nth xs k = x at *
          generalize nth ys k = y at *
          by_cases hxy : x = y
          · have HE2 := Aside0.mk (HE.out hxy)
            clear HE HF
            subst hxy
            go_wp2
            go_quiet (fail)
            go_wp2
            go_roundw
            case rel => exact ⟨k + 1, by omega, by go_num, HE2.out, XA.out.drewN, XB.out.drewN, pw_below_drewN HB.out _⟩
            case measure => simp [intOf]; omega
          · go_wp2
            go_quiet (fail)
            go_wp2
            go_ret
            exact ⟨ret_bool (decide_eq_false (fun h => hxy (HF.out h.2))).symm, pw_below_drewN HB.out _⟩
        · go_wp2
          go_ret
          exact ⟨ret_bool (decide_eq_true ⟨trivial, by
            have := HT.out
            rwa [List.take_of_length_le (by rw [← HM.out]; omega), List.take_of_length_le (by rw [← HN.out]; omega)] at this⟩).symm, HB.out⟩
    · go_enter Tryd.func20, Tryd.ntmps20
      go_wp2
      go_ret
      exact ⟨ret_bool (decide_eq_false (fun h => hl (by rw [HM.out, HN.out, h.2]))).symm, below_alloc (below_alloc (Below.refl _ _) _) _⟩
  · go_enter Tryd.func20, Tryd.ntmps20
    go_wp2
    go_ret
    exact ⟨ret_bool (decide_eq_false (fun h => hla h.1)).symm, below_alloc (below_alloc (Below.refl _ _) _) _⟩
set_option maxHeartbeats 2000000 in
theorem Right_calls (len : Int) (A : Option Addr) (n c : Nat) (xs : List Int) (w : World) (hx : (Kd.int .i64).C w A n xs) :
    Calls Tryd.prog 21 #[.agg #[.int .i64 len, .slice A n c]] w fun e w' => e = .returned (.bool (rightB len xs)) ∧ Below w.heap.size w w' := by
  have hmx := Kd.C_max hx
  have HM := Aside0.mk (show n = xs.length from (Kd.C_len hx).symm)
  have HX := Aside0.mk hx
  clear hx
  unfold rightB
  by_cases h0 : 0 ≤ len
  · by_cases h1 : len ≤ 2048
    · rw [decide_eq_true h0, decide_eq_true h1, Bool.true_and, Bool.true_and]
      have HB := Aside0.mk (Below.refl w.heap.size w)
      go_enter Tryd.func21, Tryd.ntmps21
      go_wp2
      go_loopw [3, 17] (fun lv i wr => ∃ k : Nat, k ≤ n ∧ i = .int .i64 k ∧ lv = .int .i64 (lastB (-1) (xs.take k)) ∧ incB (-1) len (xs.take k) = true ∧ Box wr w.heap.size #[.int .i64 len, .slice A n c] 37 ∧ Below w.heap.size w wr) (fun _ i _ => n - (intOf i).toNat)
      case atStart => exact ⟨0, by omega, rfl, rfl, rfl, Box.new, below_alloc HB.out _⟩
      case round =>
        clear HB
        obtain ⟨k, hk, rfl, rfl, ht, bA, hbl⟩ := hrel
        have HT := Aside0.mk ht
        have HB := Aside0.mk hbl
        clear ht hbl
        have rA := bA.cell
        have XA := Aside0.mk bA
        clear bA
        by_cases hlt : k < n
        · have hlt1 : k < xs.length := by rw [← HM.out]; exact hlt
          obtain ⟨b1, o1, s1, rfl, hc1⟩ := C_nat HX.out k hlt
          replace hc1 := (HB.out.cell (cell_lt hc1)).trans hc1
          have hsn : xs.take (k + 1) = xs.take k ++ [nth xs k] := by rw [List.take_succ_eq_append_getElem hlt1, nth_eq hlt1]
          have HS := Aside0.mk (incB_snoc (-1) len (xs.take k) (nth xs k))
          have HL := Aside0.mk (lastB_snoc (-1) (xs.take k) (nth xs k))
          have HD := Aside0.mk (show xs = xs.take k ++ (nth xs k :: xs.drop (k + 1)) by rw [nth_eq hlt1, ← List.drop_eq_getElem_cons hlt1, List.take_append_drop])
          have HA := Aside0.mk (incB_append (-1) len (xs.take k) (nth xs k :: xs.drop (k + 1)))
          rw [← HD.out, HT.out, Bool.true_and] at HA
          rw [HT.out, Bool.true_and] at HS
          have HN := Aside0.mk hsn
          clear hsn
          generalize lastB (-1) (xs.take k) = l at *
          generalize nth xs k = x at *
          rcases Int.lt_or_le l x with hl | hl
          · rcases Int.lt_or_le x len with hx | hx
            · have hd0 : ¬ x ≤ l := by omega
              have hd1 : ¬ len ≤ x := by omega
              go_wp2
              go_roundw
              case rel => exact ⟨k + 1, by omega, by go_num, by rw [HN.out, HL.out], by rw [HN.out, HS.out, decide_eq_true hl, decide_eq_true hx]; rfl, XA.out, HB.out⟩
              case measure => simp [intOf]; omega
            · have hd0 : ¬ x ≤ l := by omega
              go_wp2
              go_ret
              exact ⟨ret_bool (by rw [HA.out]; simp [incB]; omega), HB.out⟩
          · go_wp2
            go_ret
            exact ⟨ret_bool (by rw [HA.out]; simp [incB]; omega), HB.out⟩
        · go_wp2
          go_ret
          refine ⟨ret_bool ?_, HB.out⟩
          have := HT.out
          rw [List.take_of_length_le (by rw [← HM.out]; omega)] at this
          exact this.symm
    · rw [decide_eq_true h0, decide_eq_false h1]
      go_enter Tryd.func21, Tryd.ntmps21
      go_wp2
      go_ret
      exact ⟨rfl, below_alloc (Below.refl _ _) _⟩
  · rw [decide_eq_false h0]
    go_enter Tryd.func21, Tryd.ntmps21
    go_wp2
    go_ret
    exact ⟨rfl, below_alloc (Below.refl _ _) _⟩
end Go.Proofs.YtejfjbfkbdcmnaaDoor
