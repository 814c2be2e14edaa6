
/- Whether bits are among others (chapter 2). -/
import Derived.StillTailTactics
import Derived.Test.YtejfjbfkbdcmnaaDoorBitsFind
set_option linter.unusedVariables false
set_option linter.unusedSimpArgs false
namespace Go.Proofs.YtejfjbfkbdcmnaaDoor
open Go.RowKit Go.Proofs.YtejfjbfkbdcmnaaDoorW.PrintWords Go.Proofs.YtejfjbfkbdcmnaaDoorW.PrintLast Go.Proofs.YtejfjbfkbdcmnaaDoorW.PrintMore

theorem Has_v (len : Int) (A : Option Addr) (n c : Nat) (xs : List Int) (i : Int) (b : Bool) (w : World) (hx : (Kd.int .i64).C w A n xs) (hb : hasB len xs i = b) :
    Calls Tryd.prog 22 #[.agg #[.int .i64 len, .slice A n c], .int .i64 i] w fun e w' => e = .returned (.bool b) ∧ Below w.heap.size w w' := hb ▸ Has_calls len A n c xs i w hx
theorem Right_v (len : Int) (A : Option Addr) (n c : Nat) (xs : List Int) (b : Bool) (w : World) (hx : (Kd.int .i64).C w A n xs) (hb : rightB len xs = b) :
    Calls Tryd.prog 21 #[.agg #[.int .i64 len, .slice A n c]] w fun e w' => e = .returned (.bool b) ∧ Below w.heap.size w w' := hb ▸ Right_calls len A n c xs w hx
def alikeB (la : Int) (xs : List Int) (lb : Int) (ys : List Int) : Bool := rightB la xs && (rightB lb ys && decide (la = lb))
set_option maxHeartbeats 1000000 in
theorem alike_calls (la lb : Int) (A B : Option Addr) (n m c d : Nat) (xs ys : List Int) (w : World) (hx : (Kd.int .i64).C w A n xs) (hy : (Kd.int .i64).C w B m ys) :
    Calls Tryd.prog 37 #[.agg #[.int .i64 la, .slice A n c], .agg #[.int .i64 lb, .slice B m d]] w fun e w' => e = .returned (.bool (alikeB la xs lb ys)) ∧ Below w.heap.size w w' := by
  have HB := Aside0.mk (Below.refl w.heap.size w)
  have CX := Aside0.mk hx
  have CY := Aside0.mk hy
  clear hx hy
  unfold alikeB
  rcases Bool.eq_false_or_eq_true (rightB la xs) with h1 | h1
  · rcases Bool.eq_false_or_eq_true (rightB lb ys) with h2 | h2
    · rw [h1, h2]
      have H1 := Aside0.mk h1
      have H2 := Aside0.mk h2
      clear h1 h2
      go_enter Tryd.func37, Tryd.ntmps37
      go_wp2_with fail
      refine (Right_v la A n c xs true _ ?hx H1.out).mono ?_
      case hx => exact C_alloc (C_alloc CX.out)
      rintro e w1 ⟨rfl, hb_⟩
      have YA : Box w1 (w.heap.size) _ _ := Box.below (by repeat (with_reducible first | exact XA.out | exact Box.new | exact Box.new1 | exact Box.new2 | exact Box.new3 | apply Box.alloc | apply Box.drew | apply Box.drewN | apply Box.set)) hb_
      (try clear XA rA kA fA); have XA := Aside0.mk YA; have rA := YA.cell; have fA := YA.frozen; have kA := YA.lt; clear YA
      have YB : Box w1 (w.heap.size + 1) _ _ := Box.below (by repeat (with_reducible first | exact XB.out | exact Box.new | exact Box.new1 | exact Box.new2 | exact Box.new3 | apply Box.alloc | apply Box.drew | apply Box.drewN | apply Box.set)) hb_
      (try clear XB rB kB fB); have XB := Aside0.mk YB; have rB := YB.cell; have fB := YB.frozen; have kB := YB.lt; clear YB
      have ZCX := Aside0.mk (Kd.C_below (by repeat (with_reducible first | exact CX.out | apply C_alloc)) hb_); clear CX; have CX := ZCX; clear ZCX
      have ZCY := Aside0.mk (Kd.C_below (by repeat (with_reducible first | exact CY.out | apply C_alloc)) hb_); clear CY; have CY := ZCY; clear ZCY
      have n_ := Aside0.mk (below_step (by repeat (first | exact HB.out | apply below_alloc | apply pw_below_drewN | apply below_drew1 | refine below_set ?_ (by first | omega | (simp; omega)))) hb_); clear HB hb_; have HB := n_; clear n_
      go_wp2_with fail
      refine (Right_v lb B m d ys true _ ?hx H2.out).mono ?_
      case hx => exact CY.out
      rintro e w2 ⟨rfl, hb_⟩
      have YA : Box w2 (w.heap.size) _ _ := Box.below (by repeat (with_reducible first | exact XA.out | exact Box.new | exact Box.new1 | exact Box.new2 | exact Box.new3 | apply Box.alloc | apply Box.drew | apply Box.drewN | apply Box.set)) hb_
      (try clear XA rA kA fA); have XA := Aside0.mk YA; have rA := YA.cell; have fA := YA.frozen; have kA := YA.lt; clear YA
      have YB : Box w2 (w.heap.size + 1) _ _ := Box.below (by repeat (with_reducible first | exact XB.out | exact Box.new | exact Box.new1 | exact Box.new2 | exact Box.new3 | apply Box.alloc | apply Box.drew | apply Box.drewN | apply Box.set)) hb_
      (try clear XB rB kB fB); have XB := Aside0.mk YB; have rB := YB.cell; have fB := YB.frozen; have kB := YB.lt; clear YB
      have ZCX := Aside0.mk (Kd.C_below (by repeat (with_reducible first | exact CX.out | apply C_alloc)) hb_); clear CX; have CX := ZCX; clear ZCX
      have ZCY := Aside0.mk (Kd.C_below (by repeat (with_reducible first | exact CY.out | apply C_alloc)) hb_); clear CY; have CY := ZCY; clear ZCY
      have n_ := Aside0.mk (below_step (by repeat (first | exact HB.out | apply below_alloc | apply pw_below_drewN | apply below_drew1 | refine below_set ?_ (by first | omega | (simp; omega)))) hb_); clear HB hb_; have HB := n_; clear n_
      go_wp2
      go_ret
      exact ⟨ret_bool (by simp; rfl), HB.out⟩
    · rw [h1, h2]
      have H1 := Aside0.mk h1
      have H2 := Aside0.mk h2
      clear h1 h2
      go_enter Tryd.func37, Tryd.ntmps37
      go_wp2_with fail
      refine (Right_v la A n c xs true _ ?hx H1.out).mono ?_
      case hx => exact C_alloc (C_alloc CX.out)
      rintro e w1 ⟨rfl, hb_⟩
      have YA : Box w1 (w.heap.size) _ _ := Box.below (by repeat (with_reducible first | exact XA.out | exact Box.new | exact Box.new1 | exact Box.new2 | exact Box.new3 | apply Box.alloc | apply Box.drew | apply Box.drewN | apply Box.set)) hb_
      (try clear XA rA kA fA); have XA := Aside0.mk YA; have rA := YA.cell; have fA := YA.frozen; have kA := YA.lt; clear YA
      have YB : Box w1 (w.heap.size + 1) _ _ := Box.below (by repeat (with_reducible first | exact XB.out | exact Box.new | exact Box.new1 | exact Box.new2 | exact Box.new3 | apply Box.alloc | apply Box.drew | apply Box.drewN | apply Box.set)) hb_
      (try clear XB rB kB fB); have XB := Aside0.mk YB; have rB := YB.cell; have fB := YB.frozen; have kB := YB.lt; clear YB
      have ZCX := Aside0.mk (Kd.C_below (by repeat (with_reducible first | exact CX.out | apply C_alloc)) hb_); clear CX; have CX := ZCX; clear ZCX
      have ZCY := Aside0.mk (Kd.C_below (by repeat (with_reducible first | exact CY.out | apply C_alloc)) hb_); clear CY; have CY := ZCY; clear ZCY
      have n_ := Aside0.mk (below_step (by repeat (first | exact HB.out | apply below_alloc | apply pw_below_drewN | apply below_drew1 | refine below_set ?_ (by first | omega | (simp; omega)))) hb_); clear HB hb_; have HB := n_; clear n_
      go_wp2_with fail
      refine (Right_v lb B m d ys false _ ?hx H2.out).mono ?_
      case hx => exact CY.out
      rintro e w2 ⟨rfl, hb_⟩
      have YA : Box w2 (w.heap.size) _ _ := Box.below (by repeat (with_reducible first | exact XA.out | exact Box.new | exact Box.new1 | exact Box.new2 | exact Box.new3 | apply Box.alloc | apply Box.drew | apply Box.drewN | apply Box.set)) hb_
      (try clear XA rA kA fA); have XA := Aside0.mk YA; have rA := YA.cell; have fA := YA.frozen; have kA := YA.lt; clear YA
      have YB : Box w2 (w.heap.size + 1) _ _ := Box.below (by repeat (with_reducible first | exact XB.out | exact Box.new | exact Box.new1 | exact Box.new2 | exact Box.new3 | apply Box.alloc | apply Box.drew | apply Box.drewN | apply Box.set)) hb_
      (try clear XB rB kB fB); have XB := Aside0.mk YB; have rB := YB.cell; have fB := YB.frozen; have kB := YB.lt; clear YB
      have ZCX := Aside0.mk (Kd.C_below (by repeat (with_reducible first | exact CX.out | apply C_alloc)) hb_); clear CX; have CX := ZCX; clear ZCX
      have ZCY := Aside0.mk (Kd.C_below (by repeat (with_reducible first | exact CY.out | apply C_alloc)) hb_); clear CY; have CY := ZCY; clear ZCY
      have n_ := Aside0.mk (below_step (by repeat (first | exact HB.out | apply below_alloc | apply pw_below_drewN | apply below_drew1 | refine below_set ?_ (by first | omega | (simp; omega)))) hb_); clear HB hb_; have HB := n_; clear n_
      go_wp2
      go_ret
      exact ⟨rfl, HB.out⟩
  · rw [h1]
    have H1 := Aside0.mk h1
    clear h1
    go_enter Tryd.func37, Tryd.ntmps37
    go_wp2_with fail
    refine (Right_v la A n c xs false _ ?hx H1.out).mono ?_
    case hx => exact C_alloc (C_alloc CX.out)
    rintro e w1 ⟨rfl, hb_⟩
    have YA : Box w1 (w.heap.size) _ _ := Box.below (by repeat (with_reducible first | exact XA.out | exact Box.new | exact Box.new1 | exact Box.new2 | exact Box.new3 | apply Box.alloc | apply Box.drew | apply Box.drewN | apply Box.set)) hb_
    (try clear XA rA kA fA); have XA := Aside0.mk YA; have rA := YA.cell; have fA := YA.frozen; have kA := YA.lt; clear YA
    have YB : Box w1 (w.heap.size + 1) _ _ := Box.below (by repeat (with_reducible first | exact XB.out | exact Box.new | exact Box.new1 | exact Box.new2 | exact Box.new3 | apply Box.alloc | apply Box.drew | apply Box.drewN | apply Box.set)) hb_
    (try clear XB rB kB fB); have XB := Aside0.mk YB; have rB := YB.cell; have fB := YB.frozen; have kB := YB.lt; clear YB
    have ZCX := Aside0.mk (Kd.C_below (by repeat (with_reducible first | exact CX.out | apply C_alloc)) hb_); clear CX; have CX := ZCX; clear ZCX
    have ZCY := Aside0.mk (Kd.C_below (by repeat (with_reducible first | exact CY.out | apply C_alloc)) hb_); clear CY; have CY := ZCY; clear ZCY
    have n_ := Aside0.mk (below_step (by repeat (first | exact HB.out | apply below_alloc | apply pw_below_drewN | apply below_drew1 | refine below_set ?_ (by first | omega | (simp; omega)))) hb_); clear HB hb_; have HB := n_; clear n_
    go_wp2
    go_ret
    exact ⟨rfl, HB.out⟩
set_option maxHeartbeats 1000000 in
theorem sub1_calls (lb x : Int) (B : Option Addr) (b m d : Nat) (ys : List Int) (r : Bool) (w : World) (hy : (Kd.int .i64).C w B m ys) (hb : Box w b #[.int .i64 lb, .slice B m d] 37) (hr : hasB lb ys x = r) :
    Calls Tryd.prog 39 #[.int .i64 x, .pointer (some ⟨b, 0, none⟩)] w fun e w' => e = .returned (.bool (!r)) ∧ Below w.heap.size w w' := by
  have HB := Aside0.mk (Below.refl w.heap.size w)
  have CY := Aside0.mk hy
  have rb := hb.cell
  have HR := Aside0.mk hr
  clear hy hr
  go_enter Tryd.func39, Tryd.ntmps39
  go_wp2_with fail
  refine (Has_v lb B m d ys x r _ CY.out HR.out).mono ?_
  rintro e w1 ⟨rfl, hb_⟩
  have n_ := Aside0.mk (below_step (by repeat (first | exact HB.out | apply below_alloc | apply pw_below_drewN | apply below_drew1 | refine below_set ?_ (by first | omega | (simp; omega)))) hb_); clear HB hb_; have HB := n_; clear n_
  go_wp2
  go_ret
  exact ⟨rfl, HB.out⟩
set_option maxHeartbeats 2000000 in
theorem IdxSub_calls (lb : Int) (A B : Option Addr) (b n c m d : Nat) (xs ys : List Int) (w : World) (hx : (Kd.int .i64).C w A n xs) (hy : (Kd.int .i64).C w B m ys) (hb : Box w b #[.int .i64 lb, .slice B m d] 37) :
    Calls Tryd.prog 51 #[.slice A n c, .func (.func 39) #[] #[.pointer (some ⟨b, 0, none⟩)]] w fun e w' => ∃ r, e = .returned (.int .i64 r) ∧ (0 ≤ r ↔ ∃ x ∈ xs, hasB lb ys x = false) ∧ Below w.heap.size w w' := by
  have hmx := Kd.C_max hx
  have HM := Aside0.mk (show n = xs.length from (Kd.C_len hx).symm)
  have HX := Aside0.mk hx
  have HY := Aside0.mk hy
  have HBB := Aside0.mk hb
  have HB := Aside0.mk (Below.refl w.heap.size w)
  clear hx hy hb
  go_enter Tryd.func51, Tryd.ntmps51
  go_wp2
  go_loopw [8] (fun i wr => ∃ k : Nat, k ≤ n ∧ i = .int .i64 k ∧ (∀ j, j < k → hasB lb ys (nth xs j) = true) ∧ Below w.heap.size w wr) (fun i _ => n - (intOf i).toNat)
  case atStart => exact ⟨0, by omega, rfl, fun j hj => by omega, HB.out⟩
  case round =>
    clear HB
    obtain ⟨k, hk, rfl, ht, hbl⟩ := hrel
    have HT := Aside0.mk ht
    have HB := Aside0.mk hbl
    clear ht hbl
    by_cases hlt : k < n
    · have HXK := Aside0.mk (nth_mem (xs := xs) (i := k) (by rw [← HM.out]; exact hlt))
      obtain ⟨b1, o1, s1, rfl, hc1⟩ := C_nat HX.out k hlt
      replace hc1 := (HB.out.cell (cell_lt hc1)).trans hc1
      have HYW := Aside0.mk (Kd.C_below HY.out HB.out)
      have HBW := Aside0.mk (HBB.out.below HB.out)
      generalize hv : nth xs k = v at *
      have HV := Aside0.mk hv
      clear hv
      rcases Bool.eq_false_or_eq_true (hasB lb ys v) with hr | hr
      · have HR := Aside0.mk hr
        clear hr
        go_wp2_with fail
        refine (sub1_calls lb v B b m d ys true _ HYW.out HBW.out HR.out).mono ?_
        rintro e w5 ⟨rfl, hb_⟩
        have n_ := Aside0.mk (below_step (by repeat (first | exact HB.out | apply below_alloc | apply pw_below_drewN | apply below_drew1 | refine below_set ?_ (by first | omega | (simp; omega)))) hb_); clear HB hb_; have HB := n_; clear n_
        go_wp2
        go_roundw
        case rel =>
          refine ⟨k + 1, by omega, by go_num, fun j hj => ?_, HB.out⟩
          rcases Nat.lt_or_ge j k with g | g
          · exact HT.out j g
          · obtain rfl : j = k := by omega
            rw [HV.out]
            exact HR.out
        case measure => simp [intOf]; omega
      · have HR := Aside0.mk hr
        clear hr
        go_wp2_with fail
        refine (sub1_calls lb v B b m d ys false _ HYW.out HBW.out HR.out).mono ?_
        rintro e w5 ⟨rfl, hb_⟩
        have n_ := Aside0.mk (below_step (by repeat (first | exact HB.out | apply below_alloc | apply pw_below_drewN | apply below_drew1 | refine below_set ?_ (by first | omega | (simp; omega)))) hb_); clear HB hb_; have HB := n_; clear n_
        go_wp2
        go_ret
        exact ⟨_, rfl, ⟨fun _ => ⟨v, HXK.out, HR.out⟩, fun _ => by omega⟩, HB.out⟩
    · go_wp2
      go_ret
      refine ⟨_, rfl, ⟨fun hh => absurd hh (by omega), fun ⟨x, hx, hr⟩ => ?_⟩, HB.out⟩
      obtain ⟨i, hi, rfl⟩ := List.getElem_of_mem hx
      rw [← nth_eq hi, HT.out i (by have := HM.out; omega)] at hr
      cases hr
def subB (la : Int) (xs : List Int) (lb : Int) (ys : List Int) : Bool := alikeB la xs lb ys && xs.all (hasB lb ys)
set_option maxHeartbeats 1000000 in
theorem ContSub_calls (lb : Int) (A B : Option Addr) (b n c m d : Nat) (xs ys : List Int) (w : World) (hx : (Kd.int .i64).C w A n xs) (hy : (Kd.int .i64).C w B m ys) (hb : Box w b #[.int .i64 lb, .slice B m d] 37) :
    Calls Tryd.prog 38 #[.slice A n c, .func (.func 39) #[] #[.pointer (some ⟨b, 0, none⟩)]] w fun e w' => e = .returned (.bool (!xs.all (hasB lb ys))) ∧ Below w.heap.size w w' := by
  have HB := Aside0.mk (Below.refl w.heap.size w)
  have HX := Aside0.mk hx
  have HY := Aside0.mk hy
  have HBB := Aside0.mk hb
  clear hx hy hb
  go_enter Tryd.func38, Tryd.ntmps38
  go_wp2_with fail
  refine (IdxSub_calls lb A B b n c m d xs ys _ HX.out HY.out HBB.out).mono ?_
  rintro e w5 ⟨r, rfl, hr, hb_⟩
  have n_ := Aside0.mk (below_step (by repeat (first | exact HB.out | apply below_alloc | apply pw_below_drewN | apply below_drew1 | refine below_set ?_ (by first | omega | (simp; omega)))) hb_); clear HB hb_; have HB := n_; clear n_
  go_wp2
  go_ret
  refine ⟨ret_bool ?_, HB.out⟩
  rw [Bool.eq_iff_iff]
  simp only [decide_eq_true_eq, hr, Bool.not_eq_true', List.all_eq_false, Bool.not_eq_true]
set_option maxHeartbeats 1000000 in
theorem Subset_calls (la lb : Int) (A B : Option Addr) (n m c d : Nat) (xs ys : List Int) (w : World) (hx : (Kd.int .i64).C w A n xs) (hy : (Kd.int .i64).C w B m ys) :
    Calls Tryd.prog 24 #[.agg #[.int .i64 la, .slice A n c], .agg #[.int .i64 lb, .slice B m d]] w fun e w' => e = .returned (.bool (subB la xs lb ys)) ∧ Below w.heap.size w w' := by
  have HB := Aside0.mk (Below.refl w.heap.size w)
  have CX := Aside0.mk hx
  have CY := Aside0.mk hy
  clear hx hy
  have hmf : ∀ (fn : Fn) (first cap : Array Value) (w : World), (Instr.makeFunc fn first cap).run Tryd.prog w = .ok (.func fn first cap) w := fun _ _ _ _ => rfl
  have HA : ∀ W, (Kd.int .i64).C W A n xs → (Kd.int .i64).C W B m ys → Calls Tryd.prog 37 #[.agg #[.int .i64 la, .slice A n c], .agg #[.int .i64 lb, .slice B m d]] W fun e w' => e = .returned (.bool (alikeB la xs lb ys)) ∧ Below W.heap.size W w' := fun W h1 h2 => alike_calls la lb A B n m c d xs ys W h1 h2
  unfold subB
  rcases Bool.eq_false_or_eq_true (alikeB la xs lb ys) with h1 | h1
  · rw [h1] at HA ⊢
    have HAA := Aside0.mk HA
    clear HA h1
    go_enter Tryd.func24, Tryd.ntmps24
    go_wp2_with fail
    refine (HAA.out _ ?h1 ?h2).mono ?_
    (case h1 => exact C_alloc (C_alloc CX.out)); (case h2 => exact C_alloc (C_alloc CY.out))
    rintro e w1 ⟨rfl, hb_⟩
    have YA : Box w1 (w.heap.size) _ _ := Box.below (by repeat (with_reducible first | exact XA.out | exact Box.new | exact Box.new1 | exact Box.new2 | exact Box.new3 | apply Box.alloc | apply Box.drew | apply Box.drewN | apply Box.set)) hb_
    (try clear XA rA kA fA); have XA := Aside0.mk YA; have rA := YA.cell; have fA := YA.frozen; have kA := YA.lt; clear YA
    have YB : Box w1 (w.heap.size + 1) _ _ := Box.below (by repeat (with_reducible first | exact XB.out | exact Box.new | exact Box.new1 | exact Box.new2 | exact Box.new3 | apply Box.alloc | apply Box.drew | apply Box.drewN | apply Box.set)) hb_
    (try clear XB rB kB fB); have XB := Aside0.mk YB; have rB := YB.cell; have fB := YB.frozen; have kB := YB.lt; clear YB
    have ZCX := Aside0.mk (Kd.C_below (by repeat (with_reducible first | exact CX.out | apply C_alloc)) hb_); clear CX; have CX := ZCX; clear ZCX
    have ZCY := Aside0.mk (Kd.C_below (by repeat (with_reducible first | exact CY.out | apply C_alloc)) hb_); clear CY; have CY := ZCY; clear ZCY
    have n_ := Aside0.mk (below_step (by repeat (first | exact HB.out | apply below_alloc | apply pw_below_drewN | apply below_drew1 | refine below_set ?_ (by first | omega | (simp; omega)))) hb_); clear HB hb_; have HB := n_; clear n_
    go_wp2_with fail
    refine (ContSub_calls lb A B (w.heap.size + 1) n c m d xs ys _ CX.out CY.out XB.out).mono ?_
    rintro e w2 ⟨rfl, hb_⟩
    have n_ := Aside0.mk (below_step (by repeat (first | exact HB.out | apply below_alloc | apply pw_below_drewN | apply below_drew1 | refine below_set ?_ (by first | omega | (simp; omega)))) hb_); clear HB hb_; have HB := n_; clear n_
    go_wp2
    go_ret
    exact ⟨ret_bool (by simp), HB.out⟩
  · rw [h1] at HA ⊢
    have HAA := Aside0.mk HA
    clear HA h1
    go_enter Tryd.func24, Tryd.ntmps24
    go_wp2_with fail
    refine (HAA.out _ ?h1 ?h2).mono ?_
    (case h1 => exact C_alloc (C_alloc CX.out)); (case h2 => exact C_alloc (C_alloc CY.out))
    rintro e w1 ⟨rfl, hb_⟩
    have YA : Box w1 (w.heap.size) _ _ := Box.below (by repeat (with_reducible first | exact XA.out | exact Box.new | exact Box.new1 | exact Box.new2 | exact Box.new3 | apply Box.alloc | apply Box.drew | apply Box.drewN | apply Box.set)) hb_
    (try clear XA rA kA fA); have XA := Aside0.mk YA; have rA := YA.cell; have fA := YA.frozen; have kA := YA.lt; clear YA
    have YB : Box w1 (w.heap.size + 1) _ _ := Box.below (by repeat (with_reducible first | exact XB.out | exact Box.new | exact Box.new1 | exact Box.new2 | exact Box.new3 | apply Box.alloc | apply Box.drew | apply Box.drewN | apply Box.set)) hb_
    (try clear XB rB kB fB); have XB := Aside0.mk YB; have rB := YB.cell; have fB := YB.frozen; have kB := YB.lt; clear YB
    have ZCX := Aside0.mk (Kd.C_below (by repeat (with_reducible first | exact CX.out | apply C_alloc)) hb_); clear CX; have CX := ZCX; clear ZCX
    have ZCY := Aside0.mk (Kd.C_below (by repeat (with_reducible first | exact CY.out | apply C_alloc)) hb_); clear CY; have CY := ZCY; clear ZCY
    have n_ := Aside0.mk (below_step (by repeat (first | exact HB.out | apply below_alloc | apply pw_below_drewN | apply below_drew1 | refine below_set ?_ (by first | omega | (simp; omega)))) hb_); clear HB hb_; have HB := n_; clear n_
    go_wp2
    go_ret
    exact ⟨rfl, HB.out⟩
end Go.Proofs.YtejfjbfkbdcmnaaDoor
