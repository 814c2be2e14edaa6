
/- Whether a bit is set (chapter 2): the search. -/
import Derived.StillTailTactics
import Derived.Test.YtejfjbfkbdcmnaaDoorBitsWalk
set_option linter.unusedVariables false
set_option linter.unusedSimpArgs false
namespace Go.Proofs.YtejfjbfkbdcmnaaDoor
open Go.RowKit Go.Proofs.YtejfjbfkbdcmnaaDoorW.PrintWords Go.Proofs.YtejfjbfkbdcmnaaDoorW.PrintLast Go.Proofs.YtejfjbfkbdcmnaaDoorW.PrintMore

set_option maxHeartbeats 400000 in
theorem nanInt_calls (x : Int) (w : World) : Calls Tryd.prog 50 #[.int .i64 x] w fun e w' => e = .returned (.bool false) ∧ w = w' := by
  go_enter Tryd.func50, Tryd.ntmps50
  go_wp2
  go_ret
  exact ⟨rfl, rfl⟩
set_option maxHeartbeats 400000 in
theorem cnanInt_calls (x : Int) (w : World) : Calls Tryd.prog 61 #[.int .i64 x] w fun e w' => e = .returned (.bool false) ∧ w = w' := by
  go_enter Tryd.func61, Tryd.ntmps61
  go_wp2
  go_ret
  exact ⟨rfl, rfl⟩
set_option maxHeartbeats 400000 in
theorem lessInt_calls (x y : Int) (w : World) : Calls Tryd.prog 49 #[.int .i64 x, .int .i64 y] w fun e w' => e = .returned (.bool (decide (x < y))) ∧ w = w' := by
  by_cases h : x < y
  · go_enter Tryd.func49, Tryd.ntmps49
    go_wp2_with (go_at_call 61; refine (cnanInt_calls _ _).mono ?_; rintro e w_ ⟨rfl, rfl⟩)
    go_ret
    exact ⟨ret_bool (decide_eq_true h).symm, rfl⟩
  · go_enter Tryd.func49, Tryd.ntmps49
    go_wp2_with (go_at_call 61; refine (cnanInt_calls _ _).mono ?_; rintro e w_ ⟨rfl, rfl⟩)
    go_ret
    exact ⟨by first | rfl | (rw [decide_eq_false (by omega)]), rfl⟩
def sortedB (xs : List Int) : Prop := ∀ i j, i < j → j < xs.length → nth xs i < nth xs j
set_option maxHeartbeats 2000000 in
theorem Search_calls (A : Option Addr) (n c : Nat) (xs : List Int) (t : Int) (w : World) (hx : (Kd.int .i64).C w A n xs) :
    Calls Tryd.prog 34 #[.slice A n c, .int .i64 t] w fun e w' => ∃ (p : Int) (q : Bool), e = .returned (.tuple #[.int .i64 p, .bool q]) ∧ (sortedB xs → q = decide (t ∈ xs)) ∧ Below w.heap.size w w' := by
  have hmx := Kd.C_max hx
  have HM := Aside0.mk (show n = xs.length from (Kd.C_len hx).symm)
  have HX := Aside0.mk hx
  clear hx
  have HB := Aside0.mk (Below.refl w.heap.size w)
  go_enter Tryd.func34, Tryd.ntmps34
  go_wp2
  go_loopw [7, 8] (fun i j wr => ∃ lo hi : Nat, lo ≤ hi ∧ hi ≤ n ∧ i = .int .i64 lo ∧ j = .int .i64 hi ∧ (sortedB xs → (∀ k, k < lo → nth xs k < t) ∧ (∀ k, hi ≤ k → k < xs.length → t ≤ nth xs k)) ∧ Below w.heap.size w wr) (fun i j _ => (intOf j).toNat - (intOf i).toNat)
  case atStart => exact ⟨0, n, by omega, by omega, rfl, rfl, fun _ => ⟨fun k hk => by omega, fun k hk hl => by rw [HM.out] at hk; omega⟩, HB.out⟩
  case round =>
    clear HB
    obtain ⟨lo, hi, h0, h1, rfl, rfl, hs, hbl⟩ := hrel
    have HB := Aside0.mk hbl
    have HS := Aside0.mk hs
    clear hbl hs
    by_cases hlt : lo < hi
    · obtain ⟨m, hm⟩ : ∃ m : Nat, (lo + hi) / 2 = m := ⟨_, rfl⟩
      have hml : lo ≤ m ∧ m < hi := by omega
      have hw1 : IntKind.u64.wrap (wrap64 ((lo : Int) + hi)) = (lo : Int) + hi := by
        rw [IntKind.wrap_u64]
        unfold wrap64
        omega
      have hd : ((lo : Int) + hi) / 2 = (m : Int) := by omega
      have hmn : m < n := by omega
      obtain ⟨b1, o1, s1, rfl, hc1⟩ := C_nat HX.out m hmn
      replace hc1 := (HB.out.cell (cell_lt hc1)).trans hc1
      generalize hv : nth xs m = v at *
      have HV := Aside0.mk hv
      clear hv
      have hw3 : wrap64 (m : Int) = m := by unfold wrap64; omega
      go_upto_region 5 with (fail)
      (try rw [hw1]); (try rw [hd]); (try rw [hw3])
      clear hw1 hd hw3
      rcases Int.lt_or_le v t with hvt | hvt
      · have hdd : decide (v < t) = true := decide_eq_true hvt
        go_wp2_with (go_at_call 49; refine (lessInt_calls _ _ _).mono ?_; rintro e w_ ⟨rfl, rfl⟩)
        refine ⟨⟨m + 1, hi, by omega, h1, by go_num, rfl, fun hso => ⟨fun k hk => ?_, (HS.out hso).2⟩, HB.out⟩, ?_⟩
        · rcases Nat.lt_or_ge k m with g | g
          · have := hso k m g (by rw [← HM.out]; exact hmn)
            rw [HV.out] at this
            omega
          · obtain rfl : k = m := by omega
            rw [HV.out]
            exact hvt
        · simp [intOf]; omega
      · have hdd : decide (v < t) = false := decide_eq_false (by omega)
        go_wp2_with (go_at_call 49; refine (lessInt_calls _ _ _).mono ?_; rintro e w_ ⟨rfl, rfl⟩)
        refine ⟨⟨lo, m, by omega, by omega, rfl, rfl, fun hso => ⟨(HS.out hso).1, fun k hk hl => ?_⟩, HB.out⟩, ?_⟩
        · rcases Nat.lt_or_ge m k with g | g
          · have := hso m k g hl
            rw [HV.out] at this
            omega
          · obtain rfl : k = m := by omega
            rw [HV.out]
            exact hvt
        · simp [intOf]; omega
    · obtain rfl : lo = hi := by omega
      by_cases hln : lo < n
      · obtain ⟨b1, o1, s1, rfl, hc1⟩ := C_nat HX.out lo hln
        replace hc1 := (HB.out.cell (cell_lt hc1)).trans hc1
        have HP := Aside0.mk (fun (hso : sortedB xs) => find_at hso (by rw [← HM.out]; exact h1) (HS.out hso).1 (HS.out hso).2)
        generalize hv : nth xs lo = v at *
        by_cases hvt : v = t
        · go_wp2_with (go_at_call 50; refine (nanInt_calls _ _).mono ?_; rintro e w_ ⟨rfl, rfl⟩)
          go_ret2
          exact ⟨_, _, rfl, fun hso => (decide_eq_true ((HP.out hso).2 ⟨by rw [← HM.out]; exact hln, hvt⟩)).symm, HB.out⟩
        · go_wp2_with (go_at_call 50; refine (nanInt_calls _ _).mono ?_; rintro e w_ ⟨rfl, rfl⟩)
          go_ret2
          exact ⟨_, _, rfl, fun hso => (beq_eq_false_iff_ne.2 hvt).trans (decide_eq_false (fun hm => hvt ((HP.out hso).1 hm).2)).symm, HB.out⟩
      · have HP := Aside0.mk (fun (hso : sortedB xs) => find_at hso (by rw [← HM.out]; exact h1) (HS.out hso).1 (HS.out hso).2)
        go_wp2
        go_ret2
        exact ⟨_, _, rfl, fun hso => (decide_eq_false (fun hm => hln (by rw [HM.out]; exact ((HP.out hso).1 hm).1))).symm, HB.out⟩
theorem right_sorted {len : Int} {xs : List Int} (h : rightB len xs = true) : sortedB xs := by
  unfold rightB at h
  simp only [Bool.and_eq_true] at h
  exact fun i j hij hj => incB_get h.2 i j hij hj
def hasB (len : Int) (xs : List Int) (i : Int) : Bool := rightB len xs && decide (i ∈ xs)
set_option maxHeartbeats 1000000 in
theorem Has_calls (len : Int) (A : Option Addr) (n c : Nat) (xs : List Int) (i : Int) (w : World) (hx : (Kd.int .i64).C w A n xs) :
    Calls Tryd.prog 22 #[.agg #[.int .i64 len, .slice A n c], .int .i64 i] w fun e w' => e = .returned (.bool (hasB len xs i)) ∧ Below w.heap.size w w' := by
  have HB := Aside0.mk (Below.refl w.heap.size w)
  have HC := Aside0.mk hx
  clear hx
  go_enter Tryd.func22, Tryd.ntmps22
  go_wp2_with fail
  refine (Search_calls A n c xs i _ ?hC).mono ?_
  case hC => exact C_alloc HC.out
  rintro e w5 ⟨p, q, rfl, hq, hb_⟩
  have YA : Box w5 (w.heap.size) _ _ := Box.below (by repeat (with_reducible first | exact XA.out | exact Box.new | exact Box.new1 | exact Box.new2 | exact Box.new3 | apply Box.alloc | apply Box.drew | apply Box.drewN | apply Box.set)) hb_
  (try clear XA rA kA fA); have XA := Aside0.mk YA; have rA := YA.cell; have fA := YA.frozen; have kA := YA.lt; clear YA
  have ZHC := Aside0.mk (Kd.C_below (by repeat (with_reducible first | exact HC.out | apply C_alloc)) hb_); clear HC; have HC := ZHC; clear ZHC
  have n_ := Aside0.mk (below_step (by repeat (first | exact HB.out | apply below_alloc | apply pw_below_drewN | apply below_drew1 | refine below_set ?_ (by first | omega | (simp; omega)))) hb_); clear HB hb_; have HB := n_; clear n_
  have HQ := Aside0.mk hq
  clear hq
  rcases Bool.eq_false_or_eq_true (rightB len xs) with hr | hr
  · go_wp2_with fail
    refine (Right_calls len A n c xs _ HC.out).mono ?_
    rintro e w6 ⟨rfl, hb_⟩
    have n_ := Aside0.mk (below_step (by repeat (first | exact HB.out | apply below_alloc | apply pw_below_drewN | apply below_drew1 | refine below_set ?_ (by first | omega | (simp; omega)))) hb_); clear HB hb_; have HB := n_; clear n_
    go_wp2
    go_ret
    exact ⟨ret_bool (by unfold hasB; rw [hr, HQ.out (right_sorted hr)]; simp), HB.out⟩
  · go_wp2_with fail
    refine (Right_calls len A n c xs _ HC.out).mono ?_
    rintro e w6 ⟨rfl, hb_⟩
    have n_ := Aside0.mk (below_step (by repeat (first | exact HB.out | apply below_alloc | apply pw_below_drewN | apply below_drew1 | refine below_set ?_ (by first | omega | (simp; omega)))) hb_); clear HB hb_; have HB := n_; clear n_
    go_wp2
    go_ret
    exact ⟨ret_bool (by unfold hasB; rw [hr]; simp), HB.out⟩
end Go.Proofs.YtejfjbfkbdcmnaaDoor
