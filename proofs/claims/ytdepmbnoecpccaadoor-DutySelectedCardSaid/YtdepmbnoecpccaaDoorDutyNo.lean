
/- Duty's refusals, and the token of nobody (chapter 10). -/
import Derived.StillTailTactics
import Derived.Deep.RegionHeld3
import Derived.Test.YtdepmbnoecpccaaDoorDutyWhere
set_option linter.unusedVariables false
set_option linter.unusedSimpArgs false
namespace Go.Proofs.YtdepmbnoecpccaaDoor
open Go.RowKit Go.Proofs.YtdepmbnoecpccaaDoorW.PrintWords Go.Proofs.YtdepmbnoecpccaaDoorW.PrintLast Go.Proofs.YtdepmbnoecpccaaDoorW.PrintMore
attribute [local go_sem] max2_int min2_int max_two min_two

set_option maxRecDepth 100000 in
set_option maxHeartbeats 2000000 in
theorem committee_no (c : ChainV) (s i : Int) (w : World) (h : maySlot c s i = false) (hG : DutyLaid w) : Calls Tryd.prog 27 #[.agg #[.int .i64 c.va, .int .i64 c.sl, .int .i64 c.co, .int .i64 c.su, .int .i64 c.ti, .int .i64 c.di, .int .i64 c.ra, .int .i64 c.ro, .int .i64 c.ag, .int .u64 c.se], .int .i64 s, .int .i64 i] w fun e w' =>
    e = .returned (.tuple #[.agg #[.int .i64 0, .int .i64 0, .int .i64 0, .int .i64 0, .int .i64 0, .int .i64 0, .int .i64 0, .int .i64 0, .int .i64 0, .int .u64 0, .int .i64 0], .int .i64 0, .bool false]) ∧ Below w.heap.size w w' := by
  have HB := Aside0.mk (Below.refl w.heap.size w)
  have HG := Aside0.mk hG
  clear hG
  have hcs : fitsC c = false ∨ (fitsC c = true ∧ win s 0 1099511627776 = false) ∨ (fitsC c = true ∧ win s 0 1099511627776 = true ∧ i < 0) ∨ (fitsC c = true ∧ win s 0 1099511627776 = true ∧ 0 ≤ i ∧ c.co ≤ i) := by
    rcases Bool.eq_false_or_eq_true (fitsC c) with hf | hf
    · rcases Bool.eq_false_or_eq_true (win s 0 1099511627776) with hw | hw
      · simp [maySlot, hf, hw] at h
        simp [hf, hw]
        omega
      · simp [hf, hw]
    · simp [hf]
  clear h
  rcases hcs with hf | ⟨hf, hw⟩ | ⟨hf, hw, hi⟩ | ⟨hf, hw, hi, hi2⟩
  · go_enter Tryd.func27, Tryd.ntmps27
    go_wp2_with fail
    refine (Fits_d c _ ?hG).mono ?_
    case hG => exact HG.out.below (by repeat (first | exact HB.out | apply below_alloc | apply pw_below_drewN | apply below_drew1 | refine below_set ?_ (by first | omega | (simp; omega))))
    rintro e w1 ⟨rfl, hb_⟩
    have YA : Box w1 (w.heap.size) _ _ := Box.below (by repeat (with_reducible first | exact XA.out | exact Box.new | exact Box.new1 | exact Box.new2 | exact Box.new3 | apply Box.alloc | apply Box.drew | apply Box.drewN | apply Box.set)) hb_
    (try clear XA rA kA fA); have XA := Aside0.mk YA; have rA := YA.cell; have fA := YA.frozen; have kA := YA.lt; clear YA
    have YR : Box w1 (w.heap.size + 1) _ _ := Box.below (by repeat (with_reducible first | exact XR.out | exact Box.new | exact Box.new1 | exact Box.new2 | exact Box.new3 | apply Box.alloc | apply Box.drew | apply Box.drewN | apply Box.set)) hb_
    (try clear XR rR kR fR); have XR := Aside0.mk YR; have rR := YR.cell; have fR := YR.frozen; have kR := YR.lt; clear YR
    have n_ := Aside0.mk (below_step (by repeat (first | exact HB.out | apply below_alloc | apply pw_below_drewN | apply below_drew1 | refine below_set ?_ (by first | omega | (simp; omega)))) hb_); clear HB hb_; have HB := n_; clear n_
    go_wp2
    generalize hWf : World.setCell _ _ _ = Wf
    have Y : Box Wf (w.heap.size + 1) #[.int .i64 0, .int .i64 0, .int .i64 0, .int .i64 0, .int .i64 0, .int .i64 0, .int .i64 0, .int .i64 0, .int .i64 0, .int .u64 0, .int .i64 0] 58 := hWf ▸ Box.epoch XR.out
    have hb : Below w.heap.size w Wf := hWf ▸ below_epoch HB.out (Nat.le_succ _)
    have rY := Y.cell
    clear hWf
    exact bodyPost_ret (v := .tuple #[.agg #[.int .i64 0, .int .i64 0, .int .i64 0, .int .i64 0, .int .i64 0, .int .i64 0, .int .i64 0, .int .i64 0, .int .i64 0, .int .u64 0, .int .i64 0], .int .i64 0, .bool false]) (by simp [results, Tryd.results27, go_sem, rY]) rfl ⟨rfl, hb⟩
  all_goals
    go_enter Tryd.func27, Tryd.ntmps27
    go_wp2_with fail
    refine (Fits_d c _ ?hG).mono ?_
    case hG => exact HG.out.below (by repeat (first | exact HB.out | apply below_alloc | apply pw_below_drewN | apply below_drew1 | refine below_set ?_ (by first | omega | (simp; omega))))
    rintro e w1 ⟨rfl, hb_⟩
    have YA : Box w1 (w.heap.size) _ _ := Box.below (by repeat (with_reducible first | exact XA.out | exact Box.new | exact Box.new1 | exact Box.new2 | exact Box.new3 | apply Box.alloc | apply Box.drew | apply Box.drewN | apply Box.set)) hb_
    (try clear XA rA kA fA); have XA := Aside0.mk YA; have rA := YA.cell; have fA := YA.frozen; have kA := YA.lt; clear YA
    have YR : Box w1 (w.heap.size + 1) _ _ := Box.below (by repeat (with_reducible first | exact XR.out | exact Box.new | exact Box.new1 | exact Box.new2 | exact Box.new3 | apply Box.alloc | apply Box.drew | apply Box.drewN | apply Box.set)) hb_
    (try clear XR rR kR fR); have XR := Aside0.mk YR; have rR := YR.cell; have fR := YR.frozen; have kR := YR.lt; clear YR
    have n_ := Aside0.mk (below_step (by repeat (first | exact HB.out | apply below_alloc | apply pw_below_drewN | apply below_drew1 | refine below_set ?_ (by first | omega | (simp; omega)))) hb_); clear HB hb_; have HB := n_; clear n_
    go_wp2_with fail
    refine (dmay_calls s _).mono ?_
    rintro e w2 ⟨rfl, hb_⟩
    have YA : Box w2 (w.heap.size) _ _ := Box.below (by repeat (with_reducible first | exact XA.out | exact Box.new | exact Box.new1 | exact Box.new2 | exact Box.new3 | apply Box.alloc | apply Box.drew | apply Box.drewN | apply Box.set)) hb_
    (try clear XA rA kA fA); have XA := Aside0.mk YA; have rA := YA.cell; have fA := YA.frozen; have kA := YA.lt; clear YA
    have YR : Box w2 (w.heap.size + 1) _ _ := Box.below (by repeat (with_reducible first | exact XR.out | exact Box.new | exact Box.new1 | exact Box.new2 | exact Box.new3 | apply Box.alloc | apply Box.drew | apply Box.drewN | apply Box.set)) hb_
    (try clear XR rR kR fR); have XR := Aside0.mk YR; have rR := YR.cell; have fR := YR.frozen; have kR := YR.lt; clear YR
    have n_ := Aside0.mk (below_step (by repeat (first | exact HB.out | apply below_alloc | apply pw_below_drewN | apply below_drew1 | refine below_set ?_ (by first | omega | (simp; omega)))) hb_); clear HB hb_; have HB := n_; clear n_
    go_wp2
    generalize hWf : World.setCell _ _ _ = Wf
    have Y : Box Wf (w.heap.size + 1) #[.int .i64 0, .int .i64 0, .int .i64 0, .int .i64 0, .int .i64 0, .int .i64 0, .int .i64 0, .int .i64 0, .int .i64 0, .int .u64 0, .int .i64 0] 58 := hWf ▸ Box.epoch XR.out
    have hb : Below w.heap.size w Wf := hWf ▸ below_epoch HB.out (Nat.le_succ _)
    have rY := Y.cell
    clear hWf
    exact bodyPost_ret (v := .tuple #[.agg #[.int .i64 0, .int .i64 0, .int .i64 0, .int .i64 0, .int .i64 0, .int .i64 0, .int .i64 0, .int .i64 0, .int .i64 0, .int .u64 0, .int .i64 0], .int .i64 0, .bool false]) (by simp [results, Tryd.results27, go_sem, rY]) rfl ⟨rfl, hb⟩
theorem Members_no (c : ChainV) (s i : Int) (w : World) (h : maySlot c s i = false) (hG : DutyLaid w) : Calls Tryd.prog 12 #[.agg #[.int .i64 c.va, .int .i64 c.sl, .int .i64 c.co, .int .i64 c.su, .int .i64 c.ti, .int .i64 c.di, .int .i64 c.ra, .int .i64 c.ro, .int .i64 c.ag, .int .u64 c.se], .int .i64 s, .int .i64 i] w fun e w' =>
    e = .returned (.tuple #[.slice none 0 0, .int .i64 1]) ∧ Below w.heap.size w w' := by
  have HB := Aside0.mk (Below.refl w.heap.size w)
  have HG := Aside0.mk hG
  have HH := Aside0.mk h
  clear hG h
  go_enter Tryd.func12, Tryd.ntmps12
  go_wp2_with fail
  refine (committee_no c s i _ HH.out ?hG).mono ?_
  case hG => exact HG.out.below (by repeat (first | exact HB.out | apply below_alloc | apply pw_below_drewN | apply below_drew1 | refine below_set ?_ (by first | omega | (simp; omega))))
  rintro e w1 ⟨rfl, hb_⟩
  have n_ := Aside0.mk (below_step (by repeat (first | exact HB.out | apply below_alloc | apply pw_below_drewN | apply below_drew1 | refine below_set ?_ (by first | omega | (simp; omega)))) hb_); clear HB hb_; have HB := n_; clear n_
  go_wp2
  go_ret2
  exact ⟨rfl, (by repeat (first | exact HB.out | apply below_alloc | apply pw_below_drewN | apply below_drew1 | refine below_set ?_ (by first | omega | (simp; omega))))⟩
theorem Subnet_no (c : ChainV) (s i : Int) (w : World) (h : maySlot c s i = false) (hG : DutyLaid w) : Calls Tryd.prog 14 #[.agg #[.int .i64 c.va, .int .i64 c.sl, .int .i64 c.co, .int .i64 c.su, .int .i64 c.ti, .int .i64 c.di, .int .i64 c.ra, .int .i64 c.ro, .int .i64 c.ag, .int .u64 c.se], .int .i64 s, .int .i64 i] w fun e w' =>
    e = .returned (.tuple #[.int .i64 0, .int .i64 1]) ∧ Below w.heap.size w w' := by
  have HB := Aside0.mk (Below.refl w.heap.size w)
  have HG := Aside0.mk hG
  have HH := Aside0.mk h
  clear hG h
  go_enter Tryd.func14, Tryd.ntmps14
  go_wp2_with fail
  refine (committee_no c s i _ HH.out ?hG).mono ?_
  case hG => exact HG.out.below (by repeat (first | exact HB.out | apply below_alloc | apply pw_below_drewN | apply below_drew1 | refine below_set ?_ (by first | omega | (simp; omega))))
  rintro e w1 ⟨rfl, hb_⟩
  have YA : Box w1 (w.heap.size) _ _ := Box.below (by repeat (with_reducible first | exact XA.out | exact Box.new | exact Box.new1 | exact Box.new2 | exact Box.new3 | apply Box.alloc | apply Box.drew | apply Box.drewN | apply Box.set)) hb_
  (try clear XA rA kA fA); have XA := Aside0.mk YA; have rA := YA.cell; have fA := YA.frozen; have kA := YA.lt; clear YA
  have n_ := Aside0.mk (below_step (by repeat (first | exact HB.out | apply below_alloc | apply pw_below_drewN | apply below_drew1 | refine below_set ?_ (by first | omega | (simp; omega)))) hb_); clear HB hb_; have HB := n_; clear n_
  go_wp2
  go_ret2
  exact ⟨rfl, (by repeat (first | exact HB.out | apply below_alloc | apply pw_below_drewN | apply below_drew1 | refine below_set ?_ (by first | omega | (simp; omega))))⟩

theorem sorted_nil (w : World) : Calls Tryd.prog 69 #[.slice none 0 0, .func (.func 70) #[] #[]] w fun e w' => e = .returned (.bool true) ∧ Below w.heap.size w w' := by
  have HB := Aside0.mk (Below.refl w.heap.size w)
  go_enter Tryd.func69, Tryd.ntmps69
  go_wp2
  refine wp_loop_rounds 1 ?_
  rw [rounds_succ]
  go_wp2
  go_ret
  exact ⟨rfl, HB.out⟩
theorem tokenRight_nil (w : World) : Calls Tryd.prog 59 #[.agg #[.bool false, .slice none 0 0]] w fun e w' => e = .returned (.bool true) ∧ Below w.heap.size w w' := by
  have HB := Aside0.mk (Below.refl w.heap.size w)
  go_enter Tryd.func59, Tryd.ntmps59
  go_wp2_with fail
  refine (sorted_nil _).mono ?_
  rintro e w1 ⟨rfl, hb_⟩
  have n_ := Aside0.mk (below_step (by repeat (first | exact HB.out | apply below_alloc | apply pw_below_drewN | apply below_drew1 | refine below_set ?_ (by first | omega | (simp; omega)))) hb_); clear HB hb_; have HB := n_; clear n_
  go_wp2
  go_ret
  exact ⟨rfl, HB.out⟩
set_option maxRecDepth 100000 in
theorem Encode_nil (w : World) : Calls Tryd.prog 44 #[.agg #[.bool false, .slice none 0 0]] w fun e w' => e = .returned (.tuple #[.string ⟨#[0]⟩, .int .i64 0]) ∧ Below w.heap.size w w' := by
  have HB := Aside0.mk (Below.refl w.heap.size w)
  go_enter Tryd.func44, Tryd.ntmps44
  go_wp2_with fail
  refine (tokenRight_nil _).mono ?_
  rintro e w1 ⟨rfl, hb_⟩
  have YT : Box w1 (w.heap.size) _ _ := Box.below (by repeat (with_reducible first | exact XT.out | exact Box.new | exact Box.new1 | exact Box.new2 | exact Box.new3 | apply Box.alloc | apply Box.drew | apply Box.drewN | apply Box.set)) hb_
  (try clear XT rT kT fT); have XT := Aside0.mk YT; have rT := YT.cell; have fT := YT.frozen; have kT := YT.lt; clear YT
  have n_ := Aside0.mk (below_step (by repeat (first | exact HB.out | apply below_alloc | apply pw_below_drewN | apply below_drew1 | refine below_set ?_ (by first | omega | (simp; omega)))) hb_); clear HB hb_; have HB := n_; clear n_
  have hcv :=
    run_convert_bytes_arg (P := Tryd.prog) (w := w1.alloc (.cells #[.int .u8 0] 5)) 90 5 Tryd.underlying90 Tryd.underlying5 w1.heap.size 0 1 1 [0] rfl (fun i hi => by obtain rfl : i = 0 := (by omega); exact cell_alloc_new) 9 Tryd.underlying9
  go_wp2
  refine wp_loop_rounds 1 ?_
  rw [rounds_succ]
  go_wp2
  go_ret2
  exact ⟨rfl, (by repeat (first | exact HB.out | apply below_alloc | apply pw_below_drewN | apply below_drew1 | refine below_set ?_ (by first | omega | (simp; omega))))⟩
theorem str0_size : (⟨#[0]⟩ : ByteArray).size ≤ maxLen := by
  show 1 ≤ maxLen
  unfold maxLen
  omega
theorem Sum0_calls (x : Int) (hx : sumF [0] = x) (w : World) (hG : DutyLaid w) : Calls Tryd.prog 45 #[.string ⟨#[0]⟩] w fun e w' => e = .returned (.int .u64 x) ∧ Below w.heap.size w w' := by
  have h := Sum_b ⟨#[0]⟩ w str0_size hG.ch
  have e : sumF (⟨#[0]⟩ : ByteArray).data.toList = x := hx
  rw [e] at h
  exact h
theorem Sum0_q (x : Int) (hx : sumF [0] = x) (w : World) (hG : ChurnLaid w) : Calls Tryd.prog 45 #[.string ⟨#[0]⟩] w fun e w' => e = .returned (.int .u64 x) ∧ ∃ n, w' = w.drewN n := by
  have h := Sum_calls ⟨#[0]⟩ w str0_size hG
  have e : sumF (⟨#[0]⟩ : ByteArray).data.toList = x := hx
  rw [e] at h
  exact h
set_option maxRecDepth 100000 in
set_option maxHeartbeats 1000000 in
theorem Selected_one (c : ChainV) (w : World) (hf : fitsC c = true) (ha : 2 ≤ c.ag) (hG : DutyLaid w) : Calls Tryd.prog 22 #[.agg #[.int .i64 c.va, .int .i64 c.sl, .int .i64 c.co, .int .i64 c.su, .int .i64 c.ti, .int .i64 c.di, .int .i64 c.ra, .int .i64 c.ro, .int .i64 c.ag, .int .u64 c.se], .int .i64 1, .agg #[.bool false, .slice none 0 0]] w fun e w' => e = .returned (.bool true) ∧ Below w.heap.size w w' := by
  have HB := Aside0.mk (Below.refl w.heap.size w)
  have HG := Aside0.mk hG
  clear hG
  have hq : (1 : Int).tdiv c.ag = 0 := by rw [Int.tdiv_eq_ediv_of_nonneg (by omega)]; exact Int.ediv_eq_zero_of_lt (by omega) (by omega)
  have ha0 : ¬ c.ag = 0 := by omega
  go_enter Tryd.func22, Tryd.ntmps22
  go_wp2_with fail
  refine (Encode_nil _).mono ?_
  rintro e w1 ⟨rfl, hb_⟩
  have YA : Box w1 (w.heap.size) _ _ := Box.below (by repeat (with_reducible first | exact XA.out | exact Box.new | exact Box.new1 | exact Box.new2 | exact Box.new3 | apply Box.alloc | apply Box.drew | apply Box.drewN | apply Box.set)) hb_
  (try clear XA rA kA fA); have XA := Aside0.mk YA; have rA := YA.cell; have fA := YA.frozen; have kA := YA.lt; clear YA
  have n_ := Aside0.mk (below_step (by repeat (first | exact HB.out | apply below_alloc | apply pw_below_drewN | apply below_drew1 | refine below_set ?_ (by first | omega | (simp; omega)))) hb_); clear HB hb_; have HB := n_; clear n_
  go_wp2_with fail
  refine (Fits_d c _ ?hG).mono ?_
  case hG => exact HG.out.below (by repeat (first | exact HB.out | apply below_alloc | apply pw_below_drewN | apply below_drew1 | refine below_set ?_ (by first | omega | (simp; omega))))
  rintro e w2 ⟨rfl, hb_⟩
  have YA : Box w2 (w.heap.size) _ _ := Box.below (by repeat (with_reducible first | exact XA.out | exact Box.new | exact Box.new1 | exact Box.new2 | exact Box.new3 | apply Box.alloc | apply Box.drew | apply Box.drewN | apply Box.set)) hb_
  (try clear XA rA kA fA); have XA := Aside0.mk YA; have rA := YA.cell; have fA := YA.frozen; have kA := YA.lt; clear YA
  have n_ := Aside0.mk (below_step (by repeat (first | exact HB.out | apply below_alloc | apply pw_below_drewN | apply below_drew1 | refine below_set ?_ (by first | omega | (simp; omega)))) hb_); clear HB hb_; have HB := n_; clear n_
  go_upto_region 4 with (fail)
  have HGW := Aside0.mk (HG.out.below HB.out)
  obtain ⟨hx0, hx1⟩ := sumF_ok [0]
  generalize hxx : sumF [0] = x at *
  have HX := Aside0.mk hxx
  clear hxx
  have hs1 : x.tmod 1 = 0 := Int.tmod_one _
  go_quiet ((go_at_call 45; exact Calls.quiet_of (Sum0_q x HX.out _ (HGW.out.ch.drewN _))))
  go_wp2
  go_ret
  exact ⟨rfl, pw_below_drewN HB.out _⟩
set_option maxHeartbeats 1000000 in
theorem Selected_zero (c : ChainV) (w : World) (hf : fitsC c = true) (hG : DutyLaid w) : Calls Tryd.prog 22 #[.agg #[.int .i64 c.va, .int .i64 c.sl, .int .i64 c.co, .int .i64 c.su, .int .i64 c.ti, .int .i64 c.di, .int .i64 c.ra, .int .i64 c.ro, .int .i64 c.ag, .int .u64 c.se], .int .i64 0, .agg #[.bool false, .slice none 0 0]] w fun e w' => e = .returned (.bool false) ∧ Below w.heap.size w w' := by
  have HB := Aside0.mk (Below.refl w.heap.size w)
  have HG := Aside0.mk hG
  clear hG
  go_enter Tryd.func22, Tryd.ntmps22
  go_wp2_with fail
  refine (Encode_nil _).mono ?_
  rintro e w1 ⟨rfl, hb_⟩
  have YA : Box w1 (w.heap.size) _ _ := Box.below (by repeat (with_reducible first | exact XA.out | exact Box.new | exact Box.new1 | exact Box.new2 | exact Box.new3 | apply Box.alloc | apply Box.drew | apply Box.drewN | apply Box.set)) hb_
  (try clear XA rA kA fA); have XA := Aside0.mk YA; have rA := YA.cell; have fA := YA.frozen; have kA := YA.lt; clear YA
  have n_ := Aside0.mk (below_step (by repeat (first | exact HB.out | apply below_alloc | apply pw_below_drewN | apply below_drew1 | refine below_set ?_ (by first | omega | (simp; omega)))) hb_); clear HB hb_; have HB := n_; clear n_
  go_wp2_with fail
  refine (Fits_d c _ ?hG).mono ?_
  case hG => exact HG.out.below (by repeat (first | exact HB.out | apply below_alloc | apply pw_below_drewN | apply below_drew1 | refine below_set ?_ (by first | omega | (simp; omega))))
  rintro e w2 ⟨rfl, hb_⟩
  have YA : Box w2 (w.heap.size) _ _ := Box.below (by repeat (with_reducible first | exact XA.out | exact Box.new | exact Box.new1 | exact Box.new2 | exact Box.new3 | apply Box.alloc | apply Box.drew | apply Box.drewN | apply Box.set)) hb_
  (try clear XA rA kA fA); have XA := Aside0.mk YA; have rA := YA.cell; have fA := YA.frozen; have kA := YA.lt; clear YA
  have n_ := Aside0.mk (below_step (by repeat (first | exact HB.out | apply below_alloc | apply pw_below_drewN | apply below_drew1 | refine below_set ?_ (by first | omega | (simp; omega)))) hb_); clear HB hb_; have HB := n_; clear n_
  go_wp2
  go_ret
  exact ⟨rfl, HB.out⟩
theorem SlotRoot_calls (x : Int) (w : World) (hx : 0 ≤ x ∧ x ≤ 9223372036854775807) (hG : DutyLaid w) : Calls Tryd.prog 19 #[.int .i64 x] w fun e w' => e = .returned (.int .u64 (foldF [x])) ∧ Below w.heap.size w w' := by
  have HB := Aside0.mk (Below.refl w.heap.size w)
  have HG := Aside0.mk hG
  clear hG
  have hw : IntKind.u64.wrap x = x := by rw [IntKind.wrap_u64]; omega
  go_enter Tryd.func19, Tryd.ntmps19
  go_wp2_with fail
  refine (Fold1_calls x _ 22 _ ?hb hx.1 ?hG).mono ?_
  case hG => exact HG.out.below (by repeat (first | exact HB.out | apply below_alloc | apply pw_below_drewN | apply below_drew1 | refine below_set ?_ (by first | omega | (simp; omega))))
  case hb => exact Box.new
  rintro e w1 ⟨rfl, hb_⟩
  have n_ := Aside0.mk (below_step (by repeat (first | exact HB.out | apply below_alloc | apply pw_below_drewN | apply below_drew1 | refine below_set ?_ (by first | omega | (simp; omega)))) hb_); clear HB hb_; have HB := n_; clear n_
  go_wp2
  go_ret
  exact ⟨rfl, HB.out⟩
theorem rSlotRoot_calls (x : Int) (w : World) (hx : 0 ≤ x ∧ x ≤ 9223372036854775807) : Calls Tryd.prog 20 #[.int .i64 x] w fun e w' => e = .returned (.int .u64 (foldF [x])) ∧ Below w.heap.size w w' := by
  have HB := Aside0.mk (Below.refl w.heap.size w)
  have hw : IntKind.u64.wrap x = x := by rw [IntKind.wrap_u64]; omega
  go_enter Tryd.func20, Tryd.ntmps20
  go_wp2_with fail
  refine (RFold_calls _ 1 1 [x] _ (C_box .u64 _ _ 22 [x] (by simp) Box.new) (by omega) (by simp; exact hx.1)).mono ?_
  rintro e w1 ⟨rfl, hb_⟩
  have n_ := Aside0.mk (below_step (by repeat (first | exact HB.out | apply below_alloc | apply pw_below_drewN | apply below_drew1 | refine below_set ?_ (by first | omega | (simp; omega)))) hb_); clear HB hb_; have HB := n_; clear n_
  go_wp2
  go_ret
  exact ⟨rfl, HB.out⟩
end Go.Proofs.YtdepmbnoecpccaaDoor
