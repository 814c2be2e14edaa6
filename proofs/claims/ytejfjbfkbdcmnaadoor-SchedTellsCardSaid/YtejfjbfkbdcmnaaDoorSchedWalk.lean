
/- What sched's functions (chapter 11) compute. -/
import Derived.StillTailTactics
import Derived.Deep.RegionHeld3
import Derived.Test.YtejfjbfkbdcmnaaDoorSchedPure
import Derived.Test.YtejfjbfkbdcmnaaDoorBoxes
set_option linter.unusedVariables false
set_option linter.unusedSimpArgs false
namespace Go.Proofs.YtejfjbfkbdcmnaaDoor
open Go.RowKit Go.Proofs.YtejfjbfkbdcmnaaDoorW.PrintWords Go.Proofs.YtejfjbfkbdcmnaaDoorW.PrintLast Go.Proofs.YtejfjbfkbdcmnaaDoorW.PrintMore
attribute [local go_sem] max2_int min2_int max_two min_two

set_option maxHeartbeats 400000 in
theorem swithin_calls (x a b : Int) (w : World) : Calls Tryd.prog 26 #[.int .i64 x, .int .i64 a, .int .i64 b] w fun e w' => e = .returned (.bool (win x a b)) ∧ Below w.heap.size w w' := by
  have HB := Aside0.mk (Below.refl w.heap.size w)
  go_enter Tryd.func26, Tryd.ntmps26
  go_wp2
  all_goals go_ret
  all_goals exact ⟨ret_bool (by rw [Bool.eq_iff_iff, win_iff]; simp; omega), (by repeat (first | exact HB.out | apply below_alloc | apply pw_below_drewN | apply below_drew1 | refine below_set ?_ (by first | omega | (simp; omega))))⟩
set_option maxHeartbeats 1000000 in
theorem SFits_calls (p : PlanV) (w : World) : Calls Tryd.prog 11 #[.agg #[.int .u64 p.no, .int .i64 p.ke, .int .i64 p.pe]] w fun e w' => e = .returned (.bool (fitsP p)) ∧ Below w.heap.size w w' := by
  have HB := Aside0.mk (Below.refl w.heap.size w)
  unfold fitsP
  rcases Bool.eq_false_or_eq_true (win p.ke 0 64) with h1 | h1
  · go_enter Tryd.func11, Tryd.ntmps11
    go_wp2_with fail
    refine (swithin_calls p.ke 0 64 _).mono ?_
    rintro e w1 ⟨rfl, hb_⟩
    have YP : Box w1 (w.heap.size) _ _ := Box.below (by repeat (with_reducible first | exact XP.out | exact Box.new | exact Box.new1 | exact Box.new2 | exact Box.new3 | apply Box.alloc | apply Box.drew | apply Box.drewN | apply Box.set)) hb_
    (try clear XP rP kP fP); have XP := Aside0.mk YP; have rP := YP.cell; have fP := YP.frozen; have kP := YP.lt; clear YP
    have n_ := Aside0.mk (below_step (by repeat (first | exact HB.out | apply below_alloc | apply pw_below_drewN | apply below_drew1 | refine below_set ?_ (by first | omega | (simp; omega)))) hb_); clear HB hb_; have HB := n_; clear n_
    go_wp2_with fail
    refine (swithin_calls p.pe 1 256 _).mono ?_
    rintro e w2 ⟨rfl, hb_⟩
    have YP : Box w2 (w.heap.size) _ _ := Box.below (by repeat (with_reducible first | exact XP.out | exact Box.new | exact Box.new1 | exact Box.new2 | exact Box.new3 | apply Box.alloc | apply Box.drew | apply Box.drewN | apply Box.set)) hb_
    (try clear XP rP kP fP); have XP := Aside0.mk YP; have rP := YP.cell; have fP := YP.frozen; have kP := YP.lt; clear YP
    have n_ := Aside0.mk (below_step (by repeat (first | exact HB.out | apply below_alloc | apply pw_below_drewN | apply below_drew1 | refine below_set ?_ (by first | omega | (simp; omega)))) hb_); clear HB hb_; have HB := n_; clear n_
    go_wp2
    go_ret
    exact ⟨ret_bool (by rw [h1]; simp), HB.out⟩
  · go_enter Tryd.func11, Tryd.ntmps11
    go_wp2_with fail
    refine (swithin_calls p.ke 0 64 _).mono ?_
    rintro e w1 ⟨rfl, hb_⟩
    have YP : Box w1 (w.heap.size) _ _ := Box.below (by repeat (with_reducible first | exact XP.out | exact Box.new | exact Box.new1 | exact Box.new2 | exact Box.new3 | apply Box.alloc | apply Box.drew | apply Box.drewN | apply Box.set)) hb_
    (try clear XP rP kP fP); have XP := Aside0.mk YP; have rP := YP.cell; have fP := YP.frozen; have kP := YP.lt; clear YP
    have n_ := Aside0.mk (below_step (by repeat (first | exact HB.out | apply below_alloc | apply pw_below_drewN | apply below_drew1 | refine below_set ?_ (by first | omega | (simp; omega)))) hb_); clear HB hb_; have HB := n_; clear n_
    go_wp2
    go_ret
    exact ⟨ret_bool (by rw [h1]; simp), HB.out⟩
set_option maxRecDepth 100000 in
set_option maxHeartbeats 2000000 in
theorem block_yes (c : ChainV) (p : PlanV) (e : Int) (w : World) (h : mayP c p e = true) (hno : 0 ≤ p.no) (hG : DutyLaid w) : Calls Tryd.prog 27 #[.agg #[.int .i64 c.va, .int .i64 c.sl, .int .i64 c.co, .int .i64 c.su, .int .i64 c.ti, .int .i64 c.di, .int .i64 c.ra, .int .i64 c.ro, .int .i64 c.ag, .int .u64 c.se], .agg #[.int .u64 p.no, .int .i64 p.ke, .int .i64 p.pe], .int .i64 e] w fun e' w' =>
    e' = .returned (.tuple #[.int .i64 (blockP p e), .int .i64 (p.no % p.pe), .bool true]) ∧ Below w.heap.size w w' := by
  obtain ⟨hf, hp, he⟩ := (mayP_iff c p e).1 h
  have hwn := win_iff.2 he
  obtain ⟨b1, b2, b3, b4⟩ := block_bd p e hp he
  obtain ⟨h1, h2⟩ := (fitsP_iff p).1 hp
  have hu : IntKind.u64.wrap p.pe = p.pe := by rw [IntKind.wrap_u64]; omega
  have hm : p.no.tmod p.pe = p.no % p.pe := Int.tmod_eq_emod_of_nonneg hno
  have hq : (e + p.no % p.pe).tdiv p.pe = blockP p e := Int.tdiv_eq_ediv_of_nonneg (by omega)
  have hpe : ¬ p.pe = 0 := by omega
  have hw : IntKind.i64.wrap (p.no % p.pe) = p.no % p.pe := IntWalk.i64_in _ (by omega)
  have HB := Aside0.mk (Below.refl w.heap.size w)
  have HG := Aside0.mk hG
  clear hG h
  go_enter Tryd.func27, Tryd.ntmps27
  go_wp2_with fail
  refine (Fits_d c _ ?hG).mono ?_
  case hG => exact HG.out.below (by repeat (first | exact HB.out | apply below_alloc | apply pw_below_drewN | apply below_drew1 | refine below_set ?_ (by first | omega | (simp; omega))))
  rintro e w1 ⟨rfl, hb_⟩
  have YA : Box w1 (w.heap.size) _ _ := Box.below (by repeat (with_reducible first | exact XA.out | exact Box.new | exact Box.new1 | exact Box.new2 | exact Box.new3 | apply Box.alloc | apply Box.drew | apply Box.drewN | apply Box.set)) hb_
  (try clear XA rA kA fA); have XA := Aside0.mk YA; have rA := YA.cell; have fA := YA.frozen; have kA := YA.lt; clear YA
  have YP : Box w1 (w.heap.size + 1) _ _ := Box.below (by repeat (with_reducible first | exact XP.out | exact Box.new | exact Box.new1 | exact Box.new2 | exact Box.new3 | apply Box.alloc | apply Box.drew | apply Box.drewN | apply Box.set)) hb_
  (try clear XP rP kP fP); have XP := Aside0.mk YP; have rP := YP.cell; have fP := YP.frozen; have kP := YP.lt; clear YP
  have n_ := Aside0.mk (below_step (by repeat (first | exact HB.out | apply below_alloc | apply pw_below_drewN | apply below_drew1 | refine below_set ?_ (by first | omega | (simp; omega)))) hb_); clear HB hb_; have HB := n_; clear n_
  go_wp2_with fail
  refine (SFits_calls p _).mono ?_
  rintro e w2 ⟨rfl, hb_⟩
  have YA : Box w2 (w.heap.size) _ _ := Box.below (by repeat (with_reducible first | exact XA.out | exact Box.new | exact Box.new1 | exact Box.new2 | exact Box.new3 | apply Box.alloc | apply Box.drew | apply Box.drewN | apply Box.set)) hb_
  (try clear XA rA kA fA); have XA := Aside0.mk YA; have rA := YA.cell; have fA := YA.frozen; have kA := YA.lt; clear YA
  have YP : Box w2 (w.heap.size + 1) _ _ := Box.below (by repeat (with_reducible first | exact XP.out | exact Box.new | exact Box.new1 | exact Box.new2 | exact Box.new3 | apply Box.alloc | apply Box.drew | apply Box.drewN | apply Box.set)) hb_
  (try clear XP rP kP fP); have XP := Aside0.mk YP; have rP := YP.cell; have fP := YP.frozen; have kP := YP.lt; clear YP
  have n_ := Aside0.mk (below_step (by repeat (first | exact HB.out | apply below_alloc | apply pw_below_drewN | apply below_drew1 | refine below_set ?_ (by first | omega | (simp; omega)))) hb_); clear HB hb_; have HB := n_; clear n_
  go_wp2_with fail
  refine (swithin_calls e 0 1099511627776 _).mono ?_
  rintro e w3 ⟨rfl, hb_⟩
  have YA : Box w3 (w.heap.size) _ _ := Box.below (by repeat (with_reducible first | exact XA.out | exact Box.new | exact Box.new1 | exact Box.new2 | exact Box.new3 | apply Box.alloc | apply Box.drew | apply Box.drewN | apply Box.set)) hb_
  (try clear XA rA kA fA); have XA := Aside0.mk YA; have rA := YA.cell; have fA := YA.frozen; have kA := YA.lt; clear YA
  have YP : Box w3 (w.heap.size + 1) _ _ := Box.below (by repeat (with_reducible first | exact XP.out | exact Box.new | exact Box.new1 | exact Box.new2 | exact Box.new3 | apply Box.alloc | apply Box.drew | apply Box.drewN | apply Box.set)) hb_
  (try clear XP rP kP fP); have XP := Aside0.mk YP; have rP := YP.cell; have fP := YP.frozen; have kP := YP.lt; clear YP
  have n_ := Aside0.mk (below_step (by repeat (first | exact HB.out | apply below_alloc | apply pw_below_drewN | apply below_drew1 | refine below_set ?_ (by first | omega | (simp; omega)))) hb_); clear HB hb_; have HB := n_; clear n_
  go_wp2
  exact bodyPost_ret (v := .tuple #[.int .i64 (blockP p e), .int .i64 (p.no % p.pe), .bool true]) (by simp [results, Tryd.results27, go_sem]) rfl ⟨rfl, HB.out⟩
set_option maxHeartbeats 1000000 in
theorem block_no (c : ChainV) (p : PlanV) (e : Int) (w : World) (h : mayP c p e = false) (hG : DutyLaid w) : Calls Tryd.prog 27 #[.agg #[.int .i64 c.va, .int .i64 c.sl, .int .i64 c.co, .int .i64 c.su, .int .i64 c.ti, .int .i64 c.di, .int .i64 c.ra, .int .i64 c.ro, .int .i64 c.ag, .int .u64 c.se], .agg #[.int .u64 p.no, .int .i64 p.ke, .int .i64 p.pe], .int .i64 e] w fun e' w' =>
    e' = .returned (.tuple #[.int .i64 0, .int .i64 0, .bool false]) ∧ Below w.heap.size w w' := by
  have HB := Aside0.mk (Below.refl w.heap.size w)
  have HG := Aside0.mk hG
  clear hG
  rcases Bool.eq_false_or_eq_true (fitsC c) with hf | hf
  · rcases Bool.eq_false_or_eq_true (fitsP p) with hp | hp
    · have hw : win e 0 1099511627776 = false := by simpa [mayP, hf, hp] using h
      clear h
      go_enter Tryd.func27, Tryd.ntmps27
      go_wp2_with fail
      refine (Fits_d c _ ?hG).mono ?_
      case hG => exact HG.out.below (by repeat (first | exact HB.out | apply below_alloc | apply pw_below_drewN | apply below_drew1 | refine below_set ?_ (by first | omega | (simp; omega))))
      rintro e w1 ⟨rfl, hb_⟩
      have YA : Box w1 (w.heap.size) _ _ := Box.below (by repeat (with_reducible first | exact XA.out | exact Box.new | exact Box.new1 | exact Box.new2 | exact Box.new3 | apply Box.alloc | apply Box.drew | apply Box.drewN | apply Box.set)) hb_
      (try clear XA rA kA fA); have XA := Aside0.mk YA; have rA := YA.cell; have fA := YA.frozen; have kA := YA.lt; clear YA
      have YP : Box w1 (w.heap.size + 1) _ _ := Box.below (by repeat (with_reducible first | exact XP.out | exact Box.new | exact Box.new1 | exact Box.new2 | exact Box.new3 | apply Box.alloc | apply Box.drew | apply Box.drewN | apply Box.set)) hb_
      (try clear XP rP kP fP); have XP := Aside0.mk YP; have rP := YP.cell; have fP := YP.frozen; have kP := YP.lt; clear YP
      have n_ := Aside0.mk (below_step (by repeat (first | exact HB.out | apply below_alloc | apply pw_below_drewN | apply below_drew1 | refine below_set ?_ (by first | omega | (simp; omega)))) hb_); clear HB hb_; have HB := n_; clear n_
      go_wp2_with fail
      refine (SFits_calls p _).mono ?_
      rintro e w2 ⟨rfl, hb_⟩
      have YA : Box w2 (w.heap.size) _ _ := Box.below (by repeat (with_reducible first | exact XA.out | exact Box.new | exact Box.new1 | exact Box.new2 | exact Box.new3 | apply Box.alloc | apply Box.drew | apply Box.drewN | apply Box.set)) hb_
      (try clear XA rA kA fA); have XA := Aside0.mk YA; have rA := YA.cell; have fA := YA.frozen; have kA := YA.lt; clear YA
      have YP : Box w2 (w.heap.size + 1) _ _ := Box.below (by repeat (with_reducible first | exact XP.out | exact Box.new | exact Box.new1 | exact Box.new2 | exact Box.new3 | apply Box.alloc | apply Box.drew | apply Box.drewN | apply Box.set)) hb_
      (try clear XP rP kP fP); have XP := Aside0.mk YP; have rP := YP.cell; have fP := YP.frozen; have kP := YP.lt; clear YP
      have n_ := Aside0.mk (below_step (by repeat (first | exact HB.out | apply below_alloc | apply pw_below_drewN | apply below_drew1 | refine below_set ?_ (by first | omega | (simp; omega)))) hb_); clear HB hb_; have HB := n_; clear n_
      go_wp2_with fail
      refine (swithin_calls e 0 1099511627776 _).mono ?_
      rintro e w3 ⟨rfl, hb_⟩
      have YA : Box w3 (w.heap.size) _ _ := Box.below (by repeat (with_reducible first | exact XA.out | exact Box.new | exact Box.new1 | exact Box.new2 | exact Box.new3 | apply Box.alloc | apply Box.drew | apply Box.drewN | apply Box.set)) hb_
      (try clear XA rA kA fA); have XA := Aside0.mk YA; have rA := YA.cell; have fA := YA.frozen; have kA := YA.lt; clear YA
      have YP : Box w3 (w.heap.size + 1) _ _ := Box.below (by repeat (with_reducible first | exact XP.out | exact Box.new | exact Box.new1 | exact Box.new2 | exact Box.new3 | apply Box.alloc | apply Box.drew | apply Box.drewN | apply Box.set)) hb_
      (try clear XP rP kP fP); have XP := Aside0.mk YP; have rP := YP.cell; have fP := YP.frozen; have kP := YP.lt; clear YP
      have n_ := Aside0.mk (below_step (by repeat (first | exact HB.out | apply below_alloc | apply pw_below_drewN | apply below_drew1 | refine below_set ?_ (by first | omega | (simp; omega)))) hb_); clear HB hb_; have HB := n_; clear n_
      go_wp2
      exact bodyPost_ret (v := .tuple #[.int .i64 0, .int .i64 0, .bool false]) (by simp [results, Tryd.results27, go_sem]) rfl ⟨rfl, HB.out⟩
    · clear h
      go_enter Tryd.func27, Tryd.ntmps27
      go_wp2_with fail
      refine (Fits_d c _ ?hG).mono ?_
      case hG => exact HG.out.below (by repeat (first | exact HB.out | apply below_alloc | apply pw_below_drewN | apply below_drew1 | refine below_set ?_ (by first | omega | (simp; omega))))
      rintro e w1 ⟨rfl, hb_⟩
      have YA : Box w1 (w.heap.size) _ _ := Box.below (by repeat (with_reducible first | exact XA.out | exact Box.new | exact Box.new1 | exact Box.new2 | exact Box.new3 | apply Box.alloc | apply Box.drew | apply Box.drewN | apply Box.set)) hb_
      (try clear XA rA kA fA); have XA := Aside0.mk YA; have rA := YA.cell; have fA := YA.frozen; have kA := YA.lt; clear YA
      have YP : Box w1 (w.heap.size + 1) _ _ := Box.below (by repeat (with_reducible first | exact XP.out | exact Box.new | exact Box.new1 | exact Box.new2 | exact Box.new3 | apply Box.alloc | apply Box.drew | apply Box.drewN | apply Box.set)) hb_
      (try clear XP rP kP fP); have XP := Aside0.mk YP; have rP := YP.cell; have fP := YP.frozen; have kP := YP.lt; clear YP
      have n_ := Aside0.mk (below_step (by repeat (first | exact HB.out | apply below_alloc | apply pw_below_drewN | apply below_drew1 | refine below_set ?_ (by first | omega | (simp; omega)))) hb_); clear HB hb_; have HB := n_; clear n_
      go_wp2_with fail
      refine (SFits_calls p _).mono ?_
      rintro e w2 ⟨rfl, hb_⟩
      have YA : Box w2 (w.heap.size) _ _ := Box.below (by repeat (with_reducible first | exact XA.out | exact Box.new | exact Box.new1 | exact Box.new2 | exact Box.new3 | apply Box.alloc | apply Box.drew | apply Box.drewN | apply Box.set)) hb_
      (try clear XA rA kA fA); have XA := Aside0.mk YA; have rA := YA.cell; have fA := YA.frozen; have kA := YA.lt; clear YA
      have YP : Box w2 (w.heap.size + 1) _ _ := Box.below (by repeat (with_reducible first | exact XP.out | exact Box.new | exact Box.new1 | exact Box.new2 | exact Box.new3 | apply Box.alloc | apply Box.drew | apply Box.drewN | apply Box.set)) hb_
      (try clear XP rP kP fP); have XP := Aside0.mk YP; have rP := YP.cell; have fP := YP.frozen; have kP := YP.lt; clear YP
      have n_ := Aside0.mk (below_step (by repeat (first | exact HB.out | apply below_alloc | apply pw_below_drewN | apply below_drew1 | refine below_set ?_ (by first | omega | (simp; omega)))) hb_); clear HB hb_; have HB := n_; clear n_
      go_wp2
      exact bodyPost_ret (v := .tuple #[.int .i64 0, .int .i64 0, .bool false]) (by simp [results, Tryd.results27, go_sem]) rfl ⟨rfl, HB.out⟩
  · clear h
    go_enter Tryd.func27, Tryd.ntmps27
    go_wp2_with fail
    refine (Fits_d c _ ?hG).mono ?_
    case hG => exact HG.out.below (by repeat (first | exact HB.out | apply below_alloc | apply pw_below_drewN | apply below_drew1 | refine below_set ?_ (by first | omega | (simp; omega))))
    rintro e w1 ⟨rfl, hb_⟩
    have YA : Box w1 (w.heap.size) _ _ := Box.below (by repeat (with_reducible first | exact XA.out | exact Box.new | exact Box.new1 | exact Box.new2 | exact Box.new3 | apply Box.alloc | apply Box.drew | apply Box.drewN | apply Box.set)) hb_
    (try clear XA rA kA fA); have XA := Aside0.mk YA; have rA := YA.cell; have fA := YA.frozen; have kA := YA.lt; clear YA
    have YP : Box w1 (w.heap.size + 1) _ _ := Box.below (by repeat (with_reducible first | exact XP.out | exact Box.new | exact Box.new1 | exact Box.new2 | exact Box.new3 | apply Box.alloc | apply Box.drew | apply Box.drewN | apply Box.set)) hb_
    (try clear XP rP kP fP); have XP := Aside0.mk YP; have rP := YP.cell; have fP := YP.frozen; have kP := YP.lt; clear YP
    have n_ := Aside0.mk (below_step (by repeat (first | exact HB.out | apply below_alloc | apply pw_below_drewN | apply below_drew1 | refine below_set ?_ (by first | omega | (simp; omega)))) hb_); clear HB hb_; have HB := n_; clear n_
    go_wp2
    exact bodyPost_ret (v := .tuple #[.int .i64 0, .int .i64 0, .bool false]) (by simp [results, Tryd.results27, go_sem]) rfl ⟨rfl, HB.out⟩

/-- The array of what is kept, as values. -/
def keptV (s f t : Int) : Array Value := ((keptP s f t).map Value.bool).toArray
theorem keptV_size (s f t : Int) : (keptV s f t).size = 64 := by simp [keptV, keptP]
theorem keptV_at (s f t : Int) (j : Nat) (h : j < 64) : (keptV s f t)[j]? = some (.bool (onP s f t j)) := by simp [keptV, keptP, h]
theorem keptV_set (s f t : Int) (v : Nat) (h : 0 ≤ f ∧ f < s) (ht : 0 ≤ t ∧ t < s) (hv : (f + t) % s = (v : Int)) : (keptV s f t).setIfInBounds v (.bool true) = keptV s f (t + 1) := by
  unfold keptV
  rw [List.setIfInBounds_toArray, ← List.map_set, keptP_set s f t v h ht hv]
set_option maxRecDepth 100000 in
set_option maxHeartbeats 4000000 in
theorem kept_calls (c : ChainV) (p : PlanV) (n : Int) (w : World) (hf : fitsC c = true) (hp : fitsP p = true) (hn : 0 ≤ n ∧ n ≤ 2199023255552) (hno : 0 ≤ p.no) (hG : DutyLaid w) : Calls Tryd.prog 28 #[.agg #[.int .i64 c.va, .int .i64 c.sl, .int .i64 c.co, .int .i64 c.su, .int .i64 c.ti, .int .i64 c.di, .int .i64 c.ra, .int .i64 c.ro, .int .i64 c.ag, .int .u64 c.se], .agg #[.int .u64 p.no, .int .i64 p.ke, .int .i64 p.pe], .int .i64 n] w fun e' w' =>
    e' = .returned (.agg (keptV c.su (firstP c p n) p.ke)) ∧ Below w.heap.size w w' := by
  obtain ⟨f1, f2, f3, f4⟩ := first_bd c p n hf
  obtain ⟨h1, h2⟩ := (fitsP_iff p).1 hp
  obtain ⟨g1, g2, g3, g4, g5, g6, g7, g8, g9⟩ := (fitsC_iff c).1 hf
  have hu1 : IntKind.u64.wrap c.su = c.su := by rw [IntKind.wrap_u64]; omega
  have hu2 : IntKind.u64.wrap n = n := by rw [IntKind.wrap_u64]; omega
  have hm : p.no.tmod c.su = p.no % c.su := Int.tmod_eq_emod_of_nonneg hno
  have hsu0 : ¬ c.su = 0 := by omega
  have hw : IntKind.i64.wrap (p.no % c.su) = p.no % c.su := IntWalk.i64_in _ (by omega)
  have hmy : mayB c.su c.ro (p.no % c.su) = true := (may_iff _ _ _).2 (by omega)
  have hsd : 0 ≤ foldF [p.no, n] := (foldF_ok [p.no, n]).1
  have hn0 : 0 ≤ n := hn.1
  have HG := Aside0.mk hG
  clear hG
  go_enter Tryd.func28, Tryd.ntmps28
  go_upto_region 1 with (fail)
  generalize hW : ((w.alloc (.cells _ _)).alloc (.cells _ _)).alloc (.cells _ _) = W
  have bC : Box W w.heap.size #[.int .i64 c.va, .int .i64 c.sl, .int .i64 c.co, .int .i64 c.su, .int .i64 c.ti, .int .i64 c.di, .int .i64 c.ra, .int .i64 c.ro, .int .i64 c.ag, .int .u64 c.se] 24 := hW ▸ (Box.new.alloc).alloc
  have bP : Box W (w.heap.size + 1) #[.int .u64 p.no, .int .i64 p.ke, .int .i64 p.pe] 26 := hW ▸ Box.new1.alloc
  have bO : Box W (w.heap.size + 1 + 1) (keptV c.su (firstP c p n) 0) 58 := by
    unfold keptV
    rw [keptP_zero _ _ (by omega)]
    subst hW
    exact Box.new2
  have hbl : Below w.heap.size w W := hW ▸ below_alloc (below_alloc (below_alloc (Below.refl _ _) _) _) _
  clear hW
  have HB := Aside0.mk hbl
  have HGW := Aside0.mk (HG.out.below hbl)
  clear hbl HG
  have XC := Aside0.mk bC; have rC := bC.cell; have fC := bC.frozen; have kC := bC.lt; clear bC
  have XP := Aside0.mk bP; have rP := bP.cell; have fP := bP.frozen; have kP := bP.lt; clear bP
  have XO := Aside0.mk bO; have rO := bO.cell; have fO := bO.frozen; have kO := bO.lt; clear bO
  have HO := Aside0.mk XO.out
  clear rO fO
  go_region_held3 (fun w' => Below W.heap.size W w' ∧ (∀ j, w'.cell? ⟨w.heap.size, j, none⟩ = (#[.int .i64 c.va, .int .i64 c.sl, .int .i64 c.co, .int .i64 c.su, .int .i64 c.ti, .int .i64 c.di, .int .i64 c.ra, .int .i64 c.ro, .int .i64 c.ag, .int .u64 c.se] : Array Value)[j]?) ∧ (∀ j, w'.cell? ⟨w.heap.size + 1, j, none⟩ = (#[.int .u64 p.no, .int .i64 p.ke, .int .i64 p.pe] : Array Value)[j]?)) (first | exact ⟨below_drew1 (Below.refl _ _), rC, rP⟩ | exact ⟨j0, jC, jP⟩ | exact ⟨below_alloc j0 _, fun j => (cell_alloc_old (Nat.lt_of_lt_of_le kC j0.size)).trans (jC j), fun j => (cell_alloc_old (Nat.lt_of_lt_of_le kP j0.size)).trans (jP j)⟩ | exact ⟨below_alloc (below_drew1 (Below.refl _ _)) _, fun j => (cell_alloc_old kC).trans (rC j), fun j => (cell_alloc_old kP).trans (rP j)⟩ | assumption) (first | (go_at_call 42; obtain ⟨g0, gC, gP⟩ := ‹Below W.heap.size W _ ∧ _›; ((with_reducible refine (Fold2_calls p.no n _ 22 _ ?hb hno hn0 (HGW.out.below g0)).mono ?_)); (case hb => exact Box.new); rintro e w5 ⟨rfl, hb_⟩; have j0 := below_step g0 hb_; have jC := fun j => (hb_.cell (p := ⟨w.heap.size, j, none⟩) (Nat.lt_of_lt_of_le kC g0.size)).trans (gC j); have jP := fun j => (hb_.cell (p := ⟨w.heap.size + 1, j, none⟩) (Nat.lt_of_lt_of_le kP g0.size)).trans (gP j)) | (go_at_call 41; obtain ⟨g0, gC, gP⟩ := ‹Below W.heap.size W _ ∧ _›; ((with_reducible refine (Place_y c.su c.ro (foldF [p.no, n]) (p.no % c.su) _ hmy hsd (HGW.out.below g0).ch).mono ?_)); rintro e w6 ⟨rfl, hb_⟩; have j0 := below_step g0 hb_; have jC := fun j => (hb_.cell (p := ⟨w.heap.size, j, none⟩) (Nat.lt_of_lt_of_le kC g0.size)).trans (gC j); have jP := fun j => (hb_.cell (p := ⟨w.heap.size + 1, j, none⟩) (Nat.lt_of_lt_of_le kP g0.size)).trans (gP j)))
  have bC := XC.out.below j0
  have bP := XP.out.below j0
  have bO := HO.out.below j0
  have HB2 := Aside0.mk (below_step HB.out j0)
  clear HB XC rC fC kC XP rP fP kP XO kO HO j0 jC jP HGW hm hw hu1 hu2 hmy hsd
  have HB := HB2
  clear HB2
  have XC := Aside0.mk bC; have rC := bC.cell; have fC := bC.frozen; have kC := bC.lt; clear bC
  have XP := Aside0.mk bP; have rP := bP.cell; have fP := bP.frozen; have kP := bP.lt; clear bP
  have XO := Aside0.mk bO; have rO := bO.cell; have fO := bO.frozen; have kO := bO.lt; clear bO
  clear rO fO
  have ef : placeF c.su (foldF [p.no, n]) c.ro.toNat (p.no % c.su) = firstP c p n := rfl
  rw [ef]
  clear ef f1 f2
  have HM := Aside0.mk (keptP_min c.su (firstP c p n) p.ke g4.1)
  generalize hff : firstP c p n = f at *
  have HFF := Aside0.mk hff
  clear hff
  obtain ⟨m, hm⟩ : ∃ m : Int, (if c.su < p.ke then c.su else p.ke) = m := ⟨_, rfl⟩
  have hmb : 0 ≤ m ∧ m ≤ c.su := by
    rw [← hm]
    split <;> omega
  have HM2 := Aside0.mk hm
  have kO2 := kO
  go_wp2
  go_loopw [36] (fun iv wx => ∃ t : Int, 0 ≤ t ∧ t ≤ m ∧ iv = .int .i64 t ∧ Box wx w.heap.size #[.int .i64 c.va, .int .i64 c.sl, .int .i64 c.co, .int .i64 c.su, .int .i64 c.ti, .int .i64 c.di, .int .i64 c.ra, .int .i64 c.ro, .int .i64 c.ag, .int .u64 c.se] 24 ∧ Box wx (w.heap.size + 1) #[.int .u64 p.no, .int .i64 p.ke, .int .i64 p.pe] 26 ∧ Box wx (w.heap.size + 1 + 1) (keptV c.su f t) 58 ∧ Below w.heap.size w wx) (fun iv _ => (m - intOf iv).toNat)
  case atStart => exact ⟨0, by omega, by omega, rfl, XC.out, XP.out, XO.out, HB.out⟩
  case round =>
    clear HB XC rC fC kC XP rP fP kP XO kO kO2
    obtain ⟨t, ht0, ht1, rfl, bC, bP, bO, hbl⟩ := hrel
    have HB := Aside0.mk hbl
    clear hbl
    have XC := Aside0.mk bC; have rC := bC.cell; have fC := bC.frozen; have kC := bC.lt; clear bC
    have XP := Aside0.mk bP; have rP := bP.cell; have fP := bP.frozen; have kP := bP.lt; clear bP
    have XO := Aside0.mk bO
    have kO := bO.lt
    rcases Int.lt_or_le t m with hlt | hge
    · obtain ⟨v, hv⟩ : ∃ v : Nat, (f + t) % c.su = (v : Int) := ⟨((f + t) % c.su).toNat, by have := Int.emod_nonneg (f + t) (show c.su ≠ 0 by omega); omega⟩
      have hvs : (v : Int) < c.su := by rw [← hv]; exact Int.emod_lt_of_pos _ (by omega)
      have hv64 : v < 64 := by omega
      have hq : (f + t).tmod c.su = (v : Int) := by rw [Int.tmod_eq_emod_of_nonneg (by omega)]; exact hv
      have hcell := (bO.cell v).trans (keptV_at c.su f t v hv64)
      have hfr := bO.frozen v
      have HS := Aside0.mk (keptV_set c.su f t v ⟨f3, f4⟩ ⟨ht0, by omega⟩ hv)
      clear bO hv
      go_wp2
      go_roundw
      case rel => exact ⟨t + 1, by omega, by omega, rfl, Box.far XC.out (by simp only; omega), Box.far XP.out (by simp only; omega), by rw [← HS.out]; exact Box.set XO.out, below_set HB.out (by omega)⟩
      case measure => simp [intOf]; omega
    · obtain rfl : t = m := by omega
      have hkv : keptV c.su f t = keptV c.su f p.ke := by
        unfold keptV
        rw [← HM2.out, HM.out]
      rw [hkv] at bO
      have hrg := range_of_box bO
      have hth := there_of_box bO
      have hsz := keptV_size c.su f p.ke
      have hi : (Tryd.prog.info? 58).map (·.size) = some (keptV c.su f p.ke).toList.length := by
        rw [show (keptV c.su f p.ke).toList.length = 64 by simp [hsz]]
        kernel_rfl
      have hi2 : (Tryd.prog.info? 58).map (·.size) = some (keptV c.su f p.ke).size := by
        rw [hsz]
        kernel_rfl
      have h1c : (keptV c.su f p.ke).all (·.oneCell') = true := by
        unfold keptV
        simp [Value.oneCell']
      have HRG := Aside0.mk (And.intro hrg (And.intro hth (And.intro hi (And.intro hi2 h1c))))
      have XO2 := Aside0.mk bO
      clear hrg hth hi hi2 h1c hsz bO
      go_wp2_with (first
        | ((with_reducible refine gate_dst (N := 47) rfl ?_); refine wpList_load_mid rfl 58 (.tmp 6) rfl (w.heap.size + 1 + 1) 0 rfl (keptV c.su f p.ke).toList _ HRG.out.1 Tryd.underlying58 rfl HRG.out.2.2.1 ?_)
        | (refine wpList_store_mid rfl 58 (.tmp 6) (.tmp 47) rfl (w.heap.size + 1 + 1) 0 (keptV c.su f p.ke) rfl rfl HRG.out.2.1 HRG.out.2.2.2.1 HRG.out.2.2.2.2 ?_))
      have bO2 := Box.over XO2.out (ds := keptV c.su f p.ke) rfl
      exact bodyPost_ret (results_cell_row rfl _ _ (w.heap.size + 1 + 1) 58 (keptV c.su f p.ke) _ _ rfl bO2 Tryd.underlying58 rfl HRG.out.2.2.2.1) rfl ⟨by rw [HFF.out], below_cells (by omega) _ _ _ HB.out⟩
end Go.Proofs.YtejfjbfkbdcmnaaDoor
