
/- What duty's functions (chapter 10) compute. -/
import Derived.StillTailTactics
import Derived.Deep.RegionHeld3
import Derived.Test.YtdepmbnoecpccaaDoorClockWalk
set_option linter.unusedVariables false
set_option linter.unusedSimpArgs false
namespace Go.Proofs.YtdepmbnoecpccaaDoor
open Go.RowKit Go.Proofs.YtdepmbnoecpccaaDoorW.PrintWords Go.Proofs.YtdepmbnoecpccaaDoorW.PrintLast Go.Proofs.YtdepmbnoecpccaaDoorW.PrintMore

/-- Many stores, one behind the other. -/
def setFrom : World → Nat → Nat → List Value → World
  | w, _, _, [] => w
  | w, b, k, y :: ys => setFrom (w.setCell ⟨b, k, none⟩ y) b (k + 1) ys
theorem Box.setFrom {b : Nat} {T : TypeId} : ∀ (ys : List Value) (k : Nat) (w : World) (pre post : List Value), pre.length = k → post.length = ys.length → Box w b (pre ++ post).toArray T → Box (setFrom w b k ys) b (pre ++ ys).toArray T
  | [], k, w, pre, post, _, hp, h => by
    obtain rfl : post = [] := List.length_eq_zero_iff.1 hp
    exact h
  | y :: ys, k, w, pre, [], _, hp, h => by cases hp
  | y :: ys, k, w, pre, p :: post, hk, hp, h => by
    have h1 := Box.set (j := k) (v := y) h
    have e : ((pre ++ p :: post).toArray).setIfInBounds k y = ((pre ++ [y]) ++ post).toArray := by
      subst hk
      simp
    rw [e] at h1
    have := Box.setFrom ys (k + 1) (w.setCell ⟨b, k, none⟩ y) (pre ++ [y]) post (by simp [hk]) (by simpa using hp) h1
    rw [List.append_assoc] at this
    exact this
theorem below_setFrom {w : World} {b : Nat} (hb : w.heap.size ≤ b) : ∀ (ys : List Value) (k : Nat) (v : World), Below w.heap.size w v → Below w.heap.size w (setFrom v b k ys)
  | [], _, _, h => h
  | _ :: ys, k, _, h => below_setFrom hb ys (k + 1) _ (below_set h hb)
theorem cell_setFrom {a : Addr} {b : Nat} (h : a.block ≠ b) : ∀ (ys : List Value) (k : Nat) (v : World), (setFrom v b k ys).cell? a = v.cell? a
  | [], _, _ => rfl
  | _ :: ys, k, _ => (cell_setFrom h ys (k + 1) _).trans (cell_set_far h)
theorem Box.epoch {w : World} {b : Nat} {x0 x1 x2 x3 x4 x5 x6 x7 x8 x9 x10 y0 y1 y2 y3 y4 y5 y6 y7 y8 y9 y10 : Value} {T : TypeId} (h : Box w b #[x0, x1, x2, x3, x4, x5, x6, x7, x8, x9, x10] T) : Box (((((((((((w.setCell ⟨b, 0, none⟩ y0).setCell ⟨b, 1, none⟩ y1).setCell ⟨b, 2, none⟩ y2).setCell ⟨b, 3, none⟩ y3).setCell ⟨b, 4, none⟩ y4).setCell ⟨b, 5, none⟩ y5).setCell ⟨b, 6, none⟩ y6).setCell ⟨b, 7, none⟩ y7).setCell ⟨b, 8, none⟩ y8).setCell ⟨b, 9, none⟩ y9).setCell ⟨b, 10, none⟩ y10) b #[y0, y1, y2, y3, y4, y5, y6, y7, y8, y9, y10] T :=
  Box.setFrom [y0, y1, y2, y3, y4, y5, y6, y7, y8, y9, y10] 0 w [] [x0, x1, x2, x3, x4, x5, x6, x7, x8, x9, x10] rfl rfl h
theorem below_epoch {w v : World} {b : Nat} {y0 y1 y2 y3 y4 y5 y6 y7 y8 y9 y10 : Value} (h : Below w.heap.size w v) (hb : w.heap.size ≤ b) : Below w.heap.size w (((((((((((v.setCell ⟨b, 0, none⟩ y0).setCell ⟨b, 1, none⟩ y1).setCell ⟨b, 2, none⟩ y2).setCell ⟨b, 3, none⟩ y3).setCell ⟨b, 4, none⟩ y4).setCell ⟨b, 5, none⟩ y5).setCell ⟨b, 6, none⟩ y6).setCell ⟨b, 7, none⟩ y7).setCell ⟨b, 8, none⟩ y8).setCell ⟨b, 9, none⟩ y9).setCell ⟨b, 10, none⟩ y10) :=
  below_setFrom hb [y0, y1, y2, y3, y4, y5, y6, y7, y8, y9, y10] 0 v h
theorem cell_epoch {W : World} {a : Addr} {b : Nat} {y0 y1 y2 y3 y4 y5 y6 y7 y8 y9 y10 : Value} (h : a.block ≠ b) : (((((((((((W.setCell ⟨b, 0, none⟩ y0).setCell ⟨b, 1, none⟩ y1).setCell ⟨b, 2, none⟩ y2).setCell ⟨b, 3, none⟩ y3).setCell ⟨b, 4, none⟩ y4).setCell ⟨b, 5, none⟩ y5).setCell ⟨b, 6, none⟩ y6).setCell ⟨b, 7, none⟩ y7).setCell ⟨b, 8, none⟩ y8).setCell ⟨b, 9, none⟩ y9).setCell ⟨b, 10, none⟩ y10).cell? a = W.cell? a :=
  cell_setFrom h [y0, y1, y2, y3, y4, y5, y6, y7, y8, y9, y10] 0 W
/-- Both tables lie there. -/
structure DutyLaid (w : World) : Prop where
  ch : ChurnLaid w
  bo : BoundsLaid w
theorem DutyLaid.below {w w' : World} (h : DutyLaid w) (hb : Below w.heap.size w w') : DutyLaid w' := ⟨h.ch.below hb, h.bo.below hb⟩
theorem Fits_d (c : ChainV) (w : World) (hG : DutyLaid w) : Calls Tryd.prog 36 #[.agg #[.int .i64 c.va, .int .i64 c.sl, .int .i64 c.co, .int .i64 c.su, .int .i64 c.ti, .int .i64 c.di, .int .i64 c.ra, .int .i64 c.ro, .int .i64 c.ag, .int .u64 c.se]] w fun e w' => e = .returned (.bool (fitsC c)) ∧ Below w.heap.size w w' := clockFits_calls c w hG.bo

set_option maxHeartbeats 400000 in
theorem dmay_calls (x : Int) (w : World) : Calls Tryd.prog 37 #[.int .i64 x] w fun e w' => e = .returned (.bool (win x 0 1099511627776)) ∧ Below w.heap.size w w' := by
  have HB := Aside0.mk (Below.refl w.heap.size w)
  go_enter Tryd.func37, Tryd.ntmps37
  go_wp2
  all_goals go_ret
  all_goals exact ⟨ret_bool (by rw [Bool.eq_iff_iff, win_iff]; simp; omega), (by repeat (first | exact HB.out | apply below_alloc | apply pw_below_drewN | apply below_drew1 | refine below_set ?_ (by first | omega | (simp; omega))))⟩

theorem mul_bd {a b A B : Int} (h0 : 0 ≤ a) (h1 : a ≤ A) (h2 : 0 ≤ b) (h3 : b ≤ B) : 0 ≤ a * b ∧ a * b ≤ A * B :=
  ⟨Int.mul_nonneg h0 h2, Int.mul_le_mul h1 h3 h2 (by omega)⟩
def maySlot (c : ChainV) (s i : Int) : Bool := fitsC c && (win s 0 1099511627776 && decide (0 ≤ i ∧ i < c.co))
theorem maySlot_iff (c : ChainV) (s i : Int) : maySlot c s i = true ↔ fitsC c = true ∧ (0 ≤ s ∧ s ≤ 1099511627776) ∧ (0 ≤ i ∧ i < c.co) := by
  unfold maySlot
  simp only [Bool.and_eq_true, win_iff, decide_eq_true_eq]
def commF (c : ChainV) (s i : Int) : Int := s % c.sl * c.co + i
theorem commF_bd (c : ChainV) (s i : Int) (h : maySlot c s i = true) : 0 ≤ s / c.sl ∧ s / c.sl ≤ 1099511627776 ∧ 0 ≤ s % c.sl ∧ s % c.sl < c.sl ∧ 0 ≤ s % c.sl * c.co ∧ s % c.sl * c.co + c.co ≤ c.sl * c.co ∧ c.sl * c.co ≤ 256 ∧ 0 ≤ commF c s i ∧ commF c s i < c.sl * c.co := by
  obtain ⟨hf, hs, hi⟩ := (maySlot_iff c s i).1 h
  obtain ⟨h1, h2, h3, h4, h5, h6, h7, h8, h9⟩ := (fitsC_iff c).1 hf
  have a := Int.ediv_nonneg hs.1 (show (0 : Int) ≤ c.sl by omega)
  have b := Int.ediv_le_self c.sl hs.1
  have d := Int.emod_nonneg s (show c.sl ≠ 0 by omega)
  have e := Int.emod_lt_of_pos s (show 0 < c.sl by omega)
  have f := mul_bd d (show s % c.sl ≤ c.sl - 1 by omega) (show 0 ≤ c.co by omega) (Int.le_refl c.co)
  have g := mul_bd (show 0 ≤ c.sl by omega) h2.2 (show 0 ≤ c.co by omega) h3.2
  rw [Int.sub_mul, Int.one_mul] at f
  unfold commF
  omega

set_option maxRecDepth 100000 in
set_option maxHeartbeats 2000000 in
theorem committee_yes (c : ChainV) (s i : Int) (w : World) (h : maySlot c s i = true) (hG : DutyLaid w) : Calls Tryd.prog 27 #[.agg #[.int .i64 c.va, .int .i64 c.sl, .int .i64 c.co, .int .i64 c.su, .int .i64 c.ti, .int .i64 c.di, .int .i64 c.ra, .int .i64 c.ro, .int .i64 c.ag, .int .u64 c.se], .int .i64 s, .int .i64 i] w fun e w' =>
    e = .returned (.tuple #[.agg #[.int .i64 c.va, .int .i64 c.sl, .int .i64 c.co, .int .i64 c.su, .int .i64 c.ti, .int .i64 c.di, .int .i64 c.ra, .int .i64 c.ro, .int .i64 c.ag, .int .u64 c.se, .int .i64 (s / c.sl)], .int .i64 (commF c s i), .bool true]) ∧ Below w.heap.size w w' := by
  obtain ⟨hf, hs, hi⟩ := (maySlot_iff c s i).1 h
  have hwn := win_iff.2 hs
  obtain ⟨k1, k2, k3, k4, k5, k6, k7, k8, k9⟩ := commF_bd c s i h
  obtain ⟨h1, h2, h3, h4, h5, h6, h7, h8, h9⟩ := (fitsC_iff c).1 hf
  have hsl0 : ¬ c.sl = 0 := by omega
  have hq : s.tdiv c.sl = s / c.sl := Int.tdiv_eq_ediv_of_nonneg hs.1
  have hr : s.tmod c.sl = s % c.sl := Int.tmod_eq_emod_of_nonneg hs.1
  have ek : commF c s i = s % c.sl * c.co + i := rfl
  have HB := Aside0.mk (Below.refl w.heap.size w)
  have HG := Aside0.mk hG
  clear hG h
  go_enter Tryd.func27, Tryd.ntmps27
  go_wp2_with fail
  refine (Fits_d c _ ?hG).mono ?_
  case hG => exact HG.out.below (by repeat (first | exact HB.out | apply below_alloc | apply pw_below_drewN | apply below_drew1 | refine below_set ?_ (by first | omega | (simp; omega))))
  rintro e w1 ⟨rfl, hb_⟩
  have YA : Box w1 (w.heap.size) _ _ := Box.below (by repeat (with_reducible first | exact XA.out | exact Box.new | exact Box.new1 | exact Box.new2 | exact Box.new3 | apply Box.alloc | apply Box.drew | apply Box.drewN | apply Box.set)) hb_
  (try clear XA rA kA fA); have XA := Aside0.mk YA; have rA := YA.cell; have fA := YA.frozen; have kA := YA.lt; clear YA
  have YR : Box w1 (w.heap.size + 1) _ _ := Box.below (by repeat (with_reducible first | exact XR.out | exact Box.new | exact Box.new1 | exact Box.new2 | exact Box.new3 | apply Box.alloc | apply Box.drew | apply Box.drewN | apply Box.set)) hb_
  (try clear XR rR kR fR); have XR := Aside0.mk YR; have rR := YR.cell; have fR := YR.frozen; have kR := YR.lt; clear YR
  have n_ := Aside0.mk (below_step (by repeat (first | exact HB.out | apply below_alloc | apply pw_below_drewN | apply below_drew1 | refine below_set ?_ (by first | omega | (simp; omega)))) hb_); clear HB hb_; have HB := n_; clear n_
  go_wp2_with fail
  refine (dmay_calls s _).mono ?_
  rintro e w2 ⟨rfl, hb_⟩
  have YA : Box w2 (w.heap.size) _ _ := Box.below (by repeat (with_reducible first | exact XA.out | exact Box.new | exact Box.new1 | exact Box.new2 | exact Box.new3 | apply Box.alloc | apply Box.drew | apply Box.drewN | apply Box.set)) hb_
  (try clear XA rA kA fA); have XA := Aside0.mk YA; have rA := YA.cell; have fA := YA.frozen; have kA := YA.lt; clear YA
  have YR : Box w2 (w.heap.size + 1) _ _ := Box.below (by repeat (with_reducible first | exact XR.out | exact Box.new | exact Box.new1 | exact Box.new2 | exact Box.new3 | apply Box.alloc | apply Box.drew | apply Box.drewN | apply Box.set)) hb_
  (try clear XR rR kR fR); have XR := Aside0.mk YR; have rR := YR.cell; have fR := YR.frozen; have kR := YR.lt; clear YR
  have n_ := Aside0.mk (below_step (by repeat (first | exact HB.out | apply below_alloc | apply pw_below_drewN | apply below_drew1 | refine below_set ?_ (by first | omega | (simp; omega)))) hb_); clear HB hb_; have HB := n_; clear n_
  go_wp2
  have hne : w.heap.size ≠ w.heap.size + 1 := by omega
  have hw1 : IntKind.i64.wrap (s / c.sl) = s / c.sl := IntWalk.i64_in _ (by omega)
  have hw2 : IntKind.i64.wrap (s % c.sl * c.co) = s % c.sl * c.co := IntWalk.i64_in _ (by omega)
  have hw3 : IntKind.i64.wrap (s % c.sl * c.co + i) = s % c.sl * c.co + i := IntWalk.i64_in _ (by omega)
  have hw4 : IntKind.i64.wrap (s % c.sl) = s % c.sl := IntWalk.i64_in _ (by omega)
  have EK := Aside0.mk ek
  clear ek k8 k9
  go_region
  go_wp2
  generalize hWf : World.setCell _ _ _ = Wf
  have Y : Box Wf (w.heap.size + 1) #[.int .i64 c.va, .int .i64 c.sl, .int .i64 c.co, .int .i64 c.su, .int .i64 c.ti, .int .i64 c.di, .int .i64 c.ra, .int .i64 c.ro, .int .i64 c.ag, .int .u64 c.se, .int .i64 (s / c.sl)] 58 := hWf ▸ Box.epoch XR.out
  have hb : Below w.heap.size w Wf := hWf ▸ below_epoch HB.out (Nat.le_succ _)
  have rY := Y.cell
  clear hWf
  exact bodyPost_ret (v := .tuple #[.agg #[.int .i64 c.va, .int .i64 c.sl, .int .i64 c.co, .int .i64 c.su, .int .i64 c.ti, .int .i64 c.di, .int .i64 c.ra, .int .i64 c.ro, .int .i64 c.ag, .int .u64 c.se, .int .i64 (s / c.sl)], .int .i64 (commF c s i), .bool true]) (by simp [results, Tryd.results27, go_sem, rY, EK.out]) rfl ⟨rfl, below_drew1 hb⟩
theorem all_calls (c : ChainV) (e : Int) (w : World) (hf : fitsC c = true) : Calls Tryd.prog 39 #[.agg #[.int .i64 c.va, .int .i64 c.sl, .int .i64 c.co, .int .i64 c.su, .int .i64 c.ti, .int .i64 c.di, .int .i64 c.ra, .int .i64 c.ro, .int .i64 c.ag, .int .u64 c.se, .int .i64 (e)]] w fun e' w' => e' = .returned (.int .i64 (c.sl * c.co)) ∧ Below w.heap.size w w' := by
  obtain ⟨h1, h2, h3, h4, h5, h6, h7, h8, h9⟩ := (fitsC_iff c).1 hf
  have g := mul_bd (show 0 ≤ c.sl by omega) h2.2 (show 0 ≤ c.co by omega) h3.2
  have HB := Aside0.mk (Below.refl w.heap.size w)
  go_enter Tryd.func39, Tryd.ntmps39
  go_wp2
  go_ret
  exact ⟨rfl, (by repeat (first | exact HB.out | apply below_alloc | apply pw_below_drewN | apply below_drew1 | refine below_set ?_ (by first | omega | (simp; omega))))⟩
theorem all_callsA (c : ChainV) (e A : Int) (w : World) (hf : fitsC c = true) (hA : c.sl * c.co = A) : Calls Tryd.prog 39 #[.agg #[.int .i64 c.va, .int .i64 c.sl, .int .i64 c.co, .int .i64 c.su, .int .i64 c.ti, .int .i64 c.di, .int .i64 c.ra, .int .i64 c.ro, .int .i64 c.ag, .int .u64 c.se, .int .i64 (e)]] w fun e' w' => e' = .returned (.int .i64 A) ∧ Below w.heap.size w w' := hA ▸ all_calls c e w hf
set_option maxHeartbeats 1000000 in
theorem from_calls (c : ChainV) (e k : Int) (w : World) (hf : fitsC c = true) (hk : 0 ≤ k ∧ k ≤ c.sl * c.co) : Calls Tryd.prog 29 #[.agg #[.int .i64 c.va, .int .i64 c.sl, .int .i64 c.co, .int .i64 c.su, .int .i64 c.ti, .int .i64 c.di, .int .i64 c.ra, .int .i64 c.ro, .int .i64 c.ag, .int .u64 c.se, .int .i64 (e)], .int .i64 k] w fun e' w' => e' = .returned (.int .i64 (fromF c.va (c.sl * c.co) k)) ∧ Below w.heap.size w w' := by
  obtain ⟨h1, h2, h3, h4, h5, h6, h7, h8, h9⟩ := (fitsC_iff c).1 hf
  have g := mul_bd (show 0 ≤ c.sl by omega) h2.2 (show 0 ≤ c.co by omega) h3.2
  have g2 := mul_bd (show 0 ≤ c.va by omega) h1.2 hk.1 (show k ≤ 256 by omega)
  have hA : 1 ≤ c.sl * c.co := by
    have := Int.mul_le_mul h2.1 h3.1 (by omega) (show 0 ≤ c.sl by omega)
    omega
  have hq : (c.va * k).tdiv (c.sl * c.co) = fromF c.va (c.sl * c.co) k := Int.tdiv_eq_ediv_of_nonneg g2.1
  have hb := from_bd (show 1 ≤ c.va by omega) hA hk
  have hw : IntKind.i64.wrap (c.va * k) = c.va * k := IntWalk.i64_in _ (by omega)
  have hw2 : IntKind.i64.wrap (fromF c.va (c.sl * c.co) k) = fromF c.va (c.sl * c.co) k := IntWalk.i64_in _ (by omega)
  have hA0 : ¬ c.sl * c.co = 0 := by omega
  have hA1 : c.sl * c.co ≤ 256 := by omega
  have HF := Aside0.mk hf
  generalize hAA : c.sl * c.co = A at *
  have HA := Aside0.mk hAA
  clear g g2 hf hk h1 h2 h3 h4 h5 h6 h7 h8 h9 hAA
  go_enter Tryd.func29, Tryd.ntmps29
  go_wp2
  obtain ⟨W, hW⟩ : ∃ W, w.alloc (.cells #[.int .i64 c.va, .int .i64 c.sl, .int .i64 c.co, .int .i64 c.su, .int .i64 c.ti, .int .i64 c.di, .int .i64 c.ra, .int .i64 c.ro, .int .i64 c.ag, .int .u64 c.se, .int .i64 (e)] 58) = W := ⟨_, rfl⟩
  have bA : Box W w.heap.size #[.int .i64 c.va, .int .i64 c.sl, .int .i64 c.co, .int .i64 c.su, .int .i64 c.ti, .int .i64 c.di, .int .i64 c.ra, .int .i64 c.ro, .int .i64 c.ag, .int .u64 c.se, .int .i64 (e)] 58 := hW ▸ Box.new
  have hbl : Below w.heap.size w W := hW ▸ below_alloc (Below.refl _ _) _
  rw [hW]
  clear hW
  have HB := Aside0.mk hbl
  clear hbl
  have XA := Aside0.mk bA; have rA := bA.cell; have fA := bA.frozen; have kA := bA.lt; clear bA
  go_region_held3 (fun w' => Below W.heap.size W w' ∧ (∀ j, w'.cell? ⟨w.heap.size, j, none⟩ = (#[.int .i64 c.va, .int .i64 c.sl, .int .i64 c.co, .int .i64 c.su, .int .i64 c.ti, .int .i64 c.di, .int .i64 c.ra, .int .i64 c.ro, .int .i64 c.ag, .int .u64 c.se, .int .i64 (e)] : Array Value)[j]?)) (first | exact ⟨below_drew1 (Below.refl _ _), rA⟩ | exact ⟨j0, jA⟩ | exact ⟨below_alloc j0 _, fun j => (cell_alloc_old (Nat.lt_of_lt_of_le kA j0.size)).trans (jA j)⟩ | exact ⟨below_alloc (below_drew1 (Below.refl _ _)) _, fun j => (cell_alloc_old kA).trans (rA j)⟩ | assumption) (first | (go_at_call 39; obtain ⟨g0, gA⟩ := ‹Below W.heap.size W _ ∧ _›; ((with_reducible refine (all_callsA c e A _ HF.out HA.out).mono ?_)); rintro e w4 ⟨rfl, hb_⟩; have j0 := below_step g0 hb_; have jA := fun j => (hb_.cell (p := ⟨w.heap.size, j, none⟩) (Nat.lt_of_lt_of_le kA g0.size)).trans (gA j)))
  go_wp2
  go_ret
  exact ⟨rfl, below_step HB.out j0⟩
theorem Fold2_calls (x y : Int) (b : Nat) (T : TypeId) (w : World) (hb : Box w b #[.int .u64 x, .int .u64 y] T) (hx : 0 ≤ x) (hy : 0 ≤ y) (hG : DutyLaid w) :
    Calls Tryd.prog 25 #[.slice (some ⟨b, 0, none⟩) 2 2] w fun e w' => e = .returned (.int .u64 (foldF [x, y])) ∧ Below w.heap.size w w' :=
  Fold_calls _ 2 2 [x, y] w (C_box .u64 w b T [x, y] (by simp) hb) (by simp; exact ⟨hx, hy⟩) hG.ch
theorem Fold1_calls (x : Int) (b : Nat) (T : TypeId) (w : World) (hb : Box w b #[.int .u64 x] T) (hx : 0 ≤ x) (hG : DutyLaid w) :
    Calls Tryd.prog 25 #[.slice (some ⟨b, 0, none⟩) 1 1] w fun e w' => e = .returned (.int .u64 (foldF [x])) ∧ Below w.heap.size w w' :=
  Fold_calls _ 1 1 [x] w (C_box .u64 w b T [x] (by simp) hb) (by simp; exact hx) hG.ch
theorem seed_calls (c : ChainV) (e : Int) (w : World) (hse : 0 ≤ c.se) (he : 0 ≤ e ∧ e ≤ 1099511627776) (hG : DutyLaid w) : Calls Tryd.prog 28 #[.agg #[.int .i64 c.va, .int .i64 c.sl, .int .i64 c.co, .int .i64 c.su, .int .i64 c.ti, .int .i64 c.di, .int .i64 c.ra, .int .i64 c.ro, .int .i64 c.ag, .int .u64 c.se, .int .i64 (e)]] w fun e' w' => e' = .returned (.int .u64 (foldF [c.se, e])) ∧ Below w.heap.size w w' := by
  have HB := Aside0.mk (Below.refl w.heap.size w)
  have HG := Aside0.mk hG
  clear hG
  have hw : IntKind.u64.wrap e = e := by rw [IntKind.wrap_u64]; omega
  go_enter Tryd.func28, Tryd.ntmps28
  go_wp2_with fail
  refine (Fold2_calls c.se e _ 22 _ ?hb hse he.1 ?hG).mono ?_
  case hG => exact HG.out.below (by repeat (first | exact HB.out | apply below_alloc | apply pw_below_drewN | apply below_drew1 | refine below_set ?_ (by first | omega | (simp; omega))))
  case hb => exact Box.new1
  rintro e w1 ⟨rfl, hb_⟩
  have n_ := Aside0.mk (below_step (by repeat (first | exact HB.out | apply below_alloc | apply pw_below_drewN | apply below_drew1 | refine below_set ?_ (by first | omega | (simp; omega)))) hb_); clear HB hb_; have HB := n_; clear n_
  go_wp2
  go_ret
  exact ⟨rfl, HB.out⟩
end Go.Proofs.YtdepmbnoecpccaaDoor
