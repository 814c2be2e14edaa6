
/- What duty's functions (chapter 10) compute. -/
import Derived.StillTailTactics
import Derived.Deep.RegionHeld3
import Derived.Test.YtejfjbfkbdcmnaaDoorClockWalk
set_option linter.unusedVariables false
set_option linter.unusedSimpArgs false
namespace Go.Proofs.YtejfjbfkbdcmnaaDoor
open Go.RowKit Go.Proofs.YtejfjbfkbdcmnaaDoorW.PrintWords Go.Proofs.YtejfjbfkbdcmnaaDoorW.PrintLast Go.Proofs.YtejfjbfkbdcmnaaDoorW.PrintMore

/-- Many stores, one behind the other. -/
def setFrom : World → Nat → Nat → List Value → World
  | w, _, _, [] => w
  | w, b, k, y :: ys => setFrom (w.setCell ⟨b, k, none⟩ y) b (k + 1) ys
theorem Box.setFrom {b : Nat} {T : TypeId} : ∀ (ys : List Value) (k : Nat) (w : World) (pre post : List Value), pre.length = k → post.length = ys.length → Box w b (pre ++ post).toArray T → Box (setFrom w b k ys) b (pre ++ ys).toArray T
  | [], k, w, pre, post, _, hp, h => by
    obtain rfl : post = [] := List.length_eq_zero_iff.1 hp
    exact h
  | y :: ys, k, w, pre, [], _, hp, h => by cases hp
  | y :: ys, k, w, pre, p :: post, hk, hp, h => by
    have h1 := Box.set (j := k) (v := y) h
    have e : ((pre ++ p :: post).toArray).setIfInBounds k y = ((pre ++ [y]) ++ post).toArray := by
      subst hk
      simp
    rw [e] at h1
    have := Box.setFrom ys (k + 1) (w.setCell ⟨b, k, none⟩ y) (pre ++ [y]) post (by simp [hk]) (by simpa using hp) h1
    rw [List.append_assoc] at this
    exact this
theorem below_setFrom {w : World} {b : Nat} (hb : w.heap.size ≤ b) : ∀ (ys : List Value) (k : Nat) (v : World), Below w.heap.size w v → Below w.heap.size w (setFrom v b k ys)
  | [], _, _, h => h
  | _ :: ys, k, _, h => below_setFrom hb ys (k + 1) _ (below_set h hb)
theorem cell_setFrom {a : Addr} {b : Nat} (h : a.block ≠ b) : ∀ (ys : List Value) (k : Nat) (v : World), (setFrom v b k ys).cell? a = v.cell? a
  | [], _, _ => rfl
  | _ :: ys, k, _ => (cell_setFrom h ys (k + 1) _).trans (cell_set_far h)
theorem Box.epoch {w : World} {b : Nat} {x0 x1 x2 x3 x4 x5 x6 x7 x8 x9 x10 y0 y1 y2 y3 y4 y5 y6 y7 y8 y9 y10 : Value} {T : TypeId} (h : Box w b #[x0, x1, x2, x3, x4, x5, x6, x7, x8, x9, x10] T) : Box (((((((((((w.setCell ⟨b, 0, none⟩ y0).setCell ⟨b, 1, none⟩ y1).setCell ⟨b, 2, none⟩ y2).setCell ⟨b, 3, none⟩ y3).setCell ⟨b, 4, none⟩ y4).setCell ⟨b, 5, none⟩ y5).setCell ⟨b, 6, none⟩ y6).setCell ⟨b, 7, none⟩ y7).setCell ⟨b, 8, none⟩ y8).setCell ⟨b, 9, none⟩ y9).setCell ⟨b, 10, none⟩ y10) b #[y0, y1, y2, y3, y4, y5, y6, y7, y8, y9, y10] T :=
  Box.setFrom [y0, y1, y2, y3, y4, y5, y6, y7, y8, y9, y10] 0 w [] [x0, x1, x2, x3, x4, x5, x6, x7, x8, x9, x10] rfl rfl h
theorem below_epoch {w v : World} {b : Nat} {y0 y1 y2 y3 y4 y5 y6 y7 y8 y9 y10 : Value} (h : Below w.heap.size w v) (hb : w.heap.size ≤ b) : Below w.heap.size w (((((((((((v.setCell ⟨b, 0, none⟩ y0).setCell ⟨b, 1, none⟩ y1).setCell ⟨b, 2, none⟩ y2).setCell ⟨b, 3, none⟩ y3).setCell ⟨b, 4, none⟩ y4).setCell ⟨b, 5, none⟩ y5).setCell ⟨b, 6, none⟩ y6).setCell ⟨b, 7, none⟩ y7).setCell ⟨b, 8, none⟩ y8).setCell ⟨b, 9, none⟩ y9).setCell ⟨b, 10, none⟩ y10) :=
  below_setFrom hb [y0, y1, y2, y3, y4, y5, y6, y7, y8, y9, y10] 0 v h
theorem cell_epoch {W : World} {a : Addr} {b : Nat} {y0 y1 y2 y3 y4 y5 y6 y7 y8 y9 y10 : Value} (h : a.block ≠ b) : (((((((((((W.setCell ⟨b, 0, none⟩ y0).setCell ⟨b, 1, none⟩ y1).setCell ⟨b, 2, none⟩ y2).setCell ⟨b, 3, none⟩ y3).setCell ⟨b, 4, none⟩ y4).setCell ⟨b, 5, none⟩ y5).setCell ⟨b, 6, none⟩ y6).setCell ⟨b, 7, none⟩ y7).setCell ⟨b, 8, none⟩ y8).setCell ⟨b, 9, none⟩ y9).setCell ⟨b, 10, none⟩ y10).cell? a = W.cell? a :=
  cell_setFrom h [y0, y1, y2, y3, y4, y5, y6, y7, y8, y9, y10] 0 W
/-- Both tables lie there. -/
structure DutyLaid (w : World) : Prop where
  ch : ChurnLaid w
  bo : BoundsLaid w
theorem DutyLaid.below {w w' : World} (h : DutyLaid w) (hb : Below w.heap.size w w') : DutyLaid w' := ⟨h.ch.below hb, h.bo.below hb⟩
theorem Fits_d (c : ChainV) (w : World) (hG : DutyLaid w) : Calls Tryd.prog 40 #[.agg #[.int .i64 c.va, .int .i64 c.sl, .int .i64 c.co, .int .i64 c.su, .int .i64 c.ti, .int .i64 c.di, .int .i64 c.ra, .int .i64 c.ro, .int .i64 c.ag, .int .u64 c.se]] w fun e w' => e = .returned (.bool (fitsC c)) ∧ Below w.heap.size w w' := clockFits_calls c w hG.bo

theorem mul_bd {a b A B : Int} (h0 : 0 ≤ a) (h1 : a ≤ A) (h2 : 0 ≤ b) (h3 : b ≤ B) : 0 ≤ a * b ∧ a * b ≤ A * B :=
  ⟨Int.mul_nonneg h0 h2, Int.mul_le_mul h1 h3 h2 (by omega)⟩
def maySlot (c : ChainV) (s i : Int) : Bool := fitsC c && (win s 0 1099511627776 && decide (0 ≤ i ∧ i < c.co))
theorem maySlot_iff (c : ChainV) (s i : Int) : maySlot c s i = true ↔ fitsC c = true ∧ (0 ≤ s ∧ s ≤ 1099511627776) ∧ (0 ≤ i ∧ i < c.co) := by
  unfold maySlot
  simp only [Bool.and_eq_true, win_iff, decide_eq_true_eq]
def commF (c : ChainV) (s i : Int) : Int := s % c.sl * c.co + i
theorem commF_bd (c : ChainV) (s i : Int) (h : maySlot c s i = true) : 0 ≤ s / c.sl ∧ s / c.sl ≤ 1099511627776 ∧ 0 ≤ s % c.sl ∧ s % c.sl < c.sl ∧ 0 ≤ s % c.sl * c.co ∧ s % c.sl * c.co + c.co ≤ c.sl * c.co ∧ c.sl * c.co ≤ 256 ∧ 0 ≤ commF c s i ∧ commF c s i < c.sl * c.co := by
  obtain ⟨hf, hs, hi⟩ := (maySlot_iff c s i).1 h
  obtain ⟨h1, h2, h3, h4, h5, h6, h7, h8, h9⟩ := (fitsC_iff c).1 hf
  have a := Int.ediv_nonneg hs.1 (show (0 : Int) ≤ c.sl by omega)
  have b := Int.ediv_le_self c.sl hs.1
  have d := Int.emod_nonneg s (show c.sl ≠ 0 by omega)
  have e := Int.emod_lt_of_pos s (show 0 < c.sl by omega)
  have f := mul_bd d (show s % c.sl ≤ c.sl - 1 by omega) (show 0 ≤ c.co by omega) (Int.le_refl c.co)
  have g := mul_bd (show 0 ≤ c.sl by omega) h2.2 (show 0 ≤ c.co by omega) h3.2
  rw [Int.sub_mul, Int.one_mul] at f
  unfold commF
  omega

theorem Fold2_calls (x y : Int) (b : Nat) (T : TypeId) (w : World) (hb : Box w b #[.int .u64 x, .int .u64 y] T) (hx : 0 ≤ x) (hy : 0 ≤ y) (hG : DutyLaid w) :
    Calls Tryd.prog 42 #[.slice (some ⟨b, 0, none⟩) 2 2] w fun e w' => e = .returned (.int .u64 (foldF [x, y])) ∧ Below w.heap.size w w' :=
  Fold_calls _ 2 2 [x, y] w (C_box .u64 w b T [x, y] (by simp) hb) (by simp; exact ⟨hx, hy⟩) hG.ch
theorem Fold1_calls (x : Int) (b : Nat) (T : TypeId) (w : World) (hb : Box w b #[.int .u64 x] T) (hx : 0 ≤ x) (hG : DutyLaid w) :
    Calls Tryd.prog 42 #[.slice (some ⟨b, 0, none⟩) 1 1] w fun e w' => e = .returned (.int .u64 (foldF [x])) ∧ Below w.heap.size w w' :=
  Fold_calls _ 1 1 [x] w (C_box .u64 w b T [x] (by simp) hb) (by simp; exact hx) hG.ch
end Go.Proofs.YtejfjbfkbdcmnaaDoor
