
/- How marks stand to each other, in the program (chapter 13): first, order. -/
import Derived.Shelf.Abstract
import Derived.Test.YtppcojfgpjnagaaSeenPure
set_option linter.unusedVariables false
set_option linter.unusedSimpArgs false
namespace Go.Proofs.Ytppcojfgpjnagaa
open Go.RowKit Go.Proofs.YtppcojfgpjnagaaW.PrintWords Go.Proofs.YtppcojfgpjnagaaW.PrintLast Go.Proofs.YtppcojfgpjnagaaW.PrintMore

open Go.Proofs.Ytppcojfgpjnagaa.PQ

def mkc (a : Mk) : Array Value := #[.int .i64 a.f0, .int .i64 a.f1, .int .i64 a.f2]
def cmpI (x y : Int) : Int := if x < y then -1 else if y < x then 1 else 0
/-- How two marks stand to each other. -/
def cmpM (a b : Mk) : Int := if cmpI a.f0 b.f0 ≠ 0 then cmpI a.f0 b.f0 else if cmpI a.f1 b.f1 ≠ 0 then cmpI a.f1 b.f1 else cmpI a.f2 b.f2
theorem cmpI_cases (x y : Int) : (x < y ∧ cmpI x y = -1) ∨ (x = y ∧ cmpI x y = 0) ∨ (y < x ∧ cmpI x y = 1) := by
  unfold cmpI
  (repeat' split) <;> omega
theorem cmpM_cases (a b : Mk) : (ltM a b = true ∧ cmpM a b = -1) ∨ (a = b ∧ cmpM a b = 0) ∨ (ltM b a = true ∧ cmpM a b = 1) := by
  unfold cmpM
  rw [ltM_iff, ltM_iff]
  rcases cmpI_cases a.f0 b.f0 with ⟨h0, e0⟩ | ⟨h0, e0⟩ | ⟨h0, e0⟩
  · rw [e0]; simp; omega
  · rw [e0]
    rcases cmpI_cases a.f1 b.f1 with ⟨h1, e1⟩ | ⟨h1, e1⟩ | ⟨h1, e1⟩
    · rw [e1]; simp; omega
    · rw [e1]
      rcases cmpI_cases a.f2 b.f2 with ⟨h2, e2⟩ | ⟨h2, e2⟩ | ⟨h2, e2⟩
      · rw [e2]; simp; omega
      · rw [e2]
        exact Or.inr (Or.inl ⟨mk_ext h0 h1 h2, by simp⟩)
      · rw [e2]; simp; omega
    · rw [e1]; simp; omega
  · rw [e0]; simp; omega
theorem epoch_calls (x y z : Int) (w : World) : Calls Try.prog 32 #[.agg #[.int .i64 x, .int .i64 y, .int .i64 z]] w fun e w' => e = .returned (.int .i64 x) ∧ Below w.heap.size w w' := by
  have HB := Aside0.mk (Below.refl w.heap.size w)
  go_enter Try.func32, Try.ntmps32
  go_wp2
  go_ret
  exact ⟨rfl, (by repeat (first | exact HB.out | apply below_alloc | apply pw_below_drewN | apply below_drew1 | refine below_set ?_ (by first | omega | (simp; omega))))⟩
theorem kind_calls (x y z : Int) (w : World) : Calls Try.prog 33 #[.agg #[.int .i64 x, .int .i64 y, .int .i64 z]] w fun e w' => e = .returned (.int .i64 y) ∧ Below w.heap.size w w' := by
  have HB := Aside0.mk (Below.refl w.heap.size w)
  go_enter Try.func33, Try.ntmps33
  go_wp2
  go_ret
  exact ⟨rfl, (by repeat (first | exact HB.out | apply below_alloc | apply pw_below_drewN | apply below_drew1 | refine below_set ?_ (by first | omega | (simp; omega))))⟩
theorem who_calls (x y z : Int) (w : World) : Calls Try.prog 34 #[.agg #[.int .i64 x, .int .i64 y, .int .i64 z]] w fun e w' => e = .returned (.int .i64 z) ∧ Below w.heap.size w w' := by
  have HB := Aside0.mk (Below.refl w.heap.size w)
  go_enter Try.func34, Try.ntmps34
  go_wp2
  go_ret
  exact ⟨rfl, (by repeat (first | exact HB.out | apply below_alloc | apply pw_below_drewN | apply below_drew1 | refine below_set ?_ (by first | omega | (simp; omega))))⟩
def byM : Array Value := #[.func (.func 32) #[] #[], .func (.func 33) #[] #[], .func (.func 34) #[] #[]]
/-- The numbers so far are the same. -/
def sameTo (a b : Mk) (j : Nat) : Prop := (0 < j → a.f0 = b.f0) ∧ (1 < j → a.f1 = b.f1) ∧ (2 < j → a.f2 = b.f2)
set_option maxRecDepth 100000 in
set_option maxHeartbeats 4000000 in
theorem first_calls (a b : Mk) (B : Nat) (T : TypeId) (w : World) (hB : Box w B byM T) : Calls Try.prog 31 #[.agg #[.int .i64 a.f0, .int .i64 a.f1, .int .i64 a.f2], .agg #[.int .i64 b.f0, .int .i64 b.f1, .int .i64 b.f2], .slice (some ⟨B, 0, none⟩) 3 3] w fun e w' => e = .returned (.int .i64 (cmpM a b)) ∧ Below w.heap.size w w' := by
  obtain ⟨r, hr⟩ : ∃ r, cmpM a b = r := ⟨_, rfl⟩
  have HR := Aside0.mk hr
  rw [hr]
  clear hr
  have XB := Aside0.mk hB
  have hBl := hB.lt
  clear hB
  have HB := Aside0.mk (Below.refl w.heap.size w)
  go_enter Try.func31, Try.ntmps31
  go_upto_region 2 with (fail)
  generalize hW : (World.alloc _ _).alloc _ = W
  have bA : Box W w.heap.size #[.int .i64 a.f0, .int .i64 a.f1, .int .i64 a.f2] 62 := by
    rw [← hW]
    exact Box.alloc Box.new
  have bC : Box W (w.heap.size + 1) #[.int .i64 b.f0, .int .i64 b.f1, .int .i64 b.f2] 62 := by
    rw [← hW]
    exact Box.new1
  have bD : Box W B byM T := by
    rw [← hW]
    exact (XB.out.alloc).alloc
  have HW := Aside0.mk (show Below w.heap.size w W by rw [← hW]; exact below_alloc (below_alloc HB.out _) _)
  clear hW HB XB
  have XA := Aside0.mk bA
  have XC := Aside0.mk bC
  have XD := Aside0.mk bD
  clear bA bC bD
  go_loopw [13] (fun iv wx => ∃ j : Nat, j ≤ 3 ∧ iv = .int .i64 j ∧ sameTo a b j ∧ Below W.heap.size W wx) (fun iv _ => 3 - (intOf iv).toNat)
  case atStart => exact ⟨0, by omega, rfl, ⟨fun h => by omega, fun h => by omega, fun h => by omega⟩, Below.refl _ _⟩
  case round =>
    obtain ⟨j, hj, rfl, hs, hbx⟩ := hrel
    rename World => wo
    have HBX := Aside0.mk hbx
    have HS := Aside0.mk hs
    clear hs hbx
    by_cases hlt : j < 3
    · obtain ⟨F, x, y, hF, h1, h2, eg, hq⟩ : ∃ (F : Nat) (x y : Int), byM[j]? = some (.func (.func F) #[] #[]) ∧ (∀ w, Calls Try.prog F #[.agg #[.int .i64 a.f0, .int .i64 a.f1, .int .i64 a.f2]] w fun e w' => e = .returned (.int .i64 x) ∧ Below w.heap.size w w') ∧
          (∀ w, Calls Try.prog F #[.agg #[.int .i64 b.f0, .int .i64 b.f1, .int .i64 b.f2]] w fun e w' => e = .returned (.int .i64 y) ∧ Below w.heap.size w w') ∧ (∀ args w, (callFunc F args).run Try.prog w = .ok (.enter F args) w) ∧
          ((x < y → r = -1) ∧ (y < x → r = 1) ∧ (x = y → sameTo a b (j + 1))) := by
        have hs := HS.out
        have hr := HR.out
        have hc := cmpM_cases a b
        rw [ltM_iff, ltM_iff] at hc
        have hv : j = 0 ∨ j = 1 ∨ j = 2 := by omega
        unfold sameTo at hs
        rcases hv with rfl | rfl | rfl
        · refine ⟨_, a.f0, b.f0, rfl, fun w => epoch_calls _ _ _ w, fun w => epoch_calls _ _ _ w, fun _ _ => by kernel_rfl, ?_, ?_, ?_⟩
          · intro h; rcases hc with ⟨h3, h4⟩ | ⟨h3, h4⟩ | ⟨h3, h4⟩
            · omega
            · subst h3; omega
            · omega
          · intro h; rcases hc with ⟨h3, h4⟩ | ⟨h3, h4⟩ | ⟨h3, h4⟩
            · omega
            · subst h3; omega
            · omega
          · intro h; exact ⟨fun _ => h, fun h => by omega, fun h => by omega⟩
        · have e0 := hs.1 (by omega)
          refine ⟨_, a.f1, b.f1, rfl, fun w => kind_calls _ _ _ w, fun w => kind_calls _ _ _ w, fun _ _ => by kernel_rfl, ?_, ?_, ?_⟩
          · intro h; rcases hc with ⟨h3, h4⟩ | ⟨h3, h4⟩ | ⟨h3, h4⟩
            · omega
            · subst h3; omega
            · omega
          · intro h; rcases hc with ⟨h3, h4⟩ | ⟨h3, h4⟩ | ⟨h3, h4⟩
            · omega
            · subst h3; omega
            · omega
          · intro h; exact ⟨fun _ => e0, fun _ => h, fun h => by omega⟩
        · have e0 := hs.1 (by omega)
          have e1 := hs.2.1 (by omega)
          refine ⟨_, a.f2, b.f2, rfl, fun w => who_calls _ _ _ w, fun w => who_calls _ _ _ w, fun _ _ => by kernel_rfl, ?_, ?_, ?_⟩
          · intro h; rcases hc with ⟨h3, h4⟩ | ⟨h3, h4⟩ | ⟨h3, h4⟩
            · omega
            · subst h3; omega
            · omega
          · intro h; rcases hc with ⟨h3, h4⟩ | ⟨h3, h4⟩ | ⟨h3, h4⟩
            · omega
            · subst h3; omega
            · omega
          · intro h; exact ⟨fun _ => e0, fun _ => e1, fun _ => h⟩
      have hcell := ((Box.below XD.out HBX.out).cell j).trans hF
      have rA := (Box.below XA.out HBX.out).cell
      have rC := (Box.below XC.out HBX.out).cell
      have kA := (Box.below XA.out HBX.out).lt
      have kC := (Box.below XC.out HBX.out).lt
      clear hF
      have H1 := Aside0.mk h1
      have H2 := Aside0.mk h2
      have HQ := Aside0.mk hq
      clear h1 h2 hq
      go_upto_region 4 with (fail)
      clear hcell
      go_region_held3 (fun w' => Below wo.heap.size wo w' ∧ (∀ j, w'.cell? ⟨w.heap.size, j, none⟩ = (#[.int .i64 a.f0, .int .i64 a.f1, .int .i64 a.f2] : Array Value)[j]?) ∧ (∀ j, w'.cell? ⟨w.heap.size + 1, j, none⟩ = (#[.int .i64 b.f0, .int .i64 b.f1, .int .i64 b.f2] : Array Value)[j]?)) (first | exact ⟨below_drew1 (Below.refl _ _), rA, rC⟩ | exact ⟨j0, jA, jC⟩ | exact ⟨below_alloc j0 _, fun j => (cell_alloc_old (Nat.lt_of_lt_of_le kA j0.size)).trans (jA j), fun j => (cell_alloc_old (Nat.lt_of_lt_of_le kC j0.size)).trans (jC j)⟩ | exact ⟨below_alloc (below_drew1 (Below.refl _ _)) _, fun j => (cell_alloc_old kA).trans (rA j), fun j => (cell_alloc_old kC).trans (rC j)⟩ | assumption) (first | (go_at_fn F; obtain ⟨g0, gA, gC⟩ := ‹Below wo.heap.size wo _ ∧ _›; ((with_reducible refine (H1.out _).mono ?_)); rintro e w5 ⟨rfl, hb_⟩; have j0 := below_step g0 hb_; have jA := fun j => (hb_.cell (p := ⟨w.heap.size, j, none⟩) (Nat.lt_of_lt_of_le kA g0.size)).trans (gA j); have jC := fun j => (hb_.cell (p := ⟨w.heap.size + 1, j, none⟩) (Nat.lt_of_lt_of_le kC g0.size)).trans (gC j)) | (go_at_fn F; obtain ⟨g0, gA, gC⟩ := ‹Below wo.heap.size wo _ ∧ _›; ((with_reducible refine (H2.out _).mono ?_)); rintro e w6 ⟨rfl, hb_⟩; have j0 := below_step g0 hb_; have jA := fun j => (hb_.cell (p := ⟨w.heap.size, j, none⟩) (Nat.lt_of_lt_of_le kA g0.size)).trans (gA j); have jC := fun j => (hb_.cell (p := ⟨w.heap.size + 1, j, none⟩) (Nat.lt_of_lt_of_le kC g0.size)).trans (gC j)))
      have HZ := Aside0.mk (below_step HBX.out j0)
      clear rA rC kA kC
      rcases Int.lt_trichotomy x y with hxy | hxy | hxy
      · have hr := (HQ.out.1 hxy).symm
        go_wp2
        go_ret
        exact ⟨ret_int hr, below_step HW.out HZ.out⟩
      · have hs := HQ.out.2.2 hxy
        have HS2 := Aside0.mk hs
        subst hxy
        clear hs
        go_wp2
        go_roundw
        case rel => exact ⟨j + 1, by omega, by go_num, HS2.out, HZ.out⟩
        case measure => simp [intOf]; omega
      · have hr := (HQ.out.2.1 hxy).symm
        go_wp2
        go_ret
        exact ⟨ret_int hr, below_step HW.out HZ.out⟩
    · obtain rfl : j = 3 := by omega
      have hr : 0 = r := by
        have hs := HS.out
        unfold sameTo at hs
        have e := mk_ext (hs.1 (by omega)) (hs.2.1 (by omega)) (hs.2.2 (by omega))
        rw [← HR.out, e]
        rcases cmpM_cases b b with ⟨h3, _⟩ | ⟨_, h4⟩ | ⟨h3, _⟩
        · rw [ltM_irr] at h3; cases h3
        · exact h4.symm
        · rw [ltM_irr] at h3; cases h3
      clear hlt hj
      go_wp2
      go_ret
      exact ⟨ret_int hr, below_step HW.out HBX.out⟩
set_option maxRecDepth 100000 in
set_option maxHeartbeats 2000000 in
theorem order_calls (a b : Mk) (w : World) : Calls Try.prog 26 #[.agg #[.int .i64 a.f0, .int .i64 a.f1, .int .i64 a.f2], .agg #[.int .i64 b.f0, .int .i64 b.f1, .int .i64 b.f2]] w fun e w' => e = .returned (.int .i64 (cmpM a b)) ∧ Below w.heap.size w w' := by
  have HB := Aside0.mk (Below.refl w.heap.size w)
  have heq := eqA25
  have e3 := eq3 a b
  by_cases hab : a = b
  · have hc : cmpM a b = 0 := by
      subst hab
      rcases cmpM_cases a a with ⟨h3, _⟩ | ⟨_, h4⟩ | ⟨h3, _⟩
      · rw [ltM_irr] at h3; cases h3
      · exact h4
      · rw [ltM_irr] at h3; cases h3
    rw [hc]
    rw [decide_eq_true hab] at e3
    clear hab hc
    go_enter Try.func26, Try.ntmps26
    go_wp2
    go_ret
    exact ⟨rfl, (by repeat (first | exact HB.out | apply below_alloc | apply pw_below_drewN | apply below_drew1 | refine below_set ?_ (by first | omega | (simp; omega))))⟩
  · rw [decide_eq_false hab] at e3
    clear hab
    go_enter Try.func26, Try.ntmps26
    go_wp2_with fail
    refine (first_calls a b (w.heap.size + 1 + 1) _ _ Box.new2).mono ?_
    rintro e w1 ⟨rfl, hb_⟩
    have n_ := Aside0.mk (below_step (by repeat (first | exact HB.out | apply below_alloc | apply pw_below_drewN | apply below_drew1 | refine below_set ?_ (by first | omega | (simp; omega)))) hb_); clear HB hb_; have HB := n_; clear n_
    go_wp2
    go_ret
    exact ⟨rfl, HB.out⟩
end Go.Proofs.Ytppcojfgpjnagaa
