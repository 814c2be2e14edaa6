
/- The statements' own first calls of chapter 9 answer true; raw numbers. -/
import Derived.Test.YtkpbcmlbdggoaaaDoorShufRef
import Derived.Test.YtkpbcmlbdggoaaaDoorShufBy2
set_option linter.unusedVariables false
set_option linter.unusedSimpArgs false
namespace Go.Proofs.YtkpbcmlbdggoaaaDoor
open Go.RowKit Go.Proofs.YtkpbcmlbdggoaaaDoorW.PrintWords Go.Proofs.YtkpbcmlbdggoaaaDoorW.PrintLast Go.Proofs.YtkpbcmlbdggoaaaDoorW.PrintMore

def pickF (c n : Int) : Int := (if c < 0 then -(c + 1) else c) % n
def i64ok (c : Int) : Prop := -9223372036854775808 ≤ c ∧ c ≤ 9223372036854775807
theorem pickF_bd (c n : Int) (h : 1 ≤ n) : 0 ≤ pickF c n ∧ pickF c n < n :=
  ⟨Int.emod_nonneg _ (by omega), Int.emod_lt_of_pos _ (by omega)⟩
set_option maxHeartbeats 400000 in
theorem pick_calls (c n : Int) (w : World) (hc0 : -9223372036854775808 ≤ c) (hc1 : c ≤ 9223372036854775807) (hn : 1 ≤ n) (hn1 : n ≤ 9223372036854775807) :
    Calls Tryd.prog 9 #[.int .i64 c, .int .i64 n] w fun e w' => e = .returned (.int .i64 (pickF c n)) ∧ w = w' := by
  unfold pickF
  have hb : -9223372036854775808 ≤ (if c < 0 then -(c + 1) else c) % n ∧ (if c < 0 then -(c + 1) else c) % n ≤ 9223372036854775807 := by
    have := pickF_bd c n hn
    unfold pickF at this
    omega
  by_cases h : c < 0
  · rw [if_pos h] at hb ⊢
    go_enter Tryd.func9, Tryd.ntmps9
    go_wp2
    go_ret
    exact ⟨by first | rfl | exact ret_int (by rw [← Int.neg_tmod, Int.tmod_eq_emod_of_nonneg (by omega)]), rfl⟩
  · rw [if_neg h] at hb ⊢
    go_enter Tryd.func9, Tryd.ntmps9
    go_wp2
    go_ret
    exact ⟨by first | rfl | exact ret_int (by rw [Int.tmod_eq_emod_of_nonneg (by omega)]), rfl⟩

theorem place_zero (n seed : Int) (i : Int) : placeF n seed 0 i = i := by unfold placeF; rw [show upF 0 = [] from rfl, run_nil]
theorem back_zero (n seed : Int) (i : Int) : backF9 n seed 0 i = i := by unfold backF9; rw [show downF 0 = [] from rfl, run_nil]
theorem aw1 (w : World) (hG : ChurnLaid w) : Calls Tryd.prog 12 #[.int .i64 1, .int .i64 90, .int .u64 7, .int .i64 0] w fun e w' => e = .returned (.tuple #[.int .i64 0, .int .i64 0]) ∧ Below w.heap.size w w' := by
  have h := Place_yes 1 7 0 90 w (by decide) (by decide) hG
  have e : placeF 1 7 90 0 = 0 := by have := place_bd 1 7 90 0 (by decide); omega
  rw [e] at h
  exact h
theorem aw2 (w : World) (hG : ChurnLaid w) : Calls Tryd.prog 12 #[.int .i64 9, .int .i64 0, .int .u64 7, .int .i64 5] w fun e w' => e = .returned (.tuple #[.int .i64 5, .int .i64 0]) ∧ Below w.heap.size w w' := by
  have h := Place_yes 9 7 5 0 w (by decide) (by decide) hG
  rw [place_zero] at h
  exact h
theorem aw3 (w : World) (hG : ChurnLaid w) : Calls Tryd.prog 16 #[.int .i64 3, .int .i64 0, .int .u64 1] w fun e w' => ∃ (g cap : Nat), e = .returned (.tuple #[.slice (some ⟨g, 0, none⟩) 3 cap, .int .i64 0]) ∧ (Kd.int .i64).C w' (some ⟨g, 0, none⟩) 3 [0, 1, 2] ∧ Below w.heap.size w w' := by
  have h := All_yes 3 1 0 w (by decide) (by decide) (by decide) hG
  have e : allF 3 1 0 = [0, 1, 2] := by
    unfold allF
    simp only [place_zero]
    rfl
  rw [e] at h
  refine h.mono fun e w' hh => ?_
  obtain ⟨g, cap, he, hR, hb⟩ := hh
  obtain ⟨A, c, hv, _, hC⟩ := Kd.R_reads hR
  injection hv with h1 h2 h3
  subst h1
  exact ⟨g, cap, he, hC, hb⟩
theorem aw4 (w : World) : Calls Tryd.prog 10 #[.int .i64 3, .int .u64 1, .int .i64 90, .int .i64 0] w fun e w' => e = .returned (.tuple #[.int .i64 0, .int .i64 1]) ∧ Below w.heap.size w w' :=
  Round_no 3 1 90 0 w (by decide)
theorem aw5 (w : World) : Calls Tryd.prog 14 #[.int .i64 0, .int .i64 1, .int .u64 1, .int .i64 0] w fun e w' => e = .returned (.tuple #[.int .i64 0, .int .i64 1]) ∧ Below w.heap.size w w' :=
  Back_no 0 1 1 0 w (by decide)
theorem aw6 (w : World) (hG : ChurnLaid w) : Calls Tryd.prog 14 #[.int .i64 9, .int .i64 0, .int .u64 7, .int .i64 5] w fun e w' => e = .returned (.tuple #[.int .i64 5, .int .i64 0]) ∧ Below w.heap.size w w' := by
  have h := Back_yes 9 7 5 0 w (by decide) (by decide) hG
  rw [back_zero] at h
  exact h
theorem aw7 (g cap b : Nat) (T : TypeId) (w : World) (h : (Kd.int .i64).C w (some ⟨g, 0, none⟩) 3 [0, 1, 2]) (hb : Box w b #[.int .i64 0, .int .i64 1, .int .i64 2] T) : Calls Tryd.prog 18 #[.slice (some ⟨g, 0, none⟩) 3 cap, .slice (some ⟨b, 0, none⟩) 3 3] w fun e w' => e = .returned (.bool true) ∧ Below w.heap.size w w' :=
  Ints_calls _ _ 3 3 cap 3 [0, 1, 2] [0, 1, 2] w h (C_box .i64 w b T [0, 1, 2] (by simp) hb)

set_option maxHeartbeats 2000000 in
theorem awake_calls (w : World) (hG : ChurnLaid w) : Calls Tryd.prog 8 #[] w fun e w' => e = .returned (.bool true) ∧ Below w.heap.size w w' := by
  have HB := Aside0.mk (Below.refl w.heap.size w)
  have HG := Aside0.mk hG
  clear hG
  go_enter Tryd.func8, Tryd.ntmps8
  go_wp2_with fail
  refine (aw1 _ ?hG).mono ?_
  case hG => exact HG.out.below (by repeat (first | exact HB.out | apply below_alloc | apply pw_below_drewN | apply below_drew1 | refine below_set ?_ (by first | omega | (simp; omega))))
  rintro e w1 ⟨rfl, hb_⟩
  have n_ := Aside0.mk (below_step (by repeat (first | exact HB.out | apply below_alloc | apply pw_below_drewN | apply below_drew1 | refine below_set ?_ (by first | omega | (simp; omega)))) hb_); clear HB hb_; have HB := n_; clear n_
  go_wp2_with fail
  refine (aw2 _ ?hG).mono ?_
  case hG => exact HG.out.below (by repeat (first | exact HB.out | apply below_alloc | apply pw_below_drewN | apply below_drew1 | refine below_set ?_ (by first | omega | (simp; omega))))
  rintro e w2 ⟨rfl, hb_⟩
  have n_ := Aside0.mk (below_step (by repeat (first | exact HB.out | apply below_alloc | apply pw_below_drewN | apply below_drew1 | refine below_set ?_ (by first | omega | (simp; omega)))) hb_); clear HB hb_; have HB := n_; clear n_
  go_wp2_with fail
  refine (aw3 _ ?hG).mono ?_
  case hG => exact HG.out.below (by repeat (first | exact HB.out | apply below_alloc | apply pw_below_drewN | apply below_drew1 | refine below_set ?_ (by first | omega | (simp; omega))))
  rintro e w3 ⟨g, cap, rfl, hC, hb_⟩
  have HC := Aside0.mk hC
  have n_ := Aside0.mk (below_step (by repeat (first | exact HB.out | apply below_alloc | apply pw_below_drewN | apply below_drew1 | refine below_set ?_ (by first | omega | (simp; omega)))) hb_); clear HB hb_ hC; have HB := n_; clear n_
  have HB3 := Aside0.mk (Below.refl w3.heap.size w3)
  go_wp2_with fail
  refine (aw4 _).mono ?_
  rintro e w4 ⟨rfl, hb4⟩
  go_wp2_with fail
  refine (aw5 _).mono ?_
  rintro e w5 ⟨rfl, hb5⟩
  go_wp2_with fail
  refine (aw6 _ ?hG).mono ?_
  case hG => exact HG.out.below (below_step (below_step HB.out hb4) hb5)
  rintro e w6 ⟨rfl, hb6⟩
  have h36 := Kd.C_below (Kd.C_below (Kd.C_below HC.out hb4) hb5) hb6
  have HB6 := Aside0.mk (below_step (below_step (below_step HB.out hb4) hb5) hb6)
  clear HB HB3 HC hb4 hb5 hb6
  have HB := HB6
  clear HB6
  have HC := Aside0.mk h36
  clear h36
  go_wp2_with fail
  refine (aw7 g cap _ 3 _ (Kd.C_below HC.out ?hb) ?hx).mono ?_
  case hb => exact below_alloc (Below.refl _ _) _
  case hx => exact Box.new
  rintro e w7 ⟨rfl, hb_⟩
  have n_ := Aside0.mk (below_step (by repeat (first | exact HB.out | apply below_alloc | apply pw_below_drewN | apply below_drew1 | refine below_set ?_ (by first | omega | (simp; omega)))) hb_); clear HB hb_; have HB := n_; clear n_
  go_wp2
  go_ret
  exact ⟨rfl, HB.out⟩
end Go.Proofs.YtkpbcmlbdggoaaaDoor
