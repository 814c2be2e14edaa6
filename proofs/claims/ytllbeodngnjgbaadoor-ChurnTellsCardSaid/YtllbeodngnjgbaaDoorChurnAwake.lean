/- The statements' own first calls of chapter 4 answer true. -/
import Derived.Test.YtllbeodngnjgbaaDoorChurnWalk
set_option linter.unusedVariables false
set_option linter.unusedSimpArgs false
namespace Go.Proofs.YtllbeodngnjgbaaDoor
open Go.RowKit Go.Proofs.YtllbeodngnjgbaaDoorW.PrintWords Go.Proofs.YtllbeodngnjgbaaDoorW.PrintLast Go.Proofs.YtllbeodngnjgbaaDoorW.PrintMore

theorem sum_empty : sumF [] = 14695981039346656037 := by kernel_rfl
theorem sum_a : sumF [97] = 12638187200555641996 := by kernel_rfl
theorem back_a : backF 12638187200555641996 [97] = 14695981039346656037 := by kernel_rfl
theorem fold_none : foldF [] = 14695981039346656037 := by kernel_rfl
theorem more_none : moreF 7 [] = 7 := by kernel_rfl
theorem draw_zero (l : List Int) : drawF 0 l = 0 := by unfold drawF; rw [if_pos (by omega)]

set_option maxHeartbeats 1000000 in
theorem awake_calls (w : World) (hG : ChurnLaid w) :
    Calls Tryd.prog 8 #[] w fun e w' => e = .returned (.bool true) ∧ Below w.heap.size w w' := by
  have e0 := sum_empty
  have e1 := sum_a
  have e2 := back_a
  have e3 := fold_none
  have e4 := more_none
  have e5 := draw_zero
  have HG := Aside0.mk hG
  clear hG
  have HB := Aside0.mk (Below.refl w.heap.size w)
  go_enter Tryd.func8, Tryd.ntmps8
  go_wp2_with (first
    | (go_at_call 11; ((with_reducible refine (Sum_b _ _ (by unfold maxLen; decide) ?hG).mono ?_)); (case hG => exact HG.out.below (by repeat (first | exact HB.out | apply below_alloc | apply pw_below_drewN | apply below_drew1))); rintro e w_ ⟨rfl, hb_⟩; have n_ := Aside0.mk (below_step (by repeat (first | exact HB.out | apply below_alloc | apply pw_below_drewN | apply below_drew1)) hb_); clear HB hb_; have HB := n_; clear n_)
    | (go_at_call 9; ((with_reducible refine (Back_b _ _ _ (by unfold maxLen; decide) ?hG).mono ?_)); (case hG => exact HG.out.below (by repeat (first | exact HB.out | apply below_alloc | apply pw_below_drewN | apply below_drew1))); rintro e w_ ⟨rfl, hb_⟩; have n_ := Aside0.mk (below_step (by repeat (first | exact HB.out | apply below_alloc | apply pw_below_drewN | apply below_drew1)) hb_); clear HB hb_; have HB := n_; clear n_)
    | (go_at_call 10; ((with_reducible refine (More_b _ _ _ (by unfold maxLen; decide) ?hG).mono ?_)); (case hG => exact HG.out.below (by repeat (first | exact HB.out | apply below_alloc | apply pw_below_drewN | apply below_drew1))); rintro e w_ ⟨rfl, hb_⟩; have n_ := Aside0.mk (below_step (by repeat (first | exact HB.out | apply below_alloc | apply pw_below_drewN | apply below_drew1)) hb_); clear HB hb_; have HB := n_; clear n_)
    | (go_at_call 12; ((with_reducible refine (Fold_calls _ _ _ [] _ ?hr (by simp) ?hG).mono ?_)); (case hG => exact HG.out.below (by repeat (first | exact HB.out | apply below_alloc | apply pw_below_drewN | apply below_drew1))); (case hr => exact Kd.C_nil _ _);rintro e w_ ⟨rfl, hb_⟩; have n_ := Aside0.mk (below_step (by repeat (first | exact HB.out | apply below_alloc | apply pw_below_drewN | apply below_drew1)) hb_); clear HB hb_; have HB := n_; clear n_)
    | (go_at_call 17; ((with_reducible refine (Draw_calls 0 (by omega) _ _ _ [5] _ ?hr (by simp) ?hG).mono ?_)); (case hG => exact HG.out.below (by repeat (first | exact HB.out | apply below_alloc | apply pw_below_drewN | apply below_drew1))); (case hr => exact C_lit .u64 _ _ [5] (by decide));rintro e w_ ⟨rfl, hb_⟩; have n_ := Aside0.mk (below_step (by repeat (first | exact HB.out | apply below_alloc | apply pw_below_drewN | apply below_drew1)) hb_); clear HB hb_; have HB := n_; clear n_))
  go_ret
  exact ⟨rfl, HB.out⟩
end Go.Proofs.YtllbeodngnjgbaaDoor
