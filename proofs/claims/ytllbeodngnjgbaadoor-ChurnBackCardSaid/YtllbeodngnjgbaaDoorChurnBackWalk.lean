/- The statement ChurnBack's call answers true. -/
import Derived.Test.YtllbeodngnjgbaaDoorChurnAwake
set_option linter.unusedVariables false
set_option linter.unusedSimpArgs false
namespace Go.Proofs.YtllbeodngnjgbaaDoor
open Go.RowKit Go.Proofs.YtllbeodngnjgbaaDoorW.PrintWords Go.Proofs.YtllbeodngnjgbaaDoorW.PrintLast Go.Proofs.YtllbeodngnjgbaaDoorW.PrintMore
attribute [local go_sem] max2_int min2_int max_two min_two

theorem more_beq (h g : Int) (hh : u64ok h) (hg : u64ok g) (l : List UInt8) : (moreF h l == moreF g l) = (h == g) := by
  rw [Bool.eq_iff_iff, beq_iff_eq, beq_iff_eq]; exact more_inj l h g hh hg
theorem back_beq (h g : Int) (hh : u64ok h) (hg : u64ok g) (l : List UInt8) : (backF h l == backF g l) = (h == g) := by
  rw [Bool.eq_iff_iff, beq_iff_eq, beq_iff_eq]; exact back_inj l h g hh hg
set_option maxHeartbeats 1000000 in
theorem ChurnBack_calls (h g : Int) (s : ByteArray) (w : World) (hh : u64ok h) (hg : u64ok g) (hs : s.size ≤ maxLen) (hG : ChurnLaid w) :
    Calls Tryd.prog 3 #[.int .u64 h, .int .u64 g, .string s] w fun e w' => e = .returned (.bool true) ∧ Below w.heap.size w w' := by
  unfold maxLen at hs
  have e1 := fun l => back_more l h hh
  have e2 := fun l => more_back l h hh
  have e3 := more_beq h g hh hg
  have e4 := back_beq h g hh hg
  have HG := Aside0.mk hG
  clear hG hh hg
  have HB := Aside0.mk (Below.refl w.heap.size w)
  rcases Nat.lt_or_ge 200 s.size with h200 | h200
  all_goals
    go_enter Tryd.func3, Tryd.ntmps3
    go_wp2_with (first
      | (go_at_call 8; ((with_reducible refine (awake_calls _ ?hG).mono ?_)); (case hG => exact HG.out.below (by repeat (first | exact HB.out | apply below_alloc | apply pw_below_drewN | apply below_drew1))); rintro e w_ ⟨rfl, hb_⟩; have n_ := Aside0.mk (below_step (by repeat (first | exact HB.out | apply below_alloc | apply pw_below_drewN | apply below_drew1)) hb_); clear HB hb_; have HB := n_; clear n_)
      | (go_at_call 10; ((with_reducible refine (More_b _ _ _ ?hs ?hG).mono ?_)); (case hG => exact HG.out.below (by repeat (first | exact HB.out | apply below_alloc | apply pw_below_drewN | apply below_drew1))); (case hs => first | (unfold maxLen; omega) | (unfold maxLen; simp; omega));rintro e w_ ⟨rfl, hb_⟩; have n_ := Aside0.mk (below_step (by repeat (first | exact HB.out | apply below_alloc | apply pw_below_drewN | apply below_drew1)) hb_); clear HB hb_; have HB := n_; clear n_)
      | (go_at_call 9; ((with_reducible refine (Back_b _ _ _ ?hs ?hG).mono ?_)); (case hG => exact HG.out.below (by repeat (first | exact HB.out | apply below_alloc | apply pw_below_drewN | apply below_drew1))); (case hs => first | (unfold maxLen; omega) | (unfold maxLen; simp; omega));rintro e w_ ⟨rfl, hb_⟩; have n_ := Aside0.mk (below_step (by repeat (first | exact HB.out | apply below_alloc | apply pw_below_drewN | apply below_drew1)) hb_); clear HB hb_; have HB := n_; clear n_))
    go_ret
    exact ⟨rfl, HB.out⟩
end Go.Proofs.YtllbeodngnjgbaaDoor
