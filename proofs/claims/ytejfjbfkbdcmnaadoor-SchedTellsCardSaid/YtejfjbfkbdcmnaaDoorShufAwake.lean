
/- The statements' own first calls of chapter 9 answer true; raw numbers. -/
import Derived.Test.YtejfjbfkbdcmnaaDoorShufRef
import Derived.Test.YtejfjbfkbdcmnaaDoorShufBy2
set_option linter.unusedVariables false
set_option linter.unusedSimpArgs false
namespace Go.Proofs.YtejfjbfkbdcmnaaDoor
open Go.RowKit Go.Proofs.YtejfjbfkbdcmnaaDoorW.PrintWords Go.Proofs.YtejfjbfkbdcmnaaDoorW.PrintLast Go.Proofs.YtejfjbfkbdcmnaaDoorW.PrintMore

def pickF (c n : Int) : Int := (if c < 0 then -(c + 1) else c) % n
def i64ok (c : Int) : Prop := -9223372036854775808 ≤ c ∧ c ≤ 9223372036854775807
theorem pickF_bd (c n : Int) (h : 1 ≤ n) : 0 ≤ pickF c n ∧ pickF c n < n :=
  ⟨Int.emod_nonneg _ (by omega), Int.emod_lt_of_pos _ (by omega)⟩
theorem place_zero (n seed : Int) (i : Int) : placeF n seed 0 i = i := by unfold placeF; rw [show upF 0 = [] from rfl, run_nil]
theorem back_zero (n seed : Int) (i : Int) : backF9 n seed 0 i = i := by unfold backF9; rw [show downF 0 = [] from rfl, run_nil]
theorem aw1 (w : World) (hG : ChurnLaid w) : Calls Tryd.prog 41 #[.int .i64 1, .int .i64 90, .int .u64 7, .int .i64 0] w fun e w' => e = .returned (.tuple #[.int .i64 0, .int .i64 0]) ∧ Below w.heap.size w w' := by
  have h := Place_yes 1 7 0 90 w (by decide) (by decide) hG
  have e : placeF 1 7 90 0 = 0 := by have := place_bd 1 7 90 0 (by decide); omega
  rw [e] at h
  exact h
theorem aw2 (w : World) (hG : ChurnLaid w) : Calls Tryd.prog 41 #[.int .i64 9, .int .i64 0, .int .u64 7, .int .i64 5] w fun e w' => e = .returned (.tuple #[.int .i64 5, .int .i64 0]) ∧ Below w.heap.size w w' := by
  have h := Place_yes 9 7 5 0 w (by decide) (by decide) hG
  rw [place_zero] at h
  exact h
end Go.Proofs.YtejfjbfkbdcmnaaDoor
