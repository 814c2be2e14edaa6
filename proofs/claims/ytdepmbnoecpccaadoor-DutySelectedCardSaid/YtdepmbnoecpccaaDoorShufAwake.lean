
/- The statements' own first calls of chapter 9 answer true; raw numbers. -/
import Derived.Test.YtdepmbnoecpccaaDoorShufRef
import Derived.Test.YtdepmbnoecpccaaDoorShufBy2
set_option linter.unusedVariables false
set_option linter.unusedSimpArgs false
namespace Go.Proofs.YtdepmbnoecpccaaDoor
open Go.RowKit Go.Proofs.YtdepmbnoecpccaaDoorW.PrintWords Go.Proofs.YtdepmbnoecpccaaDoorW.PrintLast Go.Proofs.YtdepmbnoecpccaaDoorW.PrintMore

def pickF (c n : Int) : Int := (if c < 0 then -(c + 1) else c) % n
def i64ok (c : Int) : Prop := -9223372036854775808 ≤ c ∧ c ≤ 9223372036854775807
theorem pickF_bd (c n : Int) (h : 1 ≤ n) : 0 ≤ pickF c n ∧ pickF c n < n :=
  ⟨Int.emod_nonneg _ (by omega), Int.emod_lt_of_pos _ (by omega)⟩
theorem place_zero (n seed : Int) (i : Int) : placeF n seed 0 i = i := by unfold placeF; rw [show upF 0 = [] from rfl, run_nil]
theorem back_zero (n seed : Int) (i : Int) : backF9 n seed 0 i = i := by unfold backF9; rw [show downF 0 = [] from rfl, run_nil]
theorem aw1 (w : World) (hG : ChurnLaid w) : Calls Tryd.prog 30 #[.int .i64 1, .int .i64 90, .int .u64 7, .int .i64 0] w fun e w' => e = .returned (.tuple #[.int .i64 0, .int .i64 0]) ∧ Below w.heap.size w w' := by
  have h := Place_yes 1 7 0 90 w (by decide) (by decide) hG
  have e : placeF 1 7 90 0 = 0 := by have := place_bd 1 7 90 0 (by decide); omega
  rw [e] at h
  exact h
theorem aw2 (w : World) (hG : ChurnLaid w) : Calls Tryd.prog 30 #[.int .i64 9, .int .i64 0, .int .u64 7, .int .i64 5] w fun e w' => e = .returned (.tuple #[.int .i64 5, .int .i64 0]) ∧ Below w.heap.size w w' := by
  have h := Place_yes 9 7 5 0 w (by decide) (by decide) hG
  rw [place_zero] at h
  exact h
theorem aw3 (w : World) (hG : ChurnLaid w) : Calls Tryd.prog 24 #[.int .i64 3, .int .i64 0, .int .u64 1] w fun e w' => ∃ (g cap : Nat), e = .returned (.tuple #[.slice (some ⟨g, 0, none⟩) 3 cap, .int .i64 0]) ∧ (Kd.int .i64).C w' (some ⟨g, 0, none⟩) 3 [0, 1, 2] ∧ Below w.heap.size w w' := by
  have h := All_yes 3 1 0 w (by decide) (by decide) (by decide) hG
  have e : allF 3 1 0 = [0, 1, 2] := by
    unfold allF
    simp only [place_zero]
    rfl
  rw [e] at h
  refine h.mono fun e w' hh => ?_
  obtain ⟨g, cap, he, hR, hb⟩ := hh
  obtain ⟨A, c, hv, _, hC⟩ := Kd.R_reads hR
  injection hv with h1 h2 h3
  subst h1
  exact ⟨g, cap, he, hC, hb⟩
theorem aw5 (w : World) : Calls Tryd.prog 38 #[.int .i64 0, .int .i64 1, .int .u64 1, .int .i64 0] w fun e w' => e = .returned (.tuple #[.int .i64 0, .int .i64 1]) ∧ Below w.heap.size w w' :=
  Back_no 0 1 1 0 w (by decide)
theorem aw6 (w : World) (hG : ChurnLaid w) : Calls Tryd.prog 38 #[.int .i64 9, .int .i64 0, .int .u64 7, .int .i64 5] w fun e w' => e = .returned (.tuple #[.int .i64 5, .int .i64 0]) ∧ Below w.heap.size w w' := by
  have h := Back_yes 9 7 5 0 w (by decide) (by decide) hG
  rw [back_zero] at h
  exact h
theorem aw7 (g cap b : Nat) (T : TypeId) (w : World) (h : (Kd.int .i64).C w (some ⟨g, 0, none⟩) 3 [0, 1, 2]) (hb : Box w b #[.int .i64 0, .int .i64 1, .int .i64 2] T) : Calls Tryd.prog 18 #[.slice (some ⟨g, 0, none⟩) 3 cap, .slice (some ⟨b, 0, none⟩) 3 3] w fun e w' => e = .returned (.bool true) ∧ Below w.heap.size w w' :=
  Ints_calls _ _ 3 3 cap 3 [0, 1, 2] [0, 1, 2] w h (C_box .i64 w b T [0, 1, 2] (by simp) hb)

end Go.Proofs.YtdepmbnoecpccaaDoor
