
/- Chapter 13's first calls: their answers. -/
import Derived.Test.YtppcojfgpjnagaaSeenLawPure
import Derived.Test.YtppcojfgpjnagaaQmootbelllaw13awake
set_option linter.unusedVariables false
set_option linter.unusedSimpArgs false
namespace Go.Proofs.Ytppcojfgpjnagaa
open Go.RowKit Go.Proofs.YtppcojfgpjnagaaW.PrintWords Go.Proofs.YtppcojfgpjnagaaW.PrintLast Go.Proofs.YtppcojfgpjnagaaW.PrintMore
open Go.Proofs.Ytppcojfgpjnagaa.PQ

theorem awake_f (k : Nat) (hk : 10 ≤ k) : mootbelllaw13_awake.f k = some true := by
  have a1 : seen_Add.f [(⟨2, 1, 4⟩ : Mk), (⟨3, 0, 0⟩ : Mk)] 3 2 1 5 = some ([⟨2, 1, 4⟩, ⟨2, 1, 5⟩, ⟨3, 0, 0⟩], 0) := by decide
  have a2 : seen_Add.f [(⟨2, 1, 4⟩ : Mk), ⟨2, 1, 5⟩, ⟨3, 0, 0⟩] 9 2 1 5 = some ([], 7) := by decide
  have a3 : seen_Add.f [(⟨2, 1, 4⟩ : Mk), ⟨2, 1, 5⟩, ⟨3, 0, 0⟩] 3 0 0 0 = some ([], 5) := by decide
  have a4 : seen_Add.f ([] : List Mk) 3 0 0 (-1) = some ([], 1) := by decide
  have b1 : seen_Has.f [(⟨2, 1, 4⟩ : Mk), ⟨2, 1, 5⟩, ⟨3, 0, 0⟩] 2 1 5 = some true := by decide
  have b2 : seen_Has.f [(⟨2, 1, 4⟩ : Mk), (⟨3, 0, 0⟩ : Mk)] 2 1 5 = some false := by decide
  have b3 : seen_Right.f [(⟨2, 1, 4⟩ : Mk), (⟨3, 0, 0⟩ : Mk)] = some true := by decide
  have c1 : seen_Prune.f [(⟨2, 1, 4⟩ : Mk), ⟨2, 1, 5⟩, ⟨3, 0, 0⟩] 3 = some [⟨3, 0, 0⟩] := by decide
  have c2 : seen_Of.f [(⟨2, 1, 4⟩ : Mk), ⟨2, 1, 5⟩, ⟨3, 0, 0⟩] 2 1 = some [4, 5] := by decide
  have s1 := same_f [(⟨2, 1, 4⟩ : Mk), ⟨2, 1, 5⟩, ⟨3, 0, 0⟩] [(⟨2, 1, 4⟩ : Mk), ⟨2, 1, 5⟩, ⟨3, 0, 0⟩] (by simp) k (by simp; omega)
  have s2 := same_f [(⟨3, 0, 0⟩ : Mk)] [(⟨3, 0, 0⟩ : Mk)] (by simp) k (by simp; omega)
  have s3 := ints_f [4, 5] [4, 5] (by simp) k (by simp; omega)
  rw [decide_eq_true rfl] at s1 s2 s3
  unfold mootbelllaw13_awake.f
  rw [Option.bind_some, a1, Option.bind_some]
  dsimp only
  rw [a2, Option.bind_some, a3, Option.bind_some, a4, Option.bind_some]
  dsimp only
  rw [if_pos rfl, if_pos (by decide), if_pos (by decide)]
  have e1 : [(⟨(rd_T25 [(⟨2, 1, 4⟩ : Mk), (⟨3, 0, 0⟩ : Mk)] 0).f0, (rd_T25 [(⟨2, 1, 4⟩ : Mk), (⟨3, 0, 0⟩ : Mk)] 0).f1, (rd_T25 [(⟨2, 1, 4⟩ : Mk), (⟨3, 0, 0⟩ : Mk)] 0).f2⟩ : Mk), (⟨2, 1, 5⟩ : Mk), (⟨(rd_T25 [(⟨2, 1, 4⟩ : Mk), (⟨3, 0, 0⟩ : Mk)] 1).f0, (rd_T25 [(⟨2, 1, 4⟩ : Mk), (⟨3, 0, 0⟩ : Mk)] 1).f1, (rd_T25 [(⟨2, 1, 4⟩ : Mk), (⟨3, 0, 0⟩ : Mk)] 1).f2⟩ : Mk)] = [(⟨2, 1, 4⟩ : Mk), ⟨2, 1, 5⟩, ⟨3, 0, 0⟩] := rfl
  have e2 : [(⟨(rd_T25 [(⟨2, 1, 4⟩ : Mk), (⟨3, 0, 0⟩ : Mk)] 1).f0, (rd_T25 [(⟨2, 1, 4⟩ : Mk), (⟨3, 0, 0⟩ : Mk)] 1).f1, (rd_T25 [(⟨2, 1, 4⟩ : Mk), (⟨3, 0, 0⟩ : Mk)] 1).f2⟩ : Mk)] = [(⟨3, 0, 0⟩ : Mk)] := rfl
  rw [e1, s1, Option.bind_some, if_pos rfl, if_pos rfl, if_pos rfl, if_pos rfl, b1, Option.bind_some, if_pos rfl, b2, Option.bind_some, if_neg (by decide), b3, Option.bind_some, if_pos rfl, c1, Option.bind_some, e2, s2, Option.bind_some, if_pos rfl, c2, Option.bind_some, s3, Option.bind_some]
theorem awake_up (k d : Nat) : LeO (mootbelllaw13_awake.f k) (mootbelllaw13_awake.f (k + d)) := by
  induction d with
  | zero => exact LeO.refl _
  | succ d ih => exact fun r h => mootbelllaw13_awake.mono (k + d) r (ih r h)
theorem PQ.mootbelllaw13_awake.callsA (k : Nat) (r : Bool) (w : World) (h : mootbelllaw13_awake.f k = some r) : Calls Try.prog 8 #[] w fun e w' => e = .returned (.bool r) ∧ Below w.heap.size w w' := by
  have h1 := awake_up k 10 r h
  rw [awake_f (k + 10) (by omega)] at h1
  exact mootbelllaw13_awake.calls k r w h (Option.some.inj h1).symm
theorem awake_calls (w : World) : Calls Try.prog 8 #[] w fun e w' => e = .returned (.bool true) ∧ Below w.heap.size w w' :=
  mootbelllaw13_awake.calls 10 true w (awake_f 10 (by omega)) rfl
end Go.Proofs.Ytppcojfgpjnagaa
