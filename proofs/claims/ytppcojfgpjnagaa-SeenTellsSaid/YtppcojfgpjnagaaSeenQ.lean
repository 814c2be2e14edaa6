
/- The functions whose contracts are by hand, in the form of the printed ones (chapter 13). -/
import Derived.Test.YtppcojfgpjnagaaSeenRef
set_option linter.unusedVariables false
set_option linter.unusedSimpArgs false
namespace Go.Proofs.Ytppcojfgpjnagaa
open Go.RowKit Go.Proofs.YtppcojfgpjnagaaW.PrintWords Go.Proofs.YtppcojfgpjnagaaW.PrintLast Go.Proofs.YtppcojfgpjnagaaW.PrintMore
open Go.Proofs.Ytppcojfgpjnagaa.PQ

theorem ofIf {α : Type} {c : Prop} [Decidable c] {x r : α} (h : (if c then some x else none) = some r) : c ∧ x = r := by
  by_cases g : c
  · rw [if_pos g] at h
    exact ⟨g, Option.some.inj h⟩
  · rw [if_neg g] at h
    cases h
def PQ.seen_Right.f (l0 : List Mk) : Option Bool := if l0.length ≤ 1000000 then some (rightM l0) else none
theorem PQ.seen_Right.calls (A0 : Option Addr) (c0 : Nat) (l0 : List Mk) (r : Bool) (w : World) (hr0 : Kd.C k25 w A0 l0.length l0) (hc0 : l0.length ≤ c0) (h : PQ.seen_Right.f l0 = some r) : Calls Try.prog 22 #[.slice A0 l0.length c0] w fun e w' => e = .returned (.bool r) ∧ Below w.heap.size w w' := by
  obtain ⟨h1, rfl⟩ := ofIf h
  exact SRight_calls A0 _ c0 l0 w hr0
def PQ.seen_Has.f (l0 : List Mk) (a1_0 a1_1 a1_2 : Int) : Option Bool := if l0.length ≤ 1000000 then some (hasM l0 ⟨a1_0, a1_1, a1_2⟩) else none
theorem PQ.seen_Has.calls (A0 : Option Addr) (c0 : Nat) (l0 : List Mk) (a1_0 : Int) (a1_1 : Int) (a1_2 : Int) (r : Bool) (w : World) (hr0 : Kd.C k25 w A0 l0.length l0) (hc0 : l0.length ≤ c0) (h : PQ.seen_Has.f l0 a1_0 a1_1 a1_2 = some r) : Calls Try.prog 15 #[.slice A0 l0.length c0, .agg #[.int .i64 a1_0, .int .i64 a1_1, .int .i64 a1_2]] w fun e w' => e = .returned (.bool r) ∧ Below w.heap.size w w' := by
  obtain ⟨h1, rfl⟩ := ofIf h
  exact SHas_calls A0 _ c0 l0 ⟨a1_0, a1_1, a1_2⟩ w hr0
def PQ.seen_Add.f (l0 : List Mk) (a1 a2_0 a2_1 a2_2 : Int) : Option (List Mk × Int) := if l0.length ≤ 1000000 then some (addM l0 a1 ⟨a2_0, a2_1, a2_2⟩) else none
theorem PQ.seen_Add.calls (A0 : Option Addr) (c0 : Nat) (l0 : List Mk) (a1 : Int) (a2_0 : Int) (a2_1 : Int) (a2_2 : Int) (r1 : List Mk) (r2 : Int) (w : World) (hr0 : Kd.C k25 w A0 l0.length l0) (hc0 : l0.length ≤ c0) (h : PQ.seen_Add.f l0 a1 a2_0 a2_1 a2_2 = some (r1, r2)) : Calls Try.prog 12 #[.slice A0 l0.length c0, .int .i64 a1, .agg #[.int .i64 a2_0, .int .i64 a2_1, .int .i64 a2_2]] w fun e w' => ∃ v0_ : Value, e = .returned (.tuple #[v0_, .int .i64 r2]) ∧ Kd.R k25 25 w' w.heap.size (fun _ => True) v0_ r1 ∧ Below w.heap.size w w' := by
  obtain ⟨h1, h2⟩ := ofIf h
  have e := SAdd_calls A0 _ c0 l0 a1 ⟨a2_0, a2_1, a2_2⟩ w hr0 h1
  rw [h2] at e
  exact e
def PQ.mootbellref13_Add.f (l0 : List Mk) (a1 a2_0 a2_1 a2_2 : Int) : Option (List Mk × Int) := if l0.length ≤ 1000000 then some (addM l0 a1 ⟨a2_0, a2_1, a2_2⟩) else none
theorem PQ.mootbellref13_Add.calls (A0 : Option Addr) (c0 : Nat) (l0 : List Mk) (a1 : Int) (a2_0 : Int) (a2_1 : Int) (a2_2 : Int) (r1 : List Mk) (r2 : Int) (w : World) (hr0 : Kd.C k25 w A0 l0.length l0) (hc0 : l0.length ≤ c0) (h : PQ.mootbellref13_Add.f l0 a1 a2_0 a2_1 a2_2 = some (r1, r2)) : Calls Try.prog 13 #[.slice A0 l0.length c0, .int .i64 a1, .agg #[.int .i64 a2_0, .int .i64 a2_1, .int .i64 a2_2]] w fun e w' => ∃ v0_ : Value, e = .returned (.tuple #[v0_, .int .i64 r2]) ∧ Kd.R k25 25 w' w.heap.size (fun _ => True) v0_ r1 ∧ Below w.heap.size w w' := by
  obtain ⟨h1, h2⟩ := ofIf h
  have e := RAdd_calls A0 _ c0 l0 a1 ⟨a2_0, a2_1, a2_2⟩ w hr0 hc0 h1
  rw [h2] at e
  exact e
def PQ.seen_Prune.f (l0 : List Mk) (a1 : Int) : Option (List Mk) := if l0.length ≤ 1000000 then some (pruneM l0 a1) else none
theorem PQ.seen_Prune.calls (A0 : Option Addr) (c0 : Nat) (l0 : List Mk) (a1 : Int) (r : List Mk) (w : World) (hr0 : Kd.C k25 w A0 l0.length l0) (hc0 : l0.length ≤ c0) (h : PQ.seen_Prune.f l0 a1 = some r) : Calls Try.prog 17 #[.slice A0 l0.length c0, .int .i64 a1] w fun e w' => ∃ v0_ : Value, e = .returned (v0_) ∧ Kd.R k25 25 w' w.heap.size (fun _ => True) v0_ r ∧ Below w.heap.size w w' := by
  obtain ⟨h1, rfl⟩ := ofIf h
  exact SPrune_calls A0 _ c0 l0 a1 w hr0 h1
def PQ.seen_Of.f (l0 : List Mk) (a1 a2 : Int) : Option (List Int) := if l0.length ≤ 1000000 then some (ofM l0 a1 a2) else none
theorem PQ.seen_Of.calls (A0 : Option Addr) (c0 : Nat) (l0 : List Mk) (a1 : Int) (a2 : Int) (r : List Int) (w : World) (hr0 : Kd.C k25 w A0 l0.length l0) (hc0 : l0.length ≤ c0) (h : PQ.seen_Of.f l0 a1 a2 = some r) : Calls Try.prog 20 #[.slice A0 l0.length c0, .int .i64 a1, .int .i64 a2] w fun e w' => ∃ v0_ : Value, e = .returned (v0_) ∧ Kd.R (Kd.int .i64) 3 w' w.heap.size (fun _ => True) v0_ r ∧ Below w.heap.size w w' := by
  obtain ⟨h1, rfl⟩ := ofIf h
  exact SOf_calls A0 _ c0 l0 a1 a2 w hr0 h1
end Go.Proofs.Ytppcojfgpjnagaa
