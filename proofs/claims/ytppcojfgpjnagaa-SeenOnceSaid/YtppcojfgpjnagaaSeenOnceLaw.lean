
/- SeenOnce: for every input the call of the statement returns true and leaves its arguments as they were. Conditions: none beyond the row's own. -/
import Derived.Test.YtppcojfgpjnagaaSeenOnceWalk
set_option linter.unusedVariables false
set_option linter.unusedSimpArgs false
namespace Go.Proofs.Ytppcojfgpjnagaa
open Go.RowKit Go.Proofs.YtppcojfgpjnagaaW.PrintWords Go.Proofs.YtppcojfgpjnagaaW.PrintLast Go.Proofs.YtppcojfgpjnagaaW.PrintMore
open Go.ChangeShapes Go.WideShapes Go.ChangeAt
open Go.ChangeMaps (open_string shut_string)
open Go.Proofs.Ytppcojfgpjnagaa.PQ

set_option maxRecDepth 100000 in
theorem seenOnce_lifted (os : Os) (started : os.Started) (H : Type) (enc : TypeId × Value → H) :
    ReturnsInHanded {} Try.checked os 4 .any (Rows.seenOnceSpec.pre6 enc Try.prog Try.f4 Rows.seenOnceRow.domain false) (Rows.seenOnceSpec.post enc Try.prog Try.f4 false true false false) := by
  refine returnsInHanded_of_change_sized (C := Try.checked) own started (by kernel_rfl) Try.func4
    (ChangeSpec.witness6 (enc := enc) (C := Try.checked) false ⟨#[], #[.slice none 0 0, .slice none 0 0], []⟩ 8 (by kernel_rfl) (by kernel_rfl) (by kernel_rfl) (by kernel_rfl)) ?_
  intro W base args ds gs before hval0 hW hcnd hsz0 _
  have hsz : (DataW.weightsEach Try.prog (Try.f4.params.toList ++ Rows.seenOnceSpec.plain.varTypes Try.prog) (ds ++ gs)).all (· ≤ reachBytes) = true := hsz0
  have hval : ∀ (j : Nat) t v, Try.f4.params[j]? = some t → args[j]? = some v → Value.okWide Try.prog W .any base t v := hval0
  have hW' := hW
  obtain ⟨p, q, hA0, hV, rfl, hfz, hnd⟩ := hW
  have hA : DataW.TrodAll enc Try.prog W 0 (fun _ => true) true Try.f4.params.toList args.toList ds p := hA0
  have hAll := hA
  rw [Try.params4] at hA hval hsz
  obtain ⟨v0, vs0, d0, ds0, p0, q0, hargs, rfl, rfl, h0, r0⟩ := trodAll_cons hA
  obtain ⟨v1, vs1, d1, ds1, p1, q1, rfl, rfl, rfl, h1, r1⟩ := trodAll_cons r0
  obtain ⟨rfl, rfl, rfl⟩ := trodAll_nil r1
  obtain rfl : args = #[v0, v1] := by cases args; simp_all
  obtain ⟨rfl, rfl⟩ := trodVars_none hV
  have hlt := trodAll_lt hAll
  obtain ⟨A, n, c, l, rfl, hc, hC, ho⟩ := raws_came (hval 0 23 v0 rfl rfl) h0
  obtain ⟨P, np, cp, pr, rfl, hpc, hP, hpw⟩ := C_came Try.underlying32 Try.underlying3 (by kernel_rfl) (hval 1 32 v1 rfl rfl) h1
  clear hA0 hval0 hsz0 hsz
  refine (SeenOnce_calls A n c l P np cp pr W hC hc ho hP hpc (fun x hx => in64_wf (hpw x hx))).mono fun e W' ⟨he, bel⟩ => ?_
  subst he
  exact ⟨_, rfl, _, _, _, [], _, [], hW', trodAll_mk1 (shut_bool Try.underlying4 _), below_trodAll laidOut bel (by kernel_rfl) hAll hlt, rfl, bel.frame _, fun h => by cases h⟩
theorem seenOnce_over : Rows.seenOnceRow.holds Try.pinned (OpenSpec.ofChange Rows.seenOnceSpec) :=
  OpenClaim.holds_of_wide 4 Try.f4 rfl rfl rfl rfl rfl rfl rfl ⟨rfl, rfl, rfl, rfl, rfl⟩ rfl rfl rfl rfl rfl (by kernel_rfl) Try.func4 (by kernel_rfl)
    (of_decide_eq_true (by kernel_rfl)) (by unfold Func.isWrapper; first | (rw [if_pos (by decide +kernel)]; kernel_rfl) | (rw [if_neg (by decide +kernel)]; exact ⟨rfl, rfl⟩))
    (fun os started H enc _ => seenOnce_lifted os started H enc)
theorem seenOnce_holds : Rows.SeenOnceSaid := seenOnce_over
#print axioms seenOnce_holds
end Go.Proofs.Ytppcojfgpjnagaa
