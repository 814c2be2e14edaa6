import Derived.Test.YtnfglkgkdechlaaF2
import Derived.Test.YtnfglkgkdechlaaF5

/- BisectAdd: for every input the call of the statement returns true and leaves its arguments as they were. Conditions: none beyond the row's own. -/
set_option linter.unusedVariables false
set_option linter.unusedSimpArgs false
namespace Go.Proofs.Ytnfglkgkdechlaa
open Go.RowKit Go.Proofs.YtnfglkgkdechlaaW.PrintWords Go.Proofs.YtnfglkgkdechlaaW.PrintLast Go.Proofs.YtnfglkgkdechlaaW.PrintMore
open Go.ChangeShapes Go.WideShapes Go.ChangeAt
open Go.ChangeMaps (open_string shut_string)
open Go.Proofs.Ytnfglkgkdechlaa.PQ

set_option maxRecDepth 100000 in
theorem bisectAdd_lifted (os : Os) (started : os.Started) (H : Type) (enc : TypeId × Value → H) :
    ReturnsInHanded {} Try.checked os 6 .any (Rows.bisectAddSpec.pre6 enc Try.prog Try.f6 Rows.bisectAddRow.domain false) (Rows.bisectAddSpec.post enc Try.prog Try.f6 false true false false) := by
  refine returnsInHanded_of_change_sized (C := Try.checked) own started (by kernel_rfl) Try.func6
    (ChangeSpec.witness6 (enc := enc) (C := Try.checked) false ⟨#[], #[.slice none 0 0, .slice none 0 0, .agg #[.slice none 0 0, .int .i64 0, .slice none 0 0, .int .i64 0]], []⟩ 8 (by kernel_rfl) (by kernel_rfl) (by kernel_rfl) (by kernel_rfl)) ?_
  intro W base args ds gs before hval0 hW hcnd hsz0 _
  have hsz : (DataW.weightsEach Try.prog (Try.f6.params.toList ++ Rows.bisectAddSpec.plain.varTypes Try.prog) (ds ++ gs)).all (· ≤ reachBytes) = true := hsz0
  have hval : ∀ (j : Nat) t v, Try.f6.params[j]? = some t → args[j]? = some v → Value.okWide Try.prog W .any base t v := hval0
  have hW' := hW
  obtain ⟨p, q, hA0, hV, rfl, hfz, hnd⟩ := hW
  have hA : DataW.TrodAll enc Try.prog W 0 (fun _ => true) true Try.f6.params.toList args.toList ds p := hA0
  have hAll := hA
  rw [Try.params6] at hA hval hsz
  obtain ⟨v0, vs0, d0, ds0, p0, q0, hargs, rfl, rfl, h0, r0⟩ := trodAll_cons hA
  obtain ⟨v1, vs1, d1, ds1, p1, q1, rfl, rfl, rfl, h1, r1⟩ := trodAll_cons r0
  obtain ⟨v2, vs2, d2, ds2, p2, q2, rfl, rfl, rfl, h2, r2⟩ := trodAll_cons r1
  obtain ⟨rfl, rfl, rfl⟩ := trodAll_nil r2
  obtain rfl : args = #[v0, v1, v2] := by cases args; simp_all
  obtain ⟨rfl, rfl⟩ := trodVars_none hV
  have hlt := trodAll_lt hAll
  obtain ⟨A, n, c, l, rfl, hc, hC, ho⟩ := C_came Try.underlying23 Try.underlying3 (by kernel_rfl) (hval 0 23 v0 rfl rfl) h0
  obtain ⟨B, m, d, q, rfl, hd, hD, hq⟩ := rawsS_came (hval 1 24 v1 rfl rfl) h1
  obtain ⟨x, A0, k0, A2, k2, rfl, hk0, hK0, hk2, hK2, hx⟩ := raw_came (hval 2 48 v2 rfl rfl) h2
  clear hA0 hval0 hsz0 hsz
  refine (add_calls A n c l B m d q A0 k0 A2 k2 x W hC hc (fun x hx => in64_wf (ho x hx)) hD hd hq hK0 hk0 hK2 hk2 hx).mono fun e W' ⟨he, bel⟩ => ?_
  subst he
  exact ⟨_, rfl, _, _, _, [], _, [], hW', trodAll_mk1 (shut_bool Try.underlying4 _), below_trodAll laidOut bel (by kernel_rfl) hAll hlt, rfl, bel.frame _, fun h => by cases h⟩
theorem bisectAdd_over : Rows.bisectAddRow.holds Try.pinned (OpenSpec.ofChange Rows.bisectAddSpec) :=
  OpenClaim.holds_of_wide 6 Try.f6 rfl rfl rfl rfl rfl rfl rfl ⟨rfl, rfl, rfl, rfl, rfl⟩ rfl rfl rfl rfl rfl (by kernel_rfl) Try.func6 (by kernel_rfl)
    (of_decide_eq_true (by kernel_rfl)) (by unfold Func.isWrapper; first | (rw [if_pos (by decide +kernel)]; kernel_rfl) | (rw [if_neg (by decide +kernel)]; exact ⟨rfl, rfl⟩))
    (fun os started H enc _ => bisectAdd_lifted os started H enc)
theorem bisectAdd_holds : Rows.BisectAddSaid := bisectAdd_over
#print axioms bisectAdd_holds
end Go.Proofs.Ytnfglkgkdechlaa
