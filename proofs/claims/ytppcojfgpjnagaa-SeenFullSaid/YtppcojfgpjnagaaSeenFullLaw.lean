
/- SeenFull: for every input the call of the statement returns true and leaves its arguments as they were. Conditions: none beyond the row's own. -/
import Derived.Test.YtppcojfgpjnagaaSeenOpen
import Derived.Test.YtppcojfgpjnagaaSeenAwakeF
import Derived.Test.YtppcojfgpjnagaaQmootbelllaw13SeenFull
set_option linter.unusedVariables false
set_option linter.unusedSimpArgs false
namespace Go.Proofs.Ytppcojfgpjnagaa
open Go.RowKit Go.Proofs.YtppcojfgpjnagaaW.PrintWords Go.Proofs.YtppcojfgpjnagaaW.PrintLast Go.Proofs.YtppcojfgpjnagaaW.PrintMore
open Go.ChangeShapes Go.WideShapes Go.ChangeAt
open Go.ChangeMaps (open_string shut_string)
open Go.Proofs.Ytppcojfgpjnagaa.PQ

theorem full_f (raw : List Rw) (x y z room : Int) (ho : OkR raw) (hl : raw.length ≤ 9223372036854775807) (hx : In64 x) (hy : In64 y) (hz : In64 z) (hm : In64 room) : mootbelllaw13_SeenFull.f 100 raw x y z room = some true := by
  obtain ⟨L, e1, hr, hL⟩ := marks_f raw ho hl 100 (by omega)
  have hp := pickZ_lt room 5 (by omega)
  have hmay := mark_may x y z
  have ha : ∀ r, seen_Add.f L r (markM x y z).f0 (markM x y z).f1 (markM x y z).f2 = some (addM L r (markM x y z)) := fun r => sadd_f (by omega) r _
  have hh : seen_Has.f L (markM x y z).f0 (markM x y z).f1 (markM x y z).f2 = some (decide (markM x y z ∈ L)) := by rw [← has_of hr]; exact shas_f (by omega) _
  unfold mootbelllaw13_SeenFull.f
  rw [awake_f 100 (by omega), Option.bind_some, e1, Option.bind_some, mark_f x y z hx hy hz, Option.bind_some, pick_f room 5 hm (by omega), Option.bind_some, w64 (x := (L.length : Int) - pickZ room 5) (by unfold In64; omega), ha, Option.bind_some, Option.bind_some, w64 (x := (L.length : Int) + 1) (by unfold In64; omega), w64 (x := (L.length : Int) + 1 + pickZ room 5) (by unfold In64; omega), ha, Option.bind_some, hh, Option.bind_some]
  by_cases h : markM x y z ∈ L
  · rw [decide_eq_true h, if_pos rfl, if_pos rfl, add_twice hr hmay h, add_twice hr hmay h]
    rfl
  · rw [decide_eq_false h, if_neg (by decide), if_pos rfl, add_full hr hmay h (by omega), add_ok hr hmay h (by omega), if_pos rfl, if_pos (by rfl), if_pos rfl, insAt_len L _ _ (posM_le L _)]
    congr 1
    rw [beq_iff_eq]
    omega
theorem full_calls (A : Option Addr) (n c : Nat) (l : List Rw) (x y z room : Int) (W : World) (hc : n ≤ c) (hC : Kd.C k26 W A n l) (ho : OkR l) (hx : In64 x) (hy : In64 y) (hz : In64 z) (hm : In64 room) : Calls Try.prog 7 #[.slice A n c, .agg #[.int .i64 x, .int .i64 y, .int .i64 z], .int .i64 room] W fun e W' => e = .returned (.bool true) ∧ Below W.heap.size W W' := by
  obtain rfl := Kd.C_len hC
  exact mootbelllaw13_SeenFull.calls 100 A c l x y z room true W hC hc (full_f l x y z room ho (Kd.C_max hC) hx hy hz hm) rfl
set_option maxRecDepth 100000 in
theorem seenFull_lifted (os : Os) (started : os.Started) (H : Type) (enc : TypeId × Value → H) :
    ReturnsInHanded {} Try.checked os 7 .any (Rows.seenFullSpec.pre6 enc Try.prog Try.f7 Rows.seenFullRow.domain false) (Rows.seenFullSpec.post enc Try.prog Try.f7 false true false false) := by
  refine returnsInHanded_of_change_sized (C := Try.checked) own started (by kernel_rfl) Try.func7
    (ChangeSpec.witness6 (enc := enc) (C := Try.checked) false ⟨#[], #[.slice none 0 0, .agg #[.int .i64 0, .int .i64 0, .int .i64 0], .int .i64 0], []⟩ 8 (by kernel_rfl) (by kernel_rfl) (by kernel_rfl) (by kernel_rfl)) ?_
  intro W base args ds gs before hval0 hW hcnd hsz0 _
  have hsz : (DataW.weightsEach Try.prog (Try.f7.params.toList ++ Rows.seenFullSpec.plain.varTypes Try.prog) (ds ++ gs)).all (· ≤ reachBytes) = true := hsz0
  have hval : ∀ (j : Nat) t v, Try.f7.params[j]? = some t → args[j]? = some v → Value.okWide Try.prog W .any base t v := hval0
  have hW' := hW
  obtain ⟨p, q, hA0, hV, rfl, hfz, hnd⟩ := hW
  have hA : DataW.TrodAll enc Try.prog W 0 (fun _ => true) true Try.f7.params.toList args.toList ds p := hA0
  have hAll := hA
  rw [Try.params7] at hA hval hsz
  obtain ⟨v0, vs0, d0, ds0, p0, q0, hargs, rfl, rfl, h0, r0⟩ := trodAll_cons hA
  obtain ⟨v1, vs1, d1, ds1, p1, q1, rfl, rfl, rfl, h1, r1⟩ := trodAll_cons r0
  obtain ⟨v2, vs2, d2, ds2, p2, q2, rfl, rfl, rfl, h2, r2⟩ := trodAll_cons r1
  obtain ⟨rfl, rfl, rfl⟩ := trodAll_nil r2
  obtain rfl : args = #[v0, v1, v2] := by cases args; simp_all
  obtain ⟨rfl, rfl⟩ := trodVars_none hV
  have hlt := trodAll_lt hAll
  obtain ⟨A, n, c, l, rfl, hc, hC, ho⟩ := raws_came (hval 0 23 v0 rfl rfl) h0
  obtain ⟨x, y, z, rfl, hx, hy, hz⟩ := three_came Try.underlying3 (by kernel_rfl) (by kernel_rfl) (by kernel_rfl) (hval 1 26 v1 rfl rfl)
  obtain ⟨r, rfl, rfl, rfl, w2⟩ := open_int Try.underlying3 (hval 2 3 v2 rfl rfl) h2
  clear hA0 hval0 hsz0 hsz
  refine (full_calls A n c l x y z r W hc hC ho hx hy hz (bounds_i64 w2)).mono fun e W' ⟨he, bel⟩ => ?_
  subst he
  exact ⟨_, rfl, _, _, _, [], _, [], hW', trodAll_mk1 (shut_bool Try.underlying4 _), below_trodAll laidOut bel (by kernel_rfl) hAll hlt, rfl, bel.frame _, fun h => by cases h⟩
theorem seenFull_over : Rows.seenFullRow.holds Try.pinned (OpenSpec.ofChange Rows.seenFullSpec) :=
  OpenClaim.holds_of_wide 7 Try.f7 rfl rfl rfl rfl rfl rfl rfl ⟨rfl, rfl, rfl, rfl, rfl⟩ rfl rfl rfl rfl rfl (by kernel_rfl) Try.func7 (by kernel_rfl)
    (of_decide_eq_true (by kernel_rfl)) (by unfold Func.isWrapper; first | (rw [if_pos (by decide +kernel)]; kernel_rfl) | (rw [if_neg (by decide +kernel)]; exact ⟨rfl, rfl⟩))
    (fun os started H enc _ => seenFull_lifted os started H enc)
theorem seenFull_holds : Rows.SeenFullSaid := seenFull_over
#print axioms seenFull_holds
end Go.Proofs.Ytppcojfgpjnagaa
