
/- SeenPrune: for every input the call of the statement returns true and leaves its arguments as they were. Conditions: none beyond the row's own. -/
import Derived.Test.YtppcojfgpjnagaaSeenOpen
import Derived.Test.YtppcojfgpjnagaaSeenAwakeF
import Derived.Test.YtppcojfgpjnagaaQmootbelllaw13SeenPrune
set_option linter.unusedVariables false
set_option linter.unusedSimpArgs false
namespace Go.Proofs.Ytppcojfgpjnagaa
open Go.RowKit Go.Proofs.YtppcojfgpjnagaaW.PrintWords Go.Proofs.YtppcojfgpjnagaaW.PrintLast Go.Proofs.YtppcojfgpjnagaaW.PrintMore
open Go.ChangeShapes Go.WideShapes Go.ChangeAt
open Go.ChangeMaps (open_string shut_string)
open Go.Proofs.Ytppcojfgpjnagaa.PQ

theorem prune_right {L : List Mk} (h : rightM L = true) (e : Int) : rightM (pruneM L e) = true ∧ (pruneM L e).length ≤ L.length ∧ ∀ x, x ∈ pruneM L e ↔ x ∈ L ∧ e ≤ x.f0 := by
  unfold pruneM
  rw [if_pos h]
  rw [rightM_iff] at h
  refine ⟨(rightM_iff _).2 ⟨fun x hx => h.1 x (List.mem_filter.1 hx).1, h.2.sublist List.filter_sublist⟩, List.length_filter_le _ _, fun x => ?_⟩
  rw [List.mem_filter, decide_eq_true_iff]
theorem of_mem {L : List Mk} (hr : rightM L = true) (e h q : Int) : q ∈ ofM L e h ↔ (⟨e, h, q⟩ : Mk) ∈ L := by
  unfold ofM
  rw [if_pos hr, List.mem_map]
  constructor
  · rintro ⟨x, hx, rfl⟩
    obtain ⟨h1, h2⟩ := List.mem_filter.1 hx
    obtain ⟨rfl, rfl⟩ := of_decide_eq_true h2
    exact h1
  · intro hx
    exact ⟨_, List.mem_filter.2 ⟨hx, by simp⟩, rfl⟩
theorem of_sorted {L : List Mk} (hr : rightM L = true) (e h : Int) : (ofM L e h).Pairwise (· < ·) := by
  unfold ofM
  rw [if_pos hr, List.pairwise_map]
  refine List.Pairwise.imp_of_mem ?_ (((rightM_iff L).1 hr).2.sublist List.filter_sublist)
  intro a b ha hb hab
  have h1 := of_decide_eq_true (List.mem_filter.1 ha).2
  have h2 := of_decide_eq_true (List.mem_filter.1 hb).2
  rw [ltM_iff] at hab
  omega
theorem of_len {L : List Mk} (e h : Int) : (ofM L e h).length ≤ L.length := by
  unfold ofM
  split
  · rw [List.length_map]
    exact List.length_filter_le _ _
  · simp
theorem rd_get {w : List Int} {i : Nat} (h : i < w.length) : rd w (i : Int) = w[i] := by
  simp [rd, h]
theorem prune_l0' (L : List Mk) (hr : rightM L = true) (hL : L.length ≤ 40) (e h f2 : Int) (w : List Int) (hw : w = ofM L e h) (r i k : Nat) (hi : i + r = w.length) (hk : r + 1 ≤ k) :
    mootbelllaw13_SeenPrune.l0 k true L w (decide (f2 ∈ w.take i)) (i : Int) e h f2 = some true := by
  have hlen : w.length ≤ 40 := by rw [hw]; exact Nat.le_trans (of_len e h) hL
  induction r generalizing i k with
  | zero =>
    obtain ⟨k, rfl⟩ : ∃ k', k = k' + 1 := ⟨k - 1, by omega⟩
    have hh : seen_Has.f L e h f2 = some (decide ((⟨e, h, f2⟩ : Mk) ∈ L)) := by rw [← has_of hr]; exact shas_f (by omega) ⟨e, h, f2⟩
    rw [mootbelllaw13_SeenPrune.l0, if_neg (by omega), if_pos rfl, hh, Option.bind_some, List.take_of_length_le (by omega)]
    congr 1
    rw [beq_iff_eq, decide_eq_decide, hw]
    exact of_mem hr e h f2
  | succ r ih =>
    obtain ⟨k, rfl⟩ : ∃ k', k = k' + 1 := ⟨k - 1, by omega⟩
    have hil : i < w.length := by omega
    have hh : seen_Has.f L e h (rd w (i : Int)) = some true := by
      have h1 : (⟨e, h, rd w (i : Int)⟩ : Mk) ∈ L := by
        rw [← of_mem hr, ← hw, rd_get hil]
        exact List.getElem_mem _
      have h2 := shas_f (l := L) (by omega) ⟨e, h, rd w (i : Int)⟩
      rw [has_of hr, decide_eq_true h1] at h2
      exact h2
    have eN : wrap64 ((i : Int) + 1) = ((i + 1 : Nat) : Int) := i64_next (n := 40) (by omega) (by omega)
    have step : (if decide (f2 ∈ w.take i) = true then mootbelllaw13_SeenPrune.l0 k true L w true ((i + 1 : Nat) : Int) e h f2 else mootbelllaw13_SeenPrune.l0 k true L w ((rd w (i : Int)) == f2) ((i + 1 : Nat) : Int) e h f2) = some true := by
      have e1 := ih (i + 1) k (by omega) (by omega)
      have e2 : w.take (i + 1) = w.take i ++ [w[i]] := by rw [List.take_add_one, List.getElem?_eq_getElem hil]; rfl
      rw [e2] at e1
      by_cases g : f2 ∈ w.take i
      · rw [decide_eq_true (List.mem_append_left _ g)] at e1
        rw [decide_eq_true g, if_pos rfl]
        exact e1
      · rw [decide_eq_false g, if_neg (by decide)]
        rw [← e1]
        congr 1
        rw [Bool.eq_iff_iff, beq_iff_eq, decide_eq_true_iff, rd_get hil, List.mem_append, List.mem_singleton]
        exact ⟨fun h => .inr h.symm, fun h => (h.resolve_left g).symm⟩
    rw [mootbelllaw13_SeenPrune.l0, if_pos (by omega)]
    by_cases h0 : 0 < i
    · have eP : wrap64 ((i : Int) - 1) = ((i - 1 : Nat) : Int) := by rw [w64 (x := (i : Int) - 1) (by unfold In64; omega)]; omega
      have hlt : rd w ((i - 1 : Nat) : Int) < rd w (i : Int) := by
        rw [rd_get hil, rd_get (by omega)]
        have hs := of_sorted hr e h
        rw [← hw] at hs
        exact (List.pairwise_iff_getElem.1 hs) (i - 1) i (by omega) hil (by omega)
      rw [if_pos (by omega), eP, if_pos (by omega), if_pos (by omega), if_pos (by omega), if_neg (by omega), hh, Option.bind_some, if_pos rfl, eN]
      exact step
    · rw [if_neg (by omega), if_pos (by omega), hh, Option.bind_some, if_pos rfl, eN]
      exact step
theorem prune_f' (raw : List Rw) (x y k0 k1 k2 : Int) (ho : OkR raw) (hl : raw.length ≤ 9223372036854775807) (hx : In64 x) (hy : In64 y) (h0 : In64 k0) (h1 : In64 k1) (h2 : In64 k2) : mootbelllaw13_SeenPrune.f 200 raw x y k0 k1 k2 = some true := by
  obtain ⟨L, e1, hr, hL⟩ := marks_f raw ho hl 200 (by omega)
  obtain ⟨m, hm⟩ : ∃ m, markM k0 k1 k2 = m := ⟨_, rfl⟩
  obtain ⟨a, ha⟩ : ∃ a, pickZ x 7 = a := ⟨_, rfl⟩
  obtain ⟨b, hb⟩ : ∃ b, pickZ y 7 = b := ⟨_, rfl⟩
  obtain ⟨p1, p2, p3⟩ := prune_right hr a
  obtain ⟨q1, q2, q3⟩ := prune_right p1 b
  obtain ⟨s1, s2, s3⟩ := prune_right hr (mx a b)
  have hpp : pruneM (pruneM L a) b = pruneM L (mx a b) := by
    refine right_ext _ _ q1 s1 fun z => ?_
    rw [q3, p3, s3]
    unfold mx
    split <;> constructor
    · rintro ⟨⟨u1, u2⟩, u3⟩; exact ⟨u1, by omega⟩
    · rintro ⟨u1, u2⟩; exact ⟨⟨u1, by omega⟩, by omega⟩
    · rintro ⟨⟨u1, u2⟩, u3⟩; exact ⟨u1, by omega⟩
    · rintro ⟨u1, u2⟩; exact ⟨⟨u1, by omega⟩, by omega⟩
  have hH : seen_Has.f L m.f0 m.f1 m.f2 = some (decide (m ∈ L)) := by rw [← has_of hr]; exact shas_f (by omega) m
  have hP : seen_Has.f (pruneM L a) m.f0 m.f1 m.f2 = some (decide (m ∈ L ∧ a ≤ m.f0)) := by
    have e := shas_f (l := pruneM L a) (by omega) m
    rw [has_of p1] at e
    rw [e]
    congr 1
    rw [decide_eq_decide]
    exact p3 m
  have hj : mootbelllaw13_SeenPrune.j0 200 true L (!true) m.f0 m.f1 m.f2 = some true := by
    have hl := prune_l0' L hr hL m.f0 m.f1 m.f2 _ rfl (ofM L m.f0 m.f1).length 0 199 (by omega) (by have := of_len (L := L) m.f0 m.f1; omega)
    rw [mootbelllaw13_SeenPrune.j0, if_neg (by decide), sof_f (by omega), Option.bind_some]
    simpa using hl
  have hmark : mootbelllaw13_Mark.f k0 k1 k2 = some (m.f0, m.f1, m.f2) := by rw [← hm]; exact mark_f k0 k1 k2 h0 h1 h2
  have hsame := same_f (pruneM L (mx a b)) (pruneM L (mx a b)) (by omega) 200 (by omega)
  rw [decide_eq_true rfl] at hsame
  unfold mootbelllaw13_SeenPrune.f
  rw [awake_f 200 (by omega), Option.bind_some, e1, Option.bind_some, pick_f x 7 hx (by omega), Option.bind_some, pick_f y 7 hy (by omega), Option.bind_some, hmark, Option.bind_some, ha, hb, sprune_f (by omega), Option.bind_some, hP, Option.bind_some, hH, Option.bind_some, sprune_f (by omega), sprune_f (by omega), hpp, Option.bind_some, Option.bind_some, hsame, Option.bind_some, if_pos rfl, sright_f (by omega), Option.bind_some, p1, hj]
  by_cases g : m ∈ L
  · rw [decide_eq_true g, if_pos rfl]
    rw [if_neg]
    simp [g]
  · rw [decide_eq_false g, if_neg (by decide)]
    rw [if_neg]
    simp [g]
theorem prune_calls' (A : Option Addr) (n c : Nat) (l : List Rw) (x y k0 k1 k2 : Int) (W : World) (hc : n ≤ c) (hC : Kd.C k26 W A n l) (ho : OkR l) (hx : In64 x) (hy : In64 y) (h0 : In64 k0) (h1 : In64 k1) (h2 : In64 k2) : Calls Try.prog 6 #[.slice A n c, .int .i64 x, .int .i64 y, .agg #[.int .i64 k0, .int .i64 k1, .int .i64 k2]] W fun e W' => e = .returned (.bool true) ∧ Below W.heap.size W W' := by
  obtain rfl := Kd.C_len hC
  exact mootbelllaw13_SeenPrune.calls 200 A c l x y k0 k1 k2 true W hC hc (prune_f' l x y k0 k1 k2 ho (Kd.C_max hC) hx hy h0 h1 h2) rfl
set_option maxRecDepth 100000 in
theorem seenPrune_lifted (os : Os) (started : os.Started) (H : Type) (enc : TypeId × Value → H) :
    ReturnsInHanded {} Try.checked os 6 .any (Rows.seenPruneSpec.pre6 enc Try.prog Try.f6 Rows.seenPruneRow.domain false) (Rows.seenPruneSpec.post enc Try.prog Try.f6 false true false false) := by
  refine returnsInHanded_of_change_sized (C := Try.checked) own started (by kernel_rfl) Try.func6
    (ChangeSpec.witness6 (enc := enc) (C := Try.checked) false ⟨#[], #[.slice none 0 0, .int .i64 0, .int .i64 0, .agg #[.int .i64 0, .int .i64 0, .int .i64 0]], []⟩ 8 (by kernel_rfl) (by kernel_rfl) (by kernel_rfl) (by kernel_rfl)) ?_
  intro W base args ds gs before hval0 hW hcnd hsz0 _
  have hsz : (DataW.weightsEach Try.prog (Try.f6.params.toList ++ Rows.seenPruneSpec.plain.varTypes Try.prog) (ds ++ gs)).all (· ≤ reachBytes) = true := hsz0
  have hval : ∀ (j : Nat) t v, Try.f6.params[j]? = some t → args[j]? = some v → Value.okWide Try.prog W .any base t v := hval0
  have hW' := hW
  obtain ⟨p, q, hA0, hV, rfl, hfz, hnd⟩ := hW
  have hA : DataW.TrodAll enc Try.prog W 0 (fun _ => true) true Try.f6.params.toList args.toList ds p := hA0
  have hAll := hA
  rw [Try.params6] at hA hval hsz
  obtain ⟨v0, vs0, d0, ds0, p0, q0, hargs, rfl, rfl, h0, r0⟩ := trodAll_cons hA
  obtain ⟨v1, vs1, d1, ds1, p1, q1, rfl, rfl, rfl, h1, r1⟩ := trodAll_cons r0
  obtain ⟨v2, vs2, d2, ds2, p2, q2, rfl, rfl, rfl, h2, r2⟩ := trodAll_cons r1
  obtain ⟨v3, vs3, d3, ds3, p3, q3, rfl, rfl, rfl, h3, r3⟩ := trodAll_cons r2
  obtain ⟨rfl, rfl, rfl⟩ := trodAll_nil r3
  obtain rfl : args = #[v0, v1, v2, v3] := by cases args; simp_all
  obtain ⟨rfl, rfl⟩ := trodVars_none hV
  have hlt := trodAll_lt hAll
  obtain ⟨A, n, c, l, rfl, hc, hC, ho⟩ := raws_came (hval 0 23 v0 rfl rfl) h0
  obtain ⟨x, rfl, rfl, rfl, w1⟩ := open_int Try.underlying3 (hval 1 3 v1 rfl rfl) h1
  obtain ⟨y, rfl, rfl, rfl, w2⟩ := open_int Try.underlying3 (hval 2 3 v2 rfl rfl) h2
  obtain ⟨k0, k1, k2, rfl, hk0, hk1, hk2⟩ := three_came Try.underlying3 (by kernel_rfl) (by kernel_rfl) (by kernel_rfl) (hval 3 26 v3 rfl rfl)
  clear hA0 hval0 hsz0 hsz
  refine (prune_calls' A n c l x y k0 k1 k2 W hc hC ho (bounds_i64 w1) (bounds_i64 w2) hk0 hk1 hk2).mono fun e W' ⟨he, bel⟩ => ?_
  subst he
  exact ⟨_, rfl, _, _, _, [], _, [], hW', trodAll_mk1 (shut_bool Try.underlying4 _), below_trodAll laidOut bel (by kernel_rfl) hAll hlt, rfl, bel.frame _, fun h => by cases h⟩
theorem seenPrune_over : Rows.seenPruneRow.holds Try.pinned (OpenSpec.ofChange Rows.seenPruneSpec) :=
  OpenClaim.holds_of_wide 6 Try.f6 rfl rfl rfl rfl rfl rfl rfl ⟨rfl, rfl, rfl, rfl, rfl⟩ rfl rfl rfl rfl rfl (by kernel_rfl) Try.func6 (by kernel_rfl)
    (of_decide_eq_true (by kernel_rfl)) (by unfold Func.isWrapper; first | (rw [if_pos (by decide +kernel)]; kernel_rfl) | (rw [if_neg (by decide +kernel)]; exact ⟨rfl, rfl⟩))
    (fun os started H enc _ => seenPrune_lifted os started H enc)
theorem seenPrune_holds : Rows.SeenPruneSaid := seenPrune_over
#print axioms seenPrune_holds
end Go.Proofs.Ytppcojfgpjnagaa
