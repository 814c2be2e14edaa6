
/- Marks, in plain Lean: what is added, who is there, and the numbers that are drawn (chapter 13). -/
import Derived.Test.YtppcojfgpjnagaaSeenQ
import Derived.Test.YtppcojfgpjnagaaQmootbelllaw13Marks
set_option linter.unusedVariables false
set_option linter.unusedSimpArgs false
namespace Go.Proofs.Ytppcojfgpjnagaa
open Go.RowKit Go.Proofs.YtppcojfgpjnagaaW.PrintWords Go.Proofs.YtppcojfgpjnagaaW.PrintLast Go.Proofs.YtppcojfgpjnagaaW.PrintMore
open Go.Proofs.Ytppcojfgpjnagaa.PQ

def In64 (c : Int) : Prop := -9223372036854775808 ≤ c ∧ c ≤ 9223372036854775807
def pickZ (c n : Int) : Int := Int.tmod (if c < 0 then -(c + 1) else c) n
theorem w64 {x : Int} (h : In64 x) : wrap64 x = x := by
  rw [← i64_w]
  exact IntWalk.i64_in _ h
theorem pick_f (c n : Int) (hc : In64 c) (hn : 0 < n) : mootbelllaw13_pick.f c n = some (pickZ c n) := by
  unfold mootbelllaw13_pick.f pickZ
  unfold In64 at hc
  by_cases h : c < 0
  · rw [if_pos h, if_neg (by omega), if_pos h, w64 (x := c + 1) (by unfold In64; omega), w64 (x := -(c + 1)) (by unfold In64; omega)]
  · rw [if_neg h, if_neg (by omega), if_neg h]
theorem pickZ_lt (c n : Int) (hn : 0 < n) : 0 ≤ pickZ c n ∧ pickZ c n < n := by
  unfold pickZ
  have h0 : 0 ≤ (if c < 0 then -(c + 1) else c) := by split <;> omega
  rw [Int.tmod_eq_emod_of_nonneg h0]
  exact ⟨Int.emod_nonneg _ (by omega), Int.emod_lt_of_pos _ hn⟩
def markM (a b c : Int) : Mk := ⟨pickZ a 5, pickZ b 3, pickZ c 6⟩
theorem mark_f (a b c : Int) (ha : In64 a) (hb : In64 b) (hc : In64 c) : mootbelllaw13_Mark.f a b c = some ((markM a b c).f0, (markM a b c).f1, (markM a b c).f2) := by
  unfold mootbelllaw13_Mark.f
  rw [pick_f a 5 ha (by omega), Option.bind_some, pick_f b 3 hb (by omega), Option.bind_some, pick_f c 6 hc (by omega), Option.bind_some]
  rfl
theorem mark_may (a b c : Int) : mayM (markM a b c) = true := by
  unfold mayM markM
  exact decide_eq_true ⟨(pickZ_lt a 5 (by omega)).1, (pickZ_lt b 3 (by omega)).1, (pickZ_lt c 6 (by omega)).1⟩
/-! what is added -/
theorem right_nil : rightM [] = true := rfl
theorem insAt_mem (l : List Mk) (i : Nat) (m x : Mk) : x ∈ insAt l i m ↔ x = m ∨ x ∈ l := by
  unfold insAt
  conv => rhs; rw [← List.take_append_drop i l]
  simp only [List.mem_append, List.mem_cons]
  constructor
  · rintro (h | h | h)
    · exact .inr (.inl h)
    · exact .inl h
    · exact .inr (.inr h)
  · rintro (h | h | h)
    · exact .inr (.inl h)
    · exact .inl h
    · exact .inr (.inr h)
theorem insAt_right (l : List Mk) (m : Mk) (hr : rightM l = true) (hm : mayM m = true) (hn : m ∉ l) : rightM (insAt l (posM l m) m) = true := by
  rw [rightM_iff] at hr ⊢
  obtain ⟨h1, h2⟩ := hr
  refine ⟨fun x hx => ?_, ?_⟩
  · rcases (insAt_mem l _ m x).1 hx with rfl | h
    · exact hm
    · exact h1 x h
  · have hp := posM_le l m
    have hT : ∀ a ∈ l.take (posM l m), ltM a m = true := by
      intro a ha
      obtain ⟨j, hj, rfl⟩ := List.getElem_of_mem ha
      rw [List.length_take] at hj
      have := posM_lt l m j (by omega)
      rw [rdM_eq (by omega)] at this
      rw [List.getElem_take]
      exact this
    have hD : ∀ a ∈ l.drop (posM l m), ltM m a = true := by
      intro a ha
      obtain ⟨j, hj, rfl⟩ := List.getElem_of_mem ha
      rw [List.length_drop] at hj
      rw [List.getElem_drop]
      have hat := posM_at l m (by omega)
      rw [rdM_eq (by omega)] at hat
      have h0 : ltM m l[posM l m] = true := by
        cases hc : ltM m l[posM l m] with
        | true => rfl
        | false => exact absurd (ltM_tri _ _ hat hc ▸ List.getElem_mem _) hn
      cases j with
      | zero => exact h0
      | succ j => exact ltM_trans h0 ((List.pairwise_iff_getElem.1 h2) (posM l m) (posM l m + (j + 1)) (by omega) (by omega) (by omega))
    unfold insAt
    rw [List.pairwise_append]
    refine ⟨h2.sublist (List.take_sublist _ _), List.pairwise_cons.2 ⟨hD, h2.sublist (List.drop_sublist _ _)⟩, fun a ha b hb => ?_⟩
    rcases List.mem_cons.1 hb with rfl | hb
    · exact hT a ha
    · exact ltM_trans (hT a ha) (hD b hb)
theorem add_twice {l : List Mk} {room : Int} {m : Mk} (hr : rightM l = true) (hm : mayM m = true) (h : m ∈ l) : addM l room m = ([], 7) := by
  unfold addM
  rw [if_pos ⟨hr, hm⟩, if_pos h]
theorem add_full {l : List Mk} {room : Int} {m : Mk} (hr : rightM l = true) (hm : mayM m = true) (h : m ∉ l) (hf : room ≤ (l.length : Int)) : addM l room m = ([], 5) := by
  unfold addM
  rw [if_pos ⟨hr, hm⟩, if_neg h, if_pos hf]
theorem add_ok {l : List Mk} {room : Int} {m : Mk} (hr : rightM l = true) (hm : mayM m = true) (h : m ∉ l) (hf : (l.length : Int) < room) : addM l room m = (insAt l (posM l m) m, 0) := by
  unfold addM
  rw [if_pos ⟨hr, hm⟩, if_neg h, if_neg (by omega)]
/-- A list after one more mark, if it was told OK. -/
def nextM (l : List Mk) (room : Int) (m : Mk) : List Mk := if (addM l room m).2 = 0 then (addM l room m).1 else l
theorem next_spec {l : List Mk} {room : Int} {m : Mk} (hr : rightM l = true) (hm : mayM m = true) (hf : (l.length : Int) < room) : rightM (nextM l room m) = true ∧ (nextM l room m).length ≤ l.length + 1 ∧ ∀ x, x ∈ nextM l room m ↔ x = m ∨ x ∈ l := by
  unfold nextM
  by_cases h : m ∈ l
  · rw [add_twice hr hm h, if_neg (by decide)]
    exact ⟨hr, by omega, fun x => ⟨.inr, fun g => g.elim (fun e => e ▸ h) id⟩⟩
  · rw [add_ok hr hm h hf, if_pos rfl]
    exact ⟨insAt_right l m hr hm h, by rw [insAt_len l _ m (posM_le l m)]; omega, insAt_mem l _ m⟩
theorem right_ext : ∀ (a b : List Mk), rightM a = true → rightM b = true → (∀ x, x ∈ a ↔ x ∈ b) → a = b := by
  intro a b ha hb
  replace ha := ((rightM_iff a).1 ha).2
  replace hb := ((rightM_iff b).1 hb).2
  induction a generalizing b with
  | nil =>
    intro h
    cases b with
    | nil => rfl
    | cons y b => exact absurd ((h y).2 (List.mem_cons_self ..)) (by simp)
  | cons x a ih =>
    intro h
    cases b with
    | nil => exact absurd ((h x).1 (List.mem_cons_self ..)) (by simp)
    | cons y b =>
      rw [List.pairwise_cons] at ha hb
      have e : x = y := by
        rcases List.mem_cons.1 ((h x).1 (List.mem_cons_self ..)) with e | hx
        · exact e
        · rcases List.mem_cons.1 ((h y).2 (List.mem_cons_self ..)) with e | hy
          · exact e.symm
          · have h1 := ltM_asymm (hb.1 x hx)
            rw [ha.1 y hy] at h1
            cases h1
      subst e
      rw [ih b ha.2 hb.2 (fun z => ?_)]
      constructor
      · intro hz
        rcases List.mem_cons.1 ((h z).1 (List.mem_cons_of_mem _ hz)) with rfl | hz'
        · have h1 := ha.1 _ hz
          rw [ltM_irr] at h1
          cases h1
        · exact hz'
      · intro hz
        rcases List.mem_cons.1 ((h z).2 (List.mem_cons_of_mem _ hz)) with rfl | hz'
        · have h1 := hb.1 _ hz
          rw [ltM_irr] at h1
          cases h1
        · exact hz'
/-! raw marks -/
abbrev Rw := S26
abbrev rdR (l : List Rw) (i : Int) : Rw := rd_T26 l i
def OkR (l : List Rw) : Prop := ∀ x ∈ l, In64 x.f0 ∧ In64 x.f1 ∧ In64 x.f2
theorem rdR_eq {l : List Rw} {i : Nat} (h : i < l.length) : rdR l (i : Int) = l[i] := by
  unfold rdR rd_T26
  rw [Int.toNat_natCast, List.getD_eq_getElem?_getD, List.getElem?_eq_getElem h]
  rfl
theorem OkR.rd {l : List Rw} (h : OkR l) {i : Nat} (hi : i < l.length) : In64 (rdR l i).f0 ∧ In64 (rdR l i).f1 ∧ In64 (rdR l i).f2 := by
  rw [rdR_eq hi]
  exact h _ (List.getElem_mem _)
def rawM (x : Rw) : Mk := markM x.f0 x.f1 x.f2
theorem marks_l0 (raw : List Rw) (ho : OkR raw) (hl : raw.length ≤ 9223372036854775807) (r i k : Nat) (L : List Mk) (hr : rightM L = true) (hL : L.length ≤ i) (hi : i + r = 40) (hk : 2 * r + 2 ≤ k) : ∃ M, mootbelllaw13_Marks.l0 k raw L (i : Int) = some M ∧ rightM M = true ∧ M.length ≤ 40 := by
  induction r generalizing i k L with
  | zero =>
    obtain ⟨k, rfl⟩ : ∃ k', k = k' + 2 := ⟨k - 2, by omega⟩
    refine ⟨L, ?_, hr, by omega⟩
    rw [mootbelllaw13_Marks.l0, decide_eq_false (by omega)]
    simp [mootbelllaw13_Marks.j1]
  | succ r ih =>
    obtain ⟨k, rfl⟩ : ∃ k', k = k' + 2 := ⟨k - 2, by omega⟩
    by_cases hin : i < raw.length
    · have hrd := ho.rd hin
      have hs := next_spec (room := 100) hr (mark_may (rdR raw i).f0 (rdR raw i).f1 (rdR raw i).f2) (by omega)
      have ha : mootbellref13_Add.f L 100 (markM (rdR raw i).f0 (rdR raw i).f1 (rdR raw i).f2).f0 (markM (rdR raw i).f0 (rdR raw i).f1 (rdR raw i).f2).f1 (markM (rdR raw i).f0 (rdR raw i).f1 (rdR raw i).f2).f2 = some (addM L 100 (markM (rdR raw i).f0 (rdR raw i).f1 (rdR raw i).f2)) := by
        unfold mootbellref13_Add.f
        rw [if_pos (by omega)]
      rw [mootbelllaw13_Marks.l0, if_pos (by omega), decide_eq_true (show (i : Int) < 40 by omega), mootbelllaw13_Marks.j1, if_pos rfl, if_pos (by omega), if_pos (by omega), mark_f _ _ _ hrd.1 hrd.2.1 hrd.2.2, Option.bind_some, ha, Option.bind_some, i64_next (n := 40) (by omega) (by omega)]
      have e : (if (addM L 100 (markM (rdR raw i).f0 (rdR raw i).f1 (rdR raw i).f2)).2 = 0 then mootbelllaw13_Marks.l0 k raw (addM L 100 (markM (rdR raw i).f0 (rdR raw i).f1 (rdR raw i).f2)).1 ((i + 1 : Nat) : Int) else mootbelllaw13_Marks.l0 k raw L ((i + 1 : Nat) : Int)) = mootbelllaw13_Marks.l0 k raw (nextM L 100 (markM (rdR raw i).f0 (rdR raw i).f1 (rdR raw i).f2)) ((i + 1 : Nat) : Int) := by
        unfold nextM
        split <;> rfl
      rw [e]
      exact ih (i + 1) k _ hs.1 (by omega) (by omega) (by omega)
    · refine ⟨L, ?_, hr, by omega⟩
      rw [mootbelllaw13_Marks.l0, if_neg (by omega)]
      simp [mootbelllaw13_Marks.j1]
theorem marks_f (raw : List Rw) (ho : OkR raw) (hl : raw.length ≤ 9223372036854775807) (k : Nat) (hk : 100 ≤ k) : ∃ M, mootbelllaw13_Marks.f k raw = some M ∧ rightM M = true ∧ M.length ≤ 40 :=
  marks_l0 raw ho hl 40 0 k [] right_nil (by simp) (by omega) (by omega)
theorem sadd_f {l : List Mk} (h : l.length ≤ 1000) (room : Int) (m : Mk) : seen_Add.f l room m.f0 m.f1 m.f2 = some (addM l room m) := by
  unfold seen_Add.f
  rw [if_pos (by omega)]
theorem shas_f {l : List Mk} (h : l.length ≤ 1000) (m : Mk) : seen_Has.f l m.f0 m.f1 m.f2 = some (hasM l m) := by
  unfold seen_Has.f
  rw [if_pos (by omega)]
theorem sprune_f {l : List Mk} (h : l.length ≤ 1000) (e : Int) : seen_Prune.f l e = some (pruneM l e) := by
  unfold seen_Prune.f
  rw [if_pos (by omega)]
theorem sof_f {l : List Mk} (h : l.length ≤ 1000) (e g : Int) : seen_Of.f l e g = some (ofM l e g) := by
  unfold seen_Of.f
  rw [if_pos (by omega)]
theorem sright_f {l : List Mk} (h : l.length ≤ 1000) : seen_Right.f l = some (rightM l) := by
  unfold seen_Right.f
  rw [if_pos (by omega)]
theorem has_of {l : List Mk} (h : rightM l = true) (m : Mk) : hasM l m = decide (m ∈ l) := by
  unfold hasM
  rw [h, Bool.true_and]
end Go.Proofs.Ytppcojfgpjnagaa
