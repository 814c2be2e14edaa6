
/- The library's Clone and Insert at marks (chapter 13). -/
import Derived.Test.YtppcojfgpjnagaaSeenWalk4
import Derived.Test.YtppcojfgpjnagaaRowCopy
set_option linter.unusedVariables false
set_option linter.unusedSimpArgs false
namespace Go.Proofs.Ytppcojfgpjnagaa
open Go.RowKit Go.Proofs.YtppcojfgpjnagaaW.PrintWords Go.Proofs.YtppcojfgpjnagaaW.PrintLast Go.Proofs.YtppcojfgpjnagaaW.PrintMore
open Go.Proofs.Ytppcojfgpjnagaa.PQ Go.Lib

theorem R_made {α : Type} (d : Kd α) (e : TypeId) (w : World) (ok : Nat → Prop) (hok : ok w.heap.size) : d.R e (w.alloc (.cells #[] e)) w.heap.size ok (.slice (some ⟨w.heap.size, 0, none⟩) 0 0) [] :=
  ⟨fun k hk => by simp [Value.ownBlock] at hk; subst hk; exact hok, [], World.ownsRow_made w #[] 0 (Nat.le_refl _) (Nat.zero_le _) (by simp), Reps.none _ _⟩
theorem kM_of_K {w : World} {base : Nat} {ok : Nat → Prop} (x : Mk) (cs : List Value) (h : kM.K w x cs) : kM.M w base ok x cs := by
  rw [k25_open h]
  exact k25_mkM _ _ _ _
set_option maxHeartbeats 2000000 in
theorem CloneM_calls (A : Option Addr) (n c : Nat) (l : List Mk) (w : World) (hr : kM.C w A n l) (hl : n ≤ 1000000) : Calls Try.prog 28 #[.slice A n c] w fun r w' => ∃ v, r = .returned v ∧ kM.R 25 w' w.heap.size (fun _ => True) v l ∧ Below w.heap.size w w' := by
  have q22 : ∀ (w : World) (a : Option Addr) (n c n' c' : Nat), (binOp .eql 22 (.slice a n c) (.slice none n' c')).run Try.prog w = .ok (.bool a.isNone) w := fun w a n c n' c' => Lib.run_eql_slice_nil w _ _ a n c n' c' Try.underlying22
  have HC := Aside0.mk hr
  have HB := Aside0.mk (Below.refl w.heap.size w)
  cases A with
  | none =>
    have hl0 : l = [] := by
      rcases Nat.eq_zero_or_pos n with h0 | h0
      · exact List.eq_nil_of_length_eq_zero (by rw [Kd.C_len hr]; exact h0)
      · obtain ⟨ad, e, _⟩ := hr.2.2 h0
        cases e
    clear hr
    go_enter Try.func28, Try.ntmps28
    go_wp2
    go_ret
    exact ⟨_, rfl, by rw [hl0]; exact Kd.R_nil _ _ _ _ _, HB.out⟩
  | some ad =>
    have HC := Aside0.mk (C_alloc (o := .cells #[] 25) hr)
    clear hr
    go_enter Try.func28, Try.ntmps28
    have HO := Aside0.mk (R_made kM 25 w (fun _ => True) trivial)
    go_wp2_with ((with_reducible refine gate_builtin (b := .append) (xs := #[.tmp 5, .tmp 6]) rfl ?_); at_builtin; refine Kd.R_append_rows (kM) (w0 := w) w.heap.size rfl (.tmp 5) (.tmp 6) 22 25 (.agg #[.int .i64 0, .int .i64 0, .int .i64 0]) 24 rfl Try.underlying22 info25 rfl (by decide) (by omega) _ ([]) (l) (some ad) (n) (c) (fun _ => True) (fun _ => False) rfl rfl ?aO HC.out ?aK (fun _ hk => hk.elim) ?aF ?aB ?aS ?aL ?_; (case aK => exact (fun x cs h => kM_of_K x cs h)); (case aB => exact (by repeat (first | exact HB.out | apply below_alloc | apply pw_below_drewN | apply below_drew1 | refine below_set ?_ (by first | omega | (simp; omega))))); (case aF => exact (fun _ _ => trivial)); (case aO => exact (HO.out)); (case aS => exact below_size (by repeat (first | exact HB.out | apply below_alloc | apply pw_below_drewN | apply below_drew1 | refine below_set ?_ (by first | omega | (simp; omega))))); (case aL => first | omega | (simp; omega)); intro v1 w1 ho_ hb_ hg_ hat_; skip; clear HB; clear HO; have HB := Aside0.mk hb_; have HO := Aside0.mk ho_; clear ho_ hb_ hg_ hat_; )
    go_ret
    exact ⟨_, rfl, HO.out, HB.out⟩
/-- A row's cells. -/
def cellM (x : Mk) : List Value := [.int .i64 x.f0, .int .i64 x.f1, .int .i64 x.f2]
def cellsM (l : List Mk) : List Value := l.flatMap cellM
theorem cellsM_len (l : List Mk) : (cellsM l).length = l.length * 3 := by
  induction l with
  | nil => rfl
  | cons x l ih =>
    show (cellM x ++ cellsM l).length = _
    rw [List.length_append, ih, List.length_cons]
    simp [cellM]
    omega
theorem cellsM_append (a b : List Mk) : cellsM (a ++ b) = cellsM a ++ cellsM b := by unfold cellsM; rw [List.flatMap_append]
theorem cellsM_take (l : List Mk) (i : Nat) (h : i ≤ l.length) : (cellsM l).take (i * 3) = cellsM (l.take i) ∧ (cellsM l).drop (i * 3) = cellsM (l.drop i) := by
  have e : cellsM l = cellsM (l.take i) ++ cellsM (l.drop i) := by rw [← cellsM_append, List.take_append_drop]
  have hl : (cellsM (l.take i)).length = i * 3 := by rw [cellsM_len, List.length_take]; omega
  rw [e]
  exact ⟨List.take_left' hl, List.drop_left' hl⟩
theorem cellsM_one (l : List Mk) : ∀ u ∈ cellsM l, u.oneCell' = true := by
  intro u hu
  obtain ⟨x, _, hx⟩ := List.mem_flatMap.1 hu
  unfold cellM at hx
  simp only [List.mem_cons, List.not_mem_nil, or_false] at hx
  rcases hx with rfl | rfl | rfl <;> rfl
theorem reps_cells (w : World) (base : Nat) (ok : Nat → Prop) (l : List Mk) : Reps (kM.M w base ok) 3 l (cellsM l) := by
  refine ⟨by rw [cellsM_len], fun j p hj => ?_⟩
  obtain ⟨hjl, rfl⟩ := List.getElem?_eq_some_iff.1 hj
  rw [(cellsM_take l j (by omega)).2, List.drop_eq_getElem_cons hjl]
  show kM.M w base ok l[j] ((cellM l[j] ++ cellsM _).take 3)
  rw [List.take_left' (by rfl)]
  exact k25_mkM _ _ _ _
theorem reps_eq {w : World} {base : Nat} {ok : Nat → Prop} : ∀ {l : List Mk} {cs : List Value}, Reps (kM.M w base ok) 3 l cs → cs = cellsM l := by
  intro l cs h
  obtain ⟨h1, h2⟩ := h
  apply List.ext_getElem (by rw [cellsM_len]; exact h1)
  intro k hk hk2
  have hkl : k / 3 < l.length := by omega
  have e1 := k25_openM (h2 (k / 3) _ (List.getElem?_eq_getElem hkl))
  have e2 := k25_openM ((reps_cells w base ok l).2 (k / 3) _ (List.getElem?_eq_getElem hkl))
  have e3 : ((cs.drop (k / 3 * 3)).take 3)[k % 3]? = (((cellsM l).drop (k / 3 * 3)).take 3)[k % 3]? := by rw [e1, e2]
  rw [List.getElem?_take, List.getElem?_take, if_pos (by omega), if_pos (by omega), List.getElem?_drop, List.getElem?_drop, show k / 3 * 3 + k % 3 = k by omega, List.getElem?_eq_getElem hk, List.getElem?_eq_getElem hk2] at e3
  exact Option.some.inj e3
theorem R_of_own {w : World} {base : Nat} {v : Value} {l : List Mk} (h : w.ownsRow base 25 3 v l.length (cellsM l)) : kM.R 25 w base (fun _ => True) v l :=
  ⟨fun _ _ => trivial, cellsM l, h, reps_cells _ _ _ _⟩
theorem own_of_R {w : World} {base : Nat} {ok : Nat → Prop} {v : Value} {l : List Mk} (h : kM.R 25 w base ok v l) : w.ownsRow base 25 3 v l.length (cellsM l) := by
  obtain ⟨_, inner, ho, hr⟩ := h
  rw [← reps_eq hr]
  exact ho
/-- A list with one more. -/
def insAt (l : List Mk) (i : Nat) (m : Mk) : List Mk := l.take i ++ m :: l.drop i
theorem insAt_cells (l : List Mk) (i : Nat) (m : Mk) (h : i ≤ l.length) : cellsM (insAt l i m) = (cellsM l).take (i * 3) ++ cellM m ++ (cellsM l).drop (i * 3) := by
  unfold insAt
  rw [(cellsM_take l i h).1, (cellsM_take l i h).2, cellsM_append, List.append_assoc]
  rfl
theorem insAt_len (l : List Mk) (i : Nat) (m : Mk) (h : i ≤ l.length) : (insAt l i m).length = l.length + 1 := by
  unfold insAt
  rw [List.length_append, List.length_take, List.length_cons, List.length_drop]
  omega
end Go.Proofs.Ytppcojfgpjnagaa
