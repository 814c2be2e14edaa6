
/- The library's Insert of one mark (chapter 13). -/
import Derived.Test.YtppcojfgpjnagaaSeenIns
set_option linter.unusedVariables false
set_option linter.unusedSimpArgs false
namespace Go.Proofs.Ytppcojfgpjnagaa
open Go.RowKit Go.Proofs.YtppcojfgpjnagaaW.PrintWords Go.Proofs.YtppcojfgpjnagaaW.PrintLast Go.Proofs.YtppcojfgpjnagaaW.PrintMore
open Go.Proofs.Ytppcojfgpjnagaa.PQ Go.Lib

set_option maxRecDepth 100000 in
set_option maxHeartbeats 4000000 in
theorem Insert_end (v : Value) (l : List Mk) (m : Mk) (vb base : Nat) (W : World) (hR : kM.R 25 W base (fun _ => True) v l) (hb : base ≤ W.heap.size) (hvb : Box W vb #[.int .i64 m.f0, .int .i64 m.f1, .int .i64 m.f2] 25) (hl : l.length ≤ 1000000) :
    Calls Try.prog 27 #[v, .int .i64 (l.length : Nat), .slice (some ⟨vb, 0, none⟩) 1 1] W fun r w' => ∃ v', r = .returned v' ∧ kM.R 25 w' base (fun _ => True) v' (l ++ [m]) ∧ Below base W w' := by
  obtain ⟨A, c, rfl, hc, _⟩ := Kd.R_reads hR
  have HC := Aside0.mk (show kM.C W (some ⟨vb, 0, none⟩) 1 [m] from by
    refine ⟨rfl, by omega, fun _ => ⟨_, rfl, fun j p hj => ?_⟩⟩
    have hj0 : j = 0 := by
      rcases Nat.eq_zero_or_pos j with h | h
      · exact h
      · rw [List.getElem?_eq_none (by simp; omega)] at hj
        cases hj
    subst hj0
    obtain rfl : m = p := by simpa using hj
    refine ⟨cellM m, rfl, k25_mk _ _, fun i u hu => ?_⟩
    have h2 := hvb.cell i
    rw [show ((⟨vb, 0, none⟩ : Addr).add (0 * kM.sz + i)) = ⟨vb, i, none⟩ by rw [Nat.zero_mul, Nat.zero_add]; unfold Addr.add; split <;> simp_all, h2]
    unfold cellM at hu
    simpa using hu)
  have HO := Aside0.mk hR
  have HB := Aside0.mk (Below.refl base W)
  have hn0 : ((l.length : Int) == (l.length : Int)) = true := by simp
  clear hR hvb
  go_enter Try.func27, Try.ntmps27
  go_upto_region 7 with (fail)
  go_wp2_with ((with_reducible refine gate_builtin (b := .append) (xs := #[.tmp 23, .tmp 24]) rfl ?_); at_builtin; refine Kd.R_append_rows (kM) (w0 := W) base rfl (.tmp 23) (.tmp 24) 22 25 (.agg #[.int .i64 0, .int .i64 0, .int .i64 0]) 24 rfl Try.underlying22 info25 rfl (by decide) (by omega) _ (l) ([m]) (some ⟨vb, 0, none⟩) (1) (1) (fun _ => True) (fun _ => False) rfl rfl ?aO HC.out ?aK (fun _ hk => hk.elim) ?aF ?aB ?aS ?aL ?_; (case aK => exact (fun x cs h => kM_of_K x cs h)); (case aB => exact (by repeat (first | exact HB.out | apply below_alloc | apply pw_below_drewN | apply below_drew1 | refine below_set ?_ (by first | omega | (simp; omega))))); (case aF => exact (fun _ _ => trivial)); (case aO => exact (HO.out)); (case aS => exact hb); (case aL => first | omega | (simp; omega)); intro v1 w1 ho_ hb_ hg_ hat_; skip; clear HB; clear HO; have HB := Aside0.mk hb_; have HO := Aside0.mk ho_; clear ho_ hb_ hg_ hat_; )
  all_goals (go_ret; exact ⟨_, rfl, HO.out, HB.out⟩)
theorem shape_of {w : World} {b : Nat} {cs : Array Value} {t : TypeId} {fr : Nat × Nat} (h : w.heap[b]? = some (.cells cs t fr)) : w.shape? b = some (t, cs.size) := by
  unfold World.shape?
  rw [h]
set_option maxRecDepth 100000 in
set_option maxHeartbeats 8000000 in
theorem Insert_room (g cap : Nat) (cur : Array Value) (l : List Mk) (i : Nat) (m : Mk) (vb base : Nat) (W : World) (hg : W.heap[g]? = some (.cells cur 25 (0, 0))) (hcs : cur.size = cap * 3) (hct : cur.toList.take (l.length * 3) = cellsM l) (hgb : base ≤ g) (hcm : cap ≤ maxLen)
    (hvb : Box W vb #[.int .i64 m.f0, .int .i64 m.f1, .int .i64 m.f2] 25) (hne : vb ≠ g) (hi : i < l.length) (hroom : l.length + 1 ≤ cap) :
    Calls Try.prog 27 #[.slice (some ⟨g, 0, none⟩) l.length cap, .int .i64 i, .slice (some ⟨vb, 0, none⟩) 1 1] W fun r w' => ∃ v', r = .returned v' ∧ kM.R 25 w' base (fun _ => True) v' (insAt l i m) ∧ Below base W w' := by
  unfold maxLen at hcm
  have hcl := cellsM_len l
  have hov : ∀ lb cb, (callFunc 35 #[.slice (some ⟨vb, 0, none⟩) 1 1, .slice (some ⟨g, (i + 1) * 3, none⟩) lb cb]).run Try.prog W = .ok (.value (.bool false)) W := fun lb cb => by
    rw [run_callFunc_extern Try.func35 (by kernel_rfl) (by kernel_rfl) (by kernel_rfl) (e := Extern.SlicesOverlaps.overlaps #[22, 22] #[4]) (by kernel_rfl),
      Lib.run_overlaps_apart W 22 4 25 Try.underlying22 3 (fun w => by kernel_rfl) ⟨vb, 0, none⟩ ⟨g, (i + 1) * 3, none⟩ 1 1 lb cb hne _ _ _ _ (shape_of hvb) (shape_of hg) (by omega) (hvb.frozen 0) (hvb.frozen _)]
    rfl
  have hw1 : IntKind.i64.wrap ((i : Int) + 1) = (i : Int) + 1 := by rw [IntKind.wrap_i64]; omega
  have htn : ((i : Int) + 1).toNat = i + 1 := by omega
  have hb0 : (0 : Int) ≤ (i : Int) + 1 := by omega
  have hb1 : (i : Int) + 1 ≤ (l.length : Int) + 1 := by omega
  have hb2 : ¬ (cap = i + 1) := by omega
  have hb4 : ¬ (cap = i) := by omega
  have hne2 : ((i : Int) == (l.length : Int)) = false := by rw [beq_eq_false_iff_ne]; omega
  have hCd : ((cellsM l).drop (i * 3)).length = (l.length - i) * 3 := by rw [List.length_drop, hcl]; omega
  have hcell : ∀ (w : World), w.heap[g]? = some (.cells cur 25 (0, 0)) → ∀ j u, ((cellsM l).drop (i * 3))[j]? = some u → w.cell? ((⟨g, i * 3, none⟩ : Addr).add j) = some u := by
    intro w hw j u hu
    rw [Addr.add_lit]
    rw [List.getElem?_drop, ← hct, List.getElem?_take] at hu
    split at hu
    · unfold World.cell?
      rw [hw]
      simpa using hu
    · cases hu
  have hinfo : (Try.prog.info? 25).map (·.size) = some 3 := by kernel_rfl
  have hcl2 : cur.toList.length = cap * 3 := by rw [Array.length_toList]; exact hcs
  obtain ⟨L1, hL1⟩ : ∃ L1, L1 = cur.toList.take ((i + 1) * 3) ++ (cellsM l).drop (i * 3) ++ cur.toList.drop ((i + 1) * 3 + ((cellsM l).drop (i * 3)).length) := ⟨_, rfl⟩
  have hl1 : L1.length = cap * 3 := by
    rw [hL1]
    simp only [List.length_append, List.length_take, List.length_drop, hcl2, hcl]
    omega
  have hcp1 : ∀ ty dc sc, (Builtin.copy_ #[22, 22] ty #[.slice (some ⟨g, (i + 1) * 3, none⟩) (l.length - i) dc, .slice (some ⟨g, i * 3, none⟩) (l.length + 1 - i) sc]).run Try.prog W.drew = .ok (goInt (Nat.min (l.length + 1 - i) (l.length - i))) (W.drew.setRow g L1.toArray) := fun ty dc sc => by
    rw [hL1]
    exact run_copy_rowK W.drew _ _ ty 25 g ((i + 1) * 3) (l.length - i) dc ⟨g, i * 3, none⟩ (l.length + 1 - i) sc 3 cur _ _ Try.underlying22 hinfo hg (by rw [hCd]; congr 1; simp only [Nat.min_def]; split <;> omega) (hcell _ hg) (by rw [hCd, hcs]; omega) (fun u hu => cellsM_one l u (List.mem_of_mem_drop hu))
  obtain ⟨L2, hL2⟩ : ∃ L2, L2 = L1.take (i * 3) ++ cellM m ++ L1.drop (i * 3 + (cellM m).length) := ⟨_, rfl⟩
  have hcp2 : ∀ (w : World), w.heap[g]? = some (.cells L1.toArray 25 (0, 0)) → (∀ j, w.cell? ⟨vb, j, none⟩ = W.cell? ⟨vb, j, none⟩) → ∀ ty dc, (Builtin.copy_ #[22, 22] ty #[.slice (some ⟨g, i * 3, none⟩) (l.length + 1 - i) dc, .slice (some ⟨vb, 0, none⟩) 1 1]).run Try.prog w = .ok (goInt (Nat.min 1 (l.length + 1 - i))) (w.setRow g L2.toArray) := fun w hw hv ty dc => by
    rw [hL2]
    exact run_copy_rowK w _ _ ty 25 g (i * 3) (l.length + 1 - i) dc ⟨vb, 0, none⟩ 1 1 3 L1.toArray _ _ Try.underlying22 hinfo hw (by simp only [Nat.min_def]; split <;> first | rfl | omega) (fun j u hu => by
      rw [Addr.add_lit, Nat.zero_add, hv, hvb.cell]
      unfold cellM at hu
      simpa using hu) (by simp [cellM]; omega) (fun u hu => cellsM_one [m] u (by simpa [cellsM] using hu))
  have hfin : L2.take ((l.length + 1) * 3) = cellsM (insAt l i m) := by
    rw [insAt_cells l i m (by omega), hL2, hL1]
    have e := insert_cells cur.toList (cellsM l) (cellM m) (i * 3) 3 ((l.length - i) * 3) (by rw [← hct]; congr 1; omega) (by rw [hcl]; omega) rfl (by rw [hcl2]; omega) (by rw [hcl2]; omega)
    rw [show (i + 1) * 3 = i * 3 + 3 by omega, show (l.length + 1) * 3 = i * 3 + 3 + (l.length - i) * 3 by omega]
    exact e
  have hl2 : L2.length = cap * 3 := by
    rw [hL2, List.length_append, List.length_append, List.length_take, List.length_drop, hl1]
    simp [cellM]
    omega
  have hil := insAt_len l i m (by omega)
  have HFIN := Aside0.mk (And.intro hfin (And.intro hl2 hil))
  have HG := Aside0.mk (And.intro hg hvb)
  clear hL1 hL2 hcell hCd hct hl1 hcl hinfo hfin hl2 hil hg hvb hcs
  obtain ⟨W1, hW1⟩ : ∃ W1, W1 = W.drew.setRow g L1.toArray := ⟨_, rfl⟩
  rw [← hW1] at hcp1
  have hg1 : W1.heap[g]? = some (.cells L1.toArray 25 (0, 0)) := by rw [hW1]; exact setRow_heap _ _ _ _ _ _ HG.out.1
  have hv1 : ∀ j, W1.cell? ⟨vb, j, none⟩ = W.cell? ⟨vb, j, none⟩ := fun j => by
    rw [hW1]
    unfold World.cell?
    rw [setRow_other _ _ _ _ hne]
    rfl
  have hc2 := hcp2 W1 hg1 hv1
  have HW1 := Aside0.mk (And.intro hW1 hg1)
  clear hcp2 hg1 hv1 hW1
  have mixed : Try.prog.follows Departure.mixedOrders = true := by kernel_rfl
  have hin : i ≤ l.length := by omega
  have hb5 : (i : Int) ≤ (l.length : Int) + 1 := by omega
  clear hcl2
  generalize hn : l.length = n at *
  have HN := Aside0.mk hn
  clear hn
  go_enter Try.func27, Try.ntmps27
  go_upto_region 15 with (simp only [hov])
  go_region_law_o (refine step_copy_runI rfl _ _ 22 22 rfl _ _ (by simp [Act.eval, Act.put]) (by simp [Act.eval, Act.put]) (hcp1 _ _ _) ?_)
  go_wp2_with (at_builtin; refine wpList_copy_runI _ rfl _ _ 22 22 rfl _ _ rfl rfl (hc2 _ _) ?_)
  go_ret
  obtain ⟨hfin, hl2, hil⟩ := HFIN.out
  obtain ⟨hW1, hg1⟩ := HW1.out
  refine ⟨_, rfl, R_of_own ⟨cellsM_len _, .inr ⟨g, cap, L2.toArray, ?_, hgb, setRow_heap _ _ _ _ _ _ hg1, ?_, ?_, ?_, ?_⟩⟩, ?_⟩
  · rw [hil]
    rfl
  · rw [hil]; omega
  · unfold maxLen; omega
  · simpa using hl2
  · rw [hil]
    exact hfin
  · rw [hW1]
    exact below_setRow (below_setRow (below_drew1 (Below.refl base W)) hgb _) hgb _
end Go.Proofs.Ytppcojfgpjnagaa
