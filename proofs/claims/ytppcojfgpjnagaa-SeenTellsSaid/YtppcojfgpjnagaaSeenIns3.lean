
/- The library's Insert of one mark (chapter 13), where there is no room; all ways as one. -/
import Derived.Test.YtppcojfgpjnagaaSeenIns2
set_option linter.unusedVariables false
set_option linter.unusedSimpArgs false
namespace Go.Proofs.Ytppcojfgpjnagaa
open Go.RowKit Go.Proofs.YtppcojfgpjnagaaW.PrintWords Go.Proofs.YtppcojfgpjnagaaW.PrintLast Go.Proofs.YtppcojfgpjnagaaW.PrintMore
open Go.Proofs.Ytppcojfgpjnagaa.PQ Go.Lib

set_option maxRecDepth 100000 in
set_option maxHeartbeats 8000000 in
theorem Insert_grow (g cap : Nat) (cur : Array Value) (l : List Mk) (i : Nat) (m : Mk) (vb base : Nat) (W : World) (hg : W.heap[g]? = some (.cells cur 25 (0, 0))) (hct : cur.toList.take (l.length * 3) = cellsM l) (hgb : base ≤ g)
    (hvb : Box W vb #[.int .i64 m.f0, .int .i64 m.f1, .int .i64 m.f2] 25) (hi : i < l.length) (hlc : l.length ≤ cap) (hroom : cap < l.length + 1) (hl : l.length ≤ 1000000) :
    Calls Try.prog 27 #[.slice (some ⟨g, 0, none⟩) l.length cap, .int .i64 i, .slice (some ⟨vb, 0, none⟩) 1 1] W fun r w' => ∃ v', r = .returned v' ∧ kM.R 25 w' base (fun _ => True) v' (insAt l i m) ∧ Below base W w' := by
  have hcl := cellsM_len l
  obtain ⟨i0, hi0, hzz⟩ := Option.map_eq_some_iff.1 info25
  simp only [Prod.mk.injEq] at hzz
  obtain ⟨hz0, hzs, hzb⟩ := hzz
  have hinfo : (Try.prog.info? 25).map (·.size) = some 3 := by kernel_rfl
  have hgw : g < W.heap.size := by
    rcases Nat.lt_or_ge g W.heap.size with h1 | h1
    · exact h1
    · rw [Array.getElem?_eq_none h1] at hg
      cases hg
  have hvw := hvb.lt
  have hCd : ((cellsM l).drop (i * 3)).length = (l.length - i) * 3 := by rw [List.length_drop, hcl]; omega
  have hcell : ∀ (w : World) (a : Nat), w.heap[g]? = some (.cells cur 25 (0, 0)) → ∀ j u, ((cellsM l).drop a)[j]? = some u → w.cell? ((⟨g, a, none⟩ : Addr).add j) = some u := by
    intro w a hw j u hu
    rw [Addr.add_lit]
    rw [List.getElem?_drop, ← hct, List.getElem?_take] at hu
    split at hu
    · unfold World.cell?
      rw [hw]
      simpa using hu
    · cases hu
  have hold : (Builtin.firstCells i0.size i (.slice (some ⟨g, 0, none⟩) i cap)).run Try.prog W.drew = .ok ((cellsM l).take (i * 3)).toArray W.drew := by
    rw [hzs]
    refine run_firstCells_some W.drew 3 i ⟨g, 0, none⟩ i cap _ (by rw [List.length_take, hcl]; omega) (fun j u hu => ?_)
    rw [List.getElem?_take] at hu
    split at hu
    · have := hcell W.drew 0 hg j u (by rw [List.drop_zero]; exact hu)
      exact this
    · cases hu
  have hrz : ∀ ty, (Builtin.append_ #[22, 3] ty #[.slice (some ⟨g, 0, none⟩) i cap, .int .i64 ((l.length : Int) + 1 - (i : Int))]).run Try.prog W =
      .ok (.slice (some ⟨W.heap.size, 0, none⟩) (l.length + 1) (grownCap W (l.length + 1) cap 25)) (W.drew.alloc (.cells (((cellsM l).take (i * 3)).toArray ++ Builtin.zeroCells (Value.agg #[.int .i64 0, .int .i64 0, .int .i64 0]).cells (l.length + 1 - i) ++ Builtin.zeroCells (Value.agg #[.int .i64 0, .int .i64 0, .int .i64 0]).cells (grownCap W (l.length + 1) cap 25 - (l.length + 1))) 25)) := fun ty => by
    have hik : i + (l.length + 1 - i) = l.length + 1 := by omega
    have h := Lib.run_append_grow_zeros W 22 3 ty 25 i0 _ .i64 .i64 Try.underlying22 Try.underlying3 hi0 hz0 (some ⟨g, 0, none⟩) i cap _ hold (l.length + 1 - i) (by omega) (by omega) (by omega) (by omega) (by rw [hzb]; omega) (by rw [hzb, hik]; exact growslice_fits hroom (by omega))
    rw [hik] at h
    rw [show (l.length : Int) + 1 - (i : Int) = ((l.length + 1 - i : Nat) : Int) by omega]
    exact h
  obtain ⟨G, hG⟩ : ∃ G, G = grownCap W (l.length + 1) cap 25 := ⟨_, rfl⟩
  have hGn : l.length + 1 ≤ G := by rw [hG]; exact grownCap_ge W _ _ _
  have hGm : G ≤ maxLen := by rw [hG]; exact grownCap_le_maxLen W (l.length + 1) cap _ (by unfold maxLen; omega)
  obtain ⟨ROW, hROW⟩ : ∃ ROW : Array Value, ROW = ((cellsM l).take (i * 3)).toArray ++ Builtin.zeroCells (Value.agg #[.int .i64 0, .int .i64 0, .int .i64 0]).cells (l.length + 1 - i) ++ Builtin.zeroCells (Value.agg #[.int .i64 0, .int .i64 0, .int .i64 0]).cells (G - (l.length + 1)) := ⟨_, rfl⟩
  rw [← hG, ← hROW] at hrz
  have hRl : ROW.toList.length = G * 3 := by
    rw [hROW]
    simp [Builtin.zeroCells, Value.cells, hcl]
    omega
  have hRt : ROW.toList.take (i * 3) = (cellsM l).take (i * 3) := by
    rw [hROW]
    simp only [Array.toList_append, List.append_assoc]
    exact List.take_left' (by rw [List.length_take, hcl]; omega)
  obtain ⟨N, hN⟩ : ∃ N, W.heap.size = N := ⟨_, rfl⟩
  obtain ⟨L1, hL1⟩ : ∃ L1, L1 = ROW.toList.take (i * 3) ++ cellM m ++ ROW.toList.drop (i * 3 + (cellM m).length) := ⟨_, rfl⟩
  have hl1 : L1.length = G * 3 := by
    rw [hL1]
    simp only [List.length_append, List.length_take, List.length_drop, hRl]
    simp [cellM]
    omega
  obtain ⟨L2, hL2⟩ : ∃ L2, L2 = L1.take ((i + 1) * 3) ++ (cellsM l).drop (i * 3) ++ L1.drop ((i + 1) * 3 + ((cellsM l).drop (i * 3)).length) := ⟨_, rfl⟩
  have hl2 : L2.length = G * 3 := by
    rw [hL2]
    simp only [List.length_append, List.length_take, List.length_drop, hl1, hcl]
    omega
  have hcpA : ∀ (w : World), w.heap[N]? = some (.cells ROW 25 (0, 0)) → w.heap[vb]? = W.heap[vb]? → ∀ ty dc, (Builtin.copy_ #[22, 22] ty #[.slice (some ⟨N, i * 3, none⟩) (l.length + 1 - i) dc, .slice (some ⟨vb, 0, none⟩) 1 1]).run Try.prog w = .ok (goInt (Nat.min 1 (l.length + 1 - i))) (w.setRow N L1.toArray) := fun w hw hv ty dc => by
    rw [hL1]
    exact run_copy_rowK w _ _ ty 25 N (i * 3) (l.length + 1 - i) dc ⟨vb, 0, none⟩ 1 1 3 ROW _ _ Try.underlying22 hinfo hw (by simp only [Nat.min_def]; split <;> first | rfl | omega) (fun j u hu => by
      have hc := hvb.cell j
      rw [Addr.add_lit, Nat.zero_add]
      unfold World.cell? at hc ⊢
      rw [hv, hc]
      unfold cellM at hu
      simpa using hu) (by rw [← Array.length_toList, hRl]; simp [cellM]; omega) (fun u hu => cellsM_one [m] u (by simpa [cellsM] using hu))
  have hcpB : ∀ (w : World), w.heap[N]? = some (.cells L1.toArray 25 (0, 0)) → w.heap[g]? = some (.cells cur 25 (0, 0)) → ∀ ty dc sc, (Builtin.copy_ #[22, 22] ty #[.slice (some ⟨N, (i + 1) * 3, none⟩) (l.length - i) dc, .slice (some ⟨g, i * 3, none⟩) (l.length - i) sc]).run Try.prog w = .ok (goInt (Nat.min (l.length - i) (l.length - i))) (w.setRow N L2.toArray) := fun w hw hv ty dc sc => by
    rw [hL2]
    exact run_copy_rowK w _ _ ty 25 N ((i + 1) * 3) (l.length - i) dc ⟨g, i * 3, none⟩ (l.length - i) sc 3 L1.toArray _ _ Try.underlying22 hinfo hw (by rw [hCd]; congr 1; exact (Nat.min_self _).symm) (hcell _ _ hv) (by rw [hCd, List.size_toArray, hl1]; omega) (fun u hu => cellsM_one l u (List.mem_of_mem_drop hu))
  have hfin : L2.take ((l.length + 1) * 3) = cellsM (insAt l i m) := by
    rw [insAt_cells l i m (by omega), hL2, hL1]
    have e := grown_cells ROW.toList (cellsM l) (cellM m) (i * 3) 3 ((l.length - i) * 3) hRt (by rw [hcl]; omega) rfl (by rw [hRl]; omega)
    rw [show (i + 1) * 3 = i * 3 + 3 by omega, show (l.length + 1) * 3 = i * 3 + 3 + (l.length - i) * 3 by omega]
    exact e
  have hil := insAt_len l i m (by omega)
  rw [hN] at hrz hgw hvw
  have HN := Aside0.mk hN
  have HFIN := Aside0.mk (And.intro hfin (And.intro hl2 hil))
  have HG := Aside0.mk hg
  have hNv : vb ≠ N := by omega
  have hNg : g ≠ N := by omega
  have hA1 : (W.drew.alloc (.cells ROW 25)).heap[N]? = some (.cells ROW 25 (0, 0)) := by rw [← hN]; exact heap_alloc_new (W := W.drew)
  have hA2 : ∀ k, k < N → (W.drew.alloc (.cells ROW 25)).heap[k]? = W.heap[k]? := fun k hk => heap_alloc_old (W := W.drew) (by rw [← hN] at hk; exact hk)
  obtain ⟨W1, hW1⟩ : ∃ W1, W1 = W.drew.alloc (.cells ROW 25) := ⟨_, rfl⟩
  rw [← hW1] at hrz hA1 hA2
  have hcA := hcpA W1 hA1 (hA2 vb hvw)
  have hB1 : (W1.setRow N L1.toArray).heap[N]? = some (.cells L1.toArray 25 (0, 0)) := setRow_heap _ _ _ _ _ _ hA1
  have hB2 : (W1.setRow N L1.toArray).heap[g]? = some (.cells cur 25 (0, 0)) := by rw [setRow_other _ _ _ _ hNg, hA2 g hgw]; exact hg
  obtain ⟨W2, hW2⟩ : ∃ W2, W2 = W1.setRow N L1.toArray := ⟨_, rfl⟩
  rw [← hW2] at hcA hB1 hB2
  have hcB := hcpB W2.drew hB1 hB2
  have HW := Aside0.mk (And.intro hW1 (And.intro hW2 hB1))
  clear hcpA hcpB hcell hold hcl hCd hRl hRt hROW hL1 hL2 hl1 hl2 hfin hil hct hvb hA1 hA2 hB1 hB2 hW1 hW2 hg hinfo hi0 hz0 hzs hzb
  have hw1 : IntKind.i64.wrap ((i : Int) + 1) = (i : Int) + 1 := by rw [IntKind.wrap_i64]; omega
  have htn : ((i : Int) + 1).toNat = i + 1 := by omega
  have hb0 : (0 : Int) ≤ (i : Int) + 1 := by omega
  have hb1 : (i : Int) + 1 ≤ (l.length : Int) + 1 := by omega
  have hne2 : ((i : Int) == (l.length : Int)) = false := by rw [beq_eq_false_iff_ne]; omega
  have mixed : Try.prog.follows Departure.mixedOrders = true := by kernel_rfl
  have hin : i ≤ l.length := by omega
  have hb3 : (i : Int) ≤ (l.length : Int) := by omega
  have hGi : ¬ (G = i) := by omega
  have hGim : ¬ (G = i + 1) := by omega
  have hci : ¬ (cap = i) := by omega
  have hrm : (cap : Int) < (l.length : Int) + 1 := by omega
  have HGM := Aside0.mk (And.intro hGn hGm)
  have hG63 : G ≤ 9223372036854775807 := by unfold maxLen at hGm; omega
  clear hGm hG
  generalize hn : l.length = n at *
  have HN2 := Aside0.mk hn
  clear hn
  go_enter Try.func27, Try.ntmps27
  go_upto_region 11 with (first
    | (at_builtin; refine Lib.wpList_append_run _ rfl _ _ _ _ rfl _ _ rfl rfl _ _ (hrz _) ?_)
    | (at_builtin; refine wpList_copy_runI _ rfl _ _ 22 22 rfl _ _ rfl rfl (hcA _ _) ?_))
  go_region_law_o (refine step_copy_runI rfl _ _ 22 22 rfl (.slice (some ⟨N, (i + 1) * 3, none⟩) (n - i) (G - (i + 1))) (.slice (some ⟨g, i * 3, none⟩) (n - i) (cap - i)) (by simp [Act.eval, Act.put]) (by simp [Act.eval, Act.put]) (hcB _ _ _) ?_)
  go_wp2
  go_ret
  obtain ⟨hfin, hl2, hil⟩ := HFIN.out
  obtain ⟨hW1, hW2, hB1⟩ := HW.out
  obtain ⟨hGn, hGm⟩ := HGM.out
  have hNb : base ≤ N := by omega
  refine ⟨_, rfl, R_of_own ⟨cellsM_len _, .inr ⟨N, G, L2.toArray, ?_, hNb, setRow_heap _ _ _ _ _ _ hB1, ?_, hGm, ?_, ?_⟩⟩, ?_⟩
  · rw [hil]
    rfl
  · rw [hil]; omega
  · simpa using hl2
  · rw [hil]
    exact hfin
  · rw [hW2, hW1]
    have hb0 : base ≤ W.heap.size := by rw [HN.out]; exact hNb
    have h1 : Below base W (W.drew.alloc (.cells ROW 25)) := (below_drew1 (Below.refl base W)).trans ((Below.refl base W.drew).alloc hb0 _)
    exact below_setRow (below_drew1 (below_setRow h1 hNb _)) hNb _
/-- All ways. -/
theorem Insert_calls (v : Value) (l : List Mk) (i : Nat) (m : Mk) (vb base : Nat) (W : World) (hR : kM.R 25 W base (fun _ => True) v l) (hb : base ≤ W.heap.size) (hvb : Box W vb #[.int .i64 m.f0, .int .i64 m.f1, .int .i64 m.f2] 25) (hvn : v.ownBlock ≠ some vb) (hi : i ≤ l.length) (hl : l.length ≤ 1000000) :
    Calls Try.prog 27 #[v, .int .i64 i, .slice (some ⟨vb, 0, none⟩) 1 1] W fun r w' => ∃ v', r = .returned v' ∧ kM.R 25 w' base (fun _ => True) v' (insAt l i m) ∧ Below base W w' := by
  rcases Nat.lt_or_ge i l.length with h | h
  · obtain ⟨h1, h2 | ⟨g, cap, cur, rfl, hgb, hg, hnc, hcm, hcs, hct⟩⟩ := own_of_R hR
    · omega
    · rcases Nat.lt_or_ge cap (l.length + 1) with hr | hr
      · exact Insert_grow g cap cur l i m vb base W hg hct hgb hvb h hnc hr hl
      · exact Insert_room g cap cur l i m vb base W hg hcs hct hgb hcm hvb (fun e => hvn (by rw [e]; rfl)) h hr
  · obtain rfl : i = l.length := by omega
    have e := Insert_end v l m vb base W hR hb hvb hl
    unfold insAt
    rw [List.take_length, List.drop_length]
    exact e
end Go.Proofs.Ytppcojfgpjnagaa
