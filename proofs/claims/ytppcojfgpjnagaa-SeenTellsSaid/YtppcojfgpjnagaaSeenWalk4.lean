
/- Whether a mark is there, in the program (chapter 13): Has; Prune, Of. -/
import Derived.Test.YtppcojfgpjnagaaSeenWalk3
set_option linter.unusedVariables false
set_option linter.unusedSimpArgs false
namespace Go.Proofs.Ytppcojfgpjnagaa
open Go.RowKit Go.Proofs.YtppcojfgpjnagaaW.PrintWords Go.Proofs.YtppcojfgpjnagaaW.PrintLast Go.Proofs.YtppcojfgpjnagaaW.PrintMore

open Go.Proofs.Ytppcojfgpjnagaa.PQ

theorem right_sorted {l : List Mk} (h : rightM l = true) : sortedM l := ((rightM_iff l).1 h).2
theorem SRight_v (A : Option Addr) (n c : Nat) (l : List Mk) (b : Bool) (w : World) (hr : kM.C w A n l) (h : rightM l = b) : Calls Try.prog 22 #[.slice A n c] w fun e w' => e = .returned (.bool b) ∧ Below w.heap.size w w' := h ▸ SRight_calls A n c l w hr
set_option maxHeartbeats 2000000 in
theorem SHas_calls (A : Option Addr) (n c : Nat) (l : List Mk) (m : Mk) (w : World) (hr : kM.C w A n l) : Calls Try.prog 15 #[.slice A n c, .agg #[.int .i64 m.f0, .int .i64 m.f1, .int .i64 m.f2]] w fun e w' => e = .returned (.bool (hasM l m)) ∧ Below w.heap.size w w' := by
  have HB := Aside0.mk (Below.refl w.heap.size w)
  have HC := Aside0.mk hr
  clear hr
  go_enter Try.func15, Try.ntmps15
  go_wp2_with fail
  refine (SearchM_calls A n c l m _ ?hC).mono ?_
  case hC => exact C_alloc HC.out
  rintro e w5 ⟨p, q, rfl, hq, hp, hb_⟩
  have YA : Box w5 (w.heap.size) _ _ := Box.below (by repeat (with_reducible first | exact XA.out | exact Box.new | exact Box.new1 | exact Box.new2 | exact Box.new3 | apply Box.alloc | apply Box.drew | apply Box.drewN | apply Box.set)) hb_
  (try clear XA rA kA fA); have XA := Aside0.mk YA; have rA := YA.cell; have fA := YA.frozen; have kA := YA.lt; clear YA
  have ZHC := Aside0.mk (Kd.C_below (by repeat (with_reducible first | exact HC.out | apply C_alloc | apply C_drew)) hb_); clear HC; have HC := ZHC; clear ZHC
  have n_ := Aside0.mk (below_step (by repeat (first | exact HB.out | apply below_alloc | apply pw_below_drewN | apply below_drew1 | refine below_set ?_ (by first | omega | (simp; omega)))) hb_); clear HB hb_; have HB := n_; clear n_
  have HQ := Aside0.mk hq
  clear hq
  rcases Bool.eq_false_or_eq_true (rightM l) with h | h
  · go_wp2_with fail
    refine (SRight_v A n c l true _ HC.out h).mono ?_
    rintro e w6 ⟨rfl, hb_⟩
    have n_ := Aside0.mk (below_step (by repeat (first | exact HB.out | apply below_alloc | apply pw_below_drewN | apply below_drew1 | refine below_set ?_ (by first | omega | (simp; omega)))) hb_); clear HB hb_; have HB := n_; clear n_
    go_wp2
    go_ret
    exact ⟨ret_bool (by unfold hasM; rw [h, (HQ.out (right_sorted h)).2]; simp), HB.out⟩
  · go_wp2_with fail
    refine (SRight_v A n c l false _ HC.out h).mono ?_
    rintro e w6 ⟨rfl, hb_⟩
    have n_ := Aside0.mk (below_step (by repeat (first | exact HB.out | apply below_alloc | apply pw_below_drewN | apply below_drew1 | refine below_set ?_ (by first | omega | (simp; omega)))) hb_); clear HB hb_; have HB := n_; clear n_
    go_wp2
    go_ret
    exact ⟨ret_bool (by unfold hasM; rw [h]; simp), HB.out⟩
theorem filter_take_succ (l : List Mk) (p : Mk → Bool) (i : Nat) (h : i < l.length) : (l.take (i + 1)).filter p = (l.take i).filter p ++ if p (rdM l i) = true then [rdM l i] else [] := by
  rw [List.take_succ_eq_append_getElem h, List.filter_append, ← rdM_eq h]
  congr 1
  rw [List.filter_cons]
  split <;> simp
set_option maxRecDepth 100000 in
set_option maxHeartbeats 4000000 in
theorem SPrune_calls (A : Option Addr) (n c : Nat) (l : List Mk) (e : Int) (w : World) (hr : kM.C w A n l) (hl : n ≤ 1000000) : Calls Try.prog 17 #[.slice A n c, .int .i64 e] w fun r w' => ∃ v, r = .returned v ∧ kM.R 25 w' w.heap.size (fun _ => True) v (pruneM l e) ∧ Below w.heap.size w w' := by
  have HN := Aside0.mk (show n = l.length from (Kd.C_len hr).symm)
  have HX := Aside0.mk hr
  clear hr
  have HB := Aside0.mk (Below.refl w.heap.size w)
  unfold pruneM
  rcases Bool.eq_false_or_eq_true (rightM l) with h | h
  · rw [if_pos h]
    have H := Aside0.mk h
    clear h
    go_enter Try.func17, Try.ntmps17
    go_wp2_with fail
    refine (SRight_v A n c l true _ HX.out H.out).mono ?_
    rintro e w5 ⟨rfl, hb_⟩
    have n_ := Aside0.mk (below_step (by repeat (first | exact HB.out | apply below_alloc | apply pw_below_drewN | apply below_drew1 | refine below_set ?_ (by first | omega | (simp; omega)))) hb_); clear HB hb_; have HB := n_; clear n_
    go_wp2
    go_loopw [12, 4] (fun iv ov wx => ∃ i : Nat, i ≤ n ∧ iv = .int .i64 i ∧ kM.R 25 wx w.heap.size (fun _ => True) ov ((l.take i).filter (fun x => decide (e ≤ x.f0))) ∧ Below w.heap.size w wx) (fun iv _ _ => n - (intOf iv).toNat)
    case atStart => exact ⟨0, by omega, rfl, by rw [List.take_zero]; exact Kd.R_nil _ _ _ _ _, HB.out⟩
    case round =>
      clear HB
      obtain ⟨i, hi, rfl, hro, hbx⟩ := hrel
      have HB := Aside0.mk hbx
      have HO := Aside0.mk hro
      clear hbx hro
      by_cases hlt : i < n
      · obtain ⟨ad, rfl, c0, c1, c2⟩ := at_T25 HX.out (i : Int) (by omega) (by omega)
        replace c0 := (HB.out.cell (cell_lt c0)).trans c0
        replace c1 := (HB.out.cell (cell_lt c1)).trans c1
        replace c2 := (HB.out.cell (cell_lt c2)).trans c2
        rw [Int.toNat_natCast] at c0 c1 c2
        have HF := Aside0.mk (filter_take_succ l (fun x => decide (e ≤ x.f0)) i (by rw [← HN.out]; exact hlt))
        obtain ⟨x, hx⟩ : ∃ x, rdM l i = x := ⟨_, rfl⟩
        rw [hx] at HF
        unfold rdM at hx
        rw [hx] at c0 c1 c2
        clear hx
        have hlo : ((l.take i).filter (fun x => decide (e ≤ x.f0))).length ≤ n := by
          have := List.length_filter_le (fun x : Mk => decide (e ≤ x.f0)) (l.take i)
          rw [List.length_take] at this
          omega
        generalize (l.take i).filter (fun x => decide (e ≤ x.f0)) = out at *
        go_upto_region 6 with (fail)
        generalize hV : wr.alloc (.cells _ _) = V
        have XM : Box V wr.heap.size #[.int .i64 x.f0, .int .i64 x.f1, .int .i64 x.f2] 25 := hV ▸ Box.new
        have HB2 := Aside0.mk (show Below w.heap.size w V from hV ▸ below_alloc HB.out _)
        have HO2 := Aside0.mk (show kM.R 25 V w.heap.size (fun _ => True) u4 out from hV ▸ Kd.R_alloc HO.out _)
        have rE := XM.cell
        have kE := XM.lt
        clear hV XM HB HO c0 c1 c2
        have HB := HB2
        have HO := HO2
        clear HB2 HO2
        by_cases hc : e ≤ x.f0
        · have hf := HF.out
          rw [if_pos (decide_eq_true hc)] at hf
          have HG := Aside0.mk hf
          clear HF hf
          go_wp2_with ((with_reducible refine gate_builtin (b := .append) (xs := #[.tmp 20, .tmp 22]) rfl ?_); at_builtin; refine Kd.R_append (kM) (w0 := w) w.heap.size rfl (.tmp 20) (.tmp 22) 22 25 (.agg #[.int .i64 0, .int .i64 0, .int .i64 0]) 24 rfl Try.underlying22 info25 rfl (by decide) (by omega) (_) (out) (x) [.int .i64 x.f0, .int .i64 x.f1, .int .i64 x.f2] (fun _ => True) (fun _ => False) rfl rfl ?aP (fun _ hk => hk.elim) ?aF ?aO ?aB ?aS ?aL ?_; (case aP => exact k25_mkM _ _ _ x); (case aB => exact (by repeat (first | exact HB.out | apply below_alloc | apply pw_below_drewN | apply below_drew1 | refine below_set ?_ (by first | omega | (simp; omega))))); (case aF => exact (fun _ _ => trivial)); (case aO => exact (by (with_reducible repeat (first | apply Kd.R_alloc | apply Kd.R_drewN | apply Kd.R_drew)); exact HO.out)); (case aS => exact below_size (by repeat (first | exact HB.out | apply below_alloc | apply pw_below_drewN | apply below_drew1 | refine below_set ?_ (by first | omega | (simp; omega))))); (case aL => first | omega | (simp; omega)); intro v1 w1 ho_ hb_ hg_ hat_; clear HB; clear HO; have HB := Aside0.mk hb_; have HO := Aside0.mk ho_; clear ho_ hb_ hg_ hat_; )
          go_roundw
          case rel => exact ⟨i + 1, by omega, by go_num, by rw [HG.out]; exact HO.out, HB.out⟩
          case measure => simp [intOf]; omega
        · have hf := HF.out
          rw [if_neg (by simpa using hc), List.append_nil] at hf
          have HG := Aside0.mk hf
          clear HF hf
          go_wp2
          go_roundw
          case rel => exact ⟨i + 1, by omega, by go_num, by rw [HG.out]; exact HO.out, HB.out⟩
          case measure => simp [intOf]; omega
      · have HT := Aside0.mk (show l.take i = l by rw [List.take_of_length_le (by rw [← HN.out]; omega)])
        go_wp2
        go_ret
        exact ⟨_, rfl, by rw [← HT.out]; exact HO.out, HB.out⟩
  · rw [if_neg (by simp [h])]
    have H := Aside0.mk h
    clear h
    go_enter Try.func17, Try.ntmps17
    go_wp2_with fail
    refine (SRight_v A n c l false _ HX.out H.out).mono ?_
    rintro e w5 ⟨rfl, hb_⟩
    have n_ := Aside0.mk (below_step (by repeat (first | exact HB.out | apply below_alloc | apply pw_below_drewN | apply below_drew1 | refine below_set ?_ (by first | omega | (simp; omega)))) hb_); clear HB hb_; have HB := n_; clear n_
    go_wp2
    go_ret
    exact ⟨_, rfl, Kd.R_nil _ _ _ _ _, HB.out⟩
set_option maxRecDepth 100000 in
set_option maxHeartbeats 4000000 in
theorem SOf_calls (A : Option Addr) (n c : Nat) (l : List Mk) (e h : Int) (w : World) (hr : kM.C w A n l) (hl : n ≤ 1000000) : Calls Try.prog 20 #[.slice A n c, .int .i64 e, .int .i64 h] w fun r w' => ∃ v, r = .returned v ∧ (Kd.int .i64).R 3 w' w.heap.size (fun _ => True) v (ofM l e h) ∧ Below w.heap.size w w' := by
  have HN := Aside0.mk (show n = l.length from (Kd.C_len hr).symm)
  have HX := Aside0.mk hr
  clear hr
  have HB := Aside0.mk (Below.refl w.heap.size w)
  unfold ofM
  rcases Bool.eq_false_or_eq_true (rightM l) with hh | hh
  · rw [if_pos hh]
    have H := Aside0.mk hh
    clear hh
    have heq := eqA25
    go_enter Try.func20, Try.ntmps20
    go_wp2_with fail
    refine (SRight_v A n c l true _ HX.out H.out).mono ?_
    rintro e w5 ⟨rfl, hb_⟩
    have n_ := Aside0.mk (below_step (by repeat (first | exact HB.out | apply below_alloc | apply pw_below_drewN | apply below_drew1 | refine below_set ?_ (by first | omega | (simp; omega)))) hb_); clear HB hb_; have HB := n_; clear n_
    go_wp2
    go_loopw [14, 6] (fun iv ov wx => ∃ i : Nat, i ≤ n ∧ iv = .int .i64 i ∧ (Kd.int .i64).R 3 wx w.heap.size (fun _ => True) ov (((l.take i).filter (fun x => decide (x.f0 = e ∧ x.f1 = h))).map (fun x => x.f2)) ∧ Below w.heap.size w wx) (fun iv _ _ => n - (intOf iv).toNat)
    case atStart => exact ⟨0, by omega, rfl, by rw [List.take_zero]; exact Kd.R_nil _ _ _ _ _, HB.out⟩
    case round =>
      clear HB
      obtain ⟨i, hi, rfl, hro, hbx⟩ := hrel
      have HB := Aside0.mk hbx
      have HO := Aside0.mk hro
      clear hbx hro
      by_cases hlt : i < n
      · obtain ⟨ad, rfl, c0, c1, c2⟩ := at_T25 HX.out (i : Int) (by omega) (by omega)
        replace c0 := (HB.out.cell (cell_lt c0)).trans c0
        replace c1 := (HB.out.cell (cell_lt c1)).trans c1
        replace c2 := (HB.out.cell (cell_lt c2)).trans c2
        rw [Int.toNat_natCast] at c0 c1 c2
        have HF := Aside0.mk (filter_take_succ l (fun x => decide (x.f0 = e ∧ x.f1 = h)) i (by rw [← HN.out]; exact hlt))
        obtain ⟨x, hx⟩ : ∃ x, rdM l i = x := ⟨_, rfl⟩
        rw [hx] at HF
        unfold rdM at hx
        rw [hx] at c0 c1 c2
        clear hx
        have hlo : (((l.take i).filter (fun x => decide (x.f0 = e ∧ x.f1 = h))).map (fun x => x.f2)).length ≤ n := by
          have := List.length_filter_le (fun x : Mk => decide (x.f0 = e ∧ x.f1 = h)) (l.take i)
          rw [List.length_take] at this
          rw [List.length_map]
          omega
        have HG0 := Aside0.mk (show ((l.take (i + 1)).filter (fun x => decide (x.f0 = e ∧ x.f1 = h))).map (fun x => x.f2) = ((l.take i).filter (fun x => decide (x.f0 = e ∧ x.f1 = h))).map (fun x => x.f2) ++ if x.f0 = e ∧ x.f1 = h then [x.f2] else [] by
          rw [HF.out, List.map_append]
          congr 1
          by_cases g : x.f0 = e ∧ x.f1 = h
          · rw [if_pos (decide_eq_true g), if_pos g]; rfl
          · rw [if_neg (by simpa using g), if_neg g]; rfl)
        generalize ((l.take i).filter (fun x => decide (x.f0 = e ∧ x.f1 = h))).map (fun x => x.f2) = out at *
        clear HF
        go_upto_region 6 with (fail)
        generalize hV : wr.alloc (.cells _ _) = V
        have XM : Box V wr.heap.size #[.int .i64 x.f0, .int .i64 x.f1, .int .i64 x.f2] 25 := hV ▸ Box.new
        have HB2 := Aside0.mk (show Below w.heap.size w V from hV ▸ below_alloc HB.out _)
        have HO2 := Aside0.mk (show (Kd.int .i64).R 3 V w.heap.size (fun _ => True) u6 out from hV ▸ Kd.R_alloc HO.out _)
        have rE := XM.cell
        have kE := XM.lt
        clear hV XM HB HO c0 c1 c2
        have HB := HB2
        have HO := HO2
        clear HB2 HO2
        by_cases hc : x.f0 = e ∧ x.f1 = h
        · have hf := HG0.out
          rw [if_pos hc] at hf
          have HG := Aside0.mk hf
          have hb : (e == x.f0 && h == x.f1) = true := by rw [hc.1, hc.2]; simp
          clear HG0 hf hc
          go_wp2_with ((with_reducible refine gate_builtin (b := .append) (xs := #[.tmp 25, .tmp 28]) rfl ?_); at_builtin; refine Kd.R_append (Kd.int .i64) (w0 := w) w.heap.size rfl (.tmp 25) (.tmp 28) 32 3 (.int .i64 0) 8 rfl Try.underlying32 info3 rfl (by decide) (by omega) (_) (out) (x.f2) [.int .i64 x.f2] (fun _ => True) (fun _ => False) rfl rfl ?aP (fun _ hk => hk.elim) ?aF ?aO ?aB ?aS ?aL ?_; (case aP => exact rfl); (case aB => exact (by repeat (first | exact HB.out | apply below_alloc | apply pw_below_drewN | apply below_drew1 | refine below_set ?_ (by first | omega | (simp; omega))))); (case aF => exact (fun _ _ => trivial)); (case aO => exact (by (with_reducible repeat (first | apply Kd.R_alloc | apply Kd.R_drewN | apply Kd.R_drew)); exact HO.out)); (case aS => exact below_size (by repeat (first | exact HB.out | apply below_alloc | apply pw_below_drewN | apply below_drew1 | refine below_set ?_ (by first | omega | (simp; omega))))); (case aL => first | omega | (simp; omega)); intro v1 w1 ho_ hb_ hg_ hat_; clear HB; clear HO; have HB := Aside0.mk hb_; have HO := Aside0.mk ho_; clear ho_ hb_ hg_ hat_; )
          go_roundw
          case rel => exact ⟨i + 1, by omega, by go_num, by rw [HG.out]; exact HO.out, HB.out⟩
          case measure => simp [intOf]; omega
        · have hf := HG0.out
          rw [if_neg hc, List.append_nil] at hf
          have HG := Aside0.mk hf
          have hb : (e == x.f0 && h == x.f1) = false := by
            rw [← Bool.not_eq_true]
            intro h2
            simp at h2
            exact hc ⟨h2.1.symm, h2.2.symm⟩
          clear HG0 hf hc
          go_wp2
          go_roundw
          case rel => exact ⟨i + 1, by omega, by go_num, by rw [HG.out]; exact HO.out, HB.out⟩
          case measure => simp [intOf]; omega
      · have HT := Aside0.mk (show l.take i = l by rw [List.take_of_length_le (by rw [← HN.out]; omega)])
        go_wp2
        go_ret
        exact ⟨_, rfl, by rw [← HT.out]; exact HO.out, HB.out⟩
  · rw [if_neg (by simp [hh])]
    have H := Aside0.mk hh
    clear hh
    go_enter Try.func20, Try.ntmps20
    go_wp2_with fail
    refine (SRight_v A n c l false _ HX.out H.out).mono ?_
    rintro e w5 ⟨rfl, hb_⟩
    have n_ := Aside0.mk (below_step (by repeat (first | exact HB.out | apply below_alloc | apply pw_below_drewN | apply below_drew1 | refine below_set ?_ (by first | omega | (simp; omega)))) hb_); clear HB hb_; have HB := n_; clear n_
    go_wp2
    go_ret
    exact ⟨_, rfl, Kd.R_nil _ _ _ _ _, HB.out⟩
end Go.Proofs.Ytppcojfgpjnagaa