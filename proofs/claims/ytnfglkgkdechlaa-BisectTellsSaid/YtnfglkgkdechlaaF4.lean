import Derived.Test.YtnfglkgkdechlaaF3
import Derived.Deep.RegionHeld3
import Derived.Deep.CutBlock
set_option linter.unusedVariables false
set_option linter.unusedSimpArgs false

/- Items cut, and Most by the document (chapter 15), in plain Lean. -/
namespace Go.Proofs.Ytnfglkgkdechlaa
open Go.RowKit Go.Proofs.YtnfglkgkdechlaaW.PrintWords Go.Proofs.YtnfglkgkdechlaaW.PrintLast Go.Proofs.YtnfglkgkdechlaaW.PrintMore
open Go.Proofs.Ytnfglkgkdechlaa.PQ

/-- An item of at most ten keys and pairs. -/
def cutI (x : It) : It := ⟨x.f0.take 10, x.f1, ⟨x.f2.f0, x.f2.f1.take 10⟩⟩
theorem okI_cut {x : It} (h : okI x) : okI (cutI x) := ⟨fun y hy => h.1 y (List.mem_of_mem_take hy), fun p hp => h.2 p (List.mem_of_mem_take hp)⟩
def oddI (n : Nat) (l : List It) : List It := (l.take n).map cutI
theorem oddI_succ {n : Nat} {l : List It} (h : n < l.length) : oddI (n + 1) l = oddI n l ++ [cutI l[n]] := by
  unfold oddI
  rw [List.take_succ_eq_append_getElem h, List.map_append]
  rfl
theorem oddI_len (n : Nat) (l : List It) (h : n ≤ l.length) : (oddI n l).length = n := by
  unfold oddI
  rw [List.length_map, List.length_take]
  omega
theorem okI_odd {n : Nat} {l : List It} (h : ∀ x ∈ l, okI x) : ∀ x ∈ oddI n l, okI x := fun x hx => by
  obtain ⟨y, hy, rfl⟩ := List.mem_map.1 hx
  exact okI_cut (h y (List.mem_of_mem_take hy))
theorem oddI_f0 {n : Nat} {l : List It} : ∀ x ∈ oddI n l, x.f0.length ≤ 2048 := fun x hx => by
  obtain ⟨y, hy, rfl⟩ := List.mem_map.1 hx
  show (y.f0.take 10).length ≤ 2048
  rw [List.length_take]
  omega
theorem itemsR_f0 (raw : List Rw) : ∀ x ∈ itemsR raw, x.f0.length ≤ 2048 := fun x hx => by
  obtain ⟨y, _, rfl⟩ := List.mem_map.1 hx
  have := keysR_12 y.f0
  show (keysR y.f0).length ≤ 2048
  omega
theorem cutI_K {w : World} {A0 A3 : Option Addr} {c0 c3 : Nat} {x : It} (h0 : x.f0.length ≤ c0) (g0 : (Kd.int .u64).C w A0 x.f0.length x.f0) (h3 : x.f2.f1.length ≤ c3) (g3 : kP.C w A3 x.f2.f1.length x.f2.f1) :
    kI.K w (cutI x) [.slice A0 (cutI x).f0.length c0, .int .u64 x.f1, .bool x.f2.f0, .slice A3 (cutI x).f2.f1.length c3] := by
  have l0 : (cutI x).f0.length ≤ x.f0.length := by
    show (x.f0.take 10).length ≤ _
    rw [List.length_take]
    omega
  have l3 : (cutI x).f2.f1.length ≤ x.f2.f1.length := by
    show (x.f2.f1.take 10).length ≤ _
    rw [List.length_take]
    omega
  refine k32_mk w (cutI x) (Nat.le_trans l0 h0) ?_ (Nat.le_trans l3 h3) ?_
  · have h := C_takeG (p := (cutI x).f0.length) g0 l0
    have e : x.f0.take (cutI x).f0.length = (cutI x).f0 := by
      show x.f0.take (x.f0.take 10).length = x.f0.take 10
      rw [List.length_take]
      rcases Nat.le_total 10 x.f0.length with h | h
      · rw [Nat.min_eq_left h]
      · rw [Nat.min_eq_right h, List.take_of_length_le (Nat.le_refl _), List.take_of_length_le h]
    rw [e] at h
    exact h
  · have h := C_takeG (p := (cutI x).f2.f1.length) g3 l3
    have e : x.f2.f1.take (cutI x).f2.f1.length = (cutI x).f2.f1 := by
      show x.f2.f1.take (x.f2.f1.take 10).length = x.f2.f1.take 10
      rw [List.length_take]
      rcases Nat.le_total 10 x.f2.f1.length with h | h
      · rw [Nat.min_eq_left h]
      · rw [Nat.min_eq_right h, List.take_of_length_le (Nat.le_refl _), List.take_of_length_le h]
    rw [e] at h
    exact h
theorem w64t {x : Int} (h : -9223372036854775808 ≤ x ∧ x ≤ 9223372036854775807) : wrap64 x = x := w64 h
theorem ev_most_l (x1 : Int) (h0 : 0 ≤ x1) (h1 : x1 ≤ 1073741824) : ∀ (j m d : Nat), 1 ≤ m → m ≤ j → m ≤ 1073741824 → d + halv j m ≤ 64 → Ev (fun k => mootbellref15_Most.l0 k x1 (d : Int) (m : Int)) (1 + 2 * x1 * ((d + halv j m : Nat) : Int))
  | 0, m, d, g1, g2, _, _ => absurd g2 (by omega)
  | j + 1, m, d, g1, g2, g3, g4 => by
    by_cases hm : m = 1
    · subst hm
      rw [halv_one] at g4 ⊢
      refine Ev.now fun k => ?_
      have hp : 0 ≤ 2 * x1 * (d : Int) ∧ 2 * x1 * (d : Int) ≤ 2147483648 * 64 := by
        refine ⟨Int.mul_nonneg (by omega) (by omega), Int.le_trans (Int.mul_le_mul_of_nonneg_right (show 2 * x1 ≤ 2147483648 by omega) (by omega)) (Int.mul_le_mul_of_nonneg_left (by omega) (by omega))⟩
      rw [mootbellref15_Most.l0, if_neg (by omega), w64t (x := 2 * x1) (by omega)]
      obtain ⟨pr, hpr⟩ : ∃ p : Int, 2 * x1 * (d : Int) = p := ⟨_, rfl⟩
      rw [Nat.add_zero, hpr, w64t (x := pr) (by omega), w64t (x := 1 + pr) (by omega)]
    · have hs := halv_step j m (by omega) g2
      rw [hs] at g4 ⊢
      have ih := ev_most_l x1 h0 h1 j (m - m / 2) (d + 1) (by omega) (by omega) (by omega) (by omega)
      have e : ((d + 1 + halv j (m - m / 2) : Nat) : Int) = ((d + (halv j (m - m / 2) + 1) : Nat) : Int) := by omega
      rw [e] at ih
      refine ih.next fun k h => ?_
      have hh : (m : Int) / 2 = ((m / 2 : Nat) : Int) := by omega
      have hr : (m : Int) % 2 = ((m % 2 : Nat) : Int) := by omega
      rw [mootbellref15_Most.l0, if_pos (by omega), Int.tdiv_eq_ediv_of_nonneg (by omega), Int.tmod_eq_emod_of_nonneg (by omega), hh, hr, w64t (x := ((m / 2 : Nat) : Int)) (by omega), w64t (x := ((m / 2 : Nat) : Int) + ((m % 2 : Nat) : Int)) (by omega), w64t (x := (d : Int) + 1) (by omega)]
      have e1 : ((m / 2 : Nat) : Int) + ((m % 2 : Nat) : Int) = ((m - m / 2 : Nat) : Int) := by omega
      have e2 : (d : Int) + 1 = ((d + 1 : Nat) : Int) := by omega
      rw [e1, e2]
      exact h
theorem ev_most (n wrong : Int) (hn : -1073741824 ≤ n ∧ n ≤ 1073741824) (hw : -1073741824 ≤ wrong ∧ wrong ≤ 1073741824) : Ev (fun k => mootbellref15_Most.f k n wrong) (mostF n wrong) := by
  by_cases h1 : n < 1
  · refine Ev.now fun k => ?_
    show mootbellref15_Most.f (k + 1) n wrong = _
    unfold mootbellref15_Most.f mostF
    rw [if_pos h1, mootbellref15_Most.j0, if_pos rfl, if_pos (Or.inl h1)]
  · by_cases h2 : wrong < 0
    · refine Ev.now fun k => ?_
      show mootbellref15_Most.f (k + 1) n wrong = _
      unfold mootbellref15_Most.f mostF
      rw [if_neg h1, mootbellref15_Most.j0, if_pos (decide_eq_true h2), if_pos (Or.inr h2)]
    · obtain ⟨N, rfl⟩ := Int.eq_ofNat_of_zero_le (show 0 ≤ n by omega)
      have hh := halv_le 30 N N (by omega)
      refine (ev_most_l wrong (by omega) hw.2 N N 0 (by omega) (Nat.le_refl _) (by omega) (by omega)).next fun k h => ?_
      show mootbellref15_Most.f (k + 1) (N : Int) wrong = _
      unfold mootbellref15_Most.f mostF
      rw [if_neg h1, mootbellref15_Most.j0, if_neg (by simpa using h2), if_neg (by omega), Int.toNat_natCast]
      rw [Nat.zero_add] at h
      exact h
theorem rMostE (n wrong r : Int) (hn : -1073741824 ≤ n ∧ n ≤ 1073741824) (hw : -1073741824 ≤ wrong ∧ wrong ≤ 1073741824) (w : World) (h : mostF n wrong = r) : Calls Try.prog 16 #[.int .i64 n, .int .i64 wrong] w fun e w' => e = .returned (.int .i64 r) ∧ Below w.heap.size w w' := by
  obtain ⟨K, hK⟩ := ev_most n wrong hn hw
  have h1 := hK K (Nat.le_refl _)
  rw [h] at h1
  exact (mootbellref15_Most.calls K n wrong r w h1).mono fun e w' hh => ⟨hh.1, hh.2.below⟩
theorem bMostE (n wrong r : Int) (hn : -1073741824 ≤ n ∧ n ≤ 1073741824) (hw : -1073741824 ≤ wrong ∧ wrong ≤ 1073741824) (w : World) (h : mostF n wrong = r) : Calls Try.prog 15 #[.int .i64 n, .int .i64 wrong] w fun e w' => e = .returned (.int .i64 r) ∧ Below w.heap.size w w' := h ▸ bMost n wrong w (by omega) (by omega) (by omega) (by omega)
end Go.Proofs.Ytnfglkgkdechlaa


/- Find by the document (chapter 15). -/
namespace Go.Proofs.Ytnfglkgkdechlaa
open Go.RowKit Go.Proofs.YtnfglkgkdechlaaW.PrintWords Go.Proofs.YtnfglkgkdechlaaW.PrintLast Go.Proofs.YtnfglkgkdechlaaW.PrintMore

open Go.Proofs.Ytnfglkgkdechlaa.PQ

theorem C_dropI {A : Option Addr} {l : List It} {w : World} {n p c : Nat} (h : kI.C w A n l) (hp : p ≤ n) (hc : n ≤ c) : kI.C w (if c = p then A else A.map (·.add (p * 4))) (n - p) (l.drop p) := by
  obtain rfl := Kd.C_len h
  have e := Kd.C_drop h hp hc
  rw [List.length_drop] at e
  exact e
theorem map_rep {f : It → Bool} {r : Bool} : ∀ (l : List It), (∀ x ∈ l, f x = r) → l.map f = List.replicate l.length r
  | [], _ => rfl
  | x :: l, h => by
    rw [List.map_cons, h x List.mem_cons_self, map_rep l (fun y hy => h y (List.mem_cons_of_mem _ hy))]
    rfl
set_option maxRecDepth 100000 in
set_option maxHeartbeats 8000000 in
theorem rFind (q : Nat) : ∀ (A : Option Addr) (n c : Nat) (t : List Pr) (I : Option Addr) (m mc : Nat) (its : List It) (w : World) (_ : kP.C w A n t) (_ : n ≤ c) (_ : kI.C w I m its) (_ : m ≤ mc) (_ : ∀ x ∈ its, x.f0.length ≤ 2048) (_ : m ≤ 1000000) (_ : m ≤ q),
    Calls Try.prog 12 #[.slice A n c, .slice I m mc] w fun e w' => ∃ v, e = .returned (.tuple #[v, .int .i64 (cnt (chk t) its : Int)]) ∧ Kd.bool.R 4 w' w.heap.size (fun _ => True) v (its.map (chk t)) ∧ Below w.heap.size w w' := by
  induction q using Nat.strongRecOn with
  | _ q ih =>
  intro A n c t I m mc its w hA hc hI hm ho hm0 hq
  have HIH := Aside0.mk ih
  have HN := Aside0.mk (show its.length = m from Kd.C_len hI)
  have HTC := Aside0.mk hA
  have HIC := Aside0.mk hI
  have HO := Aside0.mk ho
  have HB := Aside0.mk (Below.refl w.heap.size w)
  clear ih hA hI ho
  by_cases h0 : m = 0
  · subst h0
    have he : its = [] := List.length_eq_zero_iff.1 HN.out
    subst he
    go_enter Try.func12, Try.ntmps12
    go_wp2
    go_ret2
    exact ⟨_, rfl, Kd.R_nil _ _ _ _ _, HB.out⟩
  · have hz : ((m : Int) == 0) = false := by rw [beq_eq_false_iff_ne]; omega
    have hz2 : ¬ (m : Int) = 0 := by omega
    obtain ⟨r, hr⟩ : ∃ r, its.all (chk t) = r := ⟨_, rfl⟩
    have HR := Aside0.mk hr
    have hq0 : m ≤ q := hq
    go_enter Try.func12, Try.ntmps12
    go_wp2_with fail
    refine (rAllE A n c t I m mc its r _ HTC.out hc HIC.out hm HO.out (by omega) hr).mono ?_
    rintro e w1 ⟨rfl, hb_⟩
    have ZHTC := Aside0.mk (Kd.C_below (by repeat (with_reducible first | exact HTC.out | apply C_alloc | apply C_drew)) hb_); clear HTC; have HTC := ZHTC; clear ZHTC
    have ZHIC := Aside0.mk (Kd.C_below (by repeat (with_reducible first | exact HIC.out | apply C_alloc | apply C_drew)) hb_); clear HIC; have HIC := ZHIC; clear ZHIC
    have n_ := Aside0.mk (below_step (by repeat (first | exact HB.out | apply below_alloc | apply pw_below_drewN | apply below_drew1 | refine below_set ?_ (by first | omega | (simp; omega)))) hb_); clear HB hb_; have HB := n_; clear n_
    rcases hrb : r with _ | _
    · rw [hrb] at HR
      by_cases h1 : m = 1
      · have hb1 : ((m : Int) == 1) = true := by rw [beq_iff_eq]; omega
        have hb2 : (m : Int) = 1 := by omega
        have HMP := Aside0.mk (show its.map (chk t) = List.replicate m false by
          obtain ⟨x, hx⟩ := List.length_eq_one_iff.1 (HN.out.trans h1)
          have h2 := HR.out
          rw [hx] at h2 ⊢
          rw [List.all_cons, List.all_nil, Bool.and_true] at h2
          rw [h1, List.map_cons, h2]
          rfl)
        have HCN := Aside0.mk (show cnt (chk t) its = 1 by
          obtain ⟨x, hx⟩ := List.length_eq_one_iff.1 (HN.out.trans h1)
          rw [hx]
          exact cnt_one _ _)
        clear h1
        go_wp2
        go_loopw [7, 8] (fun v7 v8 wx => ∃ (i : Nat), i ≤ m ∧ v8 = .int .i64 (i : Int) ∧ Kd.bool.R 4 wx w.heap.size (fun _ => True) v7 (List.replicate i false) ∧ Below w.heap.size w wx) (fun _ v8 _ => m - (intOf v8).toNat)
        case atStart => exact ⟨0, by omega, rfl, Kd.R_nil _ _ _ _ _, HB.out⟩
        case round =>
          obtain ⟨i, hiN, rfl, hR, hb⟩ := hrel
          obtain ⟨Av, cv, rfl⟩ := Kd.R_slice hR
          clear HB
          have HB := Aside0.mk hb
          have HO := Aside0.mk hR
          clear hb hR
          by_cases hlt : i < m
          · have hz1 : (i : Int) < (m : Int) := by omega
            have hdz : decide ((i : Int) < (m : Int)) = true := decide_eq_true hz1
            have HLT := Aside0.mk hlt
            have HRS := Aside0.mk (show List.replicate i false ++ [false] = List.replicate (i + 1) false from (List.replicate_succ' (n := i) (a := false)).symm)
            have hrl : (List.replicate i false).length = i := List.length_replicate
            have hlen : (List.replicate i false).length ≤ 1000000 := by rw [hrl]; omega
            generalize List.replicate i false = l1 at *
            clear hlt
            go_wp2_with (first | ((with_reducible refine gate_builtin (b := .append) (xs := #[.tmp 32, .tmp 34]) rfl ?_); at_builtin; refine Kd.R_append (Kd.bool) (w0 := w) w.heap.size rfl (.tmp 32) (.tmp 34) 37 4 (.bool false) 1 rfl Try.underlying37 info4 rfl (by decide) (by omega) (_) (l1) (false) [.bool false] (fun _ => True) (fun _ => False) rfl rfl ?aP (fun _ hk => hk.elim) ?aF ?aO ?aB ?aS ?aL ?_; (case aP => exact rfl); (case aB => exact (by repeat (first | exact HB.out | apply below_alloc | apply pw_below_drewN | apply below_drew1 | refine below_set ?_ (by first | omega | (simp; omega))))); (case aF => exact (fun _ _ => trivial)); (case aO => exact (by (with_reducible repeat (first | apply Kd.R_alloc | apply Kd.R_drewN | apply Kd.R_drew)); exact HO.out)); (case aS => exact below_size (by repeat (first | exact HB.out | apply below_alloc | apply pw_below_drewN | apply below_drew1 | refine below_set ?_ (by first | omega | (simp; omega))))); (case aL => first | omega | (simp; omega)); intro v1 w1 ho_ hb_ hg_ hat_; clear HB; clear HO; have HB := Aside0.mk hb_; have HO := Aside0.mk ho_; clear ho_ hb_ hg_ hat_; ))
            go_wp2
            go_roundw
            case rel => exact ⟨i + 1, by have := HLT.out; omega, by go_num, by first | (rw [HRS.out] at HO; exact HO.out) | (rw [← HRS.out]; exact HO.out), HB.out⟩
            case measure =>
              have := HLT.out
              simp [intOf]
              omega
          · have hdf : decide ((i : Int) < (m : Int)) = false := decide_eq_false (by omega)
            have hdg : decide (i < m) = false := decide_eq_false hlt
            obtain rfl : m = i := by omega
            go_wp2
            go_ret2
            exact ⟨_, by rw [HCN.out]; rfl, by rw [HMP.out]; exact HO.out, HB.out⟩
      · have hb1 : ((m : Int) == 1) = false := by rw [beq_eq_false_iff_ne]; omega
        have hb2 : ¬ (m : Int) = 1 := by omega
        obtain ⟨k, hk⟩ : ∃ k, (m + 1) / 2 = k := ⟨_, rfl⟩
        have hk1 : Int.tdiv ((m : Int) + 1) 2 = (k : Int) := by rw [Int.tdiv_eq_ediv_of_nonneg (by omega)]; omega
        have hk2 : 1 ≤ k := by omega
        have hk3 : k < m := by omega
        have hs1 : (0 : Int) ≤ (k : Int) := by omega
        have hs2 : (k : Int) ≤ (mc : Int) := by omega
        have hs3 : (k : Int) ≤ (m : Int) := by omega
        have hs4 : (m : Int) ≤ (mc : Int) := by omega
        have hs5 : ¬ mc = k := by omega
        have HCN := Aside0.mk (show cnt (chk t) its = 1 + cnt (chk t) (its.take k) + cnt (chk t) (its.drop k) by
          rw [cnt_eq, if_neg (by rw [HN.out]; exact h0), if_neg (by rw [HR.out]; simp), if_neg (by rw [HN.out]; omega), HN.out, hk])
        have HMP := Aside0.mk (show its.map (chk t) = (its.take k).map (chk t) ++ (its.drop k).map (chk t) by rw [← List.map_append, List.take_append_drop])
        have HB1 := Aside0.mk (show cnt (chk t) (its.take k) ≤ 2000000 by
          have := cnt_le (chk t) _ (its.take k) (Nat.le_refl _)
          rw [List.length_take] at this
          omega)
        have HB2 := Aside0.mk (show cnt (chk t) (its.drop k) ≤ 2000000 by
          have := cnt_le (chk t) _ (its.drop k) (Nat.le_refl _)
          rw [List.length_drop, HN.out] at this
          omega)
        have hl1 : ((its.take k).map (chk t)).length ≤ 1000000 := by rw [List.length_map, List.length_take]; omega
        have hl2 : ((its.drop k).map (chk t)).length ≤ 1000000 := by rw [List.length_map, List.length_drop, HN.out]; omega
        have HO1 := Aside0.mk (show ∀ x ∈ its.take k, x.f0.length ≤ 2048 from fun x hx => HO.out x (List.mem_of_mem_take hx))
        have HO2 := Aside0.mk (show ∀ x ∈ its.drop k, x.f0.length ≤ 2048 from fun x hx => HO.out x (List.mem_of_mem_drop hx))
        have HC1 := Aside0.mk (show kI.C w1 I k (its.take k) from C_takeG HIC.out (by omega))
        have HC2 := Aside0.mk (show kI.C w1 (I.map (·.add (k * 4))) (m - k) (its.drop k) by
          have h := C_dropI (p := k) HIC.out (by omega) hm
          rw [if_neg hs5] at h
          exact h)
        obtain ⟨c1, hc1⟩ : ∃ q, cnt (chk t) (its.take k) = q := ⟨_, rfl⟩
        obtain ⟨c2, hc2⟩ : ∃ q, cnt (chk t) (its.drop k) = q := ⟨_, rfl⟩
        rw [hc1] at HCN HB1
        rw [hc2] at HCN HB2
        have hcb1 := HB1.out
        have hcb2 := HB2.out
        clear HB1 HB2 hk HIC
        go_wp2_with fail
        refine (HIH.out k (by omega) A n c t I k mc (its.take k) _ HTC.out hc HC1.out (by omega) HO1.out (by omega) (Nat.le_refl _)).mono ?_
        rintro e w2 ⟨v2, rfl, hR2, hb_⟩
        have ZHTC := Aside0.mk (Kd.C_below (by repeat (with_reducible first | exact HTC.out | apply C_alloc | apply C_drew)) hb_); clear HTC; have HTC := ZHTC; clear ZHTC
        have ZHC2 := Aside0.mk (Kd.C_below (by repeat (with_reducible first | exact HC2.out | apply C_alloc | apply C_drew)) hb_); clear HC2; have HC2 := ZHC2; clear ZHC2
        have n_ := Aside0.mk (below_step (by repeat (first | exact HB.out | apply below_alloc | apply pw_below_drewN | apply below_drew1 | refine below_set ?_ (by first | omega | (simp; omega)))) hb_); clear HB hb_; have HB := n_; clear n_
        rw [hc1]
        generalize (its.take k).map (chk t) = l1 at *
        obtain ⟨A2, k2, rfl⟩ := Kd.R_slice hR2
        have HR2 := Aside0.mk (Kd.R_reads' hR2)
        have HC4 := Aside0.mk HR2.out.2.2
        clear hR2 hc1 HC1
        go_wp2_with fail
        refine (HIH.out (m - k) (by omega) A n c t (I.map (·.add (k * 4))) (m - k) (mc - k) (its.drop k) _ HTC.out hc HC2.out (by omega) HO2.out (by omega) (Nat.le_refl _)).mono ?_
        rintro e w3 ⟨v3, rfl, hR3, hb_⟩
        have ZHC4 := Aside0.mk (Kd.C_below (by repeat (with_reducible first | exact HC4.out | apply C_alloc | apply C_drew)) hb_); clear HC4; have HC4 := ZHC4; clear ZHC4
        have n_ := Aside0.mk (below_step (by repeat (first | exact HB.out | apply below_alloc | apply pw_below_drewN | apply below_drew1 | refine below_set ?_ (by first | omega | (simp; omega)))) hb_); clear HB hb_; have HB := n_; clear n_
        rw [hc2]
        generalize (its.drop k).map (chk t) = l2 at *
        obtain ⟨A3, k3, rfl⟩ := Kd.R_slice hR3
        have HR3 := Aside0.mk (Kd.R_reads' hR3)
        have HC3 := Aside0.mk HR3.out.2.2
        clear hR3 hc2 HC2 HTC HR2 HR3 HO HO1 HO2 HR HIH
        have HW := HB
        clear HB
        have HB := Aside0.mk (Below.refl w3.heap.size w3)
        have HO := Aside0.mk True.intro
        go_wp2_with (first | ((with_reducible refine gate_builtin (b := .append) (xs := #[.const (.slice none 0 0), .tmp 57]) rfl ?_); at_builtin; refine Kd.R_append_rows (Kd.bool) (w0 := w3) w3.heap.size rfl (.const (.slice none 0 0)) (.tmp 57) 37 4 (.bool false) 1 rfl Try.underlying37 info4 rfl (by decide) (by omega) _ ([]) (l1) (_) (_) (_) (fun _ => True) (fun _ => False) rfl rfl ?aO HC4.out ?aK (fun _ hk => hk.elim) ?aF ?aB ?aS ?aL ?_; (case aK => exact (fun x cs h => h)); (case aB => exact (by repeat (first | exact HB.out | apply below_alloc | apply pw_below_drewN | apply below_drew1 | refine below_set ?_ (by first | omega | (simp; omega))))); (case aF => exact (fun _ _ => trivial)); (case aO => exact (Kd.R_nil _ _ _ _ _)); (case aS => exact below_size (by repeat (first | exact HB.out | apply below_alloc | apply pw_below_drewN | apply below_drew1 | refine below_set ?_ (by first | omega | (simp; omega))))); (case aL => first | omega | (simp; omega)); intro v1 w1 ho_ hb_ hg_ hat_; skip; clear HB; clear HO; have HB := Aside0.mk hb_; have HO := Aside0.mk ho_; clear ho_ hb_ hg_ hat_; ) | ((with_reducible refine gate_builtin (b := .append) (xs := #[.tmp 58, .tmp 59]) rfl ?_); at_builtin; refine Kd.R_append_rows (Kd.bool) (w0 := w3) w3.heap.size rfl (.tmp 58) (.tmp 59) 37 4 (.bool false) 1 rfl Try.underlying37 info4 rfl (by decide) (by omega) _ (l1) (l2) (_) (_) (_) (fun _ => True) (fun _ => False) rfl rfl ?aO (Aside0.mk (Kd.C_below HC3.out HB.out)).out ?aK (fun _ hk => hk.elim) ?aF ?aB ?aS ?aL ?_; (case aK => exact (fun _ _ hh => hh)); (case aB => exact (by repeat (first | exact HB.out | apply below_alloc | apply pw_below_drewN | apply below_drew1 | refine below_set ?_ (by first | omega | (simp; omega))))); (case aF => exact (fun _ _ => trivial)); (case aO => exact (by (with_reducible repeat (first | apply Kd.R_alloc | apply Kd.R_drewN | apply Kd.R_drew)); exact HO.out)); (case aS => exact below_size (by repeat (first | exact HB.out | apply below_alloc | apply pw_below_drewN | apply below_drew1 | refine below_set ?_ (by first | omega | (simp; omega))))); (case aL => first | omega | (simp; omega)); intro v1 w1 ho_ hb_ hg_ hat_; skip; clear HB; clear HO; have HB := Aside0.mk hb_; have HO := Aside0.mk ho_; clear ho_ hb_ hg_ hat_; ))
        go_ret2
        exact ⟨_, by rw [HCN.out]; go_num, by rw [HMP.out]; exact Kd.R_lower HO.out (below_size HW.out), below_step HW.out HB.out⟩
    · rw [hrb] at HR
      have HMP := Aside0.mk (show its.map (chk t) = List.replicate m true by
        rw [map_rep its (List.all_eq_true.1 HR.out), HN.out])
      have HCN := Aside0.mk (show cnt (chk t) its = 1 from cnt_all _ _ (by rw [HN.out]; exact h0) HR.out)
      go_wp2
      go_loopw [7, 8] (fun v7 v8 wx => ∃ (i : Nat), i ≤ m ∧ v8 = .int .i64 (i : Int) ∧ Kd.bool.R 4 wx w.heap.size (fun _ => True) v7 (List.replicate i true) ∧ Below w.heap.size w wx) (fun _ v8 _ => m - (intOf v8).toNat)
      case atStart => exact ⟨0, by omega, rfl, Kd.R_nil _ _ _ _ _, HB.out⟩
      case round =>
        obtain ⟨i, hiN, rfl, hR, hb⟩ := hrel
        obtain ⟨Av, cv, rfl⟩ := Kd.R_slice hR
        clear HB
        have HB := Aside0.mk hb
        have HO := Aside0.mk hR
        clear hb hR
        by_cases hlt : i < m
        · have hz1 : (i : Int) < (m : Int) := by omega
          have hdz : decide ((i : Int) < (m : Int)) = true := decide_eq_true hz1
          have HLT := Aside0.mk hlt
          have HRS := Aside0.mk (show List.replicate i true ++ [true] = List.replicate (i + 1) true from (List.replicate_succ' (n := i) (a := true)).symm)
          have hrl : (List.replicate i true).length = i := List.length_replicate
          have hlen : (List.replicate i true).length ≤ 1000000 := by rw [hrl]; omega
          generalize List.replicate i true = l1 at *
          clear hlt
          go_wp2_with (first | ((with_reducible refine gate_builtin (b := .append) (xs := #[.tmp 32, .tmp 34]) rfl ?_); at_builtin; refine Kd.R_append (Kd.bool) (w0 := w) w.heap.size rfl (.tmp 32) (.tmp 34) 37 4 (.bool false) 1 rfl Try.underlying37 info4 rfl (by decide) (by omega) (_) (l1) (true) [.bool true] (fun _ => True) (fun _ => False) rfl rfl ?aP (fun _ hk => hk.elim) ?aF ?aO ?aB ?aS ?aL ?_; (case aP => exact rfl); (case aB => exact (by repeat (first | exact HB.out | apply below_alloc | apply pw_below_drewN | apply below_drew1 | refine below_set ?_ (by first | omega | (simp; omega))))); (case aF => exact (fun _ _ => trivial)); (case aO => exact (by (with_reducible repeat (first | apply Kd.R_alloc | apply Kd.R_drewN | apply Kd.R_drew)); exact HO.out)); (case aS => exact below_size (by repeat (first | exact HB.out | apply below_alloc | apply pw_below_drewN | apply below_drew1 | refine below_set ?_ (by first | omega | (simp; omega))))); (case aL => first | omega | (simp; omega)); intro v1 w1 ho_ hb_ hg_ hat_; clear HB; clear HO; have HB := Aside0.mk hb_; have HO := Aside0.mk ho_; clear ho_ hb_ hg_ hat_; ))
          go_wp2
          go_roundw
          case rel => exact ⟨i + 1, by have := HLT.out; omega, by go_num, by first | (rw [HRS.out] at HO; exact HO.out) | (rw [← HRS.out]; exact HO.out), HB.out⟩
          case measure =>
            have := HLT.out
            simp [intOf]
            omega
        · have hdf : decide ((i : Int) < (m : Int)) = false := decide_eq_false (by omega)
          have hdg : decide (i < m) = false := decide_eq_false hlt
          obtain rfl : m = i := by omega
          go_wp2
          go_ret2
          exact ⟨_, by rw [HCN.out]; rfl, by rw [HMP.out]; exact HO.out, HB.out⟩
end Go.Proofs.Ytnfglkgkdechlaa


/- BisectTells (chapter 15): what its code does. -/
namespace Go.Proofs.Ytnfglkgkdechlaa
open Go.RowKit Go.Proofs.YtnfglkgkdechlaaW.PrintWords Go.Proofs.YtnfglkgkdechlaaW.PrintLast Go.Proofs.YtnfglkgkdechlaaW.PrintMore

open Go.Proofs.Ytnfglkgkdechlaa.PQ

attribute [local go_sem] max2_int min2_int max_two min_two
set_option maxRecDepth 100000 in
set_option maxHeartbeats 8000000 in
theorem tells_calls (D : Option Addr) (dn dc : Nat) (wild : List Pr) (A : Option Addr) (n c : Nat) (raw : List Int) (B : Option Addr) (m d : Nat) (items : List Rw) (O : Option Addr) (on oc : Nat) (odd : List It) (x y : Int) (w : World)
    (hD : kP.C w D dn wild) (hdc : dn ≤ dc) (hA : (Kd.int .i64).C w A n raw) (hc : n ≤ c) (hr : ∀ x ∈ raw, In64 x) (hB : kR.C w B m items) (hd : m ≤ d) (hi : ∀ x ∈ items, OkR x) (hO : kI.C w O on odd) (hoc : on ≤ oc) (ho : ∀ x ∈ odd, okI x) (hx : In64 x) (hy : In64 y) :
    Calls Try.prog 3 #[.slice D dn dc, .slice A n c, .slice B m d, .slice O on oc, .int .i64 x, .int .i64 y] w fun e w' => e = .returned (.bool true) ∧ Below w.heap.size w w' := by
  have hon : on ≤ 9223372036854775807 := by
    have h := Kd.C_len hO
    rw [← h] at hO ⊢
    exact Kd.C_max hO
  have HN := Aside0.mk (show odd.length = on from Kd.C_len hO)
  have HDC := Aside0.mk hD
  have HAC := Aside0.mk hA
  have HBC := Aside0.mk hB
  have HOC := Aside0.mk hO
  have HR := Aside0.mk hr
  have HI := Aside0.mk hi
  have HOK := Aside0.mk ho
  have HB := Aside0.mk (Below.refl w.heap.size w)
  clear hD hA hB hO hr hi ho
  go_enter Try.func3, Try.ntmps3
  go_wp2_with fail
  refine (awake_calls _).mono ?_
  rintro e w1 ⟨rfl, hb_⟩
  have n_ := Aside0.mk (below_step (by repeat (first | exact HB.out | apply below_alloc | apply pw_below_drewN | apply below_drew1 | refine below_set ?_ (by first | omega | (simp; omega)))) hb_); clear HB hb_; have HB := n_; clear n_
  go_upto_block 0 with fail
  go_cut [14] (fun v14 wc => ∃ Av cv no od, v14 = .slice Av no cv ∧ no ≤ 8 ∧ no ≤ cv ∧ kI.C wc Av no od ∧ (∀ x ∈ od, okI x) ∧ (∀ x ∈ od, x.f0.length ≤ 2048) ∧ Below w.heap.size w wc)
  case first =>
    go_wp2
    go_loopw [14, 15, 16] (fun v14 v15 v16 wx => ∃ (i : Nat) (rs : List (RowV 4)), i ≤ on ∧ i ≤ 8 ∧ v15 = .int .i64 (i : Int) ∧ (kV 4).R 32 wx w.heap.size (fun _ => True) v14 rs ∧ FitI w (oddI i odd) rs ∧ Below w.heap.size w wx) (fun _ v15 _ _ => 8 - (intOf v15).toNat)
    case atStart => exact ⟨0, [], by omega, by omega, rfl, Kd.R_nil _ _ _ _ _, Fits.nil, HB.out⟩
    case round =>
      obtain ⟨i, rs, hiN, hi8, rfl, hR, hF, hb⟩ := hrel
      obtain ⟨Av, cv, rfl⟩ := Kd.R_slice hR
      have hrl : rs.length = i := by
        have h1 := hF.1
        rw [oddI_len i odd (by rw [HN.out]; exact hiN)] at h1
        exact h1.symm
      clear HB
      have HB := Aside0.mk hb
      have HV := Aside0.mk hR
      have HF := Aside0.mk hF
      clear hb hR hF
      by_cases hlt : i < on ∧ i < 8
      · have hil : i < odd.length := by rw [HN.out]; exact hlt.1
        have HSU := Aside0.mk (oddI_succ hil)
        obtain ⟨e, he⟩ : ∃ e, odd[i] = e := ⟨_, rfl⟩
        rw [he] at HSU
        obtain ⟨ad, A0, c0, A3, c3, rfl, rC, rD, rG, rH, hc0, hC0, hc3, hC3⟩ := at_I HOC.out i (by omega) (by omega)
        obtain ⟨z, hz⟩ : ∃ z : Int, (i : Int) = z := ⟨_, rfl⟩
        have hzi : i = z.toNat := by omega
        rw [rdI_eq hil, he] at rC rD rG rH hc0 hC0 hc3 hC3
        have HK := Aside0.mk (cutI_K hc0 hC0 hc3 hC3)
        obtain ⟨k0, hk0⟩ : ∃ q, (cutI e).f0.length = q := ⟨_, rfl⟩
        obtain ⟨k3, hk3⟩ : ∃ q, (cutI e).f2.f1.length = q := ⟨_, rfl⟩
        rw [hk0, hk3] at HK
        have hm0 : k0 = min 10 e.f0.length := by rw [← hk0]; exact List.length_take
        have hm3 : k3 = min 10 e.f2.f1.length := by rw [← hk3]; exact List.length_take
        have hN0 : e.f0.length ≤ 9223372036854775807 := Kd.C_max hC0
        have hN3 : e.f2.f1.length ≤ 9223372036854775807 := Kd.C_max hC3
        generalize e.f0.length = n0 at *
        generalize e.f2.f1.length = n3 at *
        have hq0 : (if (10 : Int) < (n0 : Int) then (10 : Int) else (n0 : Int)) = (k0 : Int) := by split <;> omega
        have hq3 : (if (10 : Int) < (n3 : Int) then (10 : Int) else (n3 : Int)) = (k3 : Int) := by split <;> omega
        have hs1 : (k0 : Int) ≤ (c0 : Int) := by omega
        have hs2 : (k3 : Int) ≤ (c3 : Int) := by omega
        have hs3 : (0 : Int) ≤ (k0 : Int) := by omega
        have hs4 : (0 : Int) ≤ (k3 : Int) := by omega
        rw [hzi] at rC rD rG rH
        replace rC := (HB.out.cell (p := ad.add (z.toNat * 4)) (cell_lt rC)).trans rC
        replace rD := (HB.out.cell (p := ⟨(ad.add (z.toNat * 4)).block, (ad.add (z.toNat * 4)).off + 1, none⟩) (cell_lt rD)).trans rD
        replace rG := (HB.out.cell (p := ⟨(ad.add (z.toNat * 4)).block, (ad.add (z.toNat * 4)).off + 2, none⟩) (cell_lt rG)).trans rG
        replace rH := (HB.out.cell (p := ⟨(ad.add (z.toNat * 4)).block, (ad.add (z.toNat * 4)).off + 3, none⟩) (cell_lt rH)).trans rH
        rw [hz]
        have hz0 : 0 ≤ z := by omega
        have hz1 : z < (on : Int) := by omega
        have hz2 : z < 8 := by omega
        have hd1 : decide (z < (on : Int)) = true := decide_eq_true hz1
        have hd2 : decide (z < 8) = true := decide_eq_true hz2
        have HZ := Aside0.mk hz
        obtain ⟨row, hrow⟩ : ∃ r : RowV 4, r.1 = [.slice A0 k0 c0, .int .u64 e.f1, .bool e.f2.f0, .slice A3 k3 c3] := ⟨⟨_, rfl, by intro u hu; simp only [List.mem_cons, List.not_mem_nil, or_false] at hu; rcases hu with rfl | rfl | rfl | rfl <;> rfl⟩, rfl⟩
        have HROW := Aside0.mk hrow.symm
        have HF2 := Aside0.mk (show FitI w (oddI (i + 1) odd) (rs ++ [row]) by
          rw [HSU.out]
          exact HF.out.append (FitI.one (by rw [hrow]; exact HK.out))
        )
        have HLT := Aside0.mk hlt
        have hrl8 : rs.length ≤ 8 := by omega
        clear hz hzi he hC0 hC3 hk0 hk3 hm0 hm3 hN0 hN3 hrow HK HF HSU hlt hil hrl hc0 hc3 hi8 hiN
        go_wp2_with (first | (with_reducible refine gate_builtin (b := .append) (xs := #[.tmp 61, .tmp 63]) rfl ?_); at_builtin; go_must (refine Kd.R_append (kV 4) (w0 := w) w.heap.size rfl (.tmp 61) (.tmp 63) 25 32 (.agg #[.slice none 0 0, .int .u64 0, .bool false, .slice none 0 0]) 64 rfl Try.underlying25 info32 rfl (by decide) (by omega) (.slice Av rs.length cv) rs row [.slice A0 k0 c0, .int .u64 e.f1, .bool e.f2.f0, .slice A3 k3 c3] (fun _ => True) (fun _ => False) ?aV ?aX HROW.out (fun _ hk => hk.elim) (fun _ _ => trivial) (Kd.R_alloc HV.out _) (below_alloc HB.out _) (below_size (below_alloc HB.out _)) (by omega) ?_; (case aV => rfl); (case aX => simp only [size_alloc]; rfl); (intro v1 w1 ho_ hb_ hg_ hat_; clear HB HV; have HB := Aside0.mk hb_; have HV := Aside0.mk ho_; clear ho_ hb_ hg_ hat_)))
        go_wp2
        go_roundw
        case rel => exact ⟨i + 1, rs ++ [row], by have := HLT.out; omega, by have := HLT.out; omega, by have := HZ.out; subst this; go_num, HV.out, HF2.out, HB.out⟩
        case measure =>
          have := HLT.out
          have := HZ.out
          simp [intOf]
          omega
      · have hcase : ((on : Int) ≤ (i : Int) ∧ ¬ (i : Int) < (on : Int)) ∨ ((i : Int) < (on : Int) ∧ i = 8) := by omega
        have HOI := Aside0.mk (show ∀ x ∈ oddI i odd, okI x from okI_odd HOK.out)
        have HOF := Aside0.mk (show ∀ x ∈ oddI i odd, x.f0.length ≤ 2048 from oddI_f0)
        have HVC := Aside0.mk (show kI.C wr Av i (oddI i odd) by
          have h := Kd.R_reads' HV.out
          have h1 := fits_lift (d := kI) h.2.2 (HF.out.below HB.out)
          rw [hrl] at h1
          exact h1)
        have hicv : i ≤ cv := by
          have h := (Kd.R_reads' HV.out).2.1
          omega
        rw [hrl]
        clear hrl HV HF
        rcases hcase with ⟨h1, h2⟩ | ⟨h1, h2⟩
        · have h3 : decide ((i : Int) < (on : Int)) = false := decide_eq_false h2
          go_wp2
          go_meet
          case rel => exact ⟨Av, cv, i, _, rfl, hi8, hicv, HVC.out, HOI.out, HOF.out, HB.out⟩
        · have h3 : decide ((i : Int) < (on : Int)) = true := decide_eq_true h1
          have h4 : decide ((i : Int) < 8) = false := decide_eq_false (by omega)
          have h5 : ¬ (i : Int) < 8 := by omega
          clear h2
          go_wp2
          go_meet
          case rel => exact ⟨Av, cv, i, _, rfl, hi8, hicv, HVC.out, HOI.out, HOF.out, HB.out⟩
  case rest =>
    obtain ⟨Av, cv, no, od, rfl, hno, hnc, hOD, hok, hf0, hb⟩ := hcut
    clear HB
    have HB := Aside0.mk hb
    have HVC := Aside0.mk hOD
    have HOI := Aside0.mk hok
    have HOF := Aside0.mk hf0
    clear hb hOD hok hf0
    obtain ⟨tb, htb⟩ : ∃ q, tabR raw = q := ⟨_, rfl⟩
    have HTB := Aside0.mk htb
    obtain ⟨kd, hkd⟩ : ∃ q, min 40 dn = q := ⟨_, rfl⟩
    have hq0 : (if (40 : Int) < (dn : Int) then (40 : Int) else (dn : Int)) = (kd : Int) := by split <;> omega
    have hs1 : (kd : Int) ≤ (dc : Int) := by omega
    have hs3 : (0 : Int) ≤ (kd : Int) := by omega
    have HAW := Aside0.mk (Kd.C_below HAC.out HB.out)
    have HWW := Aside0.mk (C_takeG (p := kd) (Kd.C_below HDC.out HB.out) (by omega))
    have HKD := Aside0.mk (show kd ≤ dc by omega)
    clear htb hkd HOK HOC HN HDC HAC
    go_upto_region 10 with (fail)
    refine wp_region_held_drew (S := (fun w' => Below wc.heap.size wc w')) (by kernel_rfl) ?hS1x0 (fun hHeld => ?hR1x0)
    case hS1x0 => ((try dsimp only); (first | exact below_drew1 (Below.refl _ _) | exact below_drew1 b0_ | exact j0 | exact below_alloc j0 _ | exact below_alloc (below_drew1 (Below.refl _ _)) _ | assumption))
    refine wpAnyH_take (i := 0) (oi := ⟨some 65, _, _, _, _, _⟩) (v := ?_) rfl (by kernel_rfl) (by kernel_rfl) (by kernel_rfl) (fun _ _ _ h => h) (Or.inl ⟨by rfl, ?hY1x2⟩) (by assumption) ?hR1x2
    case hY1x2 => (intro w hSw; (try dsimp only at hSw); go_simp; try with_reducible rfl)
    (try simp only [Act.put, qa_, qb_, qc_])
    refine wpAnyH_take (i := 1) (oi := ⟨some 66, _, _, _, _, _⟩) (v := ?_) rfl (by kernel_rfl) (by kernel_rfl) (by kernel_rfl) (fun _ _ _ h => h) (Or.inl ⟨by rfl, ?hY1x3⟩) (by assumption) ?hR1x3
    case hY1x3 => (intro w hSw; (try dsimp only at hSw); go_simp; try with_reducible rfl)
    (try simp only [Act.put, qa_, qb_, qc_])
    refine wpAnyH_take (i := 2) (oi := ⟨some 67, _, _, _, _, _⟩) (v := ?_) rfl (by kernel_rfl) (by kernel_rfl) (by kernel_rfl) (fun _ _ _ h => h) (Or.inl ⟨by rfl, ?hY1x4⟩) (by assumption) ?hR1x4
    case hY1x4 => (intro w hSw; (try dsimp only at hSw); go_simp; try with_reducible rfl)
    (try simp only [Act.put, qa_, qb_, qc_])
    refine wpAnyH_take (i := 3) (oi := ⟨some 68, _, _, _, _, _⟩) (v := ?_) rfl (by kernel_rfl) (by kernel_rfl) (by kernel_rfl) (fun _ _ _ h => h) (Or.inl ⟨by rfl, ?hY1x5⟩) (by assumption) ?hR1x5
    case hY1x5 => (intro w hSw; (try dsimp only at hSw); go_simp; try with_reducible rfl)
    (try simp only [Act.put, qa_, qb_, qc_])
    refine wpAnyH_take (i := 4) (oi := ⟨some 69, _, _, _, _, _⟩) (v := ?_) rfl (by kernel_rfl) (by kernel_rfl) (by kernel_rfl) (fun _ _ _ h => h) (Or.inl ⟨by rfl, ?hY1x6⟩) (by assumption) ?hR1x6
    case hY1x6 => (intro w hSw; (try dsimp only at hSw); go_simp; try with_reducible rfl)
    (try simp only [Act.put, qa_, qb_, qc_])
    refine wpAnyH_take (i := 5) (oi := ⟨some 70, _, _, _, _, _⟩) (v := ?_) rfl (by kernel_rfl) (by kernel_rfl) (by kernel_rfl) (fun _ _ _ h => h) (Or.inl ⟨by rfl, ?hY1x7⟩) (by assumption) ?hR1x7
    case hY1x7 => (intro w hSw; (try dsimp only at hSw); go_simp; try with_reducible rfl)
    (try simp only [Act.put, qa_, qb_, qc_])
    refine wpAnyH_take (i := 9) (oi := ⟨some 74, _, _, _, _, _⟩) (v := ?_) rfl (by kernel_rfl) (by kernel_rfl) (by kernel_rfl) (fun _ _ _ h => h) (Or.inl ⟨by rfl, ?hY1x8⟩) (by assumption) ?hR1x8
    case hY1x8 => (intro w hSw; (try dsimp only at hSw); go_simp; try with_reducible rfl)
    (try simp only [Act.put, qa_, qb_, qc_])
    refine wpAnyH_ready (rs := [6]) (by kernel_rfl) (by simp) ?_
    refine AllReadyH.cons (o := ⟨some 71, _, _, _, _, _⟩) rfl (fun K hK => ?hT1x9) ?hM1x9
    case hM1x9 => exact AllReadyH.nil
    go_simp
    (first | (go_at_call 9; have g0 := ‹Below wc.heap.size wc _›; ((with_reducible refine (tableC A n c raw tb _ (Kd.C_below HAW.out g0) hc HR.out HTB.out).mono ?_));  rintro e w6 ⟨T, kt, rfl, hkt, hT, hb_⟩; have j0 := below_step g0 hb_; have s6 := j0.size; skip))
    (try go_wp2_with fail)
    refine hK.out _ _ ?hS1x9 (fun hHeld => ?hR1x9)
    case hS1x9 => ((try dsimp only); (first | exact below_drew1 (Below.refl _ _) | exact below_drew1 b0_ | exact j0 | exact below_alloc j0 _ | exact below_alloc (below_drew1 (Below.refl _ _)) _ | assumption))
    clear hK K
    (try simp only [Act.put, qa_, qb_, qc_])
    refine wpAnyH_ready (rs := [7]) (by kernel_rfl) (by simp) ?_
    refine AllReadyH.cons (o := ⟨some 72, _, _, _, _, _⟩) rfl (fun K hK => ?hT1x10) ?hM1x10
    case hM1x10 => exact AllReadyH.nil
    go_simp
    (try go_wp2_with fail)
    refine hK.out _ _ ?hS1x10 (fun hHeld => ?hR1x10)
    case hS1x10 => ((try dsimp only); (first | exact below_drew1 (Below.refl _ _) | exact below_drew1 b0_ | exact j0 | exact below_alloc j0 _ | exact below_alloc (below_drew1 (Below.refl _ _)) _ | assumption))
    clear hK K
    (try simp only [Act.put, qa_, qb_, qc_])
    refine wpAnyH_take (i := 8) (oi := ⟨some 73, _, _, _, _, _⟩) (v := ?_) rfl (by kernel_rfl) (by kernel_rfl) (by kernel_rfl) (fun _ _ _ h => h) (Or.inl ⟨by rfl, ?hY1x11⟩) (by assumption) ?hR1x11
    case hY1x11 => (intro w hSw; (try dsimp only at hSw); go_simp; try with_reducible rfl)
    (try simp only [Act.put, qa_, qb_, qc_])
    refine wpAnyH_done (by kernel_rfl) ?_ _
    have bt : Box (w6.alloc (Obj.cells #[Value.slice D kd dc, Value.slice T tb.length kt] 22)) w6.heap.size #[Value.slice D kd dc, Value.slice T tb.length kt] 22 := Box.new
    obtain ⟨tt, htt⟩ : ∃ b, w6.heap.size = b := ⟨_, rfl⟩
    have HB2 := Aside0.mk (below_alloc (below_step HB.out j0) (Obj.cells #[Value.slice D kd dc, Value.slice T tb.length kt] 22))
    have HTS := Aside0.mk (show ∀ i : Nat, i < 2 → ∃ TA tn tc tl, (w6.alloc (Obj.cells #[Value.slice D kd dc, Value.slice T tb.length kt] 22)).cell? ⟨tt, i, none⟩ = some (.slice TA tn tc) ∧ kP.C (w6.alloc (Obj.cells #[Value.slice D kd dc, Value.slice T tb.length kt] 22)) TA tn tl ∧ tn ≤ tc by
      intro i hi2
      rw [← htt]
      match i, hi2 with
      | 0, _ => exact ⟨D, kd, dc, _, bt.cell 0, C_alloc (Kd.C_below HWW.out j0), HKD.out⟩
      | 1, _ => exact ⟨T, tb.length, kt, _, bt.cell 1, C_alloc hT, hkt⟩)
    have HOD := Aside0.mk (show kI.C (w6.alloc (Obj.cells #[Value.slice D kd dc, Value.slice T tb.length kt] 22)) Av no od from C_alloc (Kd.C_below HVC.out j0))
    rw [htt]
    generalize w6.alloc (Obj.cells #[Value.slice D kd dc, Value.slice T tb.length kt] 22) = W2 at *
    clear bt HVC HWW hT HB HAW HTB HKD htt j0 g0
    have HB := HB2
    clear HB2
    have HTL := HTS
    obtain ⟨its, hits⟩ : ∃ q, itemsR items = q := ⟨_, rfl⟩
    have HIT := Aside0.mk hits
    have HLN := Aside0.mk (show its.length ≤ 20 by rw [← hits]; exact itemsR_len items)
    have HIK := Aside0.mk (show ∀ x ∈ its, okI x by rw [← hits]; exact okI_items items)
    have HIF := Aside0.mk (show ∀ x ∈ its, x.f0.length ≤ 2048 by rw [← hits]; exact itemsR_f0 items)
    clear hits HTS hHeld hb_ s6 hkt HR
    go_wp2
    go_loopw [74] (fun v74 wx => ∃ i : Nat, i ≤ 2 ∧ v74 = .int .i64 (i : Int) ∧ Below w.heap.size w wx ∧ Below W2.heap.size W2 wx) (fun v74 _ => 2 - (intOf v74).toNat)
    case atStart => exact ⟨0, by omega, rfl, HB.out, Below.refl _ _⟩
    case round =>
      obtain ⟨i, hiN, rfl, hb, hb2⟩ := hrel
      clear HB
      have HB := Aside0.mk hb
      have HB2 := Aside0.mk hb2
      clear hb hb2
      by_cases hlt : i < 2
      · obtain ⟨TA, tn, tc, tl, rT, hTC, htc⟩ := HTL.out i hlt
        replace rT := (HB2.out.cell (p := ⟨tt, i, none⟩) (cell_lt rT)).trans rT
        have HTC := Aside0.mk (Kd.C_below hTC HB2.out)
        obtain ⟨z, hz⟩ : ∃ z : Int, (i : Int) = z := ⟨_, rfl⟩
        have hzi : i = z.toNat := by omega
        rw [hzi] at rT
        rw [hz]
        have hz0 : 0 ≤ z := by omega
        have hz1 : z < 2 := by omega
        have hd1 : decide (z < 2) = true := decide_eq_true hz1
        have HZ := Aside0.mk (And.intro hz hlt)
        clear hz hzi hlt hTC hiN
        go_wp2_with fail
        refine (itemsC B m d items its _ (Kd.C_below HBC.out HB.out) hd HI.out HIT.out).mono ?_
        rintro e w7 ⟨I, ki, rfl, hki, hI, hb_⟩
        have HTC7 := Aside0.mk (C_alloc (o := Obj.cells #[Value.slice I its.length ki, Value.slice Av no cv] 25) (Kd.C_below HTC.out hb_))
        have HB7 := Aside0.mk (below_alloc (below_step HB.out hb_) (Obj.cells #[Value.slice I its.length ki, Value.slice Av no cv] 25))
        have HB27 := Aside0.mk (below_alloc (below_step HB2.out hb_) (Obj.cells #[Value.slice I its.length ki, Value.slice Av no cv] 25))
        have bt : Box (w7.alloc (Obj.cells #[Value.slice I its.length ki, Value.slice Av no cv] 25)) w7.heap.size #[Value.slice I its.length ki, Value.slice Av no cv] 25 := Box.new
        obtain ⟨tt2, htt2⟩ : ∃ b, w7.heap.size = b := ⟨_, rfl⟩
        rw [htt2] at bt
        have HIL := Aside0.mk (show ∀ i : Nat, i < 2 → ∃ IA im ic il, (w7.alloc (Obj.cells #[Value.slice I its.length ki, Value.slice Av no cv] 25)).cell? ⟨tt2, i, none⟩ = some (.slice IA im ic) ∧ kI.C (w7.alloc (Obj.cells #[Value.slice I its.length ki, Value.slice Av no cv] 25)) IA im il ∧ im ≤ ic ∧ im ≤ 20 ∧ (∀ x ∈ il, okI x) ∧ (∀ x ∈ il, x.f0.length ≤ 2048) by
          intro i hi2
          match i, hi2 with
          | 0, _ => exact ⟨I, its.length, ki, its, bt.cell 0, C_alloc hI, hki, HLN.out, HIK.out, HIF.out⟩
          | 1, _ => exact ⟨Av, no, cv, od, bt.cell 1, C_alloc (Kd.C_below (Kd.C_below HOD.out HB2.out) hb_), hnc, by omega, HOI.out, HOF.out⟩)
        clear bt HTC HB HB2 hI hb_ hki
        go_wp2
        generalize w7.alloc (Obj.cells #[Value.slice I its.length ki, Value.slice Av no cv] 25) = W3 at *
        clear htt2
        go_loopw [83] (fun v83 wx => ∃ i : Nat, i ≤ 2 ∧ v83 = .int .i64 (i : Int) ∧ Below w.heap.size w wx ∧ Below W2.heap.size W2 wx ∧ Below W3.heap.size W3 wx) (fun v83 _ => 2 - (intOf v83).toNat)
        case atStart => exact ⟨0, by omega, rfl, HB7.out, HB27.out, Below.refl _ _⟩
        case round =>
          obtain ⟨i2, hiN2, rfl, hb, hb2, hb3⟩ := hrel
          clear HB7 HB27
          have HB := Aside0.mk hb
          have HB2 := Aside0.mk hb2
          have HB3 := Aside0.mk hb3
          clear hb hb2 hb3
          by_cases hlt2 : i2 < 2
          · obtain ⟨IA, im, ic, il, rI, hIC, hic, him, hik, hif⟩ := HIL.out i2 hlt2
            replace rI := (HB3.out.cell (p := ⟨tt2, i2, none⟩) (cell_lt rI)).trans rI
            have HIC := Aside0.mk (Kd.C_below hIC HB3.out)
            have HTW := Aside0.mk (Kd.C_below HTC7.out HB3.out)
            have HIK2 := Aside0.mk hik
            have HIF2 := Aside0.mk hif
            obtain ⟨z2, hz2⟩ : ∃ z : Int, (i2 : Int) = z := ⟨_, rfl⟩
            have hzi2 : i2 = z2.toNat := by omega
            rw [hzi2] at rI
            rw [hz2]
            have hy0 : 0 ≤ z2 := by omega
            have hy1 : z2 < 2 := by omega
            have hd2 : decide (z2 < 2) = true := decide_eq_true hy1
            have HZ2 := Aside0.mk (And.intro hz2 hlt2)
            clear hz2 hzi2 hlt2 hIC hiN2 hik hif
            have hbl : (il.map (chk tl)).length ≤ 20 := by rw [List.length_map, Kd.C_len HIC.out]; exact him
            have hcb : cnt (chk tl) il ≤ 1000 := by
              have h := cnt_le (chk tl) _ il (Nat.le_refl _)
              rw [Kd.C_len HIC.out] at h
              omega
            obtain ⟨bs, hbs⟩ : ∃ q, il.map (chk tl) = q := ⟨_, rfl⟩
            obtain ⟨ck, hck⟩ : ∃ q, cnt (chk tl) il = q := ⟨_, rfl⟩
            rw [hbs] at hbl
            rw [hck] at hcb
            have HBS := Aside0.mk hbs
            have HCK := Aside0.mk hck
            clear hbs hck
            have HW := HB
            clear HB
            have HB := Aside0.mk (Below.refl wr.heap.size wr)
            go_wp2_with fail
            refine (findC TA tn tc tl IA im ic il bs ck _ HTW.out htc HIC.out hic HIK2.out (by omega) HBS.out HCK.out).mono ?_
            rintro e w21 ⟨Q, rfl, hQ, hb_⟩
            have ZHTW := Aside0.mk (Kd.C_below (by repeat (with_reducible first | exact HTW.out | apply C_alloc | apply C_drew)) hb_); clear HTW; have HTW := ZHTW; clear ZHTW
            have ZHIC := Aside0.mk (Kd.C_below (by repeat (with_reducible first | exact HIC.out | apply C_alloc | apply C_drew)) hb_); clear HIC; have HIC := ZHIC; clear ZHIC
            have n_ := Aside0.mk (below_step (by repeat (first | exact HB.out | apply below_alloc | apply pw_below_drewN | apply below_drew1 | refine below_set ?_ (by first | omega | (simp; omega)))) hb_); clear HB hb_; have HB := n_; clear n_
            have HQC := Aside0.mk hQ
            clear hQ
            go_wp2_with fail
            refine (rFind im TA tn tc tl IA im ic il _ HTW.out htc HIC.out hic HIF2.out (by omega) (Nat.le_refl _)).mono ?_
            rintro e w22 ⟨v2, rfl, hR1x2, hb_⟩
            have ZHQC := Aside0.mk (Kd.C_below (by repeat (with_reducible first | exact HQC.out | apply C_alloc | apply C_drew)) hb_); clear HQC; have HQC := ZHQC; clear ZHQC
            have n_ := Aside0.mk (below_step (by repeat (first | exact HB.out | apply below_alloc | apply pw_below_drewN | apply below_drew1 | refine below_set ?_ (by first | omega | (simp; omega)))) hb_); clear HB hb_; have HB := n_; clear n_
            rw [HBS.out] at hR1x2
            rw [HCK.out]
            obtain ⟨A2, k2, rfl⟩ := Kd.R_slice hR1x2
            have HR2 := Aside0.mk (Kd.R_reads' hR1x2)
            clear hR1x2 HTW HIC
            go_wp2_with fail
            refine (boolsC (some Q) A2 im im bs.length k2 bs bs _ HQC.out (Nat.le_refl _) HR2.out.2.2 HR2.out.2.1 (by omega) rfl).mono ?_
            rintro e w23 ⟨rfl, hb_⟩
            have n_ := Aside0.mk (below_step (by repeat (first | exact HB.out | apply below_alloc | apply pw_below_drewN | apply below_drew1 | refine below_set ?_ (by first | omega | (simp; omega)))) hb_); clear HB hb_; have HB := n_; clear n_
            go_wp2
            go_roundw
            case rel => exact ⟨i2 + 1, by have := HZ2.out; omega, by have := HZ2.out.1; subst this; go_num, below_step HW.out HB.out, below_step HB2.out HB.out, below_step HB3.out HB.out⟩
            case measure =>
              have := HZ2.out
              simp [intOf]
              omega
          · have hdf : decide ((i2 : Int) < 2) = false := decide_eq_false (by omega)
            have hdg : ¬ (i2 : Int) < 2 := by omega
            clear hlt2
            go_wp2
            go_roundw
            case rel => exact ⟨i + 1, by have := HZ.out; omega, by have := HZ.out.1; subst this; go_num, HB.out, HB2.out⟩
            case measure =>
              have := HZ.out
              simp [intOf]
              omega
      · have hdf : decide ((i : Int) < 2) = false := decide_eq_false (by omega)
        have hdg : ¬ (i : Int) < 2 := by omega
        clear hlt hiN HB2 HTL HIT HLN HIK HIF HOD HOI HOF HBC HI
        obtain ⟨p0, hp0⟩ : ∃ p, pickZ x 2147483648 = p := ⟨_, rfl⟩
        obtain ⟨q0, hq0⟩ : ∃ p, pickZ y 2147483648 = p := ⟨_, rfl⟩
        obtain ⟨p1, hp1⟩ : ∃ p, pickZ x 40 = p := ⟨_, rfl⟩
        obtain ⟨q1, hq1⟩ : ∃ p, pickZ y 40 = p := ⟨_, rfl⟩
        have l1 := pickZ_lt x 2147483648 (by omega)
        have l2 := pickZ_lt y 2147483648 (by omega)
        have l3 := pickZ_lt x 40 (by omega)
        have l4 := pickZ_lt y 40 (by omega)
        rw [hp0] at l1
        rw [hq0] at l2
        rw [hp1] at l3
        rw [hq1] at l4
        have HP0 := Aside0.mk hp0
        have HQ0 := Aside0.mk hq0
        have HP1 := Aside0.mk hp1
        have HQ1 := Aside0.mk hq1
        clear hp0 hq0 hp1 hq1
        go_wp2_with fail
        refine (pick15E x 2147483648 p0 hx (by omega) _ HP0.out).mono ?_
        rintro e w31 ⟨rfl, hb_⟩
        have n_ := Aside0.mk (below_step (by repeat (first | exact HB.out | apply below_alloc | apply pw_below_drewN | apply below_drew1 | refine below_set ?_ (by first | omega | (simp; omega)))) hb_); clear HB hb_; have HB := n_; clear n_
        go_wp2_with fail
        refine (pick15E y 2147483648 q0 hy (by omega) _ HQ0.out).mono ?_
        rintro e w32 ⟨rfl, hb_⟩
        have n_ := Aside0.mk (below_step (by repeat (first | exact HB.out | apply below_alloc | apply pw_below_drewN | apply below_drew1 | refine below_set ?_ (by first | omega | (simp; omega)))) hb_); clear HB hb_; have HB := n_; clear n_
        obtain ⟨mo, hmo⟩ : ∃ q, mostF (p0 - 1073741824) (q0 - 1073741824) = q := ⟨_, rfl⟩
        obtain ⟨mo1, hmo1⟩ : ∃ q, mostF p1 q1 = q := ⟨_, rfl⟩
        have HMO := Aside0.mk hmo
        have HM1 := Aside0.mk hmo1
        clear hmo hmo1
        go_wp2_with fail
        refine (bMostE (p0 - 1073741824) (q0 - 1073741824) mo (by omega) (by omega) _ HMO.out).mono ?_
        rintro e w33 ⟨rfl, hb_⟩
        have n_ := Aside0.mk (below_step (by repeat (first | exact HB.out | apply below_alloc | apply pw_below_drewN | apply below_drew1 | refine below_set ?_ (by first | omega | (simp; omega)))) hb_); clear HB hb_; have HB := n_; clear n_
        go_wp2_with fail
        refine (rMostE (p0 - 1073741824) (q0 - 1073741824) mo (by omega) (by omega) _ HMO.out).mono ?_
        rintro e w34 ⟨rfl, hb_⟩
        have n_ := Aside0.mk (below_step (by repeat (first | exact HB.out | apply below_alloc | apply pw_below_drewN | apply below_drew1 | refine below_set ?_ (by first | omega | (simp; omega)))) hb_); clear HB hb_; have HB := n_; clear n_
        go_wp2_with fail
        refine (pick15E x 40 p1 hx (by omega) _ HP1.out).mono ?_
        rintro e w35 ⟨rfl, hb_⟩
        have n_ := Aside0.mk (below_step (by repeat (first | exact HB.out | apply below_alloc | apply pw_below_drewN | apply below_drew1 | refine below_set ?_ (by first | omega | (simp; omega)))) hb_); clear HB hb_; have HB := n_; clear n_
        go_wp2_with fail
        refine (pick15E y 40 q1 hy (by omega) _ HQ1.out).mono ?_
        rintro e w36 ⟨rfl, hb_⟩
        have n_ := Aside0.mk (below_step (by repeat (first | exact HB.out | apply below_alloc | apply pw_below_drewN | apply below_drew1 | refine below_set ?_ (by first | omega | (simp; omega)))) hb_); clear HB hb_; have HB := n_; clear n_
        go_wp2_with fail
        refine (bMostE p1 q1 mo1 (by omega) (by omega) _ HM1.out).mono ?_
        rintro e w37 ⟨rfl, hb_⟩
        have n_ := Aside0.mk (below_step (by repeat (first | exact HB.out | apply below_alloc | apply pw_below_drewN | apply below_drew1 | refine below_set ?_ (by first | omega | (simp; omega)))) hb_); clear HB hb_; have HB := n_; clear n_
        go_wp2_with fail
        refine (pick15E x 40 p1 hx (by omega) _ HP1.out).mono ?_
        rintro e w38 ⟨rfl, hb_⟩
        have n_ := Aside0.mk (below_step (by repeat (first | exact HB.out | apply below_alloc | apply pw_below_drewN | apply below_drew1 | refine below_set ?_ (by first | omega | (simp; omega)))) hb_); clear HB hb_; have HB := n_; clear n_
        go_wp2_with fail
        refine (pick15E y 40 q1 hy (by omega) _ HQ1.out).mono ?_
        rintro e w39 ⟨rfl, hb_⟩
        have n_ := Aside0.mk (below_step (by repeat (first | exact HB.out | apply below_alloc | apply pw_below_drewN | apply below_drew1 | refine below_set ?_ (by first | omega | (simp; omega)))) hb_); clear HB hb_; have HB := n_; clear n_
        go_wp2_with fail
        refine (rMostE p1 q1 mo1 (by omega) (by omega) _ HM1.out).mono ?_
        rintro e w40 ⟨rfl, hb_⟩
        have n_ := Aside0.mk (below_step (by repeat (first | exact HB.out | apply below_alloc | apply pw_below_drewN | apply below_drew1 | refine below_set ?_ (by first | omega | (simp; omega)))) hb_); clear HB hb_; have HB := n_; clear n_
        go_wp2
        go_ret
        exact ⟨rfl, HB.out⟩
end Go.Proofs.Ytnfglkgkdechlaa

