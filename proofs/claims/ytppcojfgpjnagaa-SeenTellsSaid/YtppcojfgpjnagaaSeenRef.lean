
/- Marks with one more (chapter 13): the document's Add. -/
import Derived.Test.YtppcojfgpjnagaaSeenAdd
set_option linter.unusedVariables false
set_option linter.unusedSimpArgs false
namespace Go.Proofs.Ytppcojfgpjnagaa
open Go.RowKit Go.Proofs.YtppcojfgpjnagaaW.PrintWords Go.Proofs.YtppcojfgpjnagaaW.PrintLast Go.Proofs.YtppcojfgpjnagaaW.PrintMore

open Go.Proofs.Ytppcojfgpjnagaa.PQ

theorem RRight_v (A : Option Addr) (n c : Nat) (l : List Mk) (b : Bool) (w : World) (hr : kM.C w A n l) (hc : n ≤ c) (h : rightM l = b) : Calls Try.prog 23 #[.slice A n c] w fun e w' => e = .returned (.bool b) ∧ Below w.heap.size w w' := by
  obtain rfl := Kd.C_len hr
  exact mootbellref13_Right.calls (l.length + 1) A c l b w hr hc (by rw [right_f l (Kd.C_max hr) _ (by omega), h])
theorem RHas_v (A : Option Addr) (n c : Nat) (l : List Mk) (m : Mk) (b : Bool) (w : World) (hr : kM.C w A n l) (hc : n ≤ c) (h : hasM l m = b) : Calls Try.prog 16 #[.slice A n c, .agg #[.int .i64 m.f0, .int .i64 m.f1, .int .i64 m.f2]] w fun e w' => e = .returned (.bool b) ∧ Below w.heap.size w w' := by
  obtain rfl := Kd.C_len hr
  exact mootbellref13_Has.calls (2 * l.length + 2) A c l m.f0 m.f1 m.f2 b w hr hc (by rw [has_f l m (Kd.C_max hr) _ (by omega), h])
theorem rmay_v (m : Mk) (b : Bool) (w : World) (h : mayM m = b) : Calls Try.prog 29 #[.agg #[.int .i64 m.f0, .int .i64 m.f1, .int .i64 m.f2]] w fun e w' => e = .returned (.bool b) ∧ Below w.heap.size w w' :=
  mootbellref13_may.calls m.f0 m.f1 m.f2 b w (by rw [may_f, h])
theorem ahead_v (a m : Mk) (b : Bool) (w : World) (h : ltM a m = b) : Calls Try.prog 30 #[.agg #[.int .i64 a.f0, .int .i64 a.f1, .int .i64 a.f2], .agg #[.int .i64 m.f0, .int .i64 m.f1, .int .i64 m.f2]] w fun e w' => e = .returned (.bool b) ∧ Below w.heap.size w w' :=
  mootbellref13_ahead.calls a.f0 a.f1 a.f2 m.f0 m.f1 m.f2 b w (by rw [ahead_f, h])
theorem pos_of {l : List Mk} {m : Mk} {p : Nat} (h0 : p ≤ l.length) (h1 : ∀ k : Nat, k < p → ltM (rdM l k) m = true) (h2 : p < l.length → ltM (rdM l p) m = false) : p = posM l m := by
  have h3 := posM_le l m
  rcases Nat.lt_trichotomy p (posM l m) with g | g | g
  · have a := posM_lt l m p g
    rw [h2 (by omega)] at a
    cases a
  · exact g
  · have a := posM_at l m (by omega)
    rw [h1 _ g] at a
    cases a
theorem C_one {W : World} {vb : Nat} {m : Mk} (h : Box W vb #[.int .i64 m.f0, .int .i64 m.f1, .int .i64 m.f2] 25) : kM.C W (some ⟨vb, 0, none⟩) 1 [m] := by
  refine ⟨rfl, by omega, fun _ => ⟨_, rfl, fun j p hj => ?_⟩⟩
  have hj0 : j = 0 := by
    rcases Nat.eq_zero_or_pos j with h | h
    · exact h
    · rw [List.getElem?_eq_none (by simp; omega)] at hj
      cases hj
  subst hj0
  obtain rfl : m = p := by simpa using hj
  refine ⟨cellM m, rfl, k25_mk _ _, fun i u hu => ?_⟩
  have h2 := h.cell i
  rw [show ((⟨vb, 0, none⟩ : Addr).add (0 * kM.sz + i)) = ⟨vb, i, none⟩ by rw [Nat.zero_mul, Nat.zero_add]; unfold Addr.add; split <;> simp_all, h2]
  unfold cellM at hu
  simpa using hu
theorem C_take' {A : Option Addr} {l : List Mk} {w : World} {n p : Nat} (h : kM.C w A n l) (hp : p ≤ n) : kM.C w A p (l.take p) := by
  obtain rfl := Kd.C_len h
  have e := Kd.C_take h hp
  rw [List.length_take, Nat.min_eq_left hp] at e
  exact e
theorem C_drop' {A : Option Addr} {l : List Mk} {w : World} {n p c : Nat} (h : kM.C w A n l) (hp : p ≤ n) (hc : n ≤ c) : kM.C w (if c = p then A else A.map (·.add (p * 3))) (n - p) (l.drop p) := by
  obtain rfl := Kd.C_len h
  have e := Kd.C_drop h hp hc
  rw [List.length_drop] at e
  exact e
set_option maxRecDepth 100000 in
set_option maxHeartbeats 8000000 in
theorem RAdd_calls (A : Option Addr) (n c : Nat) (l : List Mk) (room : Int) (m : Mk) (w : World) (hr : kM.C w A n l) (hc : n ≤ c) (hl : n ≤ 1000000) : Calls Try.prog 13 #[.slice A n c, .int .i64 room, .agg #[.int .i64 m.f0, .int .i64 m.f1, .int .i64 m.f2]] w
    fun r w' => ∃ v, r = .returned (.tuple #[v, .int .i64 (addM l room m).2]) ∧ kM.R 25 w' w.heap.size (fun _ => True) v (addM l room m).1 ∧ Below w.heap.size w w' := by
  have HN := Aside0.mk (show n = l.length from (Kd.C_len hr).symm)
  have HX := Aside0.mk hr
  clear hr
  have HB := Aside0.mk (Below.refl w.heap.size w)
  unfold addM
  rcases Bool.eq_false_or_eq_true (rightM l) with h | h
  · rcases Bool.eq_false_or_eq_true (mayM m) with h2 | h2
    · rw [if_pos ⟨h, h2⟩]
      have H := Aside0.mk h
      have H2 := Aside0.mk h2
      clear h h2
      by_cases hm : m ∈ l
      · rw [if_pos hm]
        have H3 := Aside0.mk (show hasM l m = true by unfold hasM; rw [H.out, decide_eq_true hm]; rfl)
        go_enter Try.func13, Try.ntmps13
        go_wp2_with fail
        refine (RRight_v A n c l true _ ?hC hc H.out).mono ?_
        case hC => exact C_alloc HX.out
        rintro e w5 ⟨rfl, hb_⟩
        have YE : Box w5 (w.heap.size) _ _ := Box.below (by repeat (with_reducible first | exact XE.out | exact Box.new | exact Box.new1 | exact Box.new2 | exact Box.new3 | apply Box.alloc | apply Box.drew | apply Box.drewN | apply Box.set)) hb_
        (try clear XE rE kE fE); have XE := Aside0.mk YE; have rE := YE.cell; have fE := YE.frozen; have kE := YE.lt; clear YE
        have ZHX := Aside0.mk (Kd.C_below (by repeat (with_reducible first | exact HX.out | apply C_alloc | apply C_drew)) hb_); clear HX; have HX := ZHX; clear ZHX
        have n_ := Aside0.mk (below_step (by repeat (first | exact HB.out | apply below_alloc | apply pw_below_drewN | apply below_drew1 | refine below_set ?_ (by first | omega | (simp; omega)))) hb_); clear HB hb_; have HB := n_; clear n_
        go_wp2_with fail
        refine (rmay_v m true _ H2.out).mono ?_
        rintro e w6 ⟨rfl, hb_⟩
        have YE : Box w6 (w.heap.size) _ _ := Box.below (by repeat (with_reducible first | exact XE.out | exact Box.new | exact Box.new1 | exact Box.new2 | exact Box.new3 | apply Box.alloc | apply Box.drew | apply Box.drewN | apply Box.set)) hb_
        (try clear XE rE kE fE); have XE := Aside0.mk YE; have rE := YE.cell; have fE := YE.frozen; have kE := YE.lt; clear YE
        have ZHX := Aside0.mk (Kd.C_below (by repeat (with_reducible first | exact HX.out | apply C_alloc | apply C_drew)) hb_); clear HX; have HX := ZHX; clear ZHX
        have n_ := Aside0.mk (below_step (by repeat (first | exact HB.out | apply below_alloc | apply pw_below_drewN | apply below_drew1 | refine below_set ?_ (by first | omega | (simp; omega)))) hb_); clear HB hb_; have HB := n_; clear n_
        go_wp2_with fail
        refine (RHas_v A n c l m true _ HX.out hc H3.out).mono ?_
        rintro e w7 ⟨rfl, hb_⟩
        have YE : Box w7 (w.heap.size) _ _ := Box.below (by repeat (with_reducible first | exact XE.out | exact Box.new | exact Box.new1 | exact Box.new2 | exact Box.new3 | apply Box.alloc | apply Box.drew | apply Box.drewN | apply Box.set)) hb_
        (try clear XE rE kE fE); have XE := Aside0.mk YE; have rE := YE.cell; have fE := YE.frozen; have kE := YE.lt; clear YE
        have ZHX := Aside0.mk (Kd.C_below (by repeat (with_reducible first | exact HX.out | apply C_alloc | apply C_drew)) hb_); clear HX; have HX := ZHX; clear ZHX
        have n_ := Aside0.mk (below_step (by repeat (first | exact HB.out | apply below_alloc | apply pw_below_drewN | apply below_drew1 | refine below_set ?_ (by first | omega | (simp; omega)))) hb_); clear HB hb_; have HB := n_; clear n_
        go_wp2
        go_ret2
        exact ⟨_, rfl, Kd.R_nil _ _ _ _ _, HB.out⟩
      · rw [if_neg hm]
        have H3 := Aside0.mk (show hasM l m = false by unfold hasM; rw [H.out, decide_eq_false hm]; rfl)
        by_cases hrm : room ≤ (l.length : Int)
        · rw [if_pos hrm]
          rw [← HN.out] at hrm
          go_enter Try.func13, Try.ntmps13
          go_wp2_with fail
          refine (RRight_v A n c l true _ ?hC2 hc H.out).mono ?_
          case hC2 => exact C_alloc HX.out
          rintro e w5 ⟨rfl, hb_⟩
          have YE : Box w5 (w.heap.size) _ _ := Box.below (by repeat (with_reducible first | exact XE.out | exact Box.new | exact Box.new1 | exact Box.new2 | exact Box.new3 | apply Box.alloc | apply Box.drew | apply Box.drewN | apply Box.set)) hb_
          (try clear XE rE kE fE); have XE := Aside0.mk YE; have rE := YE.cell; have fE := YE.frozen; have kE := YE.lt; clear YE
          have ZHX := Aside0.mk (Kd.C_below (by repeat (with_reducible first | exact HX.out | apply C_alloc | apply C_drew)) hb_); clear HX; have HX := ZHX; clear ZHX
          have n_ := Aside0.mk (below_step (by repeat (first | exact HB.out | apply below_alloc | apply pw_below_drewN | apply below_drew1 | refine below_set ?_ (by first | omega | (simp; omega)))) hb_); clear HB hb_; have HB := n_; clear n_
          go_wp2_with fail
          refine (rmay_v m true _ H2.out).mono ?_
          rintro e w6 ⟨rfl, hb_⟩
          have YE : Box w6 (w.heap.size) _ _ := Box.below (by repeat (with_reducible first | exact XE.out | exact Box.new | exact Box.new1 | exact Box.new2 | exact Box.new3 | apply Box.alloc | apply Box.drew | apply Box.drewN | apply Box.set)) hb_
          (try clear XE rE kE fE); have XE := Aside0.mk YE; have rE := YE.cell; have fE := YE.frozen; have kE := YE.lt; clear YE
          have ZHX := Aside0.mk (Kd.C_below (by repeat (with_reducible first | exact HX.out | apply C_alloc | apply C_drew)) hb_); clear HX; have HX := ZHX; clear ZHX
          have n_ := Aside0.mk (below_step (by repeat (first | exact HB.out | apply below_alloc | apply pw_below_drewN | apply below_drew1 | refine below_set ?_ (by first | omega | (simp; omega)))) hb_); clear HB hb_; have HB := n_; clear n_
          go_wp2_with fail
          refine (RHas_v A n c l m false _ HX.out hc H3.out).mono ?_
          rintro e w7 ⟨rfl, hb_⟩
          have YE : Box w7 (w.heap.size) _ _ := Box.below (by repeat (with_reducible first | exact XE.out | exact Box.new | exact Box.new1 | exact Box.new2 | exact Box.new3 | apply Box.alloc | apply Box.drew | apply Box.drewN | apply Box.set)) hb_
          (try clear XE rE kE fE); have XE := Aside0.mk YE; have rE := YE.cell; have fE := YE.frozen; have kE := YE.lt; clear YE
          have ZHX := Aside0.mk (Kd.C_below (by repeat (with_reducible first | exact HX.out | apply C_alloc | apply C_drew)) hb_); clear HX; have HX := ZHX; clear ZHX
          have n_ := Aside0.mk (below_step (by repeat (first | exact HB.out | apply below_alloc | apply pw_below_drewN | apply below_drew1 | refine below_set ?_ (by first | omega | (simp; omega)))) hb_); clear HB hb_; have HB := n_; clear n_
          go_wp2
          go_ret2
          exact ⟨_, rfl, Kd.R_nil _ _ _ _ _, HB.out⟩
        · rw [if_neg hrm]
          rw [← HN.out] at hrm
          go_enter Try.func13, Try.ntmps13
          go_wp2_with fail
          refine (RRight_v A n c l true _ ?hC3 hc H.out).mono ?_
          case hC3 => exact C_alloc HX.out
          rintro e w5 ⟨rfl, hb_⟩
          have YE : Box w5 (w.heap.size) _ _ := Box.below (by repeat (with_reducible first | exact XE.out | exact Box.new | exact Box.new1 | exact Box.new2 | exact Box.new3 | apply Box.alloc | apply Box.drew | apply Box.drewN | apply Box.set)) hb_
          (try clear XE rE kE fE); have XE := Aside0.mk YE; have rE := YE.cell; have fE := YE.frozen; have kE := YE.lt; clear YE
          have ZHX := Aside0.mk (Kd.C_below (by repeat (with_reducible first | exact HX.out | apply C_alloc | apply C_drew)) hb_); clear HX; have HX := ZHX; clear ZHX
          have n_ := Aside0.mk (below_step (by repeat (first | exact HB.out | apply below_alloc | apply pw_below_drewN | apply below_drew1 | refine below_set ?_ (by first | omega | (simp; omega)))) hb_); clear HB hb_; have HB := n_; clear n_
          go_wp2_with fail
          refine (rmay_v m true _ H2.out).mono ?_
          rintro e w6 ⟨rfl, hb_⟩
          have YE : Box w6 (w.heap.size) _ _ := Box.below (by repeat (with_reducible first | exact XE.out | exact Box.new | exact Box.new1 | exact Box.new2 | exact Box.new3 | apply Box.alloc | apply Box.drew | apply Box.drewN | apply Box.set)) hb_
          (try clear XE rE kE fE); have XE := Aside0.mk YE; have rE := YE.cell; have fE := YE.frozen; have kE := YE.lt; clear YE
          have ZHX := Aside0.mk (Kd.C_below (by repeat (with_reducible first | exact HX.out | apply C_alloc | apply C_drew)) hb_); clear HX; have HX := ZHX; clear ZHX
          have n_ := Aside0.mk (below_step (by repeat (first | exact HB.out | apply below_alloc | apply pw_below_drewN | apply below_drew1 | refine below_set ?_ (by first | omega | (simp; omega)))) hb_); clear HB hb_; have HB := n_; clear n_
          go_wp2_with fail
          refine (RHas_v A n c l m false _ HX.out hc H3.out).mono ?_
          rintro e w7 ⟨rfl, hb_⟩
          have YE : Box w7 (w.heap.size) _ _ := Box.below (by repeat (with_reducible first | exact XE.out | exact Box.new | exact Box.new1 | exact Box.new2 | exact Box.new3 | apply Box.alloc | apply Box.drew | apply Box.drewN | apply Box.set)) hb_
          (try clear XE rE kE fE); have XE := Aside0.mk YE; have rE := YE.cell; have fE := YE.frozen; have kE := YE.lt; clear YE
          have ZHX := Aside0.mk (Kd.C_below (by repeat (with_reducible first | exact HX.out | apply C_alloc | apply C_drew)) hb_); clear HX; have HX := ZHX; clear ZHX
          have n_ := Aside0.mk (below_step (by repeat (first | exact HB.out | apply below_alloc | apply pw_below_drewN | apply below_drew1 | refine below_set ?_ (by first | omega | (simp; omega)))) hb_); clear HB hb_; have HB := n_; clear n_
          clear rE fE kE
          go_wp2
          go_loopw [10] (fun iv wx => ∃ p : Nat, p ≤ n ∧ iv = .int .i64 p ∧ (∀ k : Nat, k < p → ltM (rdM l k) m = true) ∧ Below w7.heap.size w7 wx) (fun iv _ => n - (intOf iv).toNat)
          case atStart => exact ⟨0, by omega, rfl, fun k hk => by omega, Below.refl _ _⟩
          case round =>
            obtain ⟨p, hp, rfl, hlt, hbx⟩ := hrel
            rename World => wo
            have HBX := Aside0.mk hbx
            have HLT := Aside0.mk hlt
            clear hbx hlt
            have rE := (Box.below XE.out HBX.out).cell
            have kE := (Box.below XE.out HBX.out).lt
            have HXW := Aside0.mk (Kd.C_below HX.out HBX.out)
            by_cases hpn : p < n
            · obtain ⟨ad, rfl, c0, c1, c2⟩ := at_T25 HXW.out (p : Int) (by omega) (by omega)
              rw [Int.toNat_natCast] at c0 c1 c2
              obtain ⟨x, hx⟩ : ∃ x, rdM l p = x := ⟨_, rfl⟩
              have HXX := Aside0.mk hx
              unfold rdM at hx
              rw [hx] at c0 c1 c2
              clear hx
              have rP0 := c0
              have rP1 := c1
              have rP2 := c2
              have kP0 := cell_lt c0
              have kP1 := cell_lt c1
              have kP2 := cell_lt c2
              clear c0 c1 c2
              obtain ⟨b, hb⟩ : ∃ b, ltM x m = b := ⟨_, rfl⟩
              have HBB := Aside0.mk hb
              clear hb
              have hd : decide (p < n) = true := decide_eq_true hpn
              have hk0 : 0 ≤ (p : Int) := by omega
              have hkn : (p : Int) < (n : Int) := by omega
              go_upto_region 10 with (fail)
              refine wp_region_held_drew (S := (fun w' => Below wo.heap.size wo w' ∧ (∀ j, w'.cell? ⟨w.heap.size, j, none⟩ = (#[.int .i64 m.f0, .int .i64 m.f1, .int .i64 m.f2] : Array Value)[j]?) ∧ (w'.cell? (ad.add (p * 3)) = some (.int .i64 x.f0)) ∧ (w'.cell? ((⟨(ad.add (p * 3)).block, (ad.add (p * 3)).off + 1, none⟩ : Addr)) = some (.int .i64 x.f1)) ∧ (w'.cell? ((⟨(ad.add (p * 3)).block, (ad.add (p * 3)).off + 2, none⟩ : Addr)) = some (.int .i64 x.f2)))) (by kernel_rfl) ?hS7x0 (fun hHeld => ?hR7x0)
              case hS7x0 => ((try dsimp only); (first | exact ⟨below_drew1 (Below.refl _ _), rE, rP0, rP1, rP2⟩ | exact ⟨below_drew1 b0_, rE, rP0, rP1, rP2⟩ | exact ⟨j0, jE, jP0, jP1, jP2⟩ | exact ⟨below_alloc j0 _, fun j => (cell_alloc_old (Nat.lt_of_lt_of_le kE j0.size)).trans (jE j), (cell_alloc_oldp (Nat.lt_of_lt_of_le kP0 j0.size)).trans jP0, (cell_alloc_oldp (Nat.lt_of_lt_of_le kP1 j0.size)).trans jP1, (cell_alloc_oldp (Nat.lt_of_lt_of_le kP2 j0.size)).trans jP2⟩ | exact ⟨below_alloc (below_drew1 (Below.refl _ _)) _, fun j => (cell_alloc_old kE).trans (rE j), (cell_alloc_oldp kP0).trans rP0, (cell_alloc_oldp kP1).trans rP1, (cell_alloc_oldp kP2).trans rP2⟩ | assumption))
              refine wpAnyH_take (i := 0) (oi := ⟨some 28, _, _, _, _, _⟩) (v := ?_) rfl (by kernel_rfl) (by kernel_rfl) (by kernel_rfl) (fun _ _ _ h => h) (Or.inl ⟨by rfl, ?hY7x2⟩) (by assumption) ?hR7x2
              case hY7x2 => (intro w hSw; (try dsimp only at hSw); go_simp; try with_reducible rfl)
              (try simp only [Act.put, List.setIfInBounds_toArray, List.set_cons_zero, List.set_cons_succ])
              refine wpAnyH_take (i := 1) (oi := ⟨some 29, _, _, _, _, _⟩) (v := ?_) rfl (by kernel_rfl) (by kernel_rfl) (by kernel_rfl) (fun _ _ _ h => h) (Or.inl ⟨by rfl, ?hY7x3⟩) (by assumption) ?hR7x3
              case hY7x3 => (intro w hSw; (try dsimp only at hSw); go_simp; try with_reducible rfl)
              (try simp only [Act.put, List.setIfInBounds_toArray, List.set_cons_zero, List.set_cons_succ])
              refine wpAnyH_take (i := 2) (oi := ⟨some 30, _, _, _, _, _⟩) (v := ?_) rfl (by kernel_rfl) (by kernel_rfl) (by kernel_rfl) (fun _ _ _ h => h) (Or.inl ⟨by rfl, ?hY7x4⟩) (by assumption) ?hR7x4
              case hY7x4 => (intro w hSw; (try dsimp only at hSw); go_simp; try with_reducible rfl)
              (try simp only [Act.put, List.setIfInBounds_toArray, List.set_cons_zero, List.set_cons_succ])
              refine wpAnyH_take (i := 3) (oi := ⟨some 31, _, _, _, _, _⟩) (v := ?_) rfl (by kernel_rfl) (by kernel_rfl) (by kernel_rfl) (fun _ _ _ h => h) (Or.inl ⟨by rfl, ?hY7x5⟩) (by assumption) ?hR7x5
              case hY7x5 => (intro w hSw; (try dsimp only at hSw); go_simp; try with_reducible rfl)
              (try simp only [Act.put, List.setIfInBounds_toArray, List.set_cons_zero, List.set_cons_succ])
              refine wpAnyH_take (i := 4) (oi := ⟨some 32, _, _, _, _, _⟩) (v := ?_) rfl (by kernel_rfl) (by kernel_rfl) (by kernel_rfl) (fun _ _ _ h => h) (Or.inl ⟨by rfl, ?hY7x6⟩) (by assumption) ?hR7x6
              case hY7x6 => (intro w hSw; (try dsimp only at hSw); go_simp; try with_reducible rfl)
              (try simp only [Act.put, List.setIfInBounds_toArray, List.set_cons_zero, List.set_cons_succ])
              refine wpAnyH_take (i := 5) (oi := ⟨some 33, _, _, _, _, _⟩) (v := ?_) rfl (by kernel_rfl) (by kernel_rfl) (by kernel_rfl) (fun _ _ _ h => h) (Or.inl ⟨by rfl, ?hY7x7⟩) (by assumption) ?hR7x7
              case hY7x7 => (intro w hSw; (try dsimp only at hSw); go_simp; try with_reducible rfl)
              (try simp only [Act.put, List.setIfInBounds_toArray, List.set_cons_zero, List.set_cons_succ])
              refine wpAnyH_take (i := 6) (oi := ⟨some 34, _, _, _, _, _⟩) (v := ?_) rfl (by kernel_rfl) (by kernel_rfl) (by kernel_rfl) (fun _ _ _ h => h) (Or.inl ⟨by rfl, ?hY7x8⟩) (by assumption) ?hR7x8
              case hY7x8 => (intro w hSw; (try dsimp only at hSw); go_simp; try with_reducible rfl)
              (try simp only [Act.put, List.setIfInBounds_toArray, List.set_cons_zero, List.set_cons_succ])
              refine wpAnyH_take (i := 7) (oi := ⟨some 35, _, _, _, _, _⟩) (v := ?_) rfl (by kernel_rfl) (by kernel_rfl) (by kernel_rfl) (fun _ _ _ h => h) (Or.inl ⟨by rfl, ?hY7x9⟩) (by assumption) ?hR7x9
              case hY7x9 => (intro w hSw; (try dsimp only at hSw); go_simp; try with_reducible rfl)
              (try simp only [Act.put, List.setIfInBounds_toArray, List.set_cons_zero, List.set_cons_succ])
              refine wpAnyH_take (i := 8) (oi := ⟨some 36, _, _, _, _, _⟩) (v := ?_) rfl (by kernel_rfl) (by kernel_rfl) (by kernel_rfl) (fun _ _ _ h => h) (Or.inl ⟨by rfl, ?hY7x10⟩) (by assumption) ?hR7x10
              case hY7x10 => (intro w hSw; (try dsimp only at hSw); go_simp; try with_reducible rfl)
              (try simp only [Act.put, List.setIfInBounds_toArray, List.set_cons_zero, List.set_cons_succ])
              refine wpAnyH_take (i := 9) (oi := ⟨some 37, _, _, _, _, _⟩) (v := ?_) rfl (by kernel_rfl) (by kernel_rfl) (by kernel_rfl) (fun _ _ _ h => h) (Or.inl ⟨by rfl, ?hY7x11⟩) (by assumption) ?hR7x11
              case hY7x11 => (intro w hSw; (try dsimp only at hSw); go_simp; try with_reducible rfl)
              (try simp only [Act.put, List.setIfInBounds_toArray, List.set_cons_zero, List.set_cons_succ])
              refine wpAnyH_ready (rs := [10]) (by kernel_rfl) (by simp) ?_
              refine AllReadyH.cons (o := ⟨some 38, _, _, _, _, _⟩) rfl (fun K hK => ?hT7x12) ?hM7x12
              case hM7x12 => exact AllReadyH.nil
              go_simp
              (first | (go_at_call 30; obtain ⟨g0, gE, gP0, gP1, gP2⟩ := ‹Below wo.heap.size wo _ ∧ _›; ((with_reducible refine (ahead_v x m b _ HBB.out).mono ?_));  rintro e w9 ⟨rfl, hb_⟩; have j0 := below_step g0 hb_; have s9 := j0.size; have jE := fun j => (j0.cell (p := ⟨w.heap.size, j, none⟩) kE).trans (rE j); have jP0 := (j0.cell (p := ad.add (p * 3)) kP0).trans rP0; have jP1 := (j0.cell (p := (⟨(ad.add (p * 3)).block, (ad.add (p * 3)).off + 1, none⟩ : Addr)) kP1).trans rP1; have jP2 := (j0.cell (p := (⟨(ad.add (p * 3)).block, (ad.add (p * 3)).off + 2, none⟩ : Addr)) kP2).trans rP2))
              (try go_wp2_with fail)
              refine hK.out _ _ ?hS7x12 (fun hHeld => ?hR7x12)
              case hS7x12 => ((try dsimp only); (first | exact ⟨below_drew1 (Below.refl _ _), rE, rP0, rP1, rP2⟩ | exact ⟨below_drew1 b0_, rE, rP0, rP1, rP2⟩ | exact ⟨j0, jE, jP0, jP1, jP2⟩ | exact ⟨below_alloc j0 _, fun j => (cell_alloc_old (Nat.lt_of_lt_of_le kE j0.size)).trans (jE j), (cell_alloc_oldp (Nat.lt_of_lt_of_le kP0 j0.size)).trans jP0, (cell_alloc_oldp (Nat.lt_of_lt_of_le kP1 j0.size)).trans jP1, (cell_alloc_oldp (Nat.lt_of_lt_of_le kP2 j0.size)).trans jP2⟩ | exact ⟨below_alloc (below_drew1 (Below.refl _ _)) _, fun j => (cell_alloc_old kE).trans (rE j), (cell_alloc_oldp kP0).trans rP0, (cell_alloc_oldp kP1).trans rP1, (cell_alloc_oldp kP2).trans rP2⟩ | assumption))
              clear hK K
              (try simp only [Act.put, List.setIfInBounds_toArray, List.set_cons_zero, List.set_cons_succ])
              refine wpAnyH_take (i := 11) (oi := ⟨some 39, _, _, _, _, _⟩) (v := ?_) rfl (by kernel_rfl) (by kernel_rfl) (by kernel_rfl) (fun _ _ _ h => h) (Or.inl ⟨by rfl, ?hY7x13⟩) (by assumption) ?hR7x13
              case hY7x13 => (intro w hSw; (try dsimp only at hSw); go_simp; try with_reducible rfl)
              (try simp only [Act.put, List.setIfInBounds_toArray, List.set_cons_zero, List.set_cons_succ])
              refine wpAnyH_done (by kernel_rfl) ?_ _
              have HY2 := Aside0.mk (below_step HBX.out j0)
              clear rE kE rP0 rP1 rP2 kP0 kP1 kP2 hd
              cases b
              · have hp2 : p = posM l m := pos_of (by rw [← HN.out]; exact hp) HLT.out (fun _ => by rw [HXX.out]; exact HBB.out)
                have HP2 := Aside0.mk hp2
                clear hp2
                have hpc : p ≤ c := by omega
                rename World => V
                have HXV := Aside0.mk (Kd.C_below HXW.out j0)
                have rE := (Box.below XE.out HY2.out).cell
                have kE := (Box.below XE.out HY2.out).lt
                go_upto_region 12 with (fail)
                refine wp_region_held_drew (S := (fun w' => Below V.heap.size V w' ∧ (∀ j, w'.cell? ⟨w.heap.size, j, none⟩ = (#[.int .i64 m.f0, .int .i64 m.f1, .int .i64 m.f2] : Array Value)[j]?))) (by kernel_rfl) ?hS8x0 (fun hHeld => ?hR8x0)
                case hS8x0 => ((try dsimp only); (first | exact ⟨below_drew1 (Below.refl _ _), rE⟩ | exact ⟨below_drew1 b0_, rE⟩ | exact ⟨j0, jE⟩ | exact ⟨below_alloc j0 _, fun j => (cell_alloc_old (Nat.lt_of_lt_of_le kE j0.size)).trans (jE j)⟩ | exact ⟨below_alloc (below_drew1 (Below.refl _ _)) _, fun j => (cell_alloc_old kE).trans (rE j)⟩ | assumption))
                refine wpAnyH_take (i := 0) (oi := ⟨some 42, _, _, _, _, _⟩) (v := ?_) rfl (by kernel_rfl) (by kernel_rfl) (by kernel_rfl) (fun _ _ _ h => h) (Or.inl ⟨by rfl, ?hY8x2⟩) (by assumption) ?hR8x2
                case hY8x2 => (intro w hSw; (try dsimp only at hSw); go_simp; try with_reducible rfl)
                (try simp only [Act.put, List.setIfInBounds_toArray, List.set_cons_zero, List.set_cons_succ])
                refine wpAnyH_take (i := 1) (oi := ⟨some 43, _, _, _, _, _⟩) (v := ?_) rfl (by kernel_rfl) (by kernel_rfl) (by kernel_rfl) (fun _ _ _ h => h) (Or.inl ⟨by rfl, ?hY8x3⟩) (by assumption) ?hR8x3
                case hY8x3 => (intro w hSw; (try dsimp only at hSw); go_simp; try with_reducible rfl)
                (try simp only [Act.put, List.setIfInBounds_toArray, List.set_cons_zero, List.set_cons_succ])
                refine wpAnyH_take (i := 2) (oi := ⟨some 44, _, _, _, _, _⟩) (v := ?_) rfl (by kernel_rfl) (by kernel_rfl) (by kernel_rfl) (fun _ _ _ h => h) (Or.inl ⟨by rfl, ?hY8x4⟩) (by assumption) ?hR8x4
                case hY8x4 => (intro w hSw; (try dsimp only at hSw); go_simp; try with_reducible rfl)
                (try simp only [Act.put, List.setIfInBounds_toArray, List.set_cons_zero, List.set_cons_succ])
                refine wpAnyH_take (i := 4) (oi := ⟨some 46, _, _, _, _, _⟩) (v := ?_) rfl (by kernel_rfl) (by kernel_rfl) (by kernel_rfl) (fun _ _ _ h => h) (Or.inl ⟨by rfl, ?hY8x5⟩) (by assumption) ?hR8x5
                case hY8x5 => (intro w hSw; (try dsimp only at hSw); go_simp; try with_reducible rfl)
                (try simp only [Act.put, List.setIfInBounds_toArray, List.set_cons_zero, List.set_cons_succ])
                refine wpAnyH_take (i := 7) (oi := ⟨some 49, _, _, _, _, _⟩) (v := ?_) rfl (by kernel_rfl) (by kernel_rfl) (by kernel_rfl) (fun _ _ _ h => h) (Or.inl ⟨by rfl, ?hY8x6⟩) (by assumption) ?hR8x6
                case hY8x6 => (intro w hSw; (try dsimp only at hSw); go_simp; try with_reducible rfl)
                (try simp only [Act.put, List.setIfInBounds_toArray, List.set_cons_zero, List.set_cons_succ])
                refine wpAnyH_take (i := 8) (oi := ⟨some 50, _, _, _, _, _⟩) (v := ?_) rfl (by kernel_rfl) (by kernel_rfl) (by kernel_rfl) (fun _ _ _ h => h) (Or.inl ⟨by rfl, ?hY8x7⟩) (by assumption) ?hR8x7
                case hY8x7 => (intro w hSw; (try dsimp only at hSw); go_simp; try with_reducible rfl)
                (try simp only [Act.put, List.setIfInBounds_toArray, List.set_cons_zero, List.set_cons_succ])
                refine wpAnyH_take (i := 9) (oi := ⟨some 51, _, _, _, _, _⟩) (v := ?_) rfl (by kernel_rfl) (by kernel_rfl) (by kernel_rfl) (fun _ _ _ h => h) (Or.inl ⟨by rfl, ?hY8x8⟩) (by assumption) ?hR8x8
                case hY8x8 => (intro w hSw; (try dsimp only at hSw); go_simp; try with_reducible rfl)
                (try simp only [Act.put, List.setIfInBounds_toArray, List.set_cons_zero, List.set_cons_succ])
                refine wpAnyH_ready (rs := [3, 5]) (by kernel_rfl) (by simp) ?_
                refine AllReadyH.cons (o := ⟨some 45, _, _, _, _, _⟩) rfl (fun K hK => ?hT8x9) (AllReadyH.cons (o := ⟨some 47, _, _, _, _, _⟩) rfl (fun K hK => ?hM8x9) AllReadyH.nil)
                case hT8x9 =>
                  (obtain ⟨g0, gE⟩ := ‹Below V.heap.size V _ ∧ _›; refine Kd.R_append_rows_step kM (w0 := V) V.heap.size (by rfl) (.const (.slice none 0 0)) (.tmp 44) 22 25 (.agg #[.int .i64 0, .int .i64 0, .int .i64 0]) 24 rfl Try.underlying22 info25 rfl (by decide) (by omega) (.slice none 0 0) ([]) (l.take p) (_) (p) (_) (fun _ => True) (fun _ => False) rfl rfl (Kd.R_nil _ _ _ _ _) (C_take' (Kd.C_below HXV.out g0) hp) (fun x cs h => kM_of_K x cs h) (fun _ hk => hk.elim) (fun _ _ => trivial) g0 g0.size (by simp; omega) ?_; (intro v3 w3 ho_ hb_ hg_ hat_; have HO3 := Aside0.mk ho_; have HG3 := Aside0.mk ((Below.refl _ _).grown (row := none) hg_ (Nat.le_refl _) (fun k hk => by cases hk)); clear ho_ hg_ hat_; have j0 := hb_; have jE := fun j => (j0.cell (p := ⟨w.heap.size, j, none⟩) kE).trans (rE j)))
                  refine hK.out _ _ ?hS8x10 (fun hHeld => ?hR8x10)
                  case hS8x10 => ((try dsimp only); (first | exact ⟨below_drew1 (Below.refl _ _), rE⟩ | exact ⟨below_drew1 b0_, rE⟩ | exact ⟨j0, jE⟩ | exact ⟨below_alloc j0 _, fun j => (cell_alloc_old (Nat.lt_of_lt_of_le kE j0.size)).trans (jE j)⟩ | exact ⟨below_alloc (below_drew1 (Below.refl _ _)) _, fun j => (cell_alloc_old kE).trans (rE j)⟩ | assumption))
                  clear hK K
                  (try simp only [Act.put, List.setIfInBounds_toArray, List.set_cons_zero, List.set_cons_succ])
                  refine wpAnyH_ready (rs := [5]) (by kernel_rfl) (by simp) ?_
                  refine AllReadyH.cons (o := ⟨some 47, _, _, _, _, _⟩) rfl (fun K hK => ?hT8x11) ?hM8x11
                  case hM8x11 => exact AllReadyH.nil
                  go_simp
                  (try go_wp2_with fail)
                  refine hK.out _ _ ?hS8x11 (fun hHeld => ?hR8x11)
                  case hS8x11 => ((try dsimp only); (first | exact ⟨below_drew1 (Below.refl _ _), rE⟩ | exact ⟨below_drew1 b0_, rE⟩ | exact ⟨j0, jE⟩ | exact ⟨below_alloc j0 _, fun j => (cell_alloc_old (Nat.lt_of_lt_of_le kE j0.size)).trans (jE j)⟩ | exact ⟨below_alloc (below_drew1 (Below.refl _ _)) _, fun j => (cell_alloc_old kE).trans (rE j)⟩ | assumption))
                  clear hK K
                  (try simp only [Act.put, List.setIfInBounds_toArray, List.set_cons_zero, List.set_cons_succ])
                  refine wpAnyH_ready (rs := [6]) (by kernel_rfl) (by simp) ?_
                  refine AllReadyH.cons (o := ⟨some 48, _, _, _, _, _⟩) rfl (fun K hK => ?hT8x12) ?hM8x12
                  case hM8x12 => exact AllReadyH.nil
                  (obtain ⟨g0, gE⟩ := ‹Below V.heap.size V _ ∧ _›; refine Kd.R_append_rows_step kM (w0 := V) V.heap.size (by rfl) (.tmp 45) (.tmp 47) 22 25 (.agg #[.int .i64 0, .int .i64 0, .int .i64 0]) 24 rfl Try.underlying22 info25 rfl (by decide) (by omega) (v3) (l.take p) ([m]) (_) (1) (1) (fun _ => True) (fun _ => False) rfl rfl (by (with_reducible repeat (first | apply Kd.R_alloc | apply Kd.R_drewN | apply Kd.R_drew)); exact HO3.out) (by first | exact C_one Box.new | exact C_one (Box.drew Box.new) | exact C_one (Box.below (Box.drew Box.new) HG3.out) | exact C_one (Box.below Box.new HG3.out)) (fun x cs h => kM_of_K x cs h) (fun _ hk => hk.elim) (fun _ _ => trivial) g0 g0.size (by simp; omega) ?_; (intro v6 w6 ho_ hb_ hg_ hat_; have HO6 := Aside0.mk ho_; clear ho_ hg_ hat_; have j0 := hb_; have jE := fun j => (j0.cell (p := ⟨w.heap.size, j, none⟩) kE).trans (rE j)))
                  refine hK.out _ _ ?hS8x12 (fun hHeld => ?hR8x12)
                  case hS8x12 => ((try dsimp only); (first | exact ⟨below_drew1 (Below.refl _ _), rE⟩ | exact ⟨below_drew1 b0_, rE⟩ | exact ⟨j0, jE⟩ | exact ⟨below_alloc j0 _, fun j => (cell_alloc_old (Nat.lt_of_lt_of_le kE j0.size)).trans (jE j)⟩ | exact ⟨below_alloc (below_drew1 (Below.refl _ _)) _, fun j => (cell_alloc_old kE).trans (rE j)⟩ | assumption))
                  clear hK K
                  (try simp only [Act.put, List.setIfInBounds_toArray, List.set_cons_zero, List.set_cons_succ])
                  refine wpAnyH_ready (rs := [10]) (by kernel_rfl) (by simp) ?_
                  refine AllReadyH.cons (o := ⟨some 52, _, _, _, _, _⟩) rfl (fun K hK => ?hT8x13) ?hM8x13
                  case hM8x13 => exact AllReadyH.nil
                  (obtain ⟨g0, gE⟩ := ‹Below V.heap.size V _ ∧ _›; refine Kd.R_append_rows_step kM (w0 := V) V.heap.size (by rfl) (.tmp 48) (.tmp 51) 22 25 (.agg #[.int .i64 0, .int .i64 0, .int .i64 0]) 24 rfl Try.underlying22 info25 rfl (by decide) (by omega) (v6) (l.take p ++ [m]) (l.drop p) (_) (_) (_) (fun _ => True) (fun _ => False) rfl rfl (by (with_reducible repeat (first | apply Kd.R_alloc | apply Kd.R_drewN | apply Kd.R_drew)); exact HO6.out) (by have e := C_drop' (Kd.C_below HXV.out g0) hp hc; first | exact e | (rw [if_neg (by omega)] at e; exact e)) (fun x cs h => kM_of_K x cs h) (fun _ hk => hk.elim) (fun _ _ => trivial) g0 g0.size (by simp; omega) ?_; (intro v10 w10 ho_ hb_ hg_ hat_; have HO10 := Aside0.mk ho_; clear ho_ hg_ hat_; have j0 := hb_; have jE := fun j => (j0.cell (p := ⟨w.heap.size, j, none⟩) kE).trans (rE j)))
                  refine hK.out _ _ ?hS8x13 (fun hHeld => ?hR8x13)
                  case hS8x13 => ((try dsimp only); (first | exact ⟨below_drew1 (Below.refl _ _), rE⟩ | exact ⟨below_drew1 b0_, rE⟩ | exact ⟨j0, jE⟩ | exact ⟨below_alloc j0 _, fun j => (cell_alloc_old (Nat.lt_of_lt_of_le kE j0.size)).trans (jE j)⟩ | exact ⟨below_alloc (below_drew1 (Below.refl _ _)) _, fun j => (cell_alloc_old kE).trans (rE j)⟩ | assumption))
                  clear hK K
                  (try simp only [Act.put, List.setIfInBounds_toArray, List.set_cons_zero, List.set_cons_succ])
                  refine wpAnyH_take (i := 11) (oi := ⟨some 6, _, _, _, _, _⟩) (v := ?_) rfl (by kernel_rfl) (by kernel_rfl) (by kernel_rfl) (fun _ _ _ h => h) (Or.inl ⟨by rfl, ?hY8x14⟩) (by assumption) ?hR8x14
                  case hY8x14 => (intro w hSw; (try dsimp only at hSw); go_simp; try with_reducible rfl)
                  (try simp only [Act.put, List.setIfInBounds_toArray, List.set_cons_zero, List.set_cons_succ])
                  refine wpAnyH_take (i := 12) (oi := ⟨some 7, _, _, _, _, _⟩) (v := ?_) rfl (by kernel_rfl) (by kernel_rfl) (by kernel_rfl) (fun _ _ _ h => h) (Or.inl ⟨by rfl, ?hY8x15⟩) (by assumption) ?hR8x15
                  case hY8x15 => (intro w hSw; (try dsimp only at hSw); go_simp; try with_reducible rfl)
                  (try simp only [Act.put, List.setIfInBounds_toArray, List.set_cons_zero, List.set_cons_succ])
                  refine wpAnyH_done (by kernel_rfl) ?_ _
                  go_wp2
                  go_ret2
                  refine ⟨_, rfl, ?_, below_step HB.out (below_step HY2.out j0)⟩
                  show kM.R _ _ _ _ v10 (insAt l (posM l m) m)
                  unfold insAt
                  rw [← HP2.out]
                  have e := HO10.out
                  rw [List.append_assoc] at e
                  refine Kd.R_lower (show kM.R _ _ _ _ _ (l.take p ++ m :: l.drop p) from e) ?_
                  exact Nat.le_trans HB.out.size HY2.out.size
                case hM8x9 =>
                  go_simp
                  (try go_wp2_with fail)
                  refine hK.out _ _ ?hS8x16 (fun hHeld => ?hR8x16)
                  case hS8x16 => ((try dsimp only); (first | exact ⟨below_drew1 (Below.refl _ _), rE⟩ | exact ⟨below_drew1 b0_, rE⟩ | exact ⟨j0, jE⟩ | exact ⟨below_alloc j0 _, fun j => (cell_alloc_old (Nat.lt_of_lt_of_le kE j0.size)).trans (jE j)⟩ | exact ⟨below_alloc (below_drew1 (Below.refl _ _)) _, fun j => (cell_alloc_old kE).trans (rE j)⟩ | assumption))
                  clear hK K
                  (try simp only [Act.put, List.setIfInBounds_toArray, List.set_cons_zero, List.set_cons_succ])
                  refine wpAnyH_ready (rs := [3]) (by kernel_rfl) (by simp) ?_
                  refine AllReadyH.cons (o := ⟨some 45, _, _, _, _, _⟩) rfl (fun K hK => ?hT8x17) ?hM8x17
                  case hM8x17 => exact AllReadyH.nil
                  (obtain ⟨g0, gE⟩ := ‹Below V.heap.size V _ ∧ _›; refine Kd.R_append_rows_step kM (w0 := V) V.heap.size (by rfl) (.const (.slice none 0 0)) (.tmp 44) 22 25 (.agg #[.int .i64 0, .int .i64 0, .int .i64 0]) 24 rfl Try.underlying22 info25 rfl (by decide) (by omega) (.slice none 0 0) ([]) (l.take p) (_) (p) (_) (fun _ => True) (fun _ => False) rfl rfl (Kd.R_nil _ _ _ _ _) (C_take' (Kd.C_below HXV.out g0) hp) (fun x cs h => kM_of_K x cs h) (fun _ hk => hk.elim) (fun _ _ => trivial) g0 g0.size (by simp; omega) ?_; (intro v3 w3 ho_ hb_ hg_ hat_; have HO3 := Aside0.mk ho_; have HG3 := Aside0.mk ((Below.refl _ _).grown (row := none) hg_ (Nat.le_refl _) (fun k hk => by cases hk)); clear ho_ hg_ hat_; have j0 := hb_; have jE := fun j => (j0.cell (p := ⟨w.heap.size, j, none⟩) kE).trans (rE j)))
                  refine hK.out _ _ ?hS8x17 (fun hHeld => ?hR8x17)
                  case hS8x17 => ((try dsimp only); (first | exact ⟨below_drew1 (Below.refl _ _), rE⟩ | exact ⟨below_drew1 b0_, rE⟩ | exact ⟨j0, jE⟩ | exact ⟨below_alloc j0 _, fun j => (cell_alloc_old (Nat.lt_of_lt_of_le kE j0.size)).trans (jE j)⟩ | exact ⟨below_alloc (below_drew1 (Below.refl _ _)) _, fun j => (cell_alloc_old kE).trans (rE j)⟩ | assumption))
                  clear hK K
                  (try simp only [Act.put, List.setIfInBounds_toArray, List.set_cons_zero, List.set_cons_succ])
                  refine wpAnyH_ready (rs := [6]) (by kernel_rfl) (by simp) ?_
                  refine AllReadyH.cons (o := ⟨some 48, _, _, _, _, _⟩) rfl (fun K hK => ?hT8x18) ?hM8x18
                  case hM8x18 => exact AllReadyH.nil
                  (obtain ⟨g0, gE⟩ := ‹Below V.heap.size V _ ∧ _›; refine Kd.R_append_rows_step kM (w0 := V) V.heap.size (by rfl) (.tmp 45) (.tmp 47) 22 25 (.agg #[.int .i64 0, .int .i64 0, .int .i64 0]) 24 rfl Try.underlying22 info25 rfl (by decide) (by omega) (v3) (l.take p) ([m]) (_) (1) (1) (fun _ => True) (fun _ => False) rfl rfl (by (with_reducible repeat (first | apply Kd.R_alloc | apply Kd.R_drewN | apply Kd.R_drew)); exact HO3.out) (by first | exact C_one Box.new | exact C_one (Box.drew Box.new) | exact C_one (Box.below (Box.drew Box.new) HG3.out) | exact C_one (Box.below Box.new HG3.out)) (fun x cs h => kM_of_K x cs h) (fun _ hk => hk.elim) (fun _ _ => trivial) g0 g0.size (by simp; omega) ?_; (intro v6 w6 ho_ hb_ hg_ hat_; have HO6 := Aside0.mk ho_; clear ho_ hg_ hat_; have j0 := hb_; have jE := fun j => (j0.cell (p := ⟨w.heap.size, j, none⟩) kE).trans (rE j)))
                  refine hK.out _ _ ?hS8x18 (fun hHeld => ?hR8x18)
                  case hS8x18 => ((try dsimp only); (first | exact ⟨below_drew1 (Below.refl _ _), rE⟩ | exact ⟨below_drew1 b0_, rE⟩ | exact ⟨j0, jE⟩ | exact ⟨below_alloc j0 _, fun j => (cell_alloc_old (Nat.lt_of_lt_of_le kE j0.size)).trans (jE j)⟩ | exact ⟨below_alloc (below_drew1 (Below.refl _ _)) _, fun j => (cell_alloc_old kE).trans (rE j)⟩ | assumption))
                  clear hK K
                  (try simp only [Act.put, List.setIfInBounds_toArray, List.set_cons_zero, List.set_cons_succ])
                  refine wpAnyH_ready (rs := [10]) (by kernel_rfl) (by simp) ?_
                  refine AllReadyH.cons (o := ⟨some 52, _, _, _, _, _⟩) rfl (fun K hK => ?hT8x19) ?hM8x19
                  case hM8x19 => exact AllReadyH.nil
                  (obtain ⟨g0, gE⟩ := ‹Below V.heap.size V _ ∧ _›; refine Kd.R_append_rows_step kM (w0 := V) V.heap.size (by rfl) (.tmp 48) (.tmp 51) 22 25 (.agg #[.int .i64 0, .int .i64 0, .int .i64 0]) 24 rfl Try.underlying22 info25 rfl (by decide) (by omega) (v6) (l.take p ++ [m]) (l.drop p) (_) (_) (_) (fun _ => True) (fun _ => False) rfl rfl (by (with_reducible repeat (first | apply Kd.R_alloc | apply Kd.R_drewN | apply Kd.R_drew)); exact HO6.out) (by have e := C_drop' (Kd.C_below HXV.out g0) hp hc; first | exact e | (rw [if_neg (by omega)] at e; exact e)) (fun x cs h => kM_of_K x cs h) (fun _ hk => hk.elim) (fun _ _ => trivial) g0 g0.size (by simp; omega) ?_; (intro v10 w10 ho_ hb_ hg_ hat_; have HO10 := Aside0.mk ho_; clear ho_ hg_ hat_; have j0 := hb_; have jE := fun j => (j0.cell (p := ⟨w.heap.size, j, none⟩) kE).trans (rE j)))
                  refine hK.out _ _ ?hS8x19 (fun hHeld => ?hR8x19)
                  case hS8x19 => ((try dsimp only); (first | exact ⟨below_drew1 (Below.refl _ _), rE⟩ | exact ⟨below_drew1 b0_, rE⟩ | exact ⟨j0, jE⟩ | exact ⟨below_alloc j0 _, fun j => (cell_alloc_old (Nat.lt_of_lt_of_le kE j0.size)).trans (jE j)⟩ | exact ⟨below_alloc (below_drew1 (Below.refl _ _)) _, fun j => (cell_alloc_old kE).trans (rE j)⟩ | assumption))
                  clear hK K
                  (try simp only [Act.put, List.setIfInBounds_toArray, List.set_cons_zero, List.set_cons_succ])
                  refine wpAnyH_take (i := 11) (oi := ⟨some 6, _, _, _, _, _⟩) (v := ?_) rfl (by kernel_rfl) (by kernel_rfl) (by kernel_rfl) (fun _ _ _ h => h) (Or.inl ⟨by rfl, ?hY8x20⟩) (by assumption) ?hR8x20
                  case hY8x20 => (intro w hSw; (try dsimp only at hSw); go_simp; try with_reducible rfl)
                  (try simp only [Act.put, List.setIfInBounds_toArray, List.set_cons_zero, List.set_cons_succ])
                  refine wpAnyH_take (i := 12) (oi := ⟨some 7, _, _, _, _, _⟩) (v := ?_) rfl (by kernel_rfl) (by kernel_rfl) (by kernel_rfl) (fun _ _ _ h => h) (Or.inl ⟨by rfl, ?hY8x21⟩) (by assumption) ?hR8x21
                  case hY8x21 => (intro w hSw; (try dsimp only at hSw); go_simp; try with_reducible rfl)
                  (try simp only [Act.put, List.setIfInBounds_toArray, List.set_cons_zero, List.set_cons_succ])
                  refine wpAnyH_done (by kernel_rfl) ?_ _
                  go_wp2
                  go_ret2
                  refine ⟨_, rfl, ?_, below_step HB.out (below_step HY2.out j0)⟩
                  show kM.R _ _ _ _ v10 (insAt l (posM l m) m)
                  unfold insAt
                  rw [← HP2.out]
                  have e := HO10.out
                  rw [List.append_assoc] at e
                  refine Kd.R_lower (show kM.R _ _ _ _ _ (l.take p ++ m :: l.drop p) from e) ?_
                  exact Nat.le_trans HB.out.size HY2.out.size
              · go_wp2
                refine ⟨⟨p + 1, by omega, by go_num, fun k hk => ?_, HY2.out⟩, by simp [intOf]; omega⟩
                rcases Nat.lt_or_ge k p with g | g
                · exact HLT.out k g
                · rw [show k = p by omega, HXX.out]
                  exact HBB.out
            · obtain rfl : p = n := by omega
              have hp2 : p = posM l m := pos_of (by rw [← HN.out]; exact hp) HLT.out (fun g => absurd g (by rw [← HN.out]; omega))
              have hd : decide (p < p) = false := decide_eq_false (by omega)
              go_upto_region 10 with (fail)
              refine wp_region_held_drew (S := (fun w' => Below wo.heap.size wo w' ∧ (∀ j, w'.cell? ⟨w.heap.size, j, none⟩ = (#[.int .i64 m.f0, .int .i64 m.f1, .int .i64 m.f2] : Array Value)[j]?))) (by kernel_rfl) ?hS9x0 (fun hHeld => ?hR9x0)
              case hS9x0 => ((try dsimp only); (first | exact ⟨below_drew1 (Below.refl _ _), rE⟩ | exact ⟨below_drew1 b0_, rE⟩ | exact ⟨j0, jE⟩ | exact ⟨below_alloc j0 _, fun j => (cell_alloc_old (Nat.lt_of_lt_of_le kE j0.size)).trans (jE j)⟩ | exact ⟨below_alloc (below_drew1 (Below.refl _ _)) _, fun j => (cell_alloc_old kE).trans (rE j)⟩ | assumption))
              refine wpAnyH_take (i := 0) (oi := ⟨some 28, _, _, _, _, _⟩) (v := ?_) rfl (by kernel_rfl) (by kernel_rfl) (by kernel_rfl) (fun _ _ _ h => h) (Or.inl ⟨by rfl, ?hY9x2⟩) (by assumption) ?hR9x2
              case hY9x2 => (intro w hSw; (try dsimp only at hSw); go_simp; try with_reducible rfl)
              (try simp only [Act.put, List.setIfInBounds_toArray, List.set_cons_zero, List.set_cons_succ])
              refine wpAnyH_take (i := 1) (oi := ⟨some 29, _, _, _, _, _⟩) (v := ?_) rfl (by kernel_rfl) (by kernel_rfl) (by kernel_rfl) (fun _ _ _ h => h) (Or.inl ⟨by rfl, ?hY9x3⟩) (by assumption) ?hR9x3
              case hY9x3 => (intro w hSw; (try dsimp only at hSw); go_simp; try with_reducible rfl)
              (try simp only [Act.put, List.setIfInBounds_toArray, List.set_cons_zero, List.set_cons_succ])
              refine wpAnyH_take (i := 2) (oi := ⟨some 30, _, _, _, _, _⟩) (v := ?_) rfl (by kernel_rfl) (by kernel_rfl) (by kernel_rfl) (fun _ _ _ h => h) (Or.inl ⟨by rfl, ?hY9x4⟩) (by assumption) ?hR9x4
              case hY9x4 => (intro w hSw; (try dsimp only at hSw); go_simp; try with_reducible rfl)
              (try simp only [Act.put, List.setIfInBounds_toArray, List.set_cons_zero, List.set_cons_succ])
              refine wpAnyH_take (i := 3) (oi := ⟨some 31, _, _, _, _, _⟩) (v := ?_) rfl (by kernel_rfl) (by kernel_rfl) (by kernel_rfl) (fun _ _ _ h => h) (Or.inl ⟨by rfl, ?hY9x5⟩) (by assumption) ?hR9x5
              case hY9x5 => (intro w hSw; (try dsimp only at hSw); go_simp; try with_reducible rfl)
              (try simp only [Act.put, List.setIfInBounds_toArray, List.set_cons_zero, List.set_cons_succ])
              refine wpAnyH_take (i := 4) (oi := ⟨some 32, _, _, _, _, _⟩) (v := ?_) rfl (by kernel_rfl) (by kernel_rfl) (by kernel_rfl) (fun _ _ _ h => h) (Or.inl ⟨by rfl, ?hY9x6⟩) (by assumption) ?hR9x6
              case hY9x6 => (intro w hSw; (try dsimp only at hSw); go_simp; try with_reducible rfl)
              (try simp only [Act.put, List.setIfInBounds_toArray, List.set_cons_zero, List.set_cons_succ])
              refine wpAnyH_take (i := 5) (oi := ⟨some 33, _, _, _, _, _⟩) (v := undef) rfl (by kernel_rfl) (by kernel_rfl) (by kernel_rfl) (fun _ _ _ h => h) (Or.inr ⟨by rfl, rfl⟩) (by assumption) ?_
              (try simp only [Act.put, List.setIfInBounds_toArray, List.set_cons_zero, List.set_cons_succ])
              refine wpAnyH_take (i := 6) (oi := ⟨some 34, _, _, _, _, _⟩) (v := undef) rfl (by kernel_rfl) (by kernel_rfl) (by kernel_rfl) (fun _ _ _ h => h) (Or.inr ⟨by rfl, rfl⟩) (by assumption) ?_
              (try simp only [Act.put, List.setIfInBounds_toArray, List.set_cons_zero, List.set_cons_succ])
              refine wpAnyH_take (i := 7) (oi := ⟨some 35, _, _, _, _, _⟩) (v := undef) rfl (by kernel_rfl) (by kernel_rfl) (by kernel_rfl) (fun _ _ _ h => h) (Or.inr ⟨by rfl, rfl⟩) (by assumption) ?_
              (try simp only [Act.put, List.setIfInBounds_toArray, List.set_cons_zero, List.set_cons_succ])
              refine wpAnyH_take (i := 8) (oi := ⟨some 36, _, _, _, _, _⟩) (v := undef) rfl (by kernel_rfl) (by kernel_rfl) (by kernel_rfl) (fun _ _ _ h => h) (Or.inr ⟨by rfl, rfl⟩) (by assumption) ?_
              (try simp only [Act.put, List.setIfInBounds_toArray, List.set_cons_zero, List.set_cons_succ])
              refine wpAnyH_take (i := 9) (oi := ⟨some 37, _, _, _, _, _⟩) (v := undef) rfl (by kernel_rfl) (by kernel_rfl) (by kernel_rfl) (fun _ _ _ h => h) (Or.inr ⟨by rfl, rfl⟩) (by assumption) ?_
              (try simp only [Act.put, List.setIfInBounds_toArray, List.set_cons_zero, List.set_cons_succ])
              refine wpAnyH_take (i := 10) (oi := ⟨some 38, _, _, _, _, _⟩) (v := undef) rfl (by kernel_rfl) (by kernel_rfl) (by kernel_rfl) (fun _ _ _ h => h) (Or.inr ⟨by rfl, rfl⟩) (by assumption) ?_
              (try simp only [Act.put, List.setIfInBounds_toArray, List.set_cons_zero, List.set_cons_succ])
              refine wpAnyH_take (i := 11) (oi := ⟨some 39, _, _, _, _, _⟩) (v := ?_) rfl (by kernel_rfl) (by kernel_rfl) (by kernel_rfl) (fun _ _ _ h => h) (Or.inl ⟨by rfl, ?hY9x13⟩) (by assumption) ?hR9x13
              case hY9x13 => (intro w hSw; (try dsimp only at hSw); go_simp; try with_reducible rfl)
              (try simp only [Act.put, List.setIfInBounds_toArray, List.set_cons_zero, List.set_cons_succ])
              refine wpAnyH_done (by kernel_rfl) ?_ _
              have HP2 := Aside0.mk hp2
              clear hp2
              have hpc : p ≤ c := by omega
              have j1 := below_drew1 (Below.refl wo.heap.size wo)
              have HXV := Aside0.mk (Kd.C_below HXW.out j1)
              have HY2 := Aside0.mk (below_step HBX.out j1)
              clear rE kE hd j1
              have rE := (Box.below XE.out HY2.out).cell
              have kE := (Box.below XE.out HY2.out).lt
              generalize wo.drew = V at *
              have key : p = c ∨ p ≠ c := by omega
              rcases key with rfl | hcp
              · go_upto_region 12 with (fail)
                refine wp_region_held_drew (S := (fun w' => Below V.heap.size V w' ∧ (∀ j, w'.cell? ⟨w.heap.size, j, none⟩ = (#[.int .i64 m.f0, .int .i64 m.f1, .int .i64 m.f2] : Array Value)[j]?))) (by kernel_rfl) ?hS10x0 (fun hHeld => ?hR10x0)
                case hS10x0 => ((try dsimp only); (first | exact ⟨below_drew1 (Below.refl _ _), rE⟩ | exact ⟨below_drew1 b0_, rE⟩ | exact ⟨j0, jE⟩ | exact ⟨below_alloc j0 _, fun j => (cell_alloc_old (Nat.lt_of_lt_of_le kE j0.size)).trans (jE j)⟩ | exact ⟨below_alloc (below_drew1 (Below.refl _ _)) _, fun j => (cell_alloc_old kE).trans (rE j)⟩ | assumption))
                refine wpAnyH_take (i := 0) (oi := ⟨some 42, _, _, _, _, _⟩) (v := ?_) rfl (by kernel_rfl) (by kernel_rfl) (by kernel_rfl) (fun _ _ _ h => h) (Or.inl ⟨by rfl, ?hY10x2⟩) (by assumption) ?hR10x2
                case hY10x2 => (intro w hSw; (try dsimp only at hSw); go_simp; try with_reducible rfl)
                (try simp only [Act.put, List.setIfInBounds_toArray, List.set_cons_zero, List.set_cons_succ])
                refine wpAnyH_take (i := 1) (oi := ⟨some 43, _, _, _, _, _⟩) (v := ?_) rfl (by kernel_rfl) (by kernel_rfl) (by kernel_rfl) (fun _ _ _ h => h) (Or.inl ⟨by rfl, ?hY10x3⟩) (by assumption) ?hR10x3
                case hY10x3 => (intro w hSw; (try dsimp only at hSw); go_simp; try with_reducible rfl)
                (try simp only [Act.put, List.setIfInBounds_toArray, List.set_cons_zero, List.set_cons_succ])
                refine wpAnyH_take (i := 2) (oi := ⟨some 44, _, _, _, _, _⟩) (v := ?_) rfl (by kernel_rfl) (by kernel_rfl) (by kernel_rfl) (fun _ _ _ h => h) (Or.inl ⟨by rfl, ?hY10x4⟩) (by assumption) ?hR10x4
                case hY10x4 => (intro w hSw; (try dsimp only at hSw); go_simp; try with_reducible rfl)
                (try simp only [Act.put, List.setIfInBounds_toArray, List.set_cons_zero, List.set_cons_succ])
                refine wpAnyH_take (i := 4) (oi := ⟨some 46, _, _, _, _, _⟩) (v := ?_) rfl (by kernel_rfl) (by kernel_rfl) (by kernel_rfl) (fun _ _ _ h => h) (Or.inl ⟨by rfl, ?hY10x5⟩) (by assumption) ?hR10x5
                case hY10x5 => (intro w hSw; (try dsimp only at hSw); go_simp; try with_reducible rfl)
                (try simp only [Act.put, List.setIfInBounds_toArray, List.set_cons_zero, List.set_cons_succ])
                refine wpAnyH_take (i := 7) (oi := ⟨some 49, _, _, _, _, _⟩) (v := ?_) rfl (by kernel_rfl) (by kernel_rfl) (by kernel_rfl) (fun _ _ _ h => h) (Or.inl ⟨by rfl, ?hY10x6⟩) (by assumption) ?hR10x6
                case hY10x6 => (intro w hSw; (try dsimp only at hSw); go_simp; try with_reducible rfl)
                (try simp only [Act.put, List.setIfInBounds_toArray, List.set_cons_zero, List.set_cons_succ])
                refine wpAnyH_take (i := 8) (oi := ⟨some 50, _, _, _, _, _⟩) (v := ?_) rfl (by kernel_rfl) (by kernel_rfl) (by kernel_rfl) (fun _ _ _ h => h) (Or.inl ⟨by rfl, ?hY10x7⟩) (by assumption) ?hR10x7
                case hY10x7 => (intro w hSw; (try dsimp only at hSw); go_simp; try with_reducible rfl)
                (try simp only [Act.put, List.setIfInBounds_toArray, List.set_cons_zero, List.set_cons_succ])
                refine wpAnyH_take (i := 9) (oi := ⟨some 51, _, _, _, _, _⟩) (v := ?_) rfl (by kernel_rfl) (by kernel_rfl) (by kernel_rfl) (fun _ _ _ h => h) (Or.inl ⟨by rfl, ?hY10x8⟩) (by assumption) ?hR10x8
                case hY10x8 => (intro w hSw; (try dsimp only at hSw); go_simp; try with_reducible rfl)
                (try simp only [Act.put, List.setIfInBounds_toArray, List.set_cons_zero, List.set_cons_succ])
                refine wpAnyH_ready (rs := [3, 5]) (by kernel_rfl) (by simp) ?_
                refine AllReadyH.cons (o := ⟨some 45, _, _, _, _, _⟩) rfl (fun K hK => ?hT10x9) (AllReadyH.cons (o := ⟨some 47, _, _, _, _, _⟩) rfl (fun K hK => ?hM10x9) AllReadyH.nil)
                case hT10x9 =>
                  (obtain ⟨g0, gE⟩ := ‹Below V.heap.size V _ ∧ _›; refine Kd.R_append_rows_step kM (w0 := V) V.heap.size (by rfl) (.const (.slice none 0 0)) (.tmp 44) 22 25 (.agg #[.int .i64 0, .int .i64 0, .int .i64 0]) 24 rfl Try.underlying22 info25 rfl (by decide) (by omega) (.slice none 0 0) ([]) (l.take p) (_) (p) (_) (fun _ => True) (fun _ => False) rfl rfl (Kd.R_nil _ _ _ _ _) (C_take' (Kd.C_below HXV.out g0) hp) (fun x cs h => kM_of_K x cs h) (fun _ hk => hk.elim) (fun _ _ => trivial) g0 g0.size (by simp; omega) ?_; (intro v3 w3 ho_ hb_ hg_ hat_; have HO3 := Aside0.mk ho_; have HG3 := Aside0.mk ((Below.refl _ _).grown (row := none) hg_ (Nat.le_refl _) (fun k hk => by cases hk)); clear ho_ hg_ hat_; have j0 := hb_; have jE := fun j => (j0.cell (p := ⟨w.heap.size, j, none⟩) kE).trans (rE j)))
                  refine hK.out _ _ ?hS10x10 (fun hHeld => ?hR10x10)
                  case hS10x10 => ((try dsimp only); (first | exact ⟨below_drew1 (Below.refl _ _), rE⟩ | exact ⟨below_drew1 b0_, rE⟩ | exact ⟨j0, jE⟩ | exact ⟨below_alloc j0 _, fun j => (cell_alloc_old (Nat.lt_of_lt_of_le kE j0.size)).trans (jE j)⟩ | exact ⟨below_alloc (below_drew1 (Below.refl _ _)) _, fun j => (cell_alloc_old kE).trans (rE j)⟩ | assumption))
                  clear hK K
                  (try simp only [Act.put, List.setIfInBounds_toArray, List.set_cons_zero, List.set_cons_succ])
                  refine wpAnyH_ready (rs := [5]) (by kernel_rfl) (by simp) ?_
                  refine AllReadyH.cons (o := ⟨some 47, _, _, _, _, _⟩) rfl (fun K hK => ?hT10x11) ?hM10x11
                  case hM10x11 => exact AllReadyH.nil
                  go_simp
                  (try go_wp2_with fail)
                  refine hK.out _ _ ?hS10x11 (fun hHeld => ?hR10x11)
                  case hS10x11 => ((try dsimp only); (first | exact ⟨below_drew1 (Below.refl _ _), rE⟩ | exact ⟨below_drew1 b0_, rE⟩ | exact ⟨j0, jE⟩ | exact ⟨below_alloc j0 _, fun j => (cell_alloc_old (Nat.lt_of_lt_of_le kE j0.size)).trans (jE j)⟩ | exact ⟨below_alloc (below_drew1 (Below.refl _ _)) _, fun j => (cell_alloc_old kE).trans (rE j)⟩ | assumption))
                  clear hK K
                  (try simp only [Act.put, List.setIfInBounds_toArray, List.set_cons_zero, List.set_cons_succ])
                  refine wpAnyH_ready (rs := [6]) (by kernel_rfl) (by simp) ?_
                  refine AllReadyH.cons (o := ⟨some 48, _, _, _, _, _⟩) rfl (fun K hK => ?hT10x12) ?hM10x12
                  case hM10x12 => exact AllReadyH.nil
                  (obtain ⟨g0, gE⟩ := ‹Below V.heap.size V _ ∧ _›; refine Kd.R_append_rows_step kM (w0 := V) V.heap.size (by rfl) (.tmp 45) (.tmp 47) 22 25 (.agg #[.int .i64 0, .int .i64 0, .int .i64 0]) 24 rfl Try.underlying22 info25 rfl (by decide) (by omega) (v3) (l.take p) ([m]) (_) (1) (1) (fun _ => True) (fun _ => False) rfl rfl (by (with_reducible repeat (first | apply Kd.R_alloc | apply Kd.R_drewN | apply Kd.R_drew)); exact HO3.out) (by first | exact C_one Box.new | exact C_one (Box.drew Box.new) | exact C_one (Box.below (Box.drew Box.new) HG3.out) | exact C_one (Box.below Box.new HG3.out)) (fun x cs h => kM_of_K x cs h) (fun _ hk => hk.elim) (fun _ _ => trivial) g0 g0.size (by simp; omega) ?_; (intro v6 w6 ho_ hb_ hg_ hat_; have HO6 := Aside0.mk ho_; clear ho_ hg_ hat_; have j0 := hb_; have jE := fun j => (j0.cell (p := ⟨w.heap.size, j, none⟩) kE).trans (rE j)))
                  refine hK.out _ _ ?hS10x12 (fun hHeld => ?hR10x12)
                  case hS10x12 => ((try dsimp only); (first | exact ⟨below_drew1 (Below.refl _ _), rE⟩ | exact ⟨below_drew1 b0_, rE⟩ | exact ⟨j0, jE⟩ | exact ⟨below_alloc j0 _, fun j => (cell_alloc_old (Nat.lt_of_lt_of_le kE j0.size)).trans (jE j)⟩ | exact ⟨below_alloc (below_drew1 (Below.refl _ _)) _, fun j => (cell_alloc_old kE).trans (rE j)⟩ | assumption))
                  clear hK K
                  (try simp only [Act.put, List.setIfInBounds_toArray, List.set_cons_zero, List.set_cons_succ])
                  refine wpAnyH_ready (rs := [10]) (by kernel_rfl) (by simp) ?_
                  refine AllReadyH.cons (o := ⟨some 52, _, _, _, _, _⟩) rfl (fun K hK => ?hT10x13) ?hM10x13
                  case hM10x13 => exact AllReadyH.nil
                  (obtain ⟨g0, gE⟩ := ‹Below V.heap.size V _ ∧ _›; refine Kd.R_append_rows_step kM (w0 := V) V.heap.size (by rfl) (.tmp 48) (.tmp 51) 22 25 (.agg #[.int .i64 0, .int .i64 0, .int .i64 0]) 24 rfl Try.underlying22 info25 rfl (by decide) (by omega) (v6) (l.take p ++ [m]) (l.drop p) (_) (_) (_) (fun _ => True) (fun _ => False) rfl rfl (by (with_reducible repeat (first | apply Kd.R_alloc | apply Kd.R_drewN | apply Kd.R_drew)); exact HO6.out) (by rw [List.drop_of_length_le (by rw [← HN.out]; exact Nat.le_refl _)]; exact ⟨by simp, by simp, fun h => absurd h (by simp)⟩) (fun x cs h => kM_of_K x cs h) (fun _ hk => hk.elim) (fun _ _ => trivial) g0 g0.size (by simp; omega) ?_; (intro v10 w10 ho_ hb_ hg_ hat_; have HO10 := Aside0.mk ho_; clear ho_ hg_ hat_; have j0 := hb_; have jE := fun j => (j0.cell (p := ⟨w.heap.size, j, none⟩) kE).trans (rE j)))
                  refine hK.out _ _ ?hS10x13 (fun hHeld => ?hR10x13)
                  case hS10x13 => ((try dsimp only); (first | exact ⟨below_drew1 (Below.refl _ _), rE⟩ | exact ⟨below_drew1 b0_, rE⟩ | exact ⟨j0, jE⟩ | exact ⟨below_alloc j0 _, fun j => (cell_alloc_old (Nat.lt_of_lt_of_le kE j0.size)).trans (jE j)⟩ | exact ⟨below_alloc (below_drew1 (Below.refl _ _)) _, fun j => (cell_alloc_old kE).trans (rE j)⟩ | assumption))
                  clear hK K
                  (try simp only [Act.put, List.setIfInBounds_toArray, List.set_cons_zero, List.set_cons_succ])
                  refine wpAnyH_take (i := 11) (oi := ⟨some 6, _, _, _, _, _⟩) (v := ?_) rfl (by kernel_rfl) (by kernel_rfl) (by kernel_rfl) (fun _ _ _ h => h) (Or.inl ⟨by rfl, ?hY10x14⟩) (by assumption) ?hR10x14
                  case hY10x14 => (intro w hSw; (try dsimp only at hSw); go_simp; try with_reducible rfl)
                  (try simp only [Act.put, List.setIfInBounds_toArray, List.set_cons_zero, List.set_cons_succ])
                  refine wpAnyH_take (i := 12) (oi := ⟨some 7, _, _, _, _, _⟩) (v := ?_) rfl (by kernel_rfl) (by kernel_rfl) (by kernel_rfl) (fun _ _ _ h => h) (Or.inl ⟨by rfl, ?hY10x15⟩) (by assumption) ?hR10x15
                  case hY10x15 => (intro w hSw; (try dsimp only at hSw); go_simp; try with_reducible rfl)
                  (try simp only [Act.put, List.setIfInBounds_toArray, List.set_cons_zero, List.set_cons_succ])
                  refine wpAnyH_done (by kernel_rfl) ?_ _
                  go_wp2
                  go_ret2
                  refine ⟨_, rfl, ?_, below_step HB.out (below_step HY2.out j0)⟩
                  show kM.R _ _ _ _ v10 (insAt l (posM l m) m)
                  unfold insAt
                  rw [← HP2.out]
                  have e := HO10.out
                  rw [List.append_assoc] at e
                  refine Kd.R_lower (show kM.R _ _ _ _ _ (l.take p ++ m :: l.drop p) from e) ?_
                  exact Nat.le_trans HB.out.size HY2.out.size
                case hM10x9 =>
                  go_simp
                  (try go_wp2_with fail)
                  refine hK.out _ _ ?hS10x16 (fun hHeld => ?hR10x16)
                  case hS10x16 => ((try dsimp only); (first | exact ⟨below_drew1 (Below.refl _ _), rE⟩ | exact ⟨below_drew1 b0_, rE⟩ | exact ⟨j0, jE⟩ | exact ⟨below_alloc j0 _, fun j => (cell_alloc_old (Nat.lt_of_lt_of_le kE j0.size)).trans (jE j)⟩ | exact ⟨below_alloc (below_drew1 (Below.refl _ _)) _, fun j => (cell_alloc_old kE).trans (rE j)⟩ | assumption))
                  clear hK K
                  (try simp only [Act.put, List.setIfInBounds_toArray, List.set_cons_zero, List.set_cons_succ])
                  refine wpAnyH_ready (rs := [3]) (by kernel_rfl) (by simp) ?_
                  refine AllReadyH.cons (o := ⟨some 45, _, _, _, _, _⟩) rfl (fun K hK => ?hT10x17) ?hM10x17
                  case hM10x17 => exact AllReadyH.nil
                  (obtain ⟨g0, gE⟩ := ‹Below V.heap.size V _ ∧ _›; refine Kd.R_append_rows_step kM (w0 := V) V.heap.size (by rfl) (.const (.slice none 0 0)) (.tmp 44) 22 25 (.agg #[.int .i64 0, .int .i64 0, .int .i64 0]) 24 rfl Try.underlying22 info25 rfl (by decide) (by omega) (.slice none 0 0) ([]) (l.take p) (_) (p) (_) (fun _ => True) (fun _ => False) rfl rfl (Kd.R_nil _ _ _ _ _) (C_take' (Kd.C_below HXV.out g0) hp) (fun x cs h => kM_of_K x cs h) (fun _ hk => hk.elim) (fun _ _ => trivial) g0 g0.size (by simp; omega) ?_; (intro v3 w3 ho_ hb_ hg_ hat_; have HO3 := Aside0.mk ho_; have HG3 := Aside0.mk ((Below.refl _ _).grown (row := none) hg_ (Nat.le_refl _) (fun k hk => by cases hk)); clear ho_ hg_ hat_; have j0 := hb_; have jE := fun j => (j0.cell (p := ⟨w.heap.size, j, none⟩) kE).trans (rE j)))
                  refine hK.out _ _ ?hS10x17 (fun hHeld => ?hR10x17)
                  case hS10x17 => ((try dsimp only); (first | exact ⟨below_drew1 (Below.refl _ _), rE⟩ | exact ⟨below_drew1 b0_, rE⟩ | exact ⟨j0, jE⟩ | exact ⟨below_alloc j0 _, fun j => (cell_alloc_old (Nat.lt_of_lt_of_le kE j0.size)).trans (jE j)⟩ | exact ⟨below_alloc (below_drew1 (Below.refl _ _)) _, fun j => (cell_alloc_old kE).trans (rE j)⟩ | assumption))
                  clear hK K
                  (try simp only [Act.put, List.setIfInBounds_toArray, List.set_cons_zero, List.set_cons_succ])
                  refine wpAnyH_ready (rs := [6]) (by kernel_rfl) (by simp) ?_
                  refine AllReadyH.cons (o := ⟨some 48, _, _, _, _, _⟩) rfl (fun K hK => ?hT10x18) ?hM10x18
                  case hM10x18 => exact AllReadyH.nil
                  (obtain ⟨g0, gE⟩ := ‹Below V.heap.size V _ ∧ _›; refine Kd.R_append_rows_step kM (w0 := V) V.heap.size (by rfl) (.tmp 45) (.tmp 47) 22 25 (.agg #[.int .i64 0, .int .i64 0, .int .i64 0]) 24 rfl Try.underlying22 info25 rfl (by decide) (by omega) (v3) (l.take p) ([m]) (_) (1) (1) (fun _ => True) (fun _ => False) rfl rfl (by (with_reducible repeat (first | apply Kd.R_alloc | apply Kd.R_drewN | apply Kd.R_drew)); exact HO3.out) (by first | exact C_one Box.new | exact C_one (Box.drew Box.new) | exact C_one (Box.below (Box.drew Box.new) HG3.out) | exact C_one (Box.below Box.new HG3.out)) (fun x cs h => kM_of_K x cs h) (fun _ hk => hk.elim) (fun _ _ => trivial) g0 g0.size (by simp; omega) ?_; (intro v6 w6 ho_ hb_ hg_ hat_; have HO6 := Aside0.mk ho_; clear ho_ hg_ hat_; have j0 := hb_; have jE := fun j => (j0.cell (p := ⟨w.heap.size, j, none⟩) kE).trans (rE j)))
                  refine hK.out _ _ ?hS10x18 (fun hHeld => ?hR10x18)
                  case hS10x18 => ((try dsimp only); (first | exact ⟨below_drew1 (Below.refl _ _), rE⟩ | exact ⟨below_drew1 b0_, rE⟩ | exact ⟨j0, jE⟩ | exact ⟨below_alloc j0 _, fun j => (cell_alloc_old (Nat.lt_of_lt_of_le kE j0.size)).trans (jE j)⟩ | exact ⟨below_alloc (below_drew1 (Below.refl _ _)) _, fun j => (cell_alloc_old kE).trans (rE j)⟩ | assumption))
                  clear hK K
                  (try simp only [Act.put, List.setIfInBounds_toArray, List.set_cons_zero, List.set_cons_succ])
                  refine wpAnyH_ready (rs := [10]) (by kernel_rfl) (by simp) ?_
                  refine AllReadyH.cons (o := ⟨some 52, _, _, _, _, _⟩) rfl (fun K hK => ?hT10x19) ?hM10x19
                  case hM10x19 => exact AllReadyH.nil
                  (obtain ⟨g0, gE⟩ := ‹Below V.heap.size V _ ∧ _›; refine Kd.R_append_rows_step kM (w0 := V) V.heap.size (by rfl) (.tmp 48) (.tmp 51) 22 25 (.agg #[.int .i64 0, .int .i64 0, .int .i64 0]) 24 rfl Try.underlying22 info25 rfl (by decide) (by omega) (v6) (l.take p ++ [m]) (l.drop p) (_) (_) (_) (fun _ => True) (fun _ => False) rfl rfl (by (with_reducible repeat (first | apply Kd.R_alloc | apply Kd.R_drewN | apply Kd.R_drew)); exact HO6.out) (by rw [List.drop_of_length_le (by rw [← HN.out]; exact Nat.le_refl _)]; exact ⟨by simp, by simp, fun h => absurd h (by simp)⟩) (fun x cs h => kM_of_K x cs h) (fun _ hk => hk.elim) (fun _ _ => trivial) g0 g0.size (by simp; omega) ?_; (intro v10 w10 ho_ hb_ hg_ hat_; have HO10 := Aside0.mk ho_; clear ho_ hg_ hat_; have j0 := hb_; have jE := fun j => (j0.cell (p := ⟨w.heap.size, j, none⟩) kE).trans (rE j)))
                  refine hK.out _ _ ?hS10x19 (fun hHeld => ?hR10x19)
                  case hS10x19 => ((try dsimp only); (first | exact ⟨below_drew1 (Below.refl _ _), rE⟩ | exact ⟨below_drew1 b0_, rE⟩ | exact ⟨j0, jE⟩ | exact ⟨below_alloc j0 _, fun j => (cell_alloc_old (Nat.lt_of_lt_of_le kE j0.size)).trans (jE j)⟩ | exact ⟨below_alloc (below_drew1 (Below.refl _ _)) _, fun j => (cell_alloc_old kE).trans (rE j)⟩ | assumption))
                  clear hK K
                  (try simp only [Act.put, List.setIfInBounds_toArray, List.set_cons_zero, List.set_cons_succ])
                  refine wpAnyH_take (i := 11) (oi := ⟨some 6, _, _, _, _, _⟩) (v := ?_) rfl (by kernel_rfl) (by kernel_rfl) (by kernel_rfl) (fun _ _ _ h => h) (Or.inl ⟨by rfl, ?hY10x20⟩) (by assumption) ?hR10x20
                  case hY10x20 => (intro w hSw; (try dsimp only at hSw); go_simp; try with_reducible rfl)
                  (try simp only [Act.put, List.setIfInBounds_toArray, List.set_cons_zero, List.set_cons_succ])
                  refine wpAnyH_take (i := 12) (oi := ⟨some 7, _, _, _, _, _⟩) (v := ?_) rfl (by kernel_rfl) (by kernel_rfl) (by kernel_rfl) (fun _ _ _ h => h) (Or.inl ⟨by rfl, ?hY10x21⟩) (by assumption) ?hR10x21
                  case hY10x21 => (intro w hSw; (try dsimp only at hSw); go_simp; try with_reducible rfl)
                  (try simp only [Act.put, List.setIfInBounds_toArray, List.set_cons_zero, List.set_cons_succ])
                  refine wpAnyH_done (by kernel_rfl) ?_ _
                  go_wp2
                  go_ret2
                  refine ⟨_, rfl, ?_, below_step HB.out (below_step HY2.out j0)⟩
                  show kM.R _ _ _ _ v10 (insAt l (posM l m) m)
                  unfold insAt
                  rw [← HP2.out]
                  have e := HO10.out
                  rw [List.append_assoc] at e
                  refine Kd.R_lower (show kM.R _ _ _ _ _ (l.take p ++ m :: l.drop p) from e) ?_
                  exact Nat.le_trans HB.out.size HY2.out.size
              · go_upto_region 12 with (fail)
                refine wp_region_held_drew (S := (fun w' => Below V.heap.size V w' ∧ (∀ j, w'.cell? ⟨w.heap.size, j, none⟩ = (#[.int .i64 m.f0, .int .i64 m.f1, .int .i64 m.f2] : Array Value)[j]?))) (by kernel_rfl) ?hS11x0 (fun hHeld => ?hR11x0)
                case hS11x0 => ((try dsimp only); (first | exact ⟨below_drew1 (Below.refl _ _), rE⟩ | exact ⟨below_drew1 b0_, rE⟩ | exact ⟨j0, jE⟩ | exact ⟨below_alloc j0 _, fun j => (cell_alloc_old (Nat.lt_of_lt_of_le kE j0.size)).trans (jE j)⟩ | exact ⟨below_alloc (below_drew1 (Below.refl _ _)) _, fun j => (cell_alloc_old kE).trans (rE j)⟩ | assumption))
                refine wpAnyH_take (i := 0) (oi := ⟨some 42, _, _, _, _, _⟩) (v := ?_) rfl (by kernel_rfl) (by kernel_rfl) (by kernel_rfl) (fun _ _ _ h => h) (Or.inl ⟨by rfl, ?hY11x2⟩) (by assumption) ?hR11x2
                case hY11x2 => (intro w hSw; (try dsimp only at hSw); go_simp; try with_reducible rfl)
                (try simp only [Act.put, List.setIfInBounds_toArray, List.set_cons_zero, List.set_cons_succ])
                refine wpAnyH_take (i := 1) (oi := ⟨some 43, _, _, _, _, _⟩) (v := ?_) rfl (by kernel_rfl) (by kernel_rfl) (by kernel_rfl) (fun _ _ _ h => h) (Or.inl ⟨by rfl, ?hY11x3⟩) (by assumption) ?hR11x3
                case hY11x3 => (intro w hSw; (try dsimp only at hSw); go_simp; try with_reducible rfl)
                (try simp only [Act.put, List.setIfInBounds_toArray, List.set_cons_zero, List.set_cons_succ])
                refine wpAnyH_take (i := 2) (oi := ⟨some 44, _, _, _, _, _⟩) (v := ?_) rfl (by kernel_rfl) (by kernel_rfl) (by kernel_rfl) (fun _ _ _ h => h) (Or.inl ⟨by rfl, ?hY11x4⟩) (by assumption) ?hR11x4
                case hY11x4 => (intro w hSw; (try dsimp only at hSw); go_simp; try with_reducible rfl)
                (try simp only [Act.put, List.setIfInBounds_toArray, List.set_cons_zero, List.set_cons_succ])
                refine wpAnyH_take (i := 4) (oi := ⟨some 46, _, _, _, _, _⟩) (v := ?_) rfl (by kernel_rfl) (by kernel_rfl) (by kernel_rfl) (fun _ _ _ h => h) (Or.inl ⟨by rfl, ?hY11x5⟩) (by assumption) ?hR11x5
                case hY11x5 => (intro w hSw; (try dsimp only at hSw); go_simp; try with_reducible rfl)
                (try simp only [Act.put, List.setIfInBounds_toArray, List.set_cons_zero, List.set_cons_succ])
                refine wpAnyH_take (i := 7) (oi := ⟨some 49, _, _, _, _, _⟩) (v := ?_) rfl (by kernel_rfl) (by kernel_rfl) (by kernel_rfl) (fun _ _ _ h => h) (Or.inl ⟨by rfl, ?hY11x6⟩) (by assumption) ?hR11x6
                case hY11x6 => (intro w hSw; (try dsimp only at hSw); go_simp; try with_reducible rfl)
                (try simp only [Act.put, List.setIfInBounds_toArray, List.set_cons_zero, List.set_cons_succ])
                refine wpAnyH_take (i := 8) (oi := ⟨some 50, _, _, _, _, _⟩) (v := ?_) rfl (by kernel_rfl) (by kernel_rfl) (by kernel_rfl) (fun _ _ _ h => h) (Or.inl ⟨by rfl, ?hY11x7⟩) (by assumption) ?hR11x7
                case hY11x7 => (intro w hSw; (try dsimp only at hSw); go_simp; try with_reducible rfl)
                (try simp only [Act.put, List.setIfInBounds_toArray, List.set_cons_zero, List.set_cons_succ])
                refine wpAnyH_take (i := 9) (oi := ⟨some 51, _, _, _, _, _⟩) (v := ?_) rfl (by kernel_rfl) (by kernel_rfl) (by kernel_rfl) (fun _ _ _ h => h) (Or.inl ⟨by rfl, ?hY11x8⟩) (by assumption) ?hR11x8
                case hY11x8 => (intro w hSw; (try dsimp only at hSw); go_simp; try with_reducible rfl)
                (try simp only [Act.put, List.setIfInBounds_toArray, List.set_cons_zero, List.set_cons_succ])
                refine wpAnyH_ready (rs := [3, 5]) (by kernel_rfl) (by simp) ?_
                refine AllReadyH.cons (o := ⟨some 45, _, _, _, _, _⟩) rfl (fun K hK => ?hT11x9) (AllReadyH.cons (o := ⟨some 47, _, _, _, _, _⟩) rfl (fun K hK => ?hM11x9) AllReadyH.nil)
                case hT11x9 =>
                  (obtain ⟨g0, gE⟩ := ‹Below V.heap.size V _ ∧ _›; refine Kd.R_append_rows_step kM (w0 := V) V.heap.size (by rfl) (.const (.slice none 0 0)) (.tmp 44) 22 25 (.agg #[.int .i64 0, .int .i64 0, .int .i64 0]) 24 rfl Try.underlying22 info25 rfl (by decide) (by omega) (.slice none 0 0) ([]) (l.take p) (_) (p) (_) (fun _ => True) (fun _ => False) rfl rfl (Kd.R_nil _ _ _ _ _) (C_take' (Kd.C_below HXV.out g0) hp) (fun x cs h => kM_of_K x cs h) (fun _ hk => hk.elim) (fun _ _ => trivial) g0 g0.size (by simp; omega) ?_; (intro v3 w3 ho_ hb_ hg_ hat_; have HO3 := Aside0.mk ho_; have HG3 := Aside0.mk ((Below.refl _ _).grown (row := none) hg_ (Nat.le_refl _) (fun k hk => by cases hk)); clear ho_ hg_ hat_; have j0 := hb_; have jE := fun j => (j0.cell (p := ⟨w.heap.size, j, none⟩) kE).trans (rE j)))
                  refine hK.out _ _ ?hS11x10 (fun hHeld => ?hR11x10)
                  case hS11x10 => ((try dsimp only); (first | exact ⟨below_drew1 (Below.refl _ _), rE⟩ | exact ⟨below_drew1 b0_, rE⟩ | exact ⟨j0, jE⟩ | exact ⟨below_alloc j0 _, fun j => (cell_alloc_old (Nat.lt_of_lt_of_le kE j0.size)).trans (jE j)⟩ | exact ⟨below_alloc (below_drew1 (Below.refl _ _)) _, fun j => (cell_alloc_old kE).trans (rE j)⟩ | assumption))
                  clear hK K
                  (try simp only [Act.put, List.setIfInBounds_toArray, List.set_cons_zero, List.set_cons_succ])
                  refine wpAnyH_ready (rs := [5]) (by kernel_rfl) (by simp) ?_
                  refine AllReadyH.cons (o := ⟨some 47, _, _, _, _, _⟩) rfl (fun K hK => ?hT11x11) ?hM11x11
                  case hM11x11 => exact AllReadyH.nil
                  go_simp
                  (try go_wp2_with fail)
                  refine hK.out _ _ ?hS11x11 (fun hHeld => ?hR11x11)
                  case hS11x11 => ((try dsimp only); (first | exact ⟨below_drew1 (Below.refl _ _), rE⟩ | exact ⟨below_drew1 b0_, rE⟩ | exact ⟨j0, jE⟩ | exact ⟨below_alloc j0 _, fun j => (cell_alloc_old (Nat.lt_of_lt_of_le kE j0.size)).trans (jE j)⟩ | exact ⟨below_alloc (below_drew1 (Below.refl _ _)) _, fun j => (cell_alloc_old kE).trans (rE j)⟩ | assumption))
                  clear hK K
                  (try simp only [Act.put, List.setIfInBounds_toArray, List.set_cons_zero, List.set_cons_succ])
                  refine wpAnyH_ready (rs := [6]) (by kernel_rfl) (by simp) ?_
                  refine AllReadyH.cons (o := ⟨some 48, _, _, _, _, _⟩) rfl (fun K hK => ?hT11x12) ?hM11x12
                  case hM11x12 => exact AllReadyH.nil
                  (obtain ⟨g0, gE⟩ := ‹Below V.heap.size V _ ∧ _›; refine Kd.R_append_rows_step kM (w0 := V) V.heap.size (by rfl) (.tmp 45) (.tmp 47) 22 25 (.agg #[.int .i64 0, .int .i64 0, .int .i64 0]) 24 rfl Try.underlying22 info25 rfl (by decide) (by omega) (v3) (l.take p) ([m]) (_) (1) (1) (fun _ => True) (fun _ => False) rfl rfl (by (with_reducible repeat (first | apply Kd.R_alloc | apply Kd.R_drewN | apply Kd.R_drew)); exact HO3.out) (by first | exact C_one Box.new | exact C_one (Box.drew Box.new) | exact C_one (Box.below (Box.drew Box.new) HG3.out) | exact C_one (Box.below Box.new HG3.out)) (fun x cs h => kM_of_K x cs h) (fun _ hk => hk.elim) (fun _ _ => trivial) g0 g0.size (by simp; omega) ?_; (intro v6 w6 ho_ hb_ hg_ hat_; have HO6 := Aside0.mk ho_; clear ho_ hg_ hat_; have j0 := hb_; have jE := fun j => (j0.cell (p := ⟨w.heap.size, j, none⟩) kE).trans (rE j)))
                  refine hK.out _ _ ?hS11x12 (fun hHeld => ?hR11x12)
                  case hS11x12 => ((try dsimp only); (first | exact ⟨below_drew1 (Below.refl _ _), rE⟩ | exact ⟨below_drew1 b0_, rE⟩ | exact ⟨j0, jE⟩ | exact ⟨below_alloc j0 _, fun j => (cell_alloc_old (Nat.lt_of_lt_of_le kE j0.size)).trans (jE j)⟩ | exact ⟨below_alloc (below_drew1 (Below.refl _ _)) _, fun j => (cell_alloc_old kE).trans (rE j)⟩ | assumption))
                  clear hK K
                  (try simp only [Act.put, List.setIfInBounds_toArray, List.set_cons_zero, List.set_cons_succ])
                  refine wpAnyH_ready (rs := [10]) (by kernel_rfl) (by simp) ?_
                  refine AllReadyH.cons (o := ⟨some 52, _, _, _, _, _⟩) rfl (fun K hK => ?hT11x13) ?hM11x13
                  case hM11x13 => exact AllReadyH.nil
                  (obtain ⟨g0, gE⟩ := ‹Below V.heap.size V _ ∧ _›; refine Kd.R_append_rows_step kM (w0 := V) V.heap.size (by rfl) (.tmp 48) (.tmp 51) 22 25 (.agg #[.int .i64 0, .int .i64 0, .int .i64 0]) 24 rfl Try.underlying22 info25 rfl (by decide) (by omega) (v6) (l.take p ++ [m]) (l.drop p) (_) (_) (_) (fun _ => True) (fun _ => False) rfl rfl (by (with_reducible repeat (first | apply Kd.R_alloc | apply Kd.R_drewN | apply Kd.R_drew)); exact HO6.out) (by rw [List.drop_of_length_le (by rw [← HN.out]; exact Nat.le_refl _)]; exact ⟨by simp, by simp, fun h => absurd h (by simp)⟩) (fun x cs h => kM_of_K x cs h) (fun _ hk => hk.elim) (fun _ _ => trivial) g0 g0.size (by simp; omega) ?_; (intro v10 w10 ho_ hb_ hg_ hat_; have HO10 := Aside0.mk ho_; clear ho_ hg_ hat_; have j0 := hb_; have jE := fun j => (j0.cell (p := ⟨w.heap.size, j, none⟩) kE).trans (rE j)))
                  refine hK.out _ _ ?hS11x13 (fun hHeld => ?hR11x13)
                  case hS11x13 => ((try dsimp only); (first | exact ⟨below_drew1 (Below.refl _ _), rE⟩ | exact ⟨below_drew1 b0_, rE⟩ | exact ⟨j0, jE⟩ | exact ⟨below_alloc j0 _, fun j => (cell_alloc_old (Nat.lt_of_lt_of_le kE j0.size)).trans (jE j)⟩ | exact ⟨below_alloc (below_drew1 (Below.refl _ _)) _, fun j => (cell_alloc_old kE).trans (rE j)⟩ | assumption))
                  clear hK K
                  (try simp only [Act.put, List.setIfInBounds_toArray, List.set_cons_zero, List.set_cons_succ])
                  refine wpAnyH_take (i := 11) (oi := ⟨some 6, _, _, _, _, _⟩) (v := ?_) rfl (by kernel_rfl) (by kernel_rfl) (by kernel_rfl) (fun _ _ _ h => h) (Or.inl ⟨by rfl, ?hY11x14⟩) (by assumption) ?hR11x14
                  case hY11x14 => (intro w hSw; (try dsimp only at hSw); go_simp; try with_reducible rfl)
                  (try simp only [Act.put, List.setIfInBounds_toArray, List.set_cons_zero, List.set_cons_succ])
                  refine wpAnyH_take (i := 12) (oi := ⟨some 7, _, _, _, _, _⟩) (v := ?_) rfl (by kernel_rfl) (by kernel_rfl) (by kernel_rfl) (fun _ _ _ h => h) (Or.inl ⟨by rfl, ?hY11x15⟩) (by assumption) ?hR11x15
                  case hY11x15 => (intro w hSw; (try dsimp only at hSw); go_simp; try with_reducible rfl)
                  (try simp only [Act.put, List.setIfInBounds_toArray, List.set_cons_zero, List.set_cons_succ])
                  refine wpAnyH_done (by kernel_rfl) ?_ _
                  go_wp2
                  go_ret2
                  refine ⟨_, rfl, ?_, below_step HB.out (below_step HY2.out j0)⟩
                  show kM.R _ _ _ _ v10 (insAt l (posM l m) m)
                  unfold insAt
                  rw [← HP2.out]
                  have e := HO10.out
                  rw [List.append_assoc] at e
                  refine Kd.R_lower (show kM.R _ _ _ _ _ (l.take p ++ m :: l.drop p) from e) ?_
                  exact Nat.le_trans HB.out.size HY2.out.size
                case hM11x9 =>
                  go_simp
                  (try go_wp2_with fail)
                  refine hK.out _ _ ?hS11x16 (fun hHeld => ?hR11x16)
                  case hS11x16 => ((try dsimp only); (first | exact ⟨below_drew1 (Below.refl _ _), rE⟩ | exact ⟨below_drew1 b0_, rE⟩ | exact ⟨j0, jE⟩ | exact ⟨below_alloc j0 _, fun j => (cell_alloc_old (Nat.lt_of_lt_of_le kE j0.size)).trans (jE j)⟩ | exact ⟨below_alloc (below_drew1 (Below.refl _ _)) _, fun j => (cell_alloc_old kE).trans (rE j)⟩ | assumption))
                  clear hK K
                  (try simp only [Act.put, List.setIfInBounds_toArray, List.set_cons_zero, List.set_cons_succ])
                  refine wpAnyH_ready (rs := [3]) (by kernel_rfl) (by simp) ?_
                  refine AllReadyH.cons (o := ⟨some 45, _, _, _, _, _⟩) rfl (fun K hK => ?hT11x17) ?hM11x17
                  case hM11x17 => exact AllReadyH.nil
                  (obtain ⟨g0, gE⟩ := ‹Below V.heap.size V _ ∧ _›; refine Kd.R_append_rows_step kM (w0 := V) V.heap.size (by rfl) (.const (.slice none 0 0)) (.tmp 44) 22 25 (.agg #[.int .i64 0, .int .i64 0, .int .i64 0]) 24 rfl Try.underlying22 info25 rfl (by decide) (by omega) (.slice none 0 0) ([]) (l.take p) (_) (p) (_) (fun _ => True) (fun _ => False) rfl rfl (Kd.R_nil _ _ _ _ _) (C_take' (Kd.C_below HXV.out g0) hp) (fun x cs h => kM_of_K x cs h) (fun _ hk => hk.elim) (fun _ _ => trivial) g0 g0.size (by simp; omega) ?_; (intro v3 w3 ho_ hb_ hg_ hat_; have HO3 := Aside0.mk ho_; have HG3 := Aside0.mk ((Below.refl _ _).grown (row := none) hg_ (Nat.le_refl _) (fun k hk => by cases hk)); clear ho_ hg_ hat_; have j0 := hb_; have jE := fun j => (j0.cell (p := ⟨w.heap.size, j, none⟩) kE).trans (rE j)))
                  refine hK.out _ _ ?hS11x17 (fun hHeld => ?hR11x17)
                  case hS11x17 => ((try dsimp only); (first | exact ⟨below_drew1 (Below.refl _ _), rE⟩ | exact ⟨below_drew1 b0_, rE⟩ | exact ⟨j0, jE⟩ | exact ⟨below_alloc j0 _, fun j => (cell_alloc_old (Nat.lt_of_lt_of_le kE j0.size)).trans (jE j)⟩ | exact ⟨below_alloc (below_drew1 (Below.refl _ _)) _, fun j => (cell_alloc_old kE).trans (rE j)⟩ | assumption))
                  clear hK K
                  (try simp only [Act.put, List.setIfInBounds_toArray, List.set_cons_zero, List.set_cons_succ])
                  refine wpAnyH_ready (rs := [6]) (by kernel_rfl) (by simp) ?_
                  refine AllReadyH.cons (o := ⟨some 48, _, _, _, _, _⟩) rfl (fun K hK => ?hT11x18) ?hM11x18
                  case hM11x18 => exact AllReadyH.nil
                  (obtain ⟨g0, gE⟩ := ‹Below V.heap.size V _ ∧ _›; refine Kd.R_append_rows_step kM (w0 := V) V.heap.size (by rfl) (.tmp 45) (.tmp 47) 22 25 (.agg #[.int .i64 0, .int .i64 0, .int .i64 0]) 24 rfl Try.underlying22 info25 rfl (by decide) (by omega) (v3) (l.take p) ([m]) (_) (1) (1) (fun _ => True) (fun _ => False) rfl rfl (by (with_reducible repeat (first | apply Kd.R_alloc | apply Kd.R_drewN | apply Kd.R_drew)); exact HO3.out) (by first | exact C_one Box.new | exact C_one (Box.drew Box.new) | exact C_one (Box.below (Box.drew Box.new) HG3.out) | exact C_one (Box.below Box.new HG3.out)) (fun x cs h => kM_of_K x cs h) (fun _ hk => hk.elim) (fun _ _ => trivial) g0 g0.size (by simp; omega) ?_; (intro v6 w6 ho_ hb_ hg_ hat_; have HO6 := Aside0.mk ho_; clear ho_ hg_ hat_; have j0 := hb_; have jE := fun j => (j0.cell (p := ⟨w.heap.size, j, none⟩) kE).trans (rE j)))
                  refine hK.out _ _ ?hS11x18 (fun hHeld => ?hR11x18)
                  case hS11x18 => ((try dsimp only); (first | exact ⟨below_drew1 (Below.refl _ _), rE⟩ | exact ⟨below_drew1 b0_, rE⟩ | exact ⟨j0, jE⟩ | exact ⟨below_alloc j0 _, fun j => (cell_alloc_old (Nat.lt_of_lt_of_le kE j0.size)).trans (jE j)⟩ | exact ⟨below_alloc (below_drew1 (Below.refl _ _)) _, fun j => (cell_alloc_old kE).trans (rE j)⟩ | assumption))
                  clear hK K
                  (try simp only [Act.put, List.setIfInBounds_toArray, List.set_cons_zero, List.set_cons_succ])
                  refine wpAnyH_ready (rs := [10]) (by kernel_rfl) (by simp) ?_
                  refine AllReadyH.cons (o := ⟨some 52, _, _, _, _, _⟩) rfl (fun K hK => ?hT11x19) ?hM11x19
                  case hM11x19 => exact AllReadyH.nil
                  (obtain ⟨g0, gE⟩ := ‹Below V.heap.size V _ ∧ _›; refine Kd.R_append_rows_step kM (w0 := V) V.heap.size (by rfl) (.tmp 48) (.tmp 51) 22 25 (.agg #[.int .i64 0, .int .i64 0, .int .i64 0]) 24 rfl Try.underlying22 info25 rfl (by decide) (by omega) (v6) (l.take p ++ [m]) (l.drop p) (_) (_) (_) (fun _ => True) (fun _ => False) rfl rfl (by (with_reducible repeat (first | apply Kd.R_alloc | apply Kd.R_drewN | apply Kd.R_drew)); exact HO6.out) (by rw [List.drop_of_length_le (by rw [← HN.out]; exact Nat.le_refl _)]; exact ⟨by simp, by simp, fun h => absurd h (by simp)⟩) (fun x cs h => kM_of_K x cs h) (fun _ hk => hk.elim) (fun _ _ => trivial) g0 g0.size (by simp; omega) ?_; (intro v10 w10 ho_ hb_ hg_ hat_; have HO10 := Aside0.mk ho_; clear ho_ hg_ hat_; have j0 := hb_; have jE := fun j => (j0.cell (p := ⟨w.heap.size, j, none⟩) kE).trans (rE j)))
                  refine hK.out _ _ ?hS11x19 (fun hHeld => ?hR11x19)
                  case hS11x19 => ((try dsimp only); (first | exact ⟨below_drew1 (Below.refl _ _), rE⟩ | exact ⟨below_drew1 b0_, rE⟩ | exact ⟨j0, jE⟩ | exact ⟨below_alloc j0 _, fun j => (cell_alloc_old (Nat.lt_of_lt_of_le kE j0.size)).trans (jE j)⟩ | exact ⟨below_alloc (below_drew1 (Below.refl _ _)) _, fun j => (cell_alloc_old kE).trans (rE j)⟩ | assumption))
                  clear hK K
                  (try simp only [Act.put, List.setIfInBounds_toArray, List.set_cons_zero, List.set_cons_succ])
                  refine wpAnyH_take (i := 11) (oi := ⟨some 6, _, _, _, _, _⟩) (v := ?_) rfl (by kernel_rfl) (by kernel_rfl) (by kernel_rfl) (fun _ _ _ h => h) (Or.inl ⟨by rfl, ?hY11x20⟩) (by assumption) ?hR11x20
                  case hY11x20 => (intro w hSw; (try dsimp only at hSw); go_simp; try with_reducible rfl)
                  (try simp only [Act.put, List.setIfInBounds_toArray, List.set_cons_zero, List.set_cons_succ])
                  refine wpAnyH_take (i := 12) (oi := ⟨some 7, _, _, _, _, _⟩) (v := ?_) rfl (by kernel_rfl) (by kernel_rfl) (by kernel_rfl) (fun _ _ _ h => h) (Or.inl ⟨by rfl, ?hY11x21⟩) (by assumption) ?hR11x21
                  case hY11x21 => (intro w hSw; (try dsimp only at hSw); go_simp; try with_reducible rfl)
                  (try simp only [Act.put, List.setIfInBounds_toArray, List.set_cons_zero, List.set_cons_succ])
                  refine wpAnyH_done (by kernel_rfl) ?_ _
                  go_wp2
                  go_ret2
                  refine ⟨_, rfl, ?_, below_step HB.out (below_step HY2.out j0)⟩
                  show kM.R _ _ _ _ v10 (insAt l (posM l m) m)
                  unfold insAt
                  rw [← HP2.out]
                  have e := HO10.out
                  rw [List.append_assoc] at e
                  refine Kd.R_lower (show kM.R _ _ _ _ _ (l.take p ++ m :: l.drop p) from e) ?_
                  exact Nat.le_trans HB.out.size HY2.out.size
    · rw [if_neg (by simp [h2])]
      have H := Aside0.mk h
      have H2 := Aside0.mk h2
      clear h h2
      go_enter Try.func13, Try.ntmps13
      go_wp2_with fail
      refine (RRight_v A n c l true _ ?hC4 hc H.out).mono ?_
      case hC4 => exact C_alloc HX.out
      rintro e w5 ⟨rfl, hb_⟩
      have YE : Box w5 (w.heap.size) _ _ := Box.below (by repeat (with_reducible first | exact XE.out | exact Box.new | exact Box.new1 | exact Box.new2 | exact Box.new3 | apply Box.alloc | apply Box.drew | apply Box.drewN | apply Box.set)) hb_
      (try clear XE rE kE fE); have XE := Aside0.mk YE; have rE := YE.cell; have fE := YE.frozen; have kE := YE.lt; clear YE
      have ZHX := Aside0.mk (Kd.C_below (by repeat (with_reducible first | exact HX.out | apply C_alloc | apply C_drew)) hb_); clear HX; have HX := ZHX; clear ZHX
      have n_ := Aside0.mk (below_step (by repeat (first | exact HB.out | apply below_alloc | apply pw_below_drewN | apply below_drew1 | refine below_set ?_ (by first | omega | (simp; omega)))) hb_); clear HB hb_; have HB := n_; clear n_
      go_wp2_with fail
      refine (rmay_v m false _ H2.out).mono ?_
      rintro e w6 ⟨rfl, hb_⟩
      have n_ := Aside0.mk (below_step (by repeat (first | exact HB.out | apply below_alloc | apply pw_below_drewN | apply below_drew1 | refine below_set ?_ (by first | omega | (simp; omega)))) hb_); clear HB hb_; have HB := n_; clear n_
      go_wp2
      go_ret2
      exact ⟨_, rfl, Kd.R_nil _ _ _ _ _, HB.out⟩
  · rw [if_neg (by simp [h])]
    have H := Aside0.mk h
    clear h
    go_enter Try.func13, Try.ntmps13
    go_wp2_with fail
    refine (RRight_v A n c l false _ ?hC5 hc H.out).mono ?_
    case hC5 => exact C_alloc HX.out
    rintro e w5 ⟨rfl, hb_⟩
    have n_ := Aside0.mk (below_step (by repeat (first | exact HB.out | apply below_alloc | apply pw_below_drewN | apply below_drew1 | refine below_set ?_ (by first | omega | (simp; omega)))) hb_); clear HB hb_; have HB := n_; clear n_
    go_wp2
    go_ret2
    exact ⟨_, rfl, Kd.R_nil _ _ _ _ _, HB.out⟩
end Go.Proofs.Ytppcojfgpjnagaa
