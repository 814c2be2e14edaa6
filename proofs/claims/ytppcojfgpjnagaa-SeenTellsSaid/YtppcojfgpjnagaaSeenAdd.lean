
/- Marks with one more (chapter 13): Add, in the program. -/
import Derived.Test.YtppcojfgpjnagaaSeenIns3
set_option linter.unusedVariables false
set_option linter.unusedSimpArgs false
namespace Go.Proofs.Ytppcojfgpjnagaa
open Go.RowKit Go.Proofs.YtppcojfgpjnagaaW.PrintWords Go.Proofs.YtppcojfgpjnagaaW.PrintLast Go.Proofs.YtppcojfgpjnagaaW.PrintMore

open Go.Proofs.Ytppcojfgpjnagaa.PQ Go.Lib

/-- Where a mark would stand. -/
def posM : List Mk → Mk → Nat
  | [], _ => 0
  | a :: l, m => if ltM a m = true then posM l m + 1 else 0
theorem posM_le (l : List Mk) (m : Mk) : posM l m ≤ l.length := by
  induction l with
  | nil => exact Nat.le_refl _
  | cons a l ih =>
    rw [posM]
    split
    · simp; exact ih
    · omega
theorem rdM_cons (a : Mk) (l : List Mk) (k : Nat) (h : k < l.length) : rdM (a :: l) ((k + 1 : Nat) : Int) = rdM l k := by
  rw [rdM_eq h, rdM_eq (by simp; omega)]
  rfl
theorem posM_lt (l : List Mk) (m : Mk) (k : Nat) (h : k < posM l m) : ltM (rdM l k) m = true := by
  induction l generalizing k with
  | nil => rw [posM] at h; omega
  | cons a l ih =>
    rw [posM] at h
    by_cases hc : ltM a m = true
    · rw [if_pos hc] at h
      cases k with
      | zero => exact hc
      | succ k => 
        rw [rdM_cons a l k (by have := posM_le l m; omega)]
        exact ih k (by omega)
    · rw [if_neg hc] at h
      omega
theorem posM_at (l : List Mk) (m : Mk) (h : posM l m < l.length) : ltM (rdM l (posM l m)) m = false := by
  induction l with
  | nil => simp at h
  | cons a l ih =>
    rw [posM] at h ⊢
    by_cases hc : ltM a m = true
    · rw [if_pos hc] at h ⊢
      rw [List.length_cons] at h
      rw [rdM_cons a l _ (by omega)]
      exact ih (by omega)
    · rw [if_neg hc]
      rw [Bool.not_eq_true] at hc
      exact hc
theorem spot_pos {l : List Mk} {m : Mk} {p : Nat} (h : SpotM l m p) : p = posM l m := by
  obtain ⟨h0, h1, h2⟩ := h
  have h3 := posM_le l m
  rcases Nat.lt_trichotomy p (posM l m) with g | g | g
  · have a := posM_lt l m p g
    have b := h2 p (Nat.le_refl _) (by omega)
    rw [a] at b
    cases b
  · exact g
  · have a := posM_at l m (by omega)
    have b := h1 _ g
    rw [a] at b
    cases b
/-- Marks with one more: the list, and the error. -/
def addM (l : List Mk) (room : Int) (m : Mk) : List Mk × Int :=
  if rightM l = true ∧ mayM m = true then (if m ∈ l then ([], 7) else if room ≤ (l.length : Int) then ([], 5) else (insAt l (posM l m) m, 0)) else ([], 1)
theorem own_lt_R {w : World} {e base : Nat} {ok : Nat → Prop} {v : Value} {l : List Mk} (h : kM.R e w base ok v l) : ∀ k, v.ownBlock = some k → base ≤ k ∧ k < w.heap.size := by
  obtain ⟨_, inner, ho, _⟩ := h
  exact fun k hk => ⟨own_base ho k hk, own_lt ho k hk⟩
theorem size_le_ad {w : World} {o : Obj} : w.heap.size ≤ (World.drew (w.alloc o)).heap.size := by
  show w.heap.size ≤ (w.alloc o).heap.size
  rw [size_alloc]
  exact Nat.le_succ _
theorem own_ne_alloc {w w1 : World} {o : Obj} {e : Nat} {ok : Nat → Prop} {v : Value} {l : List Mk} (h : kM.R e w1 (World.drew (w.alloc o)).heap.size ok v l) : v.ownBlock ≠ some w.heap.size := by
  intro g
  have h1 : (w.alloc o).heap.size ≤ w.heap.size := (own_lt_R h _ g).1
  rw [size_alloc] at h1
  omega
set_option maxRecDepth 100000 in
set_option maxHeartbeats 8000000 in
theorem SAdd_calls (A : Option Addr) (n c : Nat) (l : List Mk) (room : Int) (m : Mk) (w : World) (hr : kM.C w A n l) (hl : n ≤ 1000000) : Calls Try.prog 12 #[.slice A n c, .int .i64 room, .agg #[.int .i64 m.f0, .int .i64 m.f1, .int .i64 m.f2]] w
    fun r w' => ∃ v, r = .returned (.tuple #[v, .int .i64 (addM l room m).2]) ∧ kM.R 25 w' w.heap.size (fun _ => True) v (addM l room m).1 ∧ Below w.heap.size w w' := by
  have HN := Aside0.mk (show n = l.length from (Kd.C_len hr).symm)
  have HX := Aside0.mk hr
  clear hr
  have HB := Aside0.mk (Below.refl w.heap.size w)
  unfold addM
  rcases Bool.eq_false_or_eq_true (rightM l) with h | h
  · rcases Bool.eq_false_or_eq_true (mayM m) with h2 | h2
    · rw [if_pos ⟨h, h2⟩]
      have H := Aside0.mk h
      have H2 := Aside0.mk h2
      clear h h2
      by_cases hm : m ∈ l
      · rw [if_pos hm]
        go_enter Try.func12, Try.ntmps12
        go_wp2_with fail
        refine (SRight_v A n c l true _ ?hC H.out).mono ?_
        case hC => exact C_alloc HX.out
        rintro e w5 ⟨rfl, hb_⟩
        have YE : Box w5 (w.heap.size) _ _ := Box.below (by repeat (with_reducible first | exact XE.out | exact Box.new | exact Box.new1 | exact Box.new2 | exact Box.new3 | apply Box.alloc | apply Box.drew | apply Box.drewN | apply Box.set)) hb_
        (try clear XE rE kE fE); have XE := Aside0.mk YE; have rE := YE.cell; have fE := YE.frozen; have kE := YE.lt; clear YE
        have ZHX := Aside0.mk (Kd.C_below (by repeat (with_reducible first | exact HX.out | apply C_alloc | apply C_drew)) hb_); clear HX; have HX := ZHX; clear ZHX
        have n_ := Aside0.mk (below_step (by repeat (first | exact HB.out | apply below_alloc | apply pw_below_drewN | apply below_drew1 | refine below_set ?_ (by first | omega | (simp; omega)))) hb_); clear HB hb_; have HB := n_; clear n_
        go_wp2_with fail
        refine (smay_calls m true _ H2.out).mono ?_
        rintro e w6 ⟨rfl, hb_⟩
        have YE : Box w6 (w.heap.size) _ _ := Box.below (by repeat (with_reducible first | exact XE.out | exact Box.new | exact Box.new1 | exact Box.new2 | exact Box.new3 | apply Box.alloc | apply Box.drew | apply Box.drewN | apply Box.set)) hb_
        (try clear XE rE kE fE); have XE := Aside0.mk YE; have rE := YE.cell; have fE := YE.frozen; have kE := YE.lt; clear YE
        have ZHX := Aside0.mk (Kd.C_below (by repeat (with_reducible first | exact HX.out | apply C_alloc | apply C_drew)) hb_); clear HX; have HX := ZHX; clear ZHX
        have n_ := Aside0.mk (below_step (by repeat (first | exact HB.out | apply below_alloc | apply pw_below_drewN | apply below_drew1 | refine below_set ?_ (by first | omega | (simp; omega)))) hb_); clear HB hb_; have HB := n_; clear n_
        go_wp2_with fail
        refine (SearchM_calls A n c l m _ HX.out).mono ?_
        rintro e w7 ⟨p, q, rfl, hq, hp, hb_⟩
        have YE : Box w7 (w.heap.size) _ _ := Box.below (by repeat (with_reducible first | exact XE.out | exact Box.new | exact Box.new1 | exact Box.new2 | exact Box.new3 | apply Box.alloc | apply Box.drew | apply Box.drewN | apply Box.set)) hb_
        (try clear XE rE kE fE); have XE := Aside0.mk YE; have rE := YE.cell; have fE := YE.frozen; have kE := YE.lt; clear YE
        have ZHX := Aside0.mk (Kd.C_below (by repeat (with_reducible first | exact HX.out | apply C_alloc | apply C_drew)) hb_); clear HX; have HX := ZHX; clear ZHX
        have n_ := Aside0.mk (below_step (by repeat (first | exact HB.out | apply below_alloc | apply pw_below_drewN | apply below_drew1 | refine below_set ?_ (by first | omega | (simp; omega)))) hb_); clear HB hb_; have HB := n_; clear n_
        have HQ := Aside0.mk (hq (right_sorted H.out))
        clear hq
        obtain rfl : q = true := HQ.out.2.trans (decide_eq_true hm)
        go_wp2
        go_ret2
        exact ⟨_, rfl, Kd.R_nil _ _ _ _ _, HB.out⟩
      · rw [if_neg hm]
        by_cases hrm : room ≤ (l.length : Int)
        · rw [if_pos hrm]
          rw [← HN.out] at hrm
          go_enter Try.func12, Try.ntmps12
          go_wp2_with fail
          refine (SRight_v A n c l true _ ?hC H.out).mono ?_
          case hC => exact C_alloc HX.out
          rintro e w5 ⟨rfl, hb_⟩
          have YE : Box w5 (w.heap.size) _ _ := Box.below (by repeat (with_reducible first | exact XE.out | exact Box.new | exact Box.new1 | exact Box.new2 | exact Box.new3 | apply Box.alloc | apply Box.drew | apply Box.drewN | apply Box.set)) hb_
          (try clear XE rE kE fE); have XE := Aside0.mk YE; have rE := YE.cell; have fE := YE.frozen; have kE := YE.lt; clear YE
          have ZHX := Aside0.mk (Kd.C_below (by repeat (with_reducible first | exact HX.out | apply C_alloc | apply C_drew)) hb_); clear HX; have HX := ZHX; clear ZHX
          have n_ := Aside0.mk (below_step (by repeat (first | exact HB.out | apply below_alloc | apply pw_below_drewN | apply below_drew1 | refine below_set ?_ (by first | omega | (simp; omega)))) hb_); clear HB hb_; have HB := n_; clear n_
          go_wp2_with fail
          refine (smay_calls m true _ H2.out).mono ?_
          rintro e w6 ⟨rfl, hb_⟩
          have YE : Box w6 (w.heap.size) _ _ := Box.below (by repeat (with_reducible first | exact XE.out | exact Box.new | exact Box.new1 | exact Box.new2 | exact Box.new3 | apply Box.alloc | apply Box.drew | apply Box.drewN | apply Box.set)) hb_
          (try clear XE rE kE fE); have XE := Aside0.mk YE; have rE := YE.cell; have fE := YE.frozen; have kE := YE.lt; clear YE
          have ZHX := Aside0.mk (Kd.C_below (by repeat (with_reducible first | exact HX.out | apply C_alloc | apply C_drew)) hb_); clear HX; have HX := ZHX; clear ZHX
          have n_ := Aside0.mk (below_step (by repeat (first | exact HB.out | apply below_alloc | apply pw_below_drewN | apply below_drew1 | refine below_set ?_ (by first | omega | (simp; omega)))) hb_); clear HB hb_; have HB := n_; clear n_
          go_wp2_with fail
          refine (SearchM_calls A n c l m _ HX.out).mono ?_
          rintro e w7 ⟨p, q, rfl, hq, hp, hb_⟩
          have YE : Box w7 (w.heap.size) _ _ := Box.below (by repeat (with_reducible first | exact XE.out | exact Box.new | exact Box.new1 | exact Box.new2 | exact Box.new3 | apply Box.alloc | apply Box.drew | apply Box.drewN | apply Box.set)) hb_
          (try clear XE rE kE fE); have XE := Aside0.mk YE; have rE := YE.cell; have fE := YE.frozen; have kE := YE.lt; clear YE
          have ZHX := Aside0.mk (Kd.C_below (by repeat (with_reducible first | exact HX.out | apply C_alloc | apply C_drew)) hb_); clear HX; have HX := ZHX; clear ZHX
          have n_ := Aside0.mk (below_step (by repeat (first | exact HB.out | apply below_alloc | apply pw_below_drewN | apply below_drew1 | refine below_set ?_ (by first | omega | (simp; omega)))) hb_); clear HB hb_; have HB := n_; clear n_
          have HQ := Aside0.mk (hq (right_sorted H.out))
          clear hq
          obtain rfl : q = false := HQ.out.2.trans (decide_eq_false hm)
          go_wp2
          go_ret2
          exact ⟨_, rfl, Kd.R_nil _ _ _ _ _, HB.out⟩
        · rw [if_neg hrm]
          rw [← HN.out] at hrm
          go_enter Try.func12, Try.ntmps12
          go_wp2_with fail
          refine (SRight_v A n c l true _ ?hC H.out).mono ?_
          case hC => exact C_alloc HX.out
          rintro e w5 ⟨rfl, hb_⟩
          have YE : Box w5 (w.heap.size) _ _ := Box.below (by repeat (with_reducible first | exact XE.out | exact Box.new | exact Box.new1 | exact Box.new2 | exact Box.new3 | apply Box.alloc | apply Box.drew | apply Box.drewN | apply Box.set)) hb_
          (try clear XE rE kE fE); have XE := Aside0.mk YE; have rE := YE.cell; have fE := YE.frozen; have kE := YE.lt; clear YE
          have ZHX := Aside0.mk (Kd.C_below (by repeat (with_reducible first | exact HX.out | apply C_alloc | apply C_drew)) hb_); clear HX; have HX := ZHX; clear ZHX
          have n_ := Aside0.mk (below_step (by repeat (first | exact HB.out | apply below_alloc | apply pw_below_drewN | apply below_drew1 | refine below_set ?_ (by first | omega | (simp; omega)))) hb_); clear HB hb_; have HB := n_; clear n_
          go_wp2_with fail
          refine (smay_calls m true _ H2.out).mono ?_
          rintro e w6 ⟨rfl, hb_⟩
          have YE : Box w6 (w.heap.size) _ _ := Box.below (by repeat (with_reducible first | exact XE.out | exact Box.new | exact Box.new1 | exact Box.new2 | exact Box.new3 | apply Box.alloc | apply Box.drew | apply Box.drewN | apply Box.set)) hb_
          (try clear XE rE kE fE); have XE := Aside0.mk YE; have rE := YE.cell; have fE := YE.frozen; have kE := YE.lt; clear YE
          have ZHX := Aside0.mk (Kd.C_below (by repeat (with_reducible first | exact HX.out | apply C_alloc | apply C_drew)) hb_); clear HX; have HX := ZHX; clear ZHX
          have n_ := Aside0.mk (below_step (by repeat (first | exact HB.out | apply below_alloc | apply pw_below_drewN | apply below_drew1 | refine below_set ?_ (by first | omega | (simp; omega)))) hb_); clear HB hb_; have HB := n_; clear n_
          go_wp2_with fail
          refine (SearchM_calls A n c l m _ HX.out).mono ?_
          rintro e w7 ⟨p, q, rfl, hq, hp, hb_⟩
          have YE : Box w7 (w.heap.size) _ _ := Box.below (by repeat (with_reducible first | exact XE.out | exact Box.new | exact Box.new1 | exact Box.new2 | exact Box.new3 | apply Box.alloc | apply Box.drew | apply Box.drewN | apply Box.set)) hb_
          (try clear XE rE kE fE); have XE := Aside0.mk YE; have rE := YE.cell; have fE := YE.frozen; have kE := YE.lt; clear YE
          have ZHX := Aside0.mk (Kd.C_below (by repeat (with_reducible first | exact HX.out | apply C_alloc | apply C_drew)) hb_); clear HX; have HX := ZHX; clear ZHX
          have n_ := Aside0.mk (below_step (by repeat (first | exact HB.out | apply below_alloc | apply pw_below_drewN | apply below_drew1 | refine below_set ?_ (by first | omega | (simp; omega)))) hb_); clear HB hb_; have HB := n_; clear n_
          have HQ := Aside0.mk (hq (right_sorted H.out))
          clear hq
          obtain rfl : q = false := HQ.out.2.trans (decide_eq_false hm)
          have HPP := Aside0.mk (spot_pos HQ.out.1)
          have HPL := Aside0.mk HQ.out.1.1
          clear HQ
          go_upto_region 4 with (fail)
          have hpl : p ≤ l.length := HPL.out
          have hll : l.length ≤ 1000000 := by rw [← HN.out]; exact hl
          refine wp_region_held_drew (S := (fun w' => Below w7.heap.size w7 w' ∧ (∀ j, w'.cell? ⟨w.heap.size, j, none⟩ = (#[.int .i64 m.f0, .int .i64 m.f1, .int .i64 m.f2] : Array Value)[j]?))) (by kernel_rfl) ?hS6x0 (fun hHeld => ?hR6x0)
          case hS6x0 => ((try dsimp only); (first | exact ⟨below_drew1 (Below.refl _ _), rE⟩ | exact ⟨below_drew1 b0_, rE⟩ | exact ⟨j0, jE⟩ | exact ⟨below_alloc j0 _, fun j => (cell_alloc_old (Nat.lt_of_lt_of_le kE j0.size)).trans (jE j)⟩ | exact ⟨below_alloc (below_drew1 (Below.refl _ _)) _, fun j => (cell_alloc_old kE).trans (rE j)⟩ | assumption))
          refine wpAnyH_take (i := 0) (oi := ⟨some 24, _, _, _, _, _⟩) (v := ?_) rfl (by kernel_rfl) (by kernel_rfl) (by kernel_rfl) (fun _ _ _ h => h) (Or.inl ⟨by rfl, ?hY6x2⟩) (by assumption) ?hR6x2
          case hY6x2 => (intro w hSw; (try dsimp only at hSw); go_simp; try with_reducible rfl)
          (try simp only [Act.put, List.setIfInBounds_toArray, List.set_cons_zero, List.set_cons_succ])
          refine wpAnyH_take (i := 2) (oi := ⟨some 26, _, _, _, _, _⟩) (v := ?_) rfl (by kernel_rfl) (by kernel_rfl) (by kernel_rfl) (fun _ _ _ h => h) (Or.inl ⟨by rfl, ?hY6x3⟩) (by assumption) ?hR6x3
          case hY6x3 => (intro w hSw; (try dsimp only at hSw); go_simp; try with_reducible rfl)
          (try simp only [Act.put, List.setIfInBounds_toArray, List.set_cons_zero, List.set_cons_succ])
          refine wpAnyH_take (i := 3) (oi := ⟨some 27, _, _, _, _, _⟩) (v := ?_) rfl (by kernel_rfl) (by kernel_rfl) (by kernel_rfl) (fun _ _ _ h => h) (Or.inl ⟨by rfl, ?hY6x4⟩) (by assumption) ?hR6x4
          case hY6x4 => (intro w hSw; (try dsimp only at hSw); go_simp; try with_reducible rfl)
          (try simp only [Act.put, List.setIfInBounds_toArray, List.set_cons_zero, List.set_cons_succ])
          refine wpAnyH_ready (rs := [1, 4]) (by kernel_rfl) (by simp) ?_
          refine AllReadyH.cons (o := ⟨some 25, _, _, _, _, _⟩) rfl (fun K hK => ?hT6x5) (AllReadyH.cons (o := ⟨some 28, _, _, _, _, _⟩) rfl (fun K hK => ?hM6x5) AllReadyH.nil)
          case hT6x5 =>
            go_simp
            (first | (go_at_call 28; obtain ⟨g0, gE⟩ := ‹Below w7.heap.size w7 _ ∧ _›; ((with_reducible refine (CloneM_calls A n c l _ (Kd.C_below HX.out g0) hl).mono ?_));  rintro e w8 ⟨v, rfl, hR6x5, hb_⟩; have j0 := below_step g0 hb_; have s8 := j0.size; have jE := fun j => (j0.cell (p := ⟨w.heap.size, j, none⟩) kE).trans (rE j); have h5b := hb_) | (go_at_call 27; obtain ⟨g0, gE⟩ := ‹Below w7.heap.size w7 _ ∧ _›; ((with_reducible refine (Insert_calls v l p m w8.heap.size _ _ (Kd.R_alloc hR6x5 _) (size_alloc ▸ Nat.le_succ_of_le h5b.size) Box.new (fun e => absurd (own_lt_R hR6x5 _ e).2 (Nat.lt_irrefl _)) hpl hll).mono ?_));  rintro e w9 ⟨v2, rfl, hR6x6, hb_⟩ ; have j0 :=  g0.trans hb_; have s9 := j0.size; have jE := fun j => (j0.cell (p := ⟨w.heap.size, j, none⟩) kE).trans (rE j)) | (go_at_call 27; obtain ⟨g0, gE⟩ := ‹Below w7.heap.size w7 _ ∧ _›; ((with_reducible refine (Insert_calls v l p m w7.heap.size _ _ hR6x5 h5b.size (Box.below (Box.drew Box.new) h5b) (own_ne_alloc hR6x5) hpl hll).mono ?_));  rintro e w9 ⟨v2, rfl, hR6x6, hb_⟩ ; have j0 :=  g0.trans (hb_.mono size_le_ad); have s9 := j0.size; have jE := fun j => (j0.cell (p := ⟨w.heap.size, j, none⟩) kE).trans (rE j)))
            (try go_wp2_with fail)
            refine hK.out _ _ ?hS6x6 (fun hHeld => ?hR6x6)
            case hS6x6 => ((try dsimp only); (first | exact ⟨below_drew1 (Below.refl _ _), rE⟩ | exact ⟨below_drew1 b0_, rE⟩ | exact ⟨j0, jE⟩ | exact ⟨below_alloc j0 _, fun j => (cell_alloc_old (Nat.lt_of_lt_of_le kE j0.size)).trans (jE j)⟩ | exact ⟨below_alloc (below_drew1 (Below.refl _ _)) _, fun j => (cell_alloc_old kE).trans (rE j)⟩ | assumption))
            clear hK K
            (try simp only [Act.put, List.setIfInBounds_toArray, List.set_cons_zero, List.set_cons_succ])
            refine wpAnyH_ready (rs := [4]) (by kernel_rfl) (by simp) ?_
            refine AllReadyH.cons (o := ⟨some 28, _, _, _, _, _⟩) rfl (fun K hK => ?hT6x7) ?hM6x7
            case hM6x7 => exact AllReadyH.nil
            go_simp
            (try go_wp2_with fail)
            refine hK.out _ _ ?hS6x7 (fun hHeld => ?hR6x7)
            case hS6x7 => ((try dsimp only); (first | exact ⟨below_drew1 (Below.refl _ _), rE⟩ | exact ⟨below_drew1 b0_, rE⟩ | exact ⟨j0, jE⟩ | exact ⟨below_alloc j0 _, fun j => (cell_alloc_old (Nat.lt_of_lt_of_le kE j0.size)).trans (jE j)⟩ | exact ⟨below_alloc (below_drew1 (Below.refl _ _)) _, fun j => (cell_alloc_old kE).trans (rE j)⟩ | assumption))
            clear hK K
            (try simp only [Act.put, List.setIfInBounds_toArray, List.set_cons_zero, List.set_cons_succ])
            refine wpAnyH_ready (rs := [5]) (by kernel_rfl) (by simp) ?_
            refine AllReadyH.cons (o := ⟨some 29, _, _, _, _, _⟩) rfl (fun K hK => ?hT6x8) ?hM6x8
            case hM6x8 => exact AllReadyH.nil
            go_simp
            (first | (go_at_call 28; obtain ⟨g0, gE⟩ := ‹Below w7.heap.size w7 _ ∧ _›; ((with_reducible refine (CloneM_calls A n c l _ (Kd.C_below HX.out g0) hl).mono ?_));  rintro e w8 ⟨v, rfl, hR6x5, hb_⟩; have j0 := below_step g0 hb_; have s8 := j0.size; have jE := fun j => (j0.cell (p := ⟨w.heap.size, j, none⟩) kE).trans (rE j); have h5b := hb_) | (go_at_call 27; obtain ⟨g0, gE⟩ := ‹Below w7.heap.size w7 _ ∧ _›; ((with_reducible refine (Insert_calls v l p m w8.heap.size _ _ (Kd.R_alloc hR6x5 _) (size_alloc ▸ Nat.le_succ_of_le h5b.size) Box.new (fun e => absurd (own_lt_R hR6x5 _ e).2 (Nat.lt_irrefl _)) hpl hll).mono ?_));  rintro e w9 ⟨v2, rfl, hR6x6, hb_⟩ ; have j0 :=  g0.trans hb_; have s9 := j0.size; have jE := fun j => (j0.cell (p := ⟨w.heap.size, j, none⟩) kE).trans (rE j)) | (go_at_call 27; obtain ⟨g0, gE⟩ := ‹Below w7.heap.size w7 _ ∧ _›; ((with_reducible refine (Insert_calls v l p m w7.heap.size _ _ hR6x5 h5b.size (Box.below (Box.drew Box.new) h5b) (own_ne_alloc hR6x5) hpl hll).mono ?_));  rintro e w9 ⟨v2, rfl, hR6x6, hb_⟩ ; have j0 :=  g0.trans (hb_.mono size_le_ad); have s9 := j0.size; have jE := fun j => (j0.cell (p := ⟨w.heap.size, j, none⟩) kE).trans (rE j)))
            (try go_wp2_with fail)
            refine hK.out _ _ ?hS6x8 (fun hHeld => ?hR6x8)
            case hS6x8 => ((try dsimp only); (first | exact ⟨below_drew1 (Below.refl _ _), rE⟩ | exact ⟨below_drew1 b0_, rE⟩ | exact ⟨j0, jE⟩ | exact ⟨below_alloc j0 _, fun j => (cell_alloc_old (Nat.lt_of_lt_of_le kE j0.size)).trans (jE j)⟩ | exact ⟨below_alloc (below_drew1 (Below.refl _ _)) _, fun j => (cell_alloc_old kE).trans (rE j)⟩ | assumption))
            clear hK K
            (try simp only [Act.put, List.setIfInBounds_toArray, List.set_cons_zero, List.set_cons_succ])
            refine wpAnyH_take (i := 6) (oi := ⟨some 6, _, _, _, _, _⟩) (v := ?_) rfl (by kernel_rfl) (by kernel_rfl) (by kernel_rfl) (fun _ _ _ h => h) (Or.inl ⟨by rfl, ?hY6x9⟩) (by assumption) ?hR6x9
            case hY6x9 => (intro w hSw; (try dsimp only at hSw); go_simp; try with_reducible rfl)
            (try simp only [Act.put, List.setIfInBounds_toArray, List.set_cons_zero, List.set_cons_succ])
            refine wpAnyH_take (i := 7) (oi := ⟨some 7, _, _, _, _, _⟩) (v := ?_) rfl (by kernel_rfl) (by kernel_rfl) (by kernel_rfl) (fun _ _ _ h => h) (Or.inl ⟨by rfl, ?hY6x10⟩) (by assumption) ?hR6x10
            case hY6x10 => (intro w hSw; (try dsimp only at hSw); go_simp; try with_reducible rfl)
            (try simp only [Act.put, List.setIfInBounds_toArray, List.set_cons_zero, List.set_cons_succ])
            refine wpAnyH_done (by kernel_rfl) ?_ _
            go_wp2
            go_ret2
            refine ⟨_, rfl, ?_, below_step HB.out j0⟩
            show kM.R _ _ _ _ v2 (insAt l (posM l m) m)
            rw [← HPP.out]
            refine Kd.R_lower hR6x6 ?_
            first | exact HB.out.size | exact Nat.le_trans HB.out.size size_le_ad
          case hM6x5 =>
            go_simp
            (try go_wp2_with fail)
            refine hK.out _ _ ?hS6x11 (fun hHeld => ?hR6x11)
            case hS6x11 => ((try dsimp only); (first | exact ⟨below_drew1 (Below.refl _ _), rE⟩ | exact ⟨below_drew1 b0_, rE⟩ | exact ⟨j0, jE⟩ | exact ⟨below_alloc j0 _, fun j => (cell_alloc_old (Nat.lt_of_lt_of_le kE j0.size)).trans (jE j)⟩ | exact ⟨below_alloc (below_drew1 (Below.refl _ _)) _, fun j => (cell_alloc_old kE).trans (rE j)⟩ | assumption))
            clear hK K
            (try simp only [Act.put, List.setIfInBounds_toArray, List.set_cons_zero, List.set_cons_succ])
            refine wpAnyH_ready (rs := [1]) (by kernel_rfl) (by simp) ?_
            refine AllReadyH.cons (o := ⟨some 25, _, _, _, _, _⟩) rfl (fun K hK => ?hT6x12) ?hM6x12
            case hM6x12 => exact AllReadyH.nil
            go_simp
            (first | (go_at_call 28; obtain ⟨g0, gE⟩ := ‹Below w7.heap.size w7 _ ∧ _›; ((with_reducible refine (CloneM_calls A n c l _ (Kd.C_below HX.out g0) hl).mono ?_));  rintro e w8 ⟨v, rfl, hR6x5, hb_⟩; have j0 := below_step g0 hb_; have s8 := j0.size; have jE := fun j => (j0.cell (p := ⟨w.heap.size, j, none⟩) kE).trans (rE j); have h5b := hb_) | (go_at_call 27; obtain ⟨g0, gE⟩ := ‹Below w7.heap.size w7 _ ∧ _›; ((with_reducible refine (Insert_calls v l p m w8.heap.size _ _ (Kd.R_alloc hR6x5 _) (size_alloc ▸ Nat.le_succ_of_le h5b.size) Box.new (fun e => absurd (own_lt_R hR6x5 _ e).2 (Nat.lt_irrefl _)) hpl hll).mono ?_));  rintro e w9 ⟨v2, rfl, hR6x6, hb_⟩ ; have j0 :=  g0.trans hb_; have s9 := j0.size; have jE := fun j => (j0.cell (p := ⟨w.heap.size, j, none⟩) kE).trans (rE j)) | (go_at_call 27; obtain ⟨g0, gE⟩ := ‹Below w7.heap.size w7 _ ∧ _›; ((with_reducible refine (Insert_calls v l p m w7.heap.size _ _ hR6x5 h5b.size (Box.below (Box.drew Box.new) h5b) (own_ne_alloc hR6x5) hpl hll).mono ?_));  rintro e w9 ⟨v2, rfl, hR6x6, hb_⟩ ; have j0 :=  g0.trans (hb_.mono size_le_ad); have s9 := j0.size; have jE := fun j => (j0.cell (p := ⟨w.heap.size, j, none⟩) kE).trans (rE j)))
            (try go_wp2_with fail)
            refine hK.out _ _ ?hS6x12 (fun hHeld => ?hR6x12)
            case hS6x12 => ((try dsimp only); (first | exact ⟨below_drew1 (Below.refl _ _), rE⟩ | exact ⟨below_drew1 b0_, rE⟩ | exact ⟨j0, jE⟩ | exact ⟨below_alloc j0 _, fun j => (cell_alloc_old (Nat.lt_of_lt_of_le kE j0.size)).trans (jE j)⟩ | exact ⟨below_alloc (below_drew1 (Below.refl _ _)) _, fun j => (cell_alloc_old kE).trans (rE j)⟩ | assumption))
            clear hK K
            (try simp only [Act.put, List.setIfInBounds_toArray, List.set_cons_zero, List.set_cons_succ])
            refine wpAnyH_ready (rs := [5]) (by kernel_rfl) (by simp) ?_
            refine AllReadyH.cons (o := ⟨some 29, _, _, _, _, _⟩) rfl (fun K hK => ?hT6x13) ?hM6x13
            case hM6x13 => exact AllReadyH.nil
            go_simp
            (first | (go_at_call 28; obtain ⟨g0, gE⟩ := ‹Below w7.heap.size w7 _ ∧ _›; ((with_reducible refine (CloneM_calls A n c l _ (Kd.C_below HX.out g0) hl).mono ?_));  rintro e w8 ⟨v, rfl, hR6x5, hb_⟩; have j0 := below_step g0 hb_; have s8 := j0.size; have jE := fun j => (j0.cell (p := ⟨w.heap.size, j, none⟩) kE).trans (rE j); have h5b := hb_) | (go_at_call 27; obtain ⟨g0, gE⟩ := ‹Below w7.heap.size w7 _ ∧ _›; ((with_reducible refine (Insert_calls v l p m w8.heap.size _ _ (Kd.R_alloc hR6x5 _) (size_alloc ▸ Nat.le_succ_of_le h5b.size) Box.new (fun e => absurd (own_lt_R hR6x5 _ e).2 (Nat.lt_irrefl _)) hpl hll).mono ?_));  rintro e w9 ⟨v2, rfl, hR6x6, hb_⟩ ; have j0 :=  g0.trans hb_; have s9 := j0.size; have jE := fun j => (j0.cell (p := ⟨w.heap.size, j, none⟩) kE).trans (rE j)) | (go_at_call 27; obtain ⟨g0, gE⟩ := ‹Below w7.heap.size w7 _ ∧ _›; ((with_reducible refine (Insert_calls v l p m w7.heap.size _ _ hR6x5 h5b.size (Box.below (Box.drew Box.new) h5b) (own_ne_alloc hR6x5) hpl hll).mono ?_));  rintro e w9 ⟨v2, rfl, hR6x6, hb_⟩ ; have j0 :=  g0.trans (hb_.mono size_le_ad); have s9 := j0.size; have jE := fun j => (j0.cell (p := ⟨w.heap.size, j, none⟩) kE).trans (rE j)))
            (try go_wp2_with fail)
            refine hK.out _ _ ?hS6x13 (fun hHeld => ?hR6x13)
            case hS6x13 => ((try dsimp only); (first | exact ⟨below_drew1 (Below.refl _ _), rE⟩ | exact ⟨below_drew1 b0_, rE⟩ | exact ⟨j0, jE⟩ | exact ⟨below_alloc j0 _, fun j => (cell_alloc_old (Nat.lt_of_lt_of_le kE j0.size)).trans (jE j)⟩ | exact ⟨below_alloc (below_drew1 (Below.refl _ _)) _, fun j => (cell_alloc_old kE).trans (rE j)⟩ | assumption))
            clear hK K
            (try simp only [Act.put, List.setIfInBounds_toArray, List.set_cons_zero, List.set_cons_succ])
            refine wpAnyH_take (i := 6) (oi := ⟨some 6, _, _, _, _, _⟩) (v := ?_) rfl (by kernel_rfl) (by kernel_rfl) (by kernel_rfl) (fun _ _ _ h => h) (Or.inl ⟨by rfl, ?hY6x14⟩) (by assumption) ?hR6x14
            case hY6x14 => (intro w hSw; (try dsimp only at hSw); go_simp; try with_reducible rfl)
            (try simp only [Act.put, List.setIfInBounds_toArray, List.set_cons_zero, List.set_cons_succ])
            refine wpAnyH_take (i := 7) (oi := ⟨some 7, _, _, _, _, _⟩) (v := ?_) rfl (by kernel_rfl) (by kernel_rfl) (by kernel_rfl) (fun _ _ _ h => h) (Or.inl ⟨by rfl, ?hY6x15⟩) (by assumption) ?hR6x15
            case hY6x15 => (intro w hSw; (try dsimp only at hSw); go_simp; try with_reducible rfl)
            (try simp only [Act.put, List.setIfInBounds_toArray, List.set_cons_zero, List.set_cons_succ])
            refine wpAnyH_done (by kernel_rfl) ?_ _
            go_wp2
            go_ret2
            refine ⟨_, rfl, ?_, below_step HB.out j0⟩
            show kM.R _ _ _ _ v2 (insAt l (posM l m) m)
            rw [← HPP.out]
            refine Kd.R_lower hR6x6 ?_
            first | exact HB.out.size | exact Nat.le_trans HB.out.size size_le_ad
    · rw [if_neg (by simp [h2])]
      have H := Aside0.mk h
      have H2 := Aside0.mk h2
      clear h h2
      go_enter Try.func12, Try.ntmps12
      go_wp2_with fail
      refine (SRight_v A n c l true _ ?hC H.out).mono ?_
      case hC => exact C_alloc HX.out
      rintro e w5 ⟨rfl, hb_⟩
      have YE : Box w5 (w.heap.size) _ _ := Box.below (by repeat (with_reducible first | exact XE.out | exact Box.new | exact Box.new1 | exact Box.new2 | exact Box.new3 | apply Box.alloc | apply Box.drew | apply Box.drewN | apply Box.set)) hb_
      (try clear XE rE kE fE); have XE := Aside0.mk YE; have rE := YE.cell; have fE := YE.frozen; have kE := YE.lt; clear YE
      have ZHX := Aside0.mk (Kd.C_below (by repeat (with_reducible first | exact HX.out | apply C_alloc | apply C_drew)) hb_); clear HX; have HX := ZHX; clear ZHX
      have n_ := Aside0.mk (below_step (by repeat (first | exact HB.out | apply below_alloc | apply pw_below_drewN | apply below_drew1 | refine below_set ?_ (by first | omega | (simp; omega)))) hb_); clear HB hb_; have HB := n_; clear n_
      go_wp2_with fail
      refine (smay_calls m false _ H2.out).mono ?_
      rintro e w6 ⟨rfl, hb_⟩
      have n_ := Aside0.mk (below_step (by repeat (first | exact HB.out | apply below_alloc | apply pw_below_drewN | apply below_drew1 | refine below_set ?_ (by first | omega | (simp; omega)))) hb_); clear HB hb_; have HB := n_; clear n_
      go_wp2
      go_ret2
      exact ⟨_, rfl, Kd.R_nil _ _ _ _ _, HB.out⟩
  · rw [if_neg (by simp [h])]
    have H := Aside0.mk h
    clear h
    go_enter Try.func12, Try.ntmps12
    go_wp2_with fail
    refine (SRight_v A n c l false _ ?hC H.out).mono ?_
    case hC => exact C_alloc HX.out
    rintro e w5 ⟨rfl, hb_⟩
    have n_ := Aside0.mk (below_step (by repeat (first | exact HB.out | apply below_alloc | apply pw_below_drewN | apply below_drew1 | refine below_set ?_ (by first | omega | (simp; omega)))) hb_); clear HB hb_; have HB := n_; clear n_
    go_wp2
    go_ret2
    exact ⟨_, rfl, Kd.R_nil _ _ _ _ _, HB.out⟩
end Go.Proofs.Ytppcojfgpjnagaa
