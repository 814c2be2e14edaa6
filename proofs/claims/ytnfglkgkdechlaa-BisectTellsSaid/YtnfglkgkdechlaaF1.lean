import Derived.Deep.RegionHeld3
import Derived.Deep.CutBlock
import Derived.Test.YtnfglkgkdechlaaF0
import Derived.Test.YtnfglkgkdechlaaQx0
import Derived.Test.YtnfglkgkdechlaaQx1
import Derived.Deep.MidRow
set_option linter.unusedVariables false
set_option linter.unusedSimpArgs false

/- Pairs in their order, and one more (chapters 5, 7). -/
namespace Go.Proofs.Ytnfglkgkdechlaa
open Go.RowKit Go.Proofs.YtnfglkgkdechlaaW.PrintWords Go.Proofs.YtnfglkgkdechlaaW.PrintLast Go.Proofs.YtnfglkgkdechlaaW.PrintMore

open Go.Proofs.Ytnfglkgkdechlaa.PQ

theorem kP_of_K {w : World} {base : Nat} {ok : Nat → Prop} (x : Pr) (cs : List Value) (h : kP.K w x cs) : kP.M w base ok x cs := by
  rw [k52_open h]
  exact k52_mkM _ _ _ _
theorem C_takeG {α : Type} {d : Kd α} {A : Option Addr} {l : List α} {w : World} {n p : Nat} (h : d.C w A n l) (hp : p ≤ n) : d.C w A p (l.take p) := by
  obtain rfl := Kd.C_len h
  have e := Kd.C_take h hp
  rw [List.length_take, Nat.min_eq_left hp] at e
  exact e
theorem C_dropP {A : Option Addr} {l : List Pr} {w : World} {n p c : Nat} (h : kP.C w A n l) (hp : p ≤ n) (hc : n ≤ c) : kP.C w (if c = p then A else A.map (·.add (p * 2))) (n - p) (l.drop p) := by
  obtain rfl := Kd.C_len h
  have e := Kd.C_drop h hp hc
  rw [List.length_drop] at e
  exact e
theorem C_noP {w : World} {A : Option Addr} {l : List Pr} {p : Nat} (h : p = l.length) : kP.C w A 0 (l.drop p) := by
  rw [List.drop_of_length_le (by omega)]
  exact ⟨by simp, by simp, fun h => absurd h (by simp)⟩
theorem C_oneP {W : World} {vb : Nat} {m : Pr} (h : Box W vb #[.int .u64 m.f0, .int .u64 m.f1] 52) : kP.C W (some ⟨vb, 0, none⟩) 1 [m] := by
  refine ⟨rfl, by omega, fun _ => ⟨_, rfl, fun j p hj => ?_⟩⟩
  have hj0 : j = 0 := by
    rcases Nat.eq_zero_or_pos j with h | h
    · exact h
    · rw [List.getElem?_eq_none (by simp; omega)] at hj
      cases hj
  subst hj0
  obtain rfl : m = p := by simpa using hj
  refine ⟨[.int .u64 m.f0, .int .u64 m.f1], rfl, k52_mk _ _, fun i u hu => ?_⟩
  have h2 := h.cell i
  rw [show ((⟨vb, 0, none⟩ : Addr).add (0 * kP.sz + i)) = ⟨vb, i, none⟩ by rw [Nat.zero_mul, Nat.zero_add]; unfold Addr.add; split <;> simp_all, h2]
  simpa using hu
theorem rAheadE (a b : Pr) (r : Bool) (w : World) (h : ltP a b = r) : Calls Try.prog 39 #[.agg #[.int .u64 a.f0, .int .u64 a.f1], .agg #[.int .u64 b.f0, .int .u64 b.f1]] w fun e w' => e = .returned (.bool r) ∧ Below w.heap.size w w' := by
  refine mootbellref05_Ahead.calls a.f0 a.f1 b.f0 b.f1 r w ?_
  subst h
  unfold mootbellref05_Ahead.f ltP
  split
  · rename_i h
    simp [h]
  · rename_i h
    split
    · rename_i h2
      congr 1
      simp [h2]
    · rename_i h2
      congr 1
      simp [h, h2]
/-- Where a pair is put: behind all that are ahead of it (with), or behind all that it is not ahead of (Token). -/
def posP (l : List Pr) (p : Pr) : Nat → Nat
  | 0 => 0
  | k + 1 => if ltP (rdP l (k : Int)) p = true then k + 1 else posP l p k
theorem posP_le (l : List Pr) (p : Pr) : ∀ k, posP l p k ≤ k
  | 0 => Nat.le_refl _
  | k + 1 => by
    unfold posP
    split
    · exact Nat.le_refl _
    · exact Nat.le_succ_of_le (posP_le l p k)
def withP (l : List Pr) (p : Pr) : List Pr := l.take (posP l p l.length) ++ p :: l.drop (posP l p l.length)
theorem withP_len (l : List Pr) (p : Pr) : (withP l p).length = l.length + 1 := by
  have := posP_le l p l.length
  unfold withP
  rw [List.length_append, List.length_cons, List.length_take, List.length_drop]
  omega
set_option maxRecDepth 100000 in
set_option maxHeartbeats 8000000 in
theorem rWith (A : Option Addr) (n c : Nat) (l : List Pr) (m : Pr) (w : World) (hA : kP.C w A n l) (hc : n ≤ c) (hl : n ≤ 1000000) : Calls Try.prog 32 #[.slice A n c, .agg #[.int .u64 m.f0, .int .u64 m.f1]] w
    fun r w' => ∃ v, r = .returned v ∧ kP.R 52 w' w.heap.size (fun _ => True) v (withP l m) ∧ Below w.heap.size w w' := by
  have HN := Aside0.mk (show n = l.length from (Kd.C_len hA).symm)
  have HX := Aside0.mk hA
  clear hA
  go_enter Try.func32, Try.ntmps32
  go_upto_block 0 with (fail)
  obtain ⟨W, hW⟩ : ∃ W, w.alloc (.cells #[.int .u64 m.f0, .int .u64 m.f1] 52) = W := ⟨_, rfl⟩
  rw [hW]
  have XE := Aside0.mk (hW ▸ Box.new : Box W w.heap.size #[.int .u64 m.f0, .int .u64 m.f1] 52)
  have HB := Aside0.mk (hW ▸ below_alloc (Below.refl _ _) _ : Below w.heap.size w W)
  clear hW
  obtain ⟨eb, heb⟩ : ∃ b, w.heap.size = b := ⟨_, rfl⟩
  rw [heb] at XE ⊢
  have HEB := Aside0.mk heb
  clear heb
  go_cut [5] (fun v5 wc => ∃ p : Nat, p ≤ n ∧ v5 = .int .i64 p ∧ p = posP l m n ∧ Below W.heap.size W wc)
  case first =>
    go_wp2
    go_loopw [5] (fun iv wx => ∃ p : Nat, p ≤ n ∧ iv = .int .i64 p ∧ posP l m p = posP l m n ∧ Below W.heap.size W wx) (fun iv _ => (intOf iv).toNat)
    case atStart => exact ⟨n, Nat.le_refl _, rfl, rfl, Below.refl _ _⟩
    case round =>
      obtain ⟨p, hp, rfl, hpp, hbx⟩ := hrel
      have HBX := Aside0.mk hbx
      have HPP := Aside0.mk hpp
      clear hbx hpp
      have rE := (Box.below XE.out HBX.out).cell
      have kE := (Box.below XE.out HBX.out).lt
      have HXW := Aside0.mk (Kd.C_below HX.out (below_step HB.out HBX.out))
      cases p with
      | zero =>
        have hd : decide ((0 : Int) < ((0 : Nat) : Int)) = false := by decide
        have HQ := Aside0.mk (show 0 = posP l m n from HPP.out)
        go_upto_region 2 with (fail)
        refine wp_region_held_drew (S := (fun w' => Below wr.heap.size wr w' ∧ (∀ j, w'.cell? ⟨eb, j, none⟩ = (#[.int .u64 m.f0, .int .u64 m.f1] : Array Value)[j]?))) (by kernel_rfl) ?hS5x0 (fun hHeld => ?hR5x0)
        case hS5x0 => ((try dsimp only); (first | exact ⟨below_drew1 (Below.refl _ _), rE⟩ | exact ⟨below_drew1 b0_, rE⟩ | exact ⟨j0, jE⟩ | exact ⟨below_alloc j0 _, fun j => (cell_alloc_old (Nat.lt_of_lt_of_le kE j0.size)).trans (jE j)⟩ | exact ⟨below_alloc (below_drew1 (Below.refl _ _)) _, fun j => (cell_alloc_old kE).trans (rE j)⟩ | assumption))
        refine wpAnyH_take (i := 0) (oi := ⟨some 8, _, _, _, _, _⟩) (v := ?_) rfl (by kernel_rfl) (by kernel_rfl) (by kernel_rfl) (fun _ _ _ h => h) (Or.inl ⟨by rfl, ?hY5x2⟩) (by assumption) ?hR5x2
        case hY5x2 => (intro w hSw; (try dsimp only at hSw); go_simp; try with_reducible rfl)
        (try simp only [Act.put, qa_, qb_, qc_])
        refine wpAnyH_take (i := 1) (oi := ⟨some 9, _, _, _, _, _⟩) (v := ?_) rfl (by kernel_rfl) (by kernel_rfl) (by kernel_rfl) (fun _ _ _ h => h) (Or.inl ⟨by rfl, ?hY5x3⟩) (by assumption) ?hR5x3
        case hY5x3 => (intro w hSw; (try dsimp only at hSw); go_simp; try with_reducible rfl)
        (try simp only [Act.put, qa_, qb_, qc_])
        refine wpAnyH_take (i := 2) (oi := ⟨some 10, _, _, _, _, _⟩) (v := ?_) rfl (by kernel_rfl) (by kernel_rfl) (by kernel_rfl) (fun _ _ _ h => h) (Or.inl ⟨by rfl, ?hY5x4⟩) (by assumption) ?hR5x4
        case hY5x4 => (intro w hSw; (try dsimp only at hSw); go_simp; try with_reducible rfl)
        (try simp only [Act.put, qa_, qb_, qc_])
        refine wpAnyH_take (i := 3) (oi := ⟨some 11, _, _, _, _, _⟩) (v := undef) rfl (by kernel_rfl) (by kernel_rfl) (by kernel_rfl) (fun _ _ _ h => h) (Or.inr ⟨by rfl, rfl⟩) (by assumption) ?_
        (try simp only [Act.put, qa_, qb_, qc_])
        refine wpAnyH_take (i := 4) (oi := ⟨some 12, _, _, _, _, _⟩) (v := undef) rfl (by kernel_rfl) (by kernel_rfl) (by kernel_rfl) (fun _ _ _ h => h) (Or.inr ⟨by rfl, rfl⟩) (by assumption) ?_
        (try simp only [Act.put, qa_, qb_, qc_])
        refine wpAnyH_take (i := 5) (oi := ⟨some 13, _, _, _, _, _⟩) (v := undef) rfl (by kernel_rfl) (by kernel_rfl) (by kernel_rfl) (fun _ _ _ h => h) (Or.inr ⟨by rfl, rfl⟩) (by assumption) ?_
        (try simp only [Act.put, qa_, qb_, qc_])
        refine wpAnyH_take (i := 6) (oi := ⟨some 14, _, _, _, _, _⟩) (v := undef) rfl (by kernel_rfl) (by kernel_rfl) (by kernel_rfl) (fun _ _ _ h => h) (Or.inr ⟨by rfl, rfl⟩) (by assumption) ?_
        (try simp only [Act.put, qa_, qb_, qc_])
        refine wpAnyH_take (i := 7) (oi := ⟨some 15, _, _, _, _, _⟩) (v := undef) rfl (by kernel_rfl) (by kernel_rfl) (by kernel_rfl) (fun _ _ _ h => h) (Or.inr ⟨by rfl, rfl⟩) (by assumption) ?_
        (try simp only [Act.put, qa_, qb_, qc_])
        refine wpAnyH_take (i := 8) (oi := ⟨some 16, _, _, _, _, _⟩) (v := undef) rfl (by kernel_rfl) (by kernel_rfl) (by kernel_rfl) (fun _ _ _ h => h) (Or.inr ⟨by rfl, rfl⟩) (by assumption) ?_
        (try simp only [Act.put, qa_, qb_, qc_])
        refine wpAnyH_take (i := 9) (oi := ⟨some 17, _, _, _, _, _⟩) (v := undef) rfl (by kernel_rfl) (by kernel_rfl) (by kernel_rfl) (fun _ _ _ h => h) (Or.inr ⟨by rfl, rfl⟩) (by assumption) ?_
        (try simp only [Act.put, qa_, qb_, qc_])
        refine wpAnyH_take (i := 10) (oi := ⟨some 18, _, _, _, _, _⟩) (v := undef) rfl (by kernel_rfl) (by kernel_rfl) (by kernel_rfl) (fun _ _ _ h => h) (Or.inr ⟨by rfl, rfl⟩) (by assumption) ?_
        (try simp only [Act.put, qa_, qb_, qc_])
        refine wpAnyH_take (i := 11) (oi := ⟨some 19, _, _, _, _, _⟩) (v := ?_) rfl (by kernel_rfl) (by kernel_rfl) (by kernel_rfl) (fun _ _ _ h => h) (Or.inl ⟨by rfl, ?hY5x13⟩) (by assumption) ?hR5x13
        case hY5x13 => (intro w hSw; (try dsimp only at hSw); go_simp; try with_reducible rfl)
        (try simp only [Act.put, qa_, qb_, qc_])
        refine wpAnyH_done (by kernel_rfl) ?_ _
        go_wp2
        go_meet
        case rel => exact ⟨0, by omega, rfl, HQ.out, below_drew1 HBX.out⟩
      | succ k =>
        obtain ⟨z, hz⟩ : ∃ z : Int, ((k + 1 : Nat) : Int) = z := ⟨_, rfl⟩
        rw [hz]
        have hd : decide ((0 : Int) < z) = true := decide_eq_true (by omega)
        obtain ⟨z0, hz0⟩ : ∃ z0 : Int, (k : Int) = z0 := ⟨_, rfl⟩
        have hw : IntKind.i64.wrap (z - 1) = z0 := by rw [IntKind.wrap_i64]; omega
        have h0 : 0 ≤ z0 := by omega
        have h1 : z0 < (n : Int) := by omega
        have HZ := Aside0.mk (And.intro hz hz0)
        obtain ⟨ad, rfl, rC, rD⟩ := at_P HXW.out z0 h0 h1
        obtain ⟨x, hx⟩ : ∃ x, rdP l z0 = x := ⟨_, rfl⟩
        rw [hx] at rC rD
        obtain ⟨b, hb⟩ : ∃ b, ltP x m = b := ⟨_, rfl⟩
        have HXX := Aside0.mk hx
        have HBB := Aside0.mk hb
        have kC := cell_lt rC
        have kD := cell_lt rD
        clear hx hb hz hz0
        go_upto_region 2 with (fail)
        refine wp_region_held_drew (S := (fun w' => Below wr.heap.size wr w' ∧ (∀ j, w'.cell? ⟨eb, j, none⟩ = (#[.int .u64 m.f0, .int .u64 m.f1] : Array Value)[j]?) ∧ (w'.cell? ((ad.add (z0.toNat * 2))) = some (.int .u64 x.f0)) ∧ (w'.cell? ((⟨(ad.add (z0.toNat * 2)).block, (ad.add (z0.toNat * 2)).off + 1, none⟩ : Addr)) = some (.int .u64 x.f1)))) (by kernel_rfl) ?hS6x0 (fun hHeld => ?hR6x0)
        case hS6x0 => ((try dsimp only); (first | exact ⟨below_drew1 (Below.refl _ _), rE, rC, rD⟩ | exact ⟨below_drew1 b0_, rE, rC, rD⟩ | exact ⟨j0, jE, jC, jD⟩ | exact ⟨below_alloc j0 _, fun j => (cell_alloc_old (Nat.lt_of_lt_of_le kE j0.size)).trans (jE j), (cell_alloc_oldp (Nat.lt_of_lt_of_le kC j0.size)).trans jC, (cell_alloc_oldp (Nat.lt_of_lt_of_le kD j0.size)).trans jD⟩ | exact ⟨below_alloc (below_drew1 (Below.refl _ _)) _, fun j => (cell_alloc_old kE).trans (rE j), (cell_alloc_oldp kC).trans rC, (cell_alloc_oldp kD).trans rD⟩ | assumption))
        refine wpAnyH_take (i := 0) (oi := ⟨some 8, _, _, _, _, _⟩) (v := ?_) rfl (by kernel_rfl) (by kernel_rfl) (by kernel_rfl) (fun _ _ _ h => h) (Or.inl ⟨by rfl, ?hY6x2⟩) (by assumption) ?hR6x2
        case hY6x2 => (intro w hSw; (try dsimp only at hSw); go_simp; try with_reducible rfl)
        (try simp only [Act.put, qa_, qb_, qc_])
        refine wpAnyH_take (i := 1) (oi := ⟨some 9, _, _, _, _, _⟩) (v := ?_) rfl (by kernel_rfl) (by kernel_rfl) (by kernel_rfl) (fun _ _ _ h => h) (Or.inl ⟨by rfl, ?hY6x3⟩) (by assumption) ?hR6x3
        case hY6x3 => (intro w hSw; (try dsimp only at hSw); go_simp; try with_reducible rfl)
        (try simp only [Act.put, qa_, qb_, qc_])
        refine wpAnyH_take (i := 2) (oi := ⟨some 10, _, _, _, _, _⟩) (v := ?_) rfl (by kernel_rfl) (by kernel_rfl) (by kernel_rfl) (fun _ _ _ h => h) (Or.inl ⟨by rfl, ?hY6x4⟩) (by assumption) ?hR6x4
        case hY6x4 => (intro w hSw; (try dsimp only at hSw); go_simp; try with_reducible rfl)
        (try simp only [Act.put, qa_, qb_, qc_])
        refine wpAnyH_take (i := 3) (oi := ⟨some 11, _, _, _, _, _⟩) (v := ?_) rfl (by kernel_rfl) (by kernel_rfl) (by kernel_rfl) (fun _ _ _ h => h) (Or.inl ⟨by rfl, ?hY6x5⟩) (by assumption) ?hR6x5
        case hY6x5 => (intro w hSw; (try dsimp only at hSw); go_simp; try with_reducible rfl)
        (try simp only [Act.put, qa_, qb_, qc_])
        refine wpAnyH_take (i := 4) (oi := ⟨some 12, _, _, _, _, _⟩) (v := ?_) rfl (by kernel_rfl) (by kernel_rfl) (by kernel_rfl) (fun _ _ _ h => h) (Or.inl ⟨by rfl, ?hY6x6⟩) (by assumption) ?hR6x6
        case hY6x6 => (intro w hSw; (try dsimp only at hSw); go_simp; try with_reducible rfl)
        (try simp only [Act.put, qa_, qb_, qc_])
        refine wpAnyH_take (i := 5) (oi := ⟨some 13, _, _, _, _, _⟩) (v := ?_) rfl (by kernel_rfl) (by kernel_rfl) (by kernel_rfl) (fun _ _ _ h => h) (Or.inl ⟨by rfl, ?hY6x7⟩) (by assumption) ?hR6x7
        case hY6x7 => (intro w hSw; (try dsimp only at hSw); go_simp; try with_reducible rfl)
        (try simp only [Act.put, qa_, qb_, qc_])
        refine wpAnyH_take (i := 6) (oi := ⟨some 14, _, _, _, _, _⟩) (v := ?_) rfl (by kernel_rfl) (by kernel_rfl) (by kernel_rfl) (fun _ _ _ h => h) (Or.inl ⟨by rfl, ?hY6x8⟩) (by assumption) ?hR6x8
        case hY6x8 => (intro w hSw; (try dsimp only at hSw); go_simp; try with_reducible rfl)
        (try simp only [Act.put, qa_, qb_, qc_])
        refine wpAnyH_take (i := 7) (oi := ⟨some 15, _, _, _, _, _⟩) (v := ?_) rfl (by kernel_rfl) (by kernel_rfl) (by kernel_rfl) (fun _ _ _ h => h) (Or.inl ⟨by rfl, ?hY6x9⟩) (by assumption) ?hR6x9
        case hY6x9 => (intro w hSw; (try dsimp only at hSw); go_simp; try with_reducible rfl)
        (try simp only [Act.put, qa_, qb_, qc_])
        refine wpAnyH_take (i := 8) (oi := ⟨some 16, _, _, _, _, _⟩) (v := ?_) rfl (by kernel_rfl) (by kernel_rfl) (by kernel_rfl) (fun _ _ _ h => h) (Or.inl ⟨by rfl, ?hY6x10⟩) (by assumption) ?hR6x10
        case hY6x10 => (intro w hSw; (try dsimp only at hSw); go_simp; try with_reducible rfl)
        (try simp only [Act.put, qa_, qb_, qc_])
        refine wpAnyH_ready (rs := [9]) (by kernel_rfl) (by simp) ?_
        refine AllReadyH.cons (o := ⟨some 17, _, _, _, _, _⟩) rfl (fun K hK => ?hT6x11) ?hM6x11
        case hM6x11 => exact AllReadyH.nil
        go_simp
        (first | (go_at_call 39; obtain ⟨g0, gE, gC, gD⟩ := ‹Below wr.heap.size wr _ ∧ _›; ((with_reducible refine (rAheadE x m b _ HBB.out).mono ?_));  rintro e w5 ⟨rfl, hb_⟩; have j0 := below_step g0 hb_; have s5 := j0.size; have jE := fun j => (j0.cell (p := ⟨eb, j, none⟩) kE).trans (rE j); have jC := (j0.cell (p := (ad.add (z0.toNat * 2))) kC).trans rC; have jD := (j0.cell (p := (⟨(ad.add (z0.toNat * 2)).block, (ad.add (z0.toNat * 2)).off + 1, none⟩ : Addr)) kD).trans rD))
        (try go_wp2_with fail)
        refine hK.out _ _ ?hS6x11 (fun hHeld => ?hR6x11)
        case hS6x11 => ((try dsimp only); (first | exact ⟨below_drew1 (Below.refl _ _), rE, rC, rD⟩ | exact ⟨below_drew1 b0_, rE, rC, rD⟩ | exact ⟨j0, jE, jC, jD⟩ | exact ⟨below_alloc j0 _, fun j => (cell_alloc_old (Nat.lt_of_lt_of_le kE j0.size)).trans (jE j), (cell_alloc_oldp (Nat.lt_of_lt_of_le kC j0.size)).trans jC, (cell_alloc_oldp (Nat.lt_of_lt_of_le kD j0.size)).trans jD⟩ | exact ⟨below_alloc (below_drew1 (Below.refl _ _)) _, fun j => (cell_alloc_old kE).trans (rE j), (cell_alloc_oldp kC).trans rC, (cell_alloc_oldp kD).trans rD⟩ | assumption))
        clear hK K
        (try simp only [Act.put, qa_, qb_, qc_])
        refine wpAnyH_take (i := 10) (oi := ⟨some 18, _, _, _, _, _⟩) (v := ?_) rfl (by kernel_rfl) (by kernel_rfl) (by kernel_rfl) (fun _ _ _ h => h) (Or.inl ⟨by rfl, ?hY6x12⟩) (by assumption) ?hR6x12
        case hY6x12 => (intro w hSw; (try dsimp only at hSw); go_simp; try with_reducible rfl)
        (try simp only [Act.put, qa_, qb_, qc_])
        refine wpAnyH_take (i := 11) (oi := ⟨some 19, _, _, _, _, _⟩) (v := ?_) rfl (by kernel_rfl) (by kernel_rfl) (by kernel_rfl) (fun _ _ _ h => h) (Or.inl ⟨by rfl, ?hY6x13⟩) (by assumption) ?hR6x13
        case hY6x13 => (intro w hSw; (try dsimp only at hSw); go_simp; try with_reducible rfl)
        (try simp only [Act.put, qa_, qb_, qc_])
        refine wpAnyH_done (by kernel_rfl) ?_ _
        cases b with
        | true =>
          go_wp2
          go_meet
          case rel =>
            refine ⟨k + 1, hp, by rw [HZ.out.1], ?_, below_step HBX.out j0⟩
            rw [← HPP.out]
            show k + 1 = posP l m (k + 1)
            unfold posP
            rw [HZ.out.2, HXX.out, HBB.out, if_pos rfl]
        | false =>
          go_wp2
          go_roundw
          case rel =>
            refine ⟨k, by omega, by rw [HZ.out.2], ?_, below_step HBX.out j0⟩
            rw [← HPP.out]
            show posP l m k = posP l m (k + 1)
            conv => rhs; unfold posP
            rw [HZ.out.2, HXX.out, HBB.out, if_neg (by decide)]
          case measure =>
            have := HZ.out
            simp [intOf]
            omega
  case rest =>
    obtain ⟨p, hp, rfl, hpe, hbx⟩ := hcut
    have HBX := Aside0.mk hbx
    have HPE := Aside0.mk hpe
    have hpc : p ≤ c := by omega
    have rE := (Box.below XE.out HBX.out).cell
    have kE := (Box.below XE.out HBX.out).lt
    have HXV := Aside0.mk (Kd.C_below HX.out (below_step HB.out HBX.out))
    clear hpe hbx
    rename World => V
    go_upto_region 4 with (fail)
    have key : p < n ∨ (p = n ∧ p = c) ∨ (p = n ∧ p ≠ c) := by omega
    rcases key with hlt | ⟨rfl, rfl⟩ | ⟨rfl, hne⟩
    · refine wp_region_held_drew (S := (fun w' => Below V.heap.size V w' ∧ (∀ j, w'.cell? ⟨eb, j, none⟩ = (#[.int .u64 m.f0, .int .u64 m.f1] : Array Value)[j]?))) (by kernel_rfl) ?hS7x0 (fun hHeld => ?hR7x0)
      case hS7x0 => ((try dsimp only); (first | exact ⟨below_drew1 (Below.refl _ _), rE⟩ | exact ⟨below_drew1 b0_, rE⟩ | exact ⟨j0, jE⟩ | exact ⟨below_alloc j0 _, fun j => (cell_alloc_old (Nat.lt_of_lt_of_le kE j0.size)).trans (jE j)⟩ | exact ⟨below_alloc (below_drew1 (Below.refl _ _)) _, fun j => (cell_alloc_old kE).trans (rE j)⟩ | assumption))
      refine wpAnyH_take (i := 0) (oi := ⟨some 22, _, _, _, _, _⟩) (v := ?_) rfl (by kernel_rfl) (by kernel_rfl) (by kernel_rfl) (fun _ _ _ h => h) (Or.inl ⟨by rfl, ?hY7x2⟩) (by assumption) ?hR7x2
      case hY7x2 => (intro w hSw; (try dsimp only at hSw); go_simp; try with_reducible rfl)
      (try simp only [Act.put, qa_, qb_, qc_])
      refine wpAnyH_take (i := 1) (oi := ⟨some 23, _, _, _, _, _⟩) (v := ?_) rfl (by kernel_rfl) (by kernel_rfl) (by kernel_rfl) (fun _ _ _ h => h) (Or.inl ⟨by rfl, ?hY7x3⟩) (by assumption) ?hR7x3
      case hY7x3 => (intro w hSw; (try dsimp only at hSw); go_simp; try with_reducible rfl)
      (try simp only [Act.put, qa_, qb_, qc_])
      refine wpAnyH_take (i := 2) (oi := ⟨some 24, _, _, _, _, _⟩) (v := ?_) rfl (by kernel_rfl) (by kernel_rfl) (by kernel_rfl) (fun _ _ _ h => h) (Or.inl ⟨by rfl, ?hY7x4⟩) (by assumption) ?hR7x4
      case hY7x4 => (intro w hSw; (try dsimp only at hSw); go_simp; try with_reducible rfl)
      (try simp only [Act.put, qa_, qb_, qc_])
      refine wpAnyH_take (i := 4) (oi := ⟨some 26, _, _, _, _, _⟩) (v := ?_) rfl (by kernel_rfl) (by kernel_rfl) (by kernel_rfl) (fun _ _ _ h => h) (Or.inl ⟨by rfl, ?hY7x5⟩) (by assumption) ?hR7x5
      case hY7x5 => (intro w hSw; (try dsimp only at hSw); go_simp; try with_reducible rfl)
      (try simp only [Act.put, qa_, qb_, qc_])
      refine wpAnyH_take (i := 7) (oi := ⟨some 29, _, _, _, _, _⟩) (v := ?_) rfl (by kernel_rfl) (by kernel_rfl) (by kernel_rfl) (fun _ _ _ h => h) (Or.inl ⟨by rfl, ?hY7x6⟩) (by assumption) ?hR7x6
      case hY7x6 => (intro w hSw; (try dsimp only at hSw); go_simp; try with_reducible rfl)
      (try simp only [Act.put, qa_, qb_, qc_])
      refine wpAnyH_take (i := 8) (oi := ⟨some 30, _, _, _, _, _⟩) (v := ?_) rfl (by kernel_rfl) (by kernel_rfl) (by kernel_rfl) (fun _ _ _ h => h) (Or.inl ⟨by rfl, ?hY7x7⟩) (by assumption) ?hR7x7
      case hY7x7 => (intro w hSw; (try dsimp only at hSw); go_simp; try with_reducible rfl)
      (try simp only [Act.put, qa_, qb_, qc_])
      refine wpAnyH_take (i := 9) (oi := ⟨some 31, _, _, _, _, _⟩) (v := ?_) rfl (by kernel_rfl) (by kernel_rfl) (by kernel_rfl) (fun _ _ _ h => h) (Or.inl ⟨by rfl, ?hY7x8⟩) (by assumption) ?hR7x8
      case hY7x8 => (intro w hSw; (try dsimp only at hSw); go_simp; try with_reducible rfl)
      (try simp only [Act.put, qa_, qb_, qc_])
      refine wpAnyH_ready (rs := [3, 5]) (by kernel_rfl) (by simp) ?_
      refine AllReadyH.cons (o := ⟨some 25, _, _, _, _, _⟩) rfl (fun K hK => ?hT7x9) (AllReadyH.cons (o := ⟨some 27, _, _, _, _, _⟩) rfl (fun K hK => ?hM7x9) AllReadyH.nil)
      case hT7x9 =>
        (obtain ⟨g0, gE⟩ := ‹Below V.heap.size V _ ∧ _›; refine Kd.R_append_rows_step (kP) (w0 := V) V.heap.size (by rfl) (.const (.slice none 0 0)) (.tmp 24) 22 52 (.agg #[.int .u64 0, .int .u64 0]) 16 rfl Try.underlying22 info52 rfl (by decide) (by omega) (.slice none 0 0) ([]) ((l).take p) (_) (p) (_) (fun _ => True) (fun _ => False) rfl rfl (Kd.R_nil _ _ _ _ _) (C_takeG (Kd.C_below HXV.out g0) (by omega)) (fun x cs h => kP_of_K x cs h) (fun _ hk => hk.elim) (fun _ _ => trivial) g0 g0.size (by simp; omega) ?_; (intro v3 w3 ho_ hb_ hg_ hat_; have HO3 := Aside0.mk ho_; have HG3 := Aside0.mk ((Below.refl _ _).grown (row := none) hg_ (Nat.le_refl _) (fun k hk => by cases hk)); clear ho_ hg_ hat_; have j0 := hb_; have jE := fun j => (j0.cell (p := ⟨eb, j, none⟩) kE).trans (rE j)))
        refine hK.out _ _ ?hS7x10 (fun hHeld => ?hR7x10)
        case hS7x10 => ((try dsimp only); (first | exact ⟨below_drew1 (Below.refl _ _), rE⟩ | exact ⟨below_drew1 b0_, rE⟩ | exact ⟨j0, jE⟩ | exact ⟨below_alloc j0 _, fun j => (cell_alloc_old (Nat.lt_of_lt_of_le kE j0.size)).trans (jE j)⟩ | exact ⟨below_alloc (below_drew1 (Below.refl _ _)) _, fun j => (cell_alloc_old kE).trans (rE j)⟩ | assumption))
        clear hK K
        (try simp only [Act.put, qa_, qb_, qc_])
        refine wpAnyH_ready (rs := [5]) (by kernel_rfl) (by simp) ?_
        refine AllReadyH.cons (o := ⟨some 27, _, _, _, _, _⟩) rfl (fun K hK => ?hT7x11) ?hM7x11
        case hM7x11 => exact AllReadyH.nil
        go_simp
        (try go_wp2_with fail)
        refine hK.out _ _ ?hS7x11 (fun hHeld => ?hR7x11)
        case hS7x11 => ((try dsimp only); (first | exact ⟨below_drew1 (Below.refl _ _), rE⟩ | exact ⟨below_drew1 b0_, rE⟩ | exact ⟨j0, jE⟩ | exact ⟨below_alloc j0 _, fun j => (cell_alloc_old (Nat.lt_of_lt_of_le kE j0.size)).trans (jE j)⟩ | exact ⟨below_alloc (below_drew1 (Below.refl _ _)) _, fun j => (cell_alloc_old kE).trans (rE j)⟩ | assumption))
        clear hK K
        (try simp only [Act.put, qa_, qb_, qc_])
        refine wpAnyH_ready (rs := [6]) (by kernel_rfl) (by simp) ?_
        refine AllReadyH.cons (o := ⟨some 28, _, _, _, _, _⟩) rfl (fun K hK => ?hT7x12) ?hM7x12
        case hM7x12 => exact AllReadyH.nil
        (obtain ⟨g0, gE⟩ := ‹Below V.heap.size V _ ∧ _›; refine Kd.R_append_rows_step (kP) (w0 := V) V.heap.size (by rfl) (.tmp 25) (.tmp 27) 22 52 (.agg #[.int .u64 0, .int .u64 0]) 16 rfl Try.underlying22 info52 rfl (by decide) (by omega) (v3) ((l).take p) ([m]) (_) (1) (1) (fun _ => True) (fun _ => False) rfl rfl ((by (with_reducible repeat (first | apply Kd.R_alloc | apply Kd.R_drewN | apply Kd.R_drew)); exact HO3.out)) (by first | exact C_oneP Box.new | exact C_oneP (Box.drew Box.new) | exact C_oneP (Box.below (Box.drew Box.new) HG3.out) | exact C_oneP (Box.below Box.new HG3.out)) (fun x cs h => kP_of_K x cs h) (fun _ hk => hk.elim) (fun _ _ => trivial) g0 g0.size (by simp; omega) ?_; (intro v6 w6 ho_ hb_ hg_ hat_; have HO6 := Aside0.mk ho_; clear ho_ hg_ hat_; have j0 := hb_; have jE := fun j => (j0.cell (p := ⟨eb, j, none⟩) kE).trans (rE j)))
        refine hK.out _ _ ?hS7x12 (fun hHeld => ?hR7x12)
        case hS7x12 => ((try dsimp only); (first | exact ⟨below_drew1 (Below.refl _ _), rE⟩ | exact ⟨below_drew1 b0_, rE⟩ | exact ⟨j0, jE⟩ | exact ⟨below_alloc j0 _, fun j => (cell_alloc_old (Nat.lt_of_lt_of_le kE j0.size)).trans (jE j)⟩ | exact ⟨below_alloc (below_drew1 (Below.refl _ _)) _, fun j => (cell_alloc_old kE).trans (rE j)⟩ | assumption))
        clear hK K
        (try simp only [Act.put, qa_, qb_, qc_])
        refine wpAnyH_ready (rs := [10]) (by kernel_rfl) (by simp) ?_
        refine AllReadyH.cons (o := ⟨some 32, _, _, _, _, _⟩) rfl (fun K hK => ?hT7x13) ?hM7x13
        case hM7x13 => exact AllReadyH.nil
        (obtain ⟨g0, gE⟩ := ‹Below V.heap.size V _ ∧ _›; refine Kd.R_append_rows_step (kP) (w0 := V) V.heap.size (by rfl) (.tmp 28) (.tmp 31) 22 52 (.agg #[.int .u64 0, .int .u64 0]) 16 rfl Try.underlying22 info52 rfl (by decide) (by omega) (v6) ((l).take p ++ [m]) ((l).drop p) (_) (_) (_) (fun _ => True) (fun _ => False) rfl rfl ((by (with_reducible repeat (first | apply Kd.R_alloc | apply Kd.R_drewN | apply Kd.R_drew)); exact HO6.out)) (by have e := C_dropP (Kd.C_below HXV.out g0) hp hc; first | exact e | (rw [if_neg (by omega)] at e; exact e)) (fun x cs h => kP_of_K x cs h) (fun _ hk => hk.elim) (fun _ _ => trivial) g0 g0.size (by simp; omega) ?_; (intro v10 w10 ho_ hb_ hg_ hat_; have HO10 := Aside0.mk ho_; clear ho_ hg_ hat_; have j0 := hb_; have jE := fun j => (j0.cell (p := ⟨eb, j, none⟩) kE).trans (rE j)))
        refine hK.out _ _ ?hS7x13 (fun hHeld => ?hR7x13)
        case hS7x13 => ((try dsimp only); (first | exact ⟨below_drew1 (Below.refl _ _), rE⟩ | exact ⟨below_drew1 b0_, rE⟩ | exact ⟨j0, jE⟩ | exact ⟨below_alloc j0 _, fun j => (cell_alloc_old (Nat.lt_of_lt_of_le kE j0.size)).trans (jE j)⟩ | exact ⟨below_alloc (below_drew1 (Below.refl _ _)) _, fun j => (cell_alloc_old kE).trans (rE j)⟩ | assumption))
        clear hK K
        (try simp only [Act.put, qa_, qb_, qc_])
        refine wpAnyH_take (i := 11) (oi := ⟨some 4, _, _, _, _, _⟩) (v := ?_) rfl (by kernel_rfl) (by kernel_rfl) (by kernel_rfl) (fun _ _ _ h => h) (Or.inl ⟨by rfl, ?hY7x14⟩) (by assumption) ?hR7x14
        case hY7x14 => (intro w hSw; (try dsimp only at hSw); go_simp; try with_reducible rfl)
        (try simp only [Act.put, qa_, qb_, qc_])
        refine wpAnyH_done (by kernel_rfl) ?_ _
        go_wp2
        go_ret
        refine ⟨_, rfl, ?_, below_step HB.out (below_step HBX.out j0)⟩
        have e := HO10.out
        rw [List.append_assoc] at e
        show kP.R _ _ _ _ v10 (withP l m)
        unfold withP
        rw [← HN.out, ← HPE.out]
        exact Kd.R_lower e (Nat.le_trans HB.out.size HBX.out.size)
      case hM7x9 =>
        go_simp
        (try go_wp2_with fail)
        refine hK.out _ _ ?hS7x15 (fun hHeld => ?hR7x15)
        case hS7x15 => ((try dsimp only); (first | exact ⟨below_drew1 (Below.refl _ _), rE⟩ | exact ⟨below_drew1 b0_, rE⟩ | exact ⟨j0, jE⟩ | exact ⟨below_alloc j0 _, fun j => (cell_alloc_old (Nat.lt_of_lt_of_le kE j0.size)).trans (jE j)⟩ | exact ⟨below_alloc (below_drew1 (Below.refl _ _)) _, fun j => (cell_alloc_old kE).trans (rE j)⟩ | assumption))
        clear hK K
        (try simp only [Act.put, qa_, qb_, qc_])
        refine wpAnyH_ready (rs := [3]) (by kernel_rfl) (by simp) ?_
        refine AllReadyH.cons (o := ⟨some 25, _, _, _, _, _⟩) rfl (fun K hK => ?hT7x16) ?hM7x16
        case hM7x16 => exact AllReadyH.nil
        (obtain ⟨g0, gE⟩ := ‹Below V.heap.size V _ ∧ _›; refine Kd.R_append_rows_step (kP) (w0 := V) V.heap.size (by rfl) (.const (.slice none 0 0)) (.tmp 24) 22 52 (.agg #[.int .u64 0, .int .u64 0]) 16 rfl Try.underlying22 info52 rfl (by decide) (by omega) (.slice none 0 0) ([]) ((l).take p) (_) (p) (_) (fun _ => True) (fun _ => False) rfl rfl (Kd.R_nil _ _ _ _ _) (C_takeG (Kd.C_below HXV.out g0) (by omega)) (fun x cs h => kP_of_K x cs h) (fun _ hk => hk.elim) (fun _ _ => trivial) g0 g0.size (by simp; omega) ?_; (intro v3 w3 ho_ hb_ hg_ hat_; have HO3 := Aside0.mk ho_; have HG3 := Aside0.mk ((Below.refl _ _).grown (row := none) hg_ (Nat.le_refl _) (fun k hk => by cases hk)); clear ho_ hg_ hat_; have j0 := hb_; have jE := fun j => (j0.cell (p := ⟨eb, j, none⟩) kE).trans (rE j)))
        refine hK.out _ _ ?hS7x16 (fun hHeld => ?hR7x16)
        case hS7x16 => ((try dsimp only); (first | exact ⟨below_drew1 (Below.refl _ _), rE⟩ | exact ⟨below_drew1 b0_, rE⟩ | exact ⟨j0, jE⟩ | exact ⟨below_alloc j0 _, fun j => (cell_alloc_old (Nat.lt_of_lt_of_le kE j0.size)).trans (jE j)⟩ | exact ⟨below_alloc (below_drew1 (Below.refl _ _)) _, fun j => (cell_alloc_old kE).trans (rE j)⟩ | assumption))
        clear hK K
        (try simp only [Act.put, qa_, qb_, qc_])
        refine wpAnyH_ready (rs := [6]) (by kernel_rfl) (by simp) ?_
        refine AllReadyH.cons (o := ⟨some 28, _, _, _, _, _⟩) rfl (fun K hK => ?hT7x17) ?hM7x17
        case hM7x17 => exact AllReadyH.nil
        (obtain ⟨g0, gE⟩ := ‹Below V.heap.size V _ ∧ _›; refine Kd.R_append_rows_step (kP) (w0 := V) V.heap.size (by rfl) (.tmp 25) (.tmp 27) 22 52 (.agg #[.int .u64 0, .int .u64 0]) 16 rfl Try.underlying22 info52 rfl (by decide) (by omega) (v3) ((l).take p) ([m]) (_) (1) (1) (fun _ => True) (fun _ => False) rfl rfl ((by (with_reducible repeat (first | apply Kd.R_alloc | apply Kd.R_drewN | apply Kd.R_drew)); exact HO3.out)) (by first | exact C_oneP Box.new | exact C_oneP (Box.drew Box.new) | exact C_oneP (Box.below (Box.drew Box.new) HG3.out) | exact C_oneP (Box.below Box.new HG3.out)) (fun x cs h => kP_of_K x cs h) (fun _ hk => hk.elim) (fun _ _ => trivial) g0 g0.size (by simp; omega) ?_; (intro v6 w6 ho_ hb_ hg_ hat_; have HO6 := Aside0.mk ho_; clear ho_ hg_ hat_; have j0 := hb_; have jE := fun j => (j0.cell (p := ⟨eb, j, none⟩) kE).trans (rE j)))
        refine hK.out _ _ ?hS7x17 (fun hHeld => ?hR7x17)
        case hS7x17 => ((try dsimp only); (first | exact ⟨below_drew1 (Below.refl _ _), rE⟩ | exact ⟨below_drew1 b0_, rE⟩ | exact ⟨j0, jE⟩ | exact ⟨below_alloc j0 _, fun j => (cell_alloc_old (Nat.lt_of_lt_of_le kE j0.size)).trans (jE j)⟩ | exact ⟨below_alloc (below_drew1 (Below.refl _ _)) _, fun j => (cell_alloc_old kE).trans (rE j)⟩ | assumption))
        clear hK K
        (try simp only [Act.put, qa_, qb_, qc_])
        refine wpAnyH_ready (rs := [10]) (by kernel_rfl) (by simp) ?_
        refine AllReadyH.cons (o := ⟨some 32, _, _, _, _, _⟩) rfl (fun K hK => ?hT7x18) ?hM7x18
        case hM7x18 => exact AllReadyH.nil
        (obtain ⟨g0, gE⟩ := ‹Below V.heap.size V _ ∧ _›; refine Kd.R_append_rows_step (kP) (w0 := V) V.heap.size (by rfl) (.tmp 28) (.tmp 31) 22 52 (.agg #[.int .u64 0, .int .u64 0]) 16 rfl Try.underlying22 info52 rfl (by decide) (by omega) (v6) ((l).take p ++ [m]) ((l).drop p) (_) (_) (_) (fun _ => True) (fun _ => False) rfl rfl ((by (with_reducible repeat (first | apply Kd.R_alloc | apply Kd.R_drewN | apply Kd.R_drew)); exact HO6.out)) (by have e := C_dropP (Kd.C_below HXV.out g0) hp hc; first | exact e | (rw [if_neg (by omega)] at e; exact e)) (fun x cs h => kP_of_K x cs h) (fun _ hk => hk.elim) (fun _ _ => trivial) g0 g0.size (by simp; omega) ?_; (intro v10 w10 ho_ hb_ hg_ hat_; have HO10 := Aside0.mk ho_; clear ho_ hg_ hat_; have j0 := hb_; have jE := fun j => (j0.cell (p := ⟨eb, j, none⟩) kE).trans (rE j)))
        refine hK.out _ _ ?hS7x18 (fun hHeld => ?hR7x18)
        case hS7x18 => ((try dsimp only); (first | exact ⟨below_drew1 (Below.refl _ _), rE⟩ | exact ⟨below_drew1 b0_, rE⟩ | exact ⟨j0, jE⟩ | exact ⟨below_alloc j0 _, fun j => (cell_alloc_old (Nat.lt_of_lt_of_le kE j0.size)).trans (jE j)⟩ | exact ⟨below_alloc (below_drew1 (Below.refl _ _)) _, fun j => (cell_alloc_old kE).trans (rE j)⟩ | assumption))
        clear hK K
        (try simp only [Act.put, qa_, qb_, qc_])
        refine wpAnyH_take (i := 11) (oi := ⟨some 4, _, _, _, _, _⟩) (v := ?_) rfl (by kernel_rfl) (by kernel_rfl) (by kernel_rfl) (fun _ _ _ h => h) (Or.inl ⟨by rfl, ?hY7x19⟩) (by assumption) ?hR7x19
        case hY7x19 => (intro w hSw; (try dsimp only at hSw); go_simp; try with_reducible rfl)
        (try simp only [Act.put, qa_, qb_, qc_])
        refine wpAnyH_done (by kernel_rfl) ?_ _
        go_wp2
        go_ret
        refine ⟨_, rfl, ?_, below_step HB.out (below_step HBX.out j0)⟩
        have e := HO10.out
        rw [List.append_assoc] at e
        show kP.R _ _ _ _ v10 (withP l m)
        unfold withP
        rw [← HN.out, ← HPE.out]
        exact Kd.R_lower e (Nat.le_trans HB.out.size HBX.out.size)
    · refine wp_region_held_drew (S := (fun w' => Below V.heap.size V w' ∧ (∀ j, w'.cell? ⟨eb, j, none⟩ = (#[.int .u64 m.f0, .int .u64 m.f1] : Array Value)[j]?))) (by kernel_rfl) ?hS8x0 (fun hHeld => ?hR8x0)
      case hS8x0 => ((try dsimp only); (first | exact ⟨below_drew1 (Below.refl _ _), rE⟩ | exact ⟨below_drew1 b0_, rE⟩ | exact ⟨j0, jE⟩ | exact ⟨below_alloc j0 _, fun j => (cell_alloc_old (Nat.lt_of_lt_of_le kE j0.size)).trans (jE j)⟩ | exact ⟨below_alloc (below_drew1 (Below.refl _ _)) _, fun j => (cell_alloc_old kE).trans (rE j)⟩ | assumption))
      refine wpAnyH_take (i := 0) (oi := ⟨some 22, _, _, _, _, _⟩) (v := ?_) rfl (by kernel_rfl) (by kernel_rfl) (by kernel_rfl) (fun _ _ _ h => h) (Or.inl ⟨by rfl, ?hY8x2⟩) (by assumption) ?hR8x2
      case hY8x2 => (intro w hSw; (try dsimp only at hSw); go_simp; try with_reducible rfl)
      (try simp only [Act.put, qa_, qb_, qc_])
      refine wpAnyH_take (i := 1) (oi := ⟨some 23, _, _, _, _, _⟩) (v := ?_) rfl (by kernel_rfl) (by kernel_rfl) (by kernel_rfl) (fun _ _ _ h => h) (Or.inl ⟨by rfl, ?hY8x3⟩) (by assumption) ?hR8x3
      case hY8x3 => (intro w hSw; (try dsimp only at hSw); go_simp; try with_reducible rfl)
      (try simp only [Act.put, qa_, qb_, qc_])
      refine wpAnyH_take (i := 2) (oi := ⟨some 24, _, _, _, _, _⟩) (v := ?_) rfl (by kernel_rfl) (by kernel_rfl) (by kernel_rfl) (fun _ _ _ h => h) (Or.inl ⟨by rfl, ?hY8x4⟩) (by assumption) ?hR8x4
      case hY8x4 => (intro w hSw; (try dsimp only at hSw); go_simp; try with_reducible rfl)
      (try simp only [Act.put, qa_, qb_, qc_])
      refine wpAnyH_take (i := 4) (oi := ⟨some 26, _, _, _, _, _⟩) (v := ?_) rfl (by kernel_rfl) (by kernel_rfl) (by kernel_rfl) (fun _ _ _ h => h) (Or.inl ⟨by rfl, ?hY8x5⟩) (by assumption) ?hR8x5
      case hY8x5 => (intro w hSw; (try dsimp only at hSw); go_simp; try with_reducible rfl)
      (try simp only [Act.put, qa_, qb_, qc_])
      refine wpAnyH_take (i := 7) (oi := ⟨some 29, _, _, _, _, _⟩) (v := ?_) rfl (by kernel_rfl) (by kernel_rfl) (by kernel_rfl) (fun _ _ _ h => h) (Or.inl ⟨by rfl, ?hY8x6⟩) (by assumption) ?hR8x6
      case hY8x6 => (intro w hSw; (try dsimp only at hSw); go_simp; try with_reducible rfl)
      (try simp only [Act.put, qa_, qb_, qc_])
      refine wpAnyH_take (i := 8) (oi := ⟨some 30, _, _, _, _, _⟩) (v := ?_) rfl (by kernel_rfl) (by kernel_rfl) (by kernel_rfl) (fun _ _ _ h => h) (Or.inl ⟨by rfl, ?hY8x7⟩) (by assumption) ?hR8x7
      case hY8x7 => (intro w hSw; (try dsimp only at hSw); go_simp; try with_reducible rfl)
      (try simp only [Act.put, qa_, qb_, qc_])
      refine wpAnyH_take (i := 9) (oi := ⟨some 31, _, _, _, _, _⟩) (v := ?_) rfl (by kernel_rfl) (by kernel_rfl) (by kernel_rfl) (fun _ _ _ h => h) (Or.inl ⟨by rfl, ?hY8x8⟩) (by assumption) ?hR8x8
      case hY8x8 => (intro w hSw; (try dsimp only at hSw); go_simp; try with_reducible rfl)
      (try simp only [Act.put, qa_, qb_, qc_])
      refine wpAnyH_ready (rs := [3, 5]) (by kernel_rfl) (by simp) ?_
      refine AllReadyH.cons (o := ⟨some 25, _, _, _, _, _⟩) rfl (fun K hK => ?hT8x9) (AllReadyH.cons (o := ⟨some 27, _, _, _, _, _⟩) rfl (fun K hK => ?hM8x9) AllReadyH.nil)
      case hT8x9 =>
        (obtain ⟨g0, gE⟩ := ‹Below V.heap.size V _ ∧ _›; refine Kd.R_append_rows_step (kP) (w0 := V) V.heap.size (by rfl) (.const (.slice none 0 0)) (.tmp 24) 22 52 (.agg #[.int .u64 0, .int .u64 0]) 16 rfl Try.underlying22 info52 rfl (by decide) (by omega) (.slice none 0 0) ([]) ((l).take p) (_) (p) (_) (fun _ => True) (fun _ => False) rfl rfl (Kd.R_nil _ _ _ _ _) (C_takeG (Kd.C_below HXV.out g0) (by omega)) (fun x cs h => kP_of_K x cs h) (fun _ hk => hk.elim) (fun _ _ => trivial) g0 g0.size (by simp; omega) ?_; (intro v3 w3 ho_ hb_ hg_ hat_; have HO3 := Aside0.mk ho_; have HG3 := Aside0.mk ((Below.refl _ _).grown (row := none) hg_ (Nat.le_refl _) (fun k hk => by cases hk)); clear ho_ hg_ hat_; have j0 := hb_; have jE := fun j => (j0.cell (p := ⟨eb, j, none⟩) kE).trans (rE j)))
        refine hK.out _ _ ?hS8x10 (fun hHeld => ?hR8x10)
        case hS8x10 => ((try dsimp only); (first | exact ⟨below_drew1 (Below.refl _ _), rE⟩ | exact ⟨below_drew1 b0_, rE⟩ | exact ⟨j0, jE⟩ | exact ⟨below_alloc j0 _, fun j => (cell_alloc_old (Nat.lt_of_lt_of_le kE j0.size)).trans (jE j)⟩ | exact ⟨below_alloc (below_drew1 (Below.refl _ _)) _, fun j => (cell_alloc_old kE).trans (rE j)⟩ | assumption))
        clear hK K
        (try simp only [Act.put, qa_, qb_, qc_])
        refine wpAnyH_ready (rs := [5]) (by kernel_rfl) (by simp) ?_
        refine AllReadyH.cons (o := ⟨some 27, _, _, _, _, _⟩) rfl (fun K hK => ?hT8x11) ?hM8x11
        case hM8x11 => exact AllReadyH.nil
        go_simp
        (try go_wp2_with fail)
        refine hK.out _ _ ?hS8x11 (fun hHeld => ?hR8x11)
        case hS8x11 => ((try dsimp only); (first | exact ⟨below_drew1 (Below.refl _ _), rE⟩ | exact ⟨below_drew1 b0_, rE⟩ | exact ⟨j0, jE⟩ | exact ⟨below_alloc j0 _, fun j => (cell_alloc_old (Nat.lt_of_lt_of_le kE j0.size)).trans (jE j)⟩ | exact ⟨below_alloc (below_drew1 (Below.refl _ _)) _, fun j => (cell_alloc_old kE).trans (rE j)⟩ | assumption))
        clear hK K
        (try simp only [Act.put, qa_, qb_, qc_])
        refine wpAnyH_ready (rs := [6]) (by kernel_rfl) (by simp) ?_
        refine AllReadyH.cons (o := ⟨some 28, _, _, _, _, _⟩) rfl (fun K hK => ?hT8x12) ?hM8x12
        case hM8x12 => exact AllReadyH.nil
        (obtain ⟨g0, gE⟩ := ‹Below V.heap.size V _ ∧ _›; refine Kd.R_append_rows_step (kP) (w0 := V) V.heap.size (by rfl) (.tmp 25) (.tmp 27) 22 52 (.agg #[.int .u64 0, .int .u64 0]) 16 rfl Try.underlying22 info52 rfl (by decide) (by omega) (v3) ((l).take p) ([m]) (_) (1) (1) (fun _ => True) (fun _ => False) rfl rfl ((by (with_reducible repeat (first | apply Kd.R_alloc | apply Kd.R_drewN | apply Kd.R_drew)); exact HO3.out)) (by first | exact C_oneP Box.new | exact C_oneP (Box.drew Box.new) | exact C_oneP (Box.below (Box.drew Box.new) HG3.out) | exact C_oneP (Box.below Box.new HG3.out)) (fun x cs h => kP_of_K x cs h) (fun _ hk => hk.elim) (fun _ _ => trivial) g0 g0.size (by simp; omega) ?_; (intro v6 w6 ho_ hb_ hg_ hat_; have HO6 := Aside0.mk ho_; clear ho_ hg_ hat_; have j0 := hb_; have jE := fun j => (j0.cell (p := ⟨eb, j, none⟩) kE).trans (rE j)))
        refine hK.out _ _ ?hS8x12 (fun hHeld => ?hR8x12)
        case hS8x12 => ((try dsimp only); (first | exact ⟨below_drew1 (Below.refl _ _), rE⟩ | exact ⟨below_drew1 b0_, rE⟩ | exact ⟨j0, jE⟩ | exact ⟨below_alloc j0 _, fun j => (cell_alloc_old (Nat.lt_of_lt_of_le kE j0.size)).trans (jE j)⟩ | exact ⟨below_alloc (below_drew1 (Below.refl _ _)) _, fun j => (cell_alloc_old kE).trans (rE j)⟩ | assumption))
        clear hK K
        (try simp only [Act.put, qa_, qb_, qc_])
        refine wpAnyH_ready (rs := [10]) (by kernel_rfl) (by simp) ?_
        refine AllReadyH.cons (o := ⟨some 32, _, _, _, _, _⟩) rfl (fun K hK => ?hT8x13) ?hM8x13
        case hM8x13 => exact AllReadyH.nil
        (obtain ⟨g0, gE⟩ := ‹Below V.heap.size V _ ∧ _›; refine Kd.R_append_rows_step (kP) (w0 := V) V.heap.size (by rfl) (.tmp 28) (.tmp 31) 22 52 (.agg #[.int .u64 0, .int .u64 0]) 16 rfl Try.underlying22 info52 rfl (by decide) (by omega) (v6) ((l).take p ++ [m]) ((l).drop p) (_) (_) (_) (fun _ => True) (fun _ => False) rfl rfl ((by (with_reducible repeat (first | apply Kd.R_alloc | apply Kd.R_drewN | apply Kd.R_drew)); exact HO6.out)) (C_noP HN.out) (fun x cs h => kP_of_K x cs h) (fun _ hk => hk.elim) (fun _ _ => trivial) g0 g0.size (by simp; omega) ?_; (intro v10 w10 ho_ hb_ hg_ hat_; have HO10 := Aside0.mk ho_; clear ho_ hg_ hat_; have j0 := hb_; have jE := fun j => (j0.cell (p := ⟨eb, j, none⟩) kE).trans (rE j)))
        refine hK.out _ _ ?hS8x13 (fun hHeld => ?hR8x13)
        case hS8x13 => ((try dsimp only); (first | exact ⟨below_drew1 (Below.refl _ _), rE⟩ | exact ⟨below_drew1 b0_, rE⟩ | exact ⟨j0, jE⟩ | exact ⟨below_alloc j0 _, fun j => (cell_alloc_old (Nat.lt_of_lt_of_le kE j0.size)).trans (jE j)⟩ | exact ⟨below_alloc (below_drew1 (Below.refl _ _)) _, fun j => (cell_alloc_old kE).trans (rE j)⟩ | assumption))
        clear hK K
        (try simp only [Act.put, qa_, qb_, qc_])
        refine wpAnyH_take (i := 11) (oi := ⟨some 4, _, _, _, _, _⟩) (v := ?_) rfl (by kernel_rfl) (by kernel_rfl) (by kernel_rfl) (fun _ _ _ h => h) (Or.inl ⟨by rfl, ?hY8x14⟩) (by assumption) ?hR8x14
        case hY8x14 => (intro w hSw; (try dsimp only at hSw); go_simp; try with_reducible rfl)
        (try simp only [Act.put, qa_, qb_, qc_])
        refine wpAnyH_done (by kernel_rfl) ?_ _
        go_wp2
        go_ret
        refine ⟨_, rfl, ?_, below_step HB.out (below_step HBX.out j0)⟩
        have e := HO10.out
        rw [List.append_assoc] at e
        show kP.R _ _ _ _ v10 (withP l m)
        unfold withP
        rw [← HN.out, ← HPE.out]
        exact Kd.R_lower e (Nat.le_trans HB.out.size HBX.out.size)
      case hM8x9 =>
        go_simp
        (try go_wp2_with fail)
        refine hK.out _ _ ?hS8x15 (fun hHeld => ?hR8x15)
        case hS8x15 => ((try dsimp only); (first | exact ⟨below_drew1 (Below.refl _ _), rE⟩ | exact ⟨below_drew1 b0_, rE⟩ | exact ⟨j0, jE⟩ | exact ⟨below_alloc j0 _, fun j => (cell_alloc_old (Nat.lt_of_lt_of_le kE j0.size)).trans (jE j)⟩ | exact ⟨below_alloc (below_drew1 (Below.refl _ _)) _, fun j => (cell_alloc_old kE).trans (rE j)⟩ | assumption))
        clear hK K
        (try simp only [Act.put, qa_, qb_, qc_])
        refine wpAnyH_ready (rs := [3]) (by kernel_rfl) (by simp) ?_
        refine AllReadyH.cons (o := ⟨some 25, _, _, _, _, _⟩) rfl (fun K hK => ?hT8x16) ?hM8x16
        case hM8x16 => exact AllReadyH.nil
        (obtain ⟨g0, gE⟩ := ‹Below V.heap.size V _ ∧ _›; refine Kd.R_append_rows_step (kP) (w0 := V) V.heap.size (by rfl) (.const (.slice none 0 0)) (.tmp 24) 22 52 (.agg #[.int .u64 0, .int .u64 0]) 16 rfl Try.underlying22 info52 rfl (by decide) (by omega) (.slice none 0 0) ([]) ((l).take p) (_) (p) (_) (fun _ => True) (fun _ => False) rfl rfl (Kd.R_nil _ _ _ _ _) (C_takeG (Kd.C_below HXV.out g0) (by omega)) (fun x cs h => kP_of_K x cs h) (fun _ hk => hk.elim) (fun _ _ => trivial) g0 g0.size (by simp; omega) ?_; (intro v3 w3 ho_ hb_ hg_ hat_; have HO3 := Aside0.mk ho_; have HG3 := Aside0.mk ((Below.refl _ _).grown (row := none) hg_ (Nat.le_refl _) (fun k hk => by cases hk)); clear ho_ hg_ hat_; have j0 := hb_; have jE := fun j => (j0.cell (p := ⟨eb, j, none⟩) kE).trans (rE j)))
        refine hK.out _ _ ?hS8x16 (fun hHeld => ?hR8x16)
        case hS8x16 => ((try dsimp only); (first | exact ⟨below_drew1 (Below.refl _ _), rE⟩ | exact ⟨below_drew1 b0_, rE⟩ | exact ⟨j0, jE⟩ | exact ⟨below_alloc j0 _, fun j => (cell_alloc_old (Nat.lt_of_lt_of_le kE j0.size)).trans (jE j)⟩ | exact ⟨below_alloc (below_drew1 (Below.refl _ _)) _, fun j => (cell_alloc_old kE).trans (rE j)⟩ | assumption))
        clear hK K
        (try simp only [Act.put, qa_, qb_, qc_])
        refine wpAnyH_ready (rs := [6]) (by kernel_rfl) (by simp) ?_
        refine AllReadyH.cons (o := ⟨some 28, _, _, _, _, _⟩) rfl (fun K hK => ?hT8x17) ?hM8x17
        case hM8x17 => exact AllReadyH.nil
        (obtain ⟨g0, gE⟩ := ‹Below V.heap.size V _ ∧ _›; refine Kd.R_append_rows_step (kP) (w0 := V) V.heap.size (by rfl) (.tmp 25) (.tmp 27) 22 52 (.agg #[.int .u64 0, .int .u64 0]) 16 rfl Try.underlying22 info52 rfl (by decide) (by omega) (v3) ((l).take p) ([m]) (_) (1) (1) (fun _ => True) (fun _ => False) rfl rfl ((by (with_reducible repeat (first | apply Kd.R_alloc | apply Kd.R_drewN | apply Kd.R_drew)); exact HO3.out)) (by first | exact C_oneP Box.new | exact C_oneP (Box.drew Box.new) | exact C_oneP (Box.below (Box.drew Box.new) HG3.out) | exact C_oneP (Box.below Box.new HG3.out)) (fun x cs h => kP_of_K x cs h) (fun _ hk => hk.elim) (fun _ _ => trivial) g0 g0.size (by simp; omega) ?_; (intro v6 w6 ho_ hb_ hg_ hat_; have HO6 := Aside0.mk ho_; clear ho_ hg_ hat_; have j0 := hb_; have jE := fun j => (j0.cell (p := ⟨eb, j, none⟩) kE).trans (rE j)))
        refine hK.out _ _ ?hS8x17 (fun hHeld => ?hR8x17)
        case hS8x17 => ((try dsimp only); (first | exact ⟨below_drew1 (Below.refl _ _), rE⟩ | exact ⟨below_drew1 b0_, rE⟩ | exact ⟨j0, jE⟩ | exact ⟨below_alloc j0 _, fun j => (cell_alloc_old (Nat.lt_of_lt_of_le kE j0.size)).trans (jE j)⟩ | exact ⟨below_alloc (below_drew1 (Below.refl _ _)) _, fun j => (cell_alloc_old kE).trans (rE j)⟩ | assumption))
        clear hK K
        (try simp only [Act.put, qa_, qb_, qc_])
        refine wpAnyH_ready (rs := [10]) (by kernel_rfl) (by simp) ?_
        refine AllReadyH.cons (o := ⟨some 32, _, _, _, _, _⟩) rfl (fun K hK => ?hT8x18) ?hM8x18
        case hM8x18 => exact AllReadyH.nil
        (obtain ⟨g0, gE⟩ := ‹Below V.heap.size V _ ∧ _›; refine Kd.R_append_rows_step (kP) (w0 := V) V.heap.size (by rfl) (.tmp 28) (.tmp 31) 22 52 (.agg #[.int .u64 0, .int .u64 0]) 16 rfl Try.underlying22 info52 rfl (by decide) (by omega) (v6) ((l).take p ++ [m]) ((l).drop p) (_) (_) (_) (fun _ => True) (fun _ => False) rfl rfl ((by (with_reducible repeat (first | apply Kd.R_alloc | apply Kd.R_drewN | apply Kd.R_drew)); exact HO6.out)) (C_noP HN.out) (fun x cs h => kP_of_K x cs h) (fun _ hk => hk.elim) (fun _ _ => trivial) g0 g0.size (by simp; omega) ?_; (intro v10 w10 ho_ hb_ hg_ hat_; have HO10 := Aside0.mk ho_; clear ho_ hg_ hat_; have j0 := hb_; have jE := fun j => (j0.cell (p := ⟨eb, j, none⟩) kE).trans (rE j)))
        refine hK.out _ _ ?hS8x18 (fun hHeld => ?hR8x18)
        case hS8x18 => ((try dsimp only); (first | exact ⟨below_drew1 (Below.refl _ _), rE⟩ | exact ⟨below_drew1 b0_, rE⟩ | exact ⟨j0, jE⟩ | exact ⟨below_alloc j0 _, fun j => (cell_alloc_old (Nat.lt_of_lt_of_le kE j0.size)).trans (jE j)⟩ | exact ⟨below_alloc (below_drew1 (Below.refl _ _)) _, fun j => (cell_alloc_old kE).trans (rE j)⟩ | assumption))
        clear hK K
        (try simp only [Act.put, qa_, qb_, qc_])
        refine wpAnyH_take (i := 11) (oi := ⟨some 4, _, _, _, _, _⟩) (v := ?_) rfl (by kernel_rfl) (by kernel_rfl) (by kernel_rfl) (fun _ _ _ h => h) (Or.inl ⟨by rfl, ?hY8x19⟩) (by assumption) ?hR8x19
        case hY8x19 => (intro w hSw; (try dsimp only at hSw); go_simp; try with_reducible rfl)
        (try simp only [Act.put, qa_, qb_, qc_])
        refine wpAnyH_done (by kernel_rfl) ?_ _
        go_wp2
        go_ret
        refine ⟨_, rfl, ?_, below_step HB.out (below_step HBX.out j0)⟩
        have e := HO10.out
        rw [List.append_assoc] at e
        show kP.R _ _ _ _ v10 (withP l m)
        unfold withP
        rw [← HN.out, ← HPE.out]
        exact Kd.R_lower e (Nat.le_trans HB.out.size HBX.out.size)
    · refine wp_region_held_drew (S := (fun w' => Below V.heap.size V w' ∧ (∀ j, w'.cell? ⟨eb, j, none⟩ = (#[.int .u64 m.f0, .int .u64 m.f1] : Array Value)[j]?))) (by kernel_rfl) ?hS9x0 (fun hHeld => ?hR9x0)
      case hS9x0 => ((try dsimp only); (first | exact ⟨below_drew1 (Below.refl _ _), rE⟩ | exact ⟨below_drew1 b0_, rE⟩ | exact ⟨j0, jE⟩ | exact ⟨below_alloc j0 _, fun j => (cell_alloc_old (Nat.lt_of_lt_of_le kE j0.size)).trans (jE j)⟩ | exact ⟨below_alloc (below_drew1 (Below.refl _ _)) _, fun j => (cell_alloc_old kE).trans (rE j)⟩ | assumption))
      refine wpAnyH_take (i := 0) (oi := ⟨some 22, _, _, _, _, _⟩) (v := ?_) rfl (by kernel_rfl) (by kernel_rfl) (by kernel_rfl) (fun _ _ _ h => h) (Or.inl ⟨by rfl, ?hY9x2⟩) (by assumption) ?hR9x2
      case hY9x2 => (intro w hSw; (try dsimp only at hSw); go_simp; try with_reducible rfl)
      (try simp only [Act.put, qa_, qb_, qc_])
      refine wpAnyH_take (i := 1) (oi := ⟨some 23, _, _, _, _, _⟩) (v := ?_) rfl (by kernel_rfl) (by kernel_rfl) (by kernel_rfl) (fun _ _ _ h => h) (Or.inl ⟨by rfl, ?hY9x3⟩) (by assumption) ?hR9x3
      case hY9x3 => (intro w hSw; (try dsimp only at hSw); go_simp; try with_reducible rfl)
      (try simp only [Act.put, qa_, qb_, qc_])
      refine wpAnyH_take (i := 2) (oi := ⟨some 24, _, _, _, _, _⟩) (v := ?_) rfl (by kernel_rfl) (by kernel_rfl) (by kernel_rfl) (fun _ _ _ h => h) (Or.inl ⟨by rfl, ?hY9x4⟩) (by assumption) ?hR9x4
      case hY9x4 => (intro w hSw; (try dsimp only at hSw); go_simp; try with_reducible rfl)
      (try simp only [Act.put, qa_, qb_, qc_])
      refine wpAnyH_take (i := 4) (oi := ⟨some 26, _, _, _, _, _⟩) (v := ?_) rfl (by kernel_rfl) (by kernel_rfl) (by kernel_rfl) (fun _ _ _ h => h) (Or.inl ⟨by rfl, ?hY9x5⟩) (by assumption) ?hR9x5
      case hY9x5 => (intro w hSw; (try dsimp only at hSw); go_simp; try with_reducible rfl)
      (try simp only [Act.put, qa_, qb_, qc_])
      refine wpAnyH_take (i := 7) (oi := ⟨some 29, _, _, _, _, _⟩) (v := ?_) rfl (by kernel_rfl) (by kernel_rfl) (by kernel_rfl) (fun _ _ _ h => h) (Or.inl ⟨by rfl, ?hY9x6⟩) (by assumption) ?hR9x6
      case hY9x6 => (intro w hSw; (try dsimp only at hSw); go_simp; try with_reducible rfl)
      (try simp only [Act.put, qa_, qb_, qc_])
      refine wpAnyH_take (i := 8) (oi := ⟨some 30, _, _, _, _, _⟩) (v := ?_) rfl (by kernel_rfl) (by kernel_rfl) (by kernel_rfl) (fun _ _ _ h => h) (Or.inl ⟨by rfl, ?hY9x7⟩) (by assumption) ?hR9x7
      case hY9x7 => (intro w hSw; (try dsimp only at hSw); go_simp; try with_reducible rfl)
      (try simp only [Act.put, qa_, qb_, qc_])
      refine wpAnyH_take (i := 9) (oi := ⟨some 31, _, _, _, _, _⟩) (v := ?_) rfl (by kernel_rfl) (by kernel_rfl) (by kernel_rfl) (fun _ _ _ h => h) (Or.inl ⟨by rfl, ?hY9x8⟩) (by assumption) ?hR9x8
      case hY9x8 => (intro w hSw; (try dsimp only at hSw); go_simp; try with_reducible rfl)
      (try simp only [Act.put, qa_, qb_, qc_])
      refine wpAnyH_ready (rs := [3, 5]) (by kernel_rfl) (by simp) ?_
      refine AllReadyH.cons (o := ⟨some 25, _, _, _, _, _⟩) rfl (fun K hK => ?hT9x9) (AllReadyH.cons (o := ⟨some 27, _, _, _, _, _⟩) rfl (fun K hK => ?hM9x9) AllReadyH.nil)
      case hT9x9 =>
        (obtain ⟨g0, gE⟩ := ‹Below V.heap.size V _ ∧ _›; refine Kd.R_append_rows_step (kP) (w0 := V) V.heap.size (by rfl) (.const (.slice none 0 0)) (.tmp 24) 22 52 (.agg #[.int .u64 0, .int .u64 0]) 16 rfl Try.underlying22 info52 rfl (by decide) (by omega) (.slice none 0 0) ([]) ((l).take p) (_) (p) (_) (fun _ => True) (fun _ => False) rfl rfl (Kd.R_nil _ _ _ _ _) (C_takeG (Kd.C_below HXV.out g0) (by omega)) (fun x cs h => kP_of_K x cs h) (fun _ hk => hk.elim) (fun _ _ => trivial) g0 g0.size (by simp; omega) ?_; (intro v3 w3 ho_ hb_ hg_ hat_; have HO3 := Aside0.mk ho_; have HG3 := Aside0.mk ((Below.refl _ _).grown (row := none) hg_ (Nat.le_refl _) (fun k hk => by cases hk)); clear ho_ hg_ hat_; have j0 := hb_; have jE := fun j => (j0.cell (p := ⟨eb, j, none⟩) kE).trans (rE j)))
        refine hK.out _ _ ?hS9x10 (fun hHeld => ?hR9x10)
        case hS9x10 => ((try dsimp only); (first | exact ⟨below_drew1 (Below.refl _ _), rE⟩ | exact ⟨below_drew1 b0_, rE⟩ | exact ⟨j0, jE⟩ | exact ⟨below_alloc j0 _, fun j => (cell_alloc_old (Nat.lt_of_lt_of_le kE j0.size)).trans (jE j)⟩ | exact ⟨below_alloc (below_drew1 (Below.refl _ _)) _, fun j => (cell_alloc_old kE).trans (rE j)⟩ | assumption))
        clear hK K
        (try simp only [Act.put, qa_, qb_, qc_])
        refine wpAnyH_ready (rs := [5]) (by kernel_rfl) (by simp) ?_
        refine AllReadyH.cons (o := ⟨some 27, _, _, _, _, _⟩) rfl (fun K hK => ?hT9x11) ?hM9x11
        case hM9x11 => exact AllReadyH.nil
        go_simp
        (try go_wp2_with fail)
        refine hK.out _ _ ?hS9x11 (fun hHeld => ?hR9x11)
        case hS9x11 => ((try dsimp only); (first | exact ⟨below_drew1 (Below.refl _ _), rE⟩ | exact ⟨below_drew1 b0_, rE⟩ | exact ⟨j0, jE⟩ | exact ⟨below_alloc j0 _, fun j => (cell_alloc_old (Nat.lt_of_lt_of_le kE j0.size)).trans (jE j)⟩ | exact ⟨below_alloc (below_drew1 (Below.refl _ _)) _, fun j => (cell_alloc_old kE).trans (rE j)⟩ | assumption))
        clear hK K
        (try simp only [Act.put, qa_, qb_, qc_])
        refine wpAnyH_ready (rs := [6]) (by kernel_rfl) (by simp) ?_
        refine AllReadyH.cons (o := ⟨some 28, _, _, _, _, _⟩) rfl (fun K hK => ?hT9x12) ?hM9x12
        case hM9x12 => exact AllReadyH.nil
        (obtain ⟨g0, gE⟩ := ‹Below V.heap.size V _ ∧ _›; refine Kd.R_append_rows_step (kP) (w0 := V) V.heap.size (by rfl) (.tmp 25) (.tmp 27) 22 52 (.agg #[.int .u64 0, .int .u64 0]) 16 rfl Try.underlying22 info52 rfl (by decide) (by omega) (v3) ((l).take p) ([m]) (_) (1) (1) (fun _ => True) (fun _ => False) rfl rfl ((by (with_reducible repeat (first | apply Kd.R_alloc | apply Kd.R_drewN | apply Kd.R_drew)); exact HO3.out)) (by first | exact C_oneP Box.new | exact C_oneP (Box.drew Box.new) | exact C_oneP (Box.below (Box.drew Box.new) HG3.out) | exact C_oneP (Box.below Box.new HG3.out)) (fun x cs h => kP_of_K x cs h) (fun _ hk => hk.elim) (fun _ _ => trivial) g0 g0.size (by simp; omega) ?_; (intro v6 w6 ho_ hb_ hg_ hat_; have HO6 := Aside0.mk ho_; clear ho_ hg_ hat_; have j0 := hb_; have jE := fun j => (j0.cell (p := ⟨eb, j, none⟩) kE).trans (rE j)))
        refine hK.out _ _ ?hS9x12 (fun hHeld => ?hR9x12)
        case hS9x12 => ((try dsimp only); (first | exact ⟨below_drew1 (Below.refl _ _), rE⟩ | exact ⟨below_drew1 b0_, rE⟩ | exact ⟨j0, jE⟩ | exact ⟨below_alloc j0 _, fun j => (cell_alloc_old (Nat.lt_of_lt_of_le kE j0.size)).trans (jE j)⟩ | exact ⟨below_alloc (below_drew1 (Below.refl _ _)) _, fun j => (cell_alloc_old kE).trans (rE j)⟩ | assumption))
        clear hK K
        (try simp only [Act.put, qa_, qb_, qc_])
        refine wpAnyH_ready (rs := [10]) (by kernel_rfl) (by simp) ?_
        refine AllReadyH.cons (o := ⟨some 32, _, _, _, _, _⟩) rfl (fun K hK => ?hT9x13) ?hM9x13
        case hM9x13 => exact AllReadyH.nil
        (obtain ⟨g0, gE⟩ := ‹Below V.heap.size V _ ∧ _›; refine Kd.R_append_rows_step (kP) (w0 := V) V.heap.size (by rfl) (.tmp 28) (.tmp 31) 22 52 (.agg #[.int .u64 0, .int .u64 0]) 16 rfl Try.underlying22 info52 rfl (by decide) (by omega) (v6) ((l).take p ++ [m]) ((l).drop p) (_) (_) (_) (fun _ => True) (fun _ => False) rfl rfl ((by (with_reducible repeat (first | apply Kd.R_alloc | apply Kd.R_drewN | apply Kd.R_drew)); exact HO6.out)) (C_noP HN.out) (fun x cs h => kP_of_K x cs h) (fun _ hk => hk.elim) (fun _ _ => trivial) g0 g0.size (by simp; omega) ?_; (intro v10 w10 ho_ hb_ hg_ hat_; have HO10 := Aside0.mk ho_; clear ho_ hg_ hat_; have j0 := hb_; have jE := fun j => (j0.cell (p := ⟨eb, j, none⟩) kE).trans (rE j)))
        refine hK.out _ _ ?hS9x13 (fun hHeld => ?hR9x13)
        case hS9x13 => ((try dsimp only); (first | exact ⟨below_drew1 (Below.refl _ _), rE⟩ | exact ⟨below_drew1 b0_, rE⟩ | exact ⟨j0, jE⟩ | exact ⟨below_alloc j0 _, fun j => (cell_alloc_old (Nat.lt_of_lt_of_le kE j0.size)).trans (jE j)⟩ | exact ⟨below_alloc (below_drew1 (Below.refl _ _)) _, fun j => (cell_alloc_old kE).trans (rE j)⟩ | assumption))
        clear hK K
        (try simp only [Act.put, qa_, qb_, qc_])
        refine wpAnyH_take (i := 11) (oi := ⟨some 4, _, _, _, _, _⟩) (v := ?_) rfl (by kernel_rfl) (by kernel_rfl) (by kernel_rfl) (fun _ _ _ h => h) (Or.inl ⟨by rfl, ?hY9x14⟩) (by assumption) ?hR9x14
        case hY9x14 => (intro w hSw; (try dsimp only at hSw); go_simp; try with_reducible rfl)
        (try simp only [Act.put, qa_, qb_, qc_])
        refine wpAnyH_done (by kernel_rfl) ?_ _
        go_wp2
        go_ret
        refine ⟨_, rfl, ?_, below_step HB.out (below_step HBX.out j0)⟩
        have e := HO10.out
        rw [List.append_assoc] at e
        show kP.R _ _ _ _ v10 (withP l m)
        unfold withP
        rw [← HN.out, ← HPE.out]
        exact Kd.R_lower e (Nat.le_trans HB.out.size HBX.out.size)
      case hM9x9 =>
        go_simp
        (try go_wp2_with fail)
        refine hK.out _ _ ?hS9x15 (fun hHeld => ?hR9x15)
        case hS9x15 => ((try dsimp only); (first | exact ⟨below_drew1 (Below.refl _ _), rE⟩ | exact ⟨below_drew1 b0_, rE⟩ | exact ⟨j0, jE⟩ | exact ⟨below_alloc j0 _, fun j => (cell_alloc_old (Nat.lt_of_lt_of_le kE j0.size)).trans (jE j)⟩ | exact ⟨below_alloc (below_drew1 (Below.refl _ _)) _, fun j => (cell_alloc_old kE).trans (rE j)⟩ | assumption))
        clear hK K
        (try simp only [Act.put, qa_, qb_, qc_])
        refine wpAnyH_ready (rs := [3]) (by kernel_rfl) (by simp) ?_
        refine AllReadyH.cons (o := ⟨some 25, _, _, _, _, _⟩) rfl (fun K hK => ?hT9x16) ?hM9x16
        case hM9x16 => exact AllReadyH.nil
        (obtain ⟨g0, gE⟩ := ‹Below V.heap.size V _ ∧ _›; refine Kd.R_append_rows_step (kP) (w0 := V) V.heap.size (by rfl) (.const (.slice none 0 0)) (.tmp 24) 22 52 (.agg #[.int .u64 0, .int .u64 0]) 16 rfl Try.underlying22 info52 rfl (by decide) (by omega) (.slice none 0 0) ([]) ((l).take p) (_) (p) (_) (fun _ => True) (fun _ => False) rfl rfl (Kd.R_nil _ _ _ _ _) (C_takeG (Kd.C_below HXV.out g0) (by omega)) (fun x cs h => kP_of_K x cs h) (fun _ hk => hk.elim) (fun _ _ => trivial) g0 g0.size (by simp; omega) ?_; (intro v3 w3 ho_ hb_ hg_ hat_; have HO3 := Aside0.mk ho_; have HG3 := Aside0.mk ((Below.refl _ _).grown (row := none) hg_ (Nat.le_refl _) (fun k hk => by cases hk)); clear ho_ hg_ hat_; have j0 := hb_; have jE := fun j => (j0.cell (p := ⟨eb, j, none⟩) kE).trans (rE j)))
        refine hK.out _ _ ?hS9x16 (fun hHeld => ?hR9x16)
        case hS9x16 => ((try dsimp only); (first | exact ⟨below_drew1 (Below.refl _ _), rE⟩ | exact ⟨below_drew1 b0_, rE⟩ | exact ⟨j0, jE⟩ | exact ⟨below_alloc j0 _, fun j => (cell_alloc_old (Nat.lt_of_lt_of_le kE j0.size)).trans (jE j)⟩ | exact ⟨below_alloc (below_drew1 (Below.refl _ _)) _, fun j => (cell_alloc_old kE).trans (rE j)⟩ | assumption))
        clear hK K
        (try simp only [Act.put, qa_, qb_, qc_])
        refine wpAnyH_ready (rs := [6]) (by kernel_rfl) (by simp) ?_
        refine AllReadyH.cons (o := ⟨some 28, _, _, _, _, _⟩) rfl (fun K hK => ?hT9x17) ?hM9x17
        case hM9x17 => exact AllReadyH.nil
        (obtain ⟨g0, gE⟩ := ‹Below V.heap.size V _ ∧ _›; refine Kd.R_append_rows_step (kP) (w0 := V) V.heap.size (by rfl) (.tmp 25) (.tmp 27) 22 52 (.agg #[.int .u64 0, .int .u64 0]) 16 rfl Try.underlying22 info52 rfl (by decide) (by omega) (v3) ((l).take p) ([m]) (_) (1) (1) (fun _ => True) (fun _ => False) rfl rfl ((by (with_reducible repeat (first | apply Kd.R_alloc | apply Kd.R_drewN | apply Kd.R_drew)); exact HO3.out)) (by first | exact C_oneP Box.new | exact C_oneP (Box.drew Box.new) | exact C_oneP (Box.below (Box.drew Box.new) HG3.out) | exact C_oneP (Box.below Box.new HG3.out)) (fun x cs h => kP_of_K x cs h) (fun _ hk => hk.elim) (fun _ _ => trivial) g0 g0.size (by simp; omega) ?_; (intro v6 w6 ho_ hb_ hg_ hat_; have HO6 := Aside0.mk ho_; clear ho_ hg_ hat_; have j0 := hb_; have jE := fun j => (j0.cell (p := ⟨eb, j, none⟩) kE).trans (rE j)))
        refine hK.out _ _ ?hS9x17 (fun hHeld => ?hR9x17)
        case hS9x17 => ((try dsimp only); (first | exact ⟨below_drew1 (Below.refl _ _), rE⟩ | exact ⟨below_drew1 b0_, rE⟩ | exact ⟨j0, jE⟩ | exact ⟨below_alloc j0 _, fun j => (cell_alloc_old (Nat.lt_of_lt_of_le kE j0.size)).trans (jE j)⟩ | exact ⟨below_alloc (below_drew1 (Below.refl _ _)) _, fun j => (cell_alloc_old kE).trans (rE j)⟩ | assumption))
        clear hK K
        (try simp only [Act.put, qa_, qb_, qc_])
        refine wpAnyH_ready (rs := [10]) (by kernel_rfl) (by simp) ?_
        refine AllReadyH.cons (o := ⟨some 32, _, _, _, _, _⟩) rfl (fun K hK => ?hT9x18) ?hM9x18
        case hM9x18 => exact AllReadyH.nil
        (obtain ⟨g0, gE⟩ := ‹Below V.heap.size V _ ∧ _›; refine Kd.R_append_rows_step (kP) (w0 := V) V.heap.size (by rfl) (.tmp 28) (.tmp 31) 22 52 (.agg #[.int .u64 0, .int .u64 0]) 16 rfl Try.underlying22 info52 rfl (by decide) (by omega) (v6) ((l).take p ++ [m]) ((l).drop p) (_) (_) (_) (fun _ => True) (fun _ => False) rfl rfl ((by (with_reducible repeat (first | apply Kd.R_alloc | apply Kd.R_drewN | apply Kd.R_drew)); exact HO6.out)) (C_noP HN.out) (fun x cs h => kP_of_K x cs h) (fun _ hk => hk.elim) (fun _ _ => trivial) g0 g0.size (by simp; omega) ?_; (intro v10 w10 ho_ hb_ hg_ hat_; have HO10 := Aside0.mk ho_; clear ho_ hg_ hat_; have j0 := hb_; have jE := fun j => (j0.cell (p := ⟨eb, j, none⟩) kE).trans (rE j)))
        refine hK.out _ _ ?hS9x18 (fun hHeld => ?hR9x18)
        case hS9x18 => ((try dsimp only); (first | exact ⟨below_drew1 (Below.refl _ _), rE⟩ | exact ⟨below_drew1 b0_, rE⟩ | exact ⟨j0, jE⟩ | exact ⟨below_alloc j0 _, fun j => (cell_alloc_old (Nat.lt_of_lt_of_le kE j0.size)).trans (jE j)⟩ | exact ⟨below_alloc (below_drew1 (Below.refl _ _)) _, fun j => (cell_alloc_old kE).trans (rE j)⟩ | assumption))
        clear hK K
        (try simp only [Act.put, qa_, qb_, qc_])
        refine wpAnyH_take (i := 11) (oi := ⟨some 4, _, _, _, _, _⟩) (v := ?_) rfl (by kernel_rfl) (by kernel_rfl) (by kernel_rfl) (fun _ _ _ h => h) (Or.inl ⟨by rfl, ?hY9x19⟩) (by assumption) ?hR9x19
        case hY9x19 => (intro w hSw; (try dsimp only at hSw); go_simp; try with_reducible rfl)
        (try simp only [Act.put, qa_, qb_, qc_])
        refine wpAnyH_done (by kernel_rfl) ?_ _
        go_wp2
        go_ret
        refine ⟨_, rfl, ?_, below_step HB.out (below_step HBX.out j0)⟩
        have e := HO10.out
        rw [List.append_assoc] at e
        show kP.R _ _ _ _ v10 (withP l m)
        unfold withP
        rw [← HN.out, ← HPE.out]
        exact Kd.R_lower e (Nat.le_trans HB.out.size HBX.out.size)
theorem ofIf {α : Type} {c : Prop} [Decidable c] {x r : α} (h : (if c then some x else none) = some r) : c ∧ x = r := by
  by_cases g : c
  · rw [if_pos g] at h
    exact ⟨g, Option.some.inj h⟩
  · rw [if_neg g] at h
    cases h
def PQ.mootbellref07_with.f (l0 : List Pr) (a1_0 a1_1 : Int) : Option (List Pr) := if l0.length ≤ 1000000 then some (withP l0 ⟨a1_0, a1_1⟩) else none
theorem PQ.mootbellref07_with.calls (A0 : Option Addr) (c0 : Nat) (l0 : List Pr) (a1_0 : Int) (a1_1 : Int) (r : List Pr) (w : World) (hr0 : Kd.C kP w A0 l0.length l0) (hc0 : l0.length ≤ c0) (h : PQ.mootbellref07_with.f l0 a1_0 a1_1 = some r) :
    Calls Try.prog 32 #[.slice A0 l0.length c0, .agg #[.int .u64 a1_0, .int .u64 a1_1]] w fun e w' => ∃ v0_ : Value, e = .returned (v0_) ∧ Kd.R kP 52 w' w.heap.size (fun _ => True) v0_ r ∧ Below w.heap.size w w' := by
  obtain ⟨h1, rfl⟩ := ofIf h
  exact rWith A0 _ c0 l0 ⟨a1_0, a1_1⟩ w hr0 hc0 h1
end Go.Proofs.Ytnfglkgkdechlaa

namespace Go.Proofs.Ytnfglkgkdechlaa.PQ
open Go.RowKit Go.Proofs.YtnfglkgkdechlaaW.PrintWords Go.Proofs.YtnfglkgkdechlaaW.PrintLast Go.Proofs.YtnfglkgkdechlaaW.PrintMore
attribute [local go_sem] max2_int min2_int max_two min_two max_three min_three max_four min_four   -- for this text's walks alone

attribute [local go_sem high] eqA52

/-! ### mootbelllaw05_pick: function 38 -/
def mootbelllaw05_pick.f (a0 : Int) (a1 : Int) : Option (Int) := if a0 < 0 then (if a1 = 0 then (none) else (some (Int.tmod (wrap64 (-(wrap64 (a0 + 1)))) a1))) else (if a1 = 0 then (none) else (some (Int.tmod a0 a1)))
set_option maxHeartbeats 8000000 in
set_option maxRecDepth 100000 in
theorem mootbelllaw05_pick.calls (a0 : Int) (a1 : Int) (r : Int) (w : World) (h : mootbelllaw05_pick.f a0 a1 = some r) :
    Calls Try.prog 38 #[.int .i64 a0, .int .i64 a1] w fun e w' => e = .returned (.int .i64 r) ∧ Drawn0 w w' := by
  have H : (if a0 < 0 then (if a1 = 0 then (none) else (some (Int.tmod (wrap64 (-(wrap64 (a0 + 1)))) a1))) else (if a1 = 0 then (none) else (some (Int.tmod a0 a1)))) = some r := h
  clear h
  by_cases c3 : a0 < 0
  · rw [if_pos c3] at H
    have c3b0 : decide (a0 < 0) = true := decide_eq_true c3
    clear c3
    by_cases c4 : a1 = 0
    · rw [if_pos c4] at H
      exact absurd H (by simp)
    · rw [if_neg c4] at H
      have c4b0 : (a1 == 0) = false := beq_eq_false_iff_ne.mpr c4
      have c4b1 : (a1 != 0) = true := bne_iff_ne.mpr c4
      obtain rfl := Option.some.inj H
      go_enter Try.func38, Try.ntmps38
      go_wp2
      go_ret
      exact ⟨by first | rfl | (simp; done) | (simp [*]; done), by repeat (first | exact Drawn0.refl _ | apply Drawn0.step)⟩
  · rw [if_neg c3] at H
    have c3b0 : decide (a0 < 0) = false := decide_eq_false c3
    clear c3
    by_cases c5 : a1 = 0
    · rw [if_pos c5] at H
      exact absurd H (by simp)
    · rw [if_neg c5] at H
      have c5b0 : (a1 == 0) = false := beq_eq_false_iff_ne.mpr c5
      have c5b1 : (a1 != 0) = true := bne_iff_ne.mpr c5
      obtain rfl := Option.some.inj H
      go_enter Try.func38, Try.ntmps38
      go_wp2
      go_ret
      exact ⟨by first | rfl | (simp; done) | (simp [*]; done), by repeat (first | exact Drawn0.refl _ | apply Drawn0.step)⟩
end Go.Proofs.Ytnfglkgkdechlaa.PQ

namespace Go.Proofs.Ytnfglkgkdechlaa.PQ
open Go.RowKit Go.Proofs.YtnfglkgkdechlaaW.PrintWords Go.Proofs.YtnfglkgkdechlaaW.PrintLast Go.Proofs.YtnfglkgkdechlaaW.PrintMore
attribute [local go_sem] max2_int min2_int max_two min_two max_three min_three max_four min_four   -- for this text's walks alone

attribute [local go_sem high] eqA52

/-! ### mootbelllaw07_pick: function 20 -/
def mootbelllaw07_pick.f (a0 : Int) (a1 : Int) : Option (Int) := if a0 < 0 then (if a1 = 0 then (none) else (some (Int.tmod (wrap64 (-(wrap64 (a0 + 1)))) a1))) else (if a1 = 0 then (none) else (some (Int.tmod a0 a1)))
set_option maxHeartbeats 8000000 in
set_option maxRecDepth 100000 in
theorem mootbelllaw07_pick.calls (a0 : Int) (a1 : Int) (r : Int) (w : World) (h : mootbelllaw07_pick.f a0 a1 = some r) :
    Calls Try.prog 20 #[.int .i64 a0, .int .i64 a1] w fun e w' => e = .returned (.int .i64 r) ∧ Drawn0 w w' := by
  have H : (if a0 < 0 then (if a1 = 0 then (none) else (some (Int.tmod (wrap64 (-(wrap64 (a0 + 1)))) a1))) else (if a1 = 0 then (none) else (some (Int.tmod a0 a1)))) = some r := h
  clear h
  by_cases c3 : a0 < 0
  · rw [if_pos c3] at H
    have c3b0 : decide (a0 < 0) = true := decide_eq_true c3
    clear c3
    by_cases c4 : a1 = 0
    · rw [if_pos c4] at H
      exact absurd H (by simp)
    · rw [if_neg c4] at H
      have c4b0 : (a1 == 0) = false := beq_eq_false_iff_ne.mpr c4
      have c4b1 : (a1 != 0) = true := bne_iff_ne.mpr c4
      obtain rfl := Option.some.inj H
      go_enter Try.func20, Try.ntmps20
      go_wp2
      go_ret
      exact ⟨by first | rfl | (simp; done) | (simp [*]; done), by repeat (first | exact Drawn0.refl _ | apply Drawn0.step)⟩
  · rw [if_neg c3] at H
    have c3b0 : decide (a0 < 0) = false := decide_eq_false c3
    clear c3
    by_cases c5 : a1 = 0
    · rw [if_pos c5] at H
      exact absurd H (by simp)
    · rw [if_neg c5] at H
      have c5b0 : (a1 == 0) = false := beq_eq_false_iff_ne.mpr c5
      have c5b1 : (a1 != 0) = true := bne_iff_ne.mpr c5
      obtain rfl := Option.some.inj H
      go_enter Try.func20, Try.ntmps20
      go_wp2
      go_ret
      exact ⟨by first | rfl | (simp; done) | (simp [*]; done), by repeat (first | exact Drawn0.refl _ | apply Drawn0.step)⟩
end Go.Proofs.Ytnfglkgkdechlaa.PQ

namespace Go.Proofs.Ytnfglkgkdechlaa.PQ
open Go.RowKit Go.Proofs.YtnfglkgkdechlaaW.PrintWords Go.Proofs.YtnfglkgkdechlaaW.PrintLast Go.Proofs.YtnfglkgkdechlaaW.PrintMore
attribute [local go_sem] max2_int min2_int max_two min_two max_three min_three max_four min_four   -- for this text's walks alone

attribute [local go_sem high] eqA52

/-! ### mootbelllaw15_pick: function 14 -/
def mootbelllaw15_pick.f (a0 : Int) (a1 : Int) : Option (Int) := if a0 < 0 then (if a1 = 0 then (none) else (some (Int.tmod (wrap64 (-(wrap64 (a0 + 1)))) a1))) else (if a1 = 0 then (none) else (some (Int.tmod a0 a1)))
set_option maxHeartbeats 8000000 in
set_option maxRecDepth 100000 in
theorem mootbelllaw15_pick.calls (a0 : Int) (a1 : Int) (r : Int) (w : World) (h : mootbelllaw15_pick.f a0 a1 = some r) :
    Calls Try.prog 14 #[.int .i64 a0, .int .i64 a1] w fun e w' => e = .returned (.int .i64 r) ∧ Drawn0 w w' := by
  have H : (if a0 < 0 then (if a1 = 0 then (none) else (some (Int.tmod (wrap64 (-(wrap64 (a0 + 1)))) a1))) else (if a1 = 0 then (none) else (some (Int.tmod a0 a1)))) = some r := h
  clear h
  by_cases c3 : a0 < 0
  · rw [if_pos c3] at H
    have c3b0 : decide (a0 < 0) = true := decide_eq_true c3
    clear c3
    by_cases c4 : a1 = 0
    · rw [if_pos c4] at H
      exact absurd H (by simp)
    · rw [if_neg c4] at H
      have c4b0 : (a1 == 0) = false := beq_eq_false_iff_ne.mpr c4
      have c4b1 : (a1 != 0) = true := bne_iff_ne.mpr c4
      obtain rfl := Option.some.inj H
      go_enter Try.func14, Try.ntmps14
      go_wp2
      go_ret
      exact ⟨by first | rfl | (simp; done) | (simp [*]; done), by repeat (first | exact Drawn0.refl _ | apply Drawn0.step)⟩
  · rw [if_neg c3] at H
    have c3b0 : decide (a0 < 0) = false := decide_eq_false c3
    clear c3
    by_cases c5 : a1 = 0
    · rw [if_pos c5] at H
      exact absurd H (by simp)
    · rw [if_neg c5] at H
      have c5b0 : (a1 == 0) = false := beq_eq_false_iff_ne.mpr c5
      have c5b1 : (a1 != 0) = true := bne_iff_ne.mpr c5
      obtain rfl := Option.some.inj H
      go_enter Try.func14, Try.ntmps14
      go_wp2
      go_ret
      exact ⟨by first | rfl | (simp; done) | (simp [*]; done), by repeat (first | exact Drawn0.refl _ | apply Drawn0.step)⟩
end Go.Proofs.Ytnfglkgkdechlaa.PQ


/- Raw tokens (chapter 5's statements). -/
namespace Go.Proofs.Ytnfglkgkdechlaa
open Go.RowKit Go.Proofs.YtnfglkgkdechlaaW.PrintWords Go.Proofs.YtnfglkgkdechlaaW.PrintLast Go.Proofs.YtnfglkgkdechlaaW.PrintMore

open Go.Proofs.Ytnfglkgkdechlaa.PQ Go.Proofs.YtnfglkgkdechlaaW.PrintLast

def In64 (c : Int) : Prop := -9223372036854775808 ≤ c ∧ c ≤ 9223372036854775807
def pickZ (c n : Int) : Int := Int.tmod (if c < 0 then -(c + 1) else c) n
theorem w64 {x : Int} (h : In64 x) : wrap64 x = x := by
  rw [← i64_w]
  exact IntWalk.i64_in _ h
theorem pick5_f (c n : Int) (hc : In64 c) (hn : 0 < n) : mootbelllaw05_pick.f c n = some (pickZ c n) := by
  unfold mootbelllaw05_pick.f pickZ
  unfold In64 at hc
  by_cases h : c < 0
  · rw [if_pos h, if_neg (by omega), if_pos h, w64 (x := c + 1) (by unfold In64; omega), w64 (x := -(c + 1)) (by unfold In64; omega)]
  · rw [if_neg h, if_neg (by omega), if_neg h]
theorem pick7_f (c n : Int) (hc : In64 c) (hn : 0 < n) : mootbelllaw07_pick.f c n = some (pickZ c n) := by
  unfold mootbelllaw07_pick.f pickZ
  unfold In64 at hc
  by_cases h : c < 0
  · rw [if_pos h, if_neg (by omega), if_pos h, w64 (x := c + 1) (by unfold In64; omega), w64 (x := -(c + 1)) (by unfold In64; omega)]
  · rw [if_neg h, if_neg (by omega), if_neg h]
theorem pick15_f (c n : Int) (hc : In64 c) (hn : 0 < n) : mootbelllaw15_pick.f c n = some (pickZ c n) := by
  unfold mootbelllaw15_pick.f pickZ
  unfold In64 at hc
  by_cases h : c < 0
  · rw [if_pos h, if_neg (by omega), if_pos h, w64 (x := c + 1) (by unfold In64; omega), w64 (x := -(c + 1)) (by unfold In64; omega)]
  · rw [if_neg h, if_neg (by omega), if_neg h]
theorem pickZ_lt (c n : Int) (hn : 0 < n) : 0 ≤ pickZ c n ∧ pickZ c n < n := by
  unfold pickZ
  have h0 : 0 ≤ (if c < 0 then -(c + 1) else c) := by split <;> omega
  rw [Int.tmod_eq_emod_of_nonneg h0]
  exact ⟨Int.emod_nonneg _ (by omega), Int.emod_lt_of_pos _ hn⟩
theorem tdiv_in {c : Int} (h : In64 c) : In64 (c.tdiv 16) := by
  unfold In64 at *
  by_cases h0 : 0 ≤ c
  · rw [Int.tdiv_eq_ediv_of_nonneg h0]
    omega
  · have e : c.tdiv 16 = -((-c) / 16) := by rw [← Int.tdiv_eq_ediv_of_nonneg (by omega : 0 ≤ -c), ← Int.neg_tdiv, Int.neg_neg]
    omega
theorem pick5E (c n r : Int) (hc : In64 c) (hn : 0 < n) (w : World) (h : pickZ c n = r) : Calls Try.prog 38 #[.int .i64 c, .int .i64 n] w fun e w' => e = .returned (.int .i64 r) ∧ Below w.heap.size w w' :=
  (mootbelllaw05_pick.calls c n r w (by rw [pick5_f c n hc hn, h])).mono fun e w' hh => ⟨hh.1, hh.2.below⟩
/-- The pair of a raw number, and where Token puts it: behind all that it is not ahead of. -/
def rawP (x : Int) : Pr := ⟨pickZ x 12, pickZ (x.tdiv 16) 3⟩
def posT (l : List Pr) (p : Pr) : Nat → Nat
  | 0 => 0
  | k + 1 => if ltP p (rdP l (k : Int)) = true then posT l p k else k + 1
theorem posT_le (l : List Pr) (p : Pr) : ∀ k, posT l p k ≤ k
  | 0 => Nat.le_refl _
  | k + 1 => by
    unfold posT
    split
    · exact Nat.le_succ_of_le (posT_le l p k)
    · exact Nat.le_refl _
def insT (l : List Pr) (p : Pr) : List Pr := l.take (posT l p l.length) ++ p :: l.drop (posT l p l.length)
theorem insT_R {l : List Pr} {m : Pr} {p b e : Nat} {w : World} {ok : Nat → Prop} {v : Value} (h : kP.R e w b ok v (l.take p ++ [m] ++ l.drop p)) (hp : p = posT l m l.length) : kP.R e w b ok v (insT l m) := by
  subst hp
  rw [List.append_assoc] at h
  exact h
theorem insT_len (l : List Pr) (p : Pr) : (insT l p).length = l.length + 1 := by
  have := posT_le l p l.length
  unfold insT
  rw [List.length_append, List.length_cons, List.length_take, List.length_drop]
  omega
def tokR (raw : List Int) : List Pr := (raw.take 30).foldl (fun l x => insT l (rawP x)) []
theorem tokR_len (raw : List Int) : ∀ (xs : List Int) (l : List Pr), (xs.foldl (fun l x => insT l (rawP x)) l).length = l.length + xs.length
  | [], l => by simp
  | x :: r, l => by
    rw [List.foldl_cons, tokR_len raw r, insT_len]
    simp
    omega
set_option maxRecDepth 100000 in
set_option maxHeartbeats 8000000 in
theorem lToken (A : Option Addr) (n c : Nat) (raw : List Int) (f : Bool) (w : World) (hA : (Kd.int .i64).C w A n raw) (hc : n ≤ c) (hi : ∀ x ∈ raw, In64 x) : Calls Try.prog 28 #[.slice A n c, .bool f] w
    fun r w' => ∃ v, r = .returned (.agg #[.bool f, v]) ∧ kP.R 52 w' w.heap.size (fun _ => True) v (tokR raw) ∧ Below w.heap.size w w' := by
  have HN := Aside0.mk (show n = raw.length from (Kd.C_len hA).symm)
  have hn63 : n ≤ 9223372036854775807 := by rw [HN.out]; exact Kd.C_len hA ▸ Kd.C_max hA
  have HX := Aside0.mk hA
  have HI := Aside0.mk hi
  clear hA hi
  go_enter Try.func28, Try.ntmps28
  go_wp2
  obtain ⟨W0, hW0⟩ : ∃ W, w.alloc (.cells #[.bool false, .slice none 0 0] 30) = W := ⟨_, rfl⟩
  rw [hW0]
  obtain ⟨W, hW⟩ : ∃ W, W0.alloc (.cells #[.bool f, .slice none 0 0] 30) = W := ⟨_, rfl⟩
  rw [hW]
  obtain ⟨s, hs⟩ : ∃ s, w.heap.size = s := ⟨_, rfl⟩
  have hs0 : W0.heap.size = s + 1 := by rw [← hW0, size_alloc, hs]
  have hs1 : W.heap.size = s + 2 := by rw [← hW, size_alloc, hs0]
  have b0 : Box W0 s #[.bool false, .slice none 0 0] 30 := hs ▸ hW0 ▸ Box.new
  have bR := Aside0.mk (hW ▸ b0.alloc : Box W s _ _)
  have bT := Aside0.mk (hs0 ▸ hW ▸ Box.new : Box W (s + 1) #[.bool f, .slice none 0 0] 30)
  have HB := Aside0.mk (hW ▸ below_alloc (hW0 ▸ below_alloc (Below.refl _ _) _) _ : Below w.heap.size w W)
  rw [hs]
  have HS := Aside0.mk (And.intro hs hs1)
  clear hW0 hW b0 hs0 hs hs1
  go_loopw [6] (fun v6 wx => ∃ (i : Nat) (v : Value), i ≤ n ∧ i ≤ 30 ∧ v6 = .int .i64 i ∧ Box wx (s + 1) #[.bool f, v] 30 ∧ kP.R 52 wx (s + 2) (fun _ => True) v ((raw.take i).foldl (fun l x => insT l (rawP x)) []) ∧ Box wx s #[.bool false, .slice none 0 0] 30 ∧ Below w.heap.size w wx) (fun v6 _ => 30 - (intOf v6).toNat)
  case atStart => exact ⟨0, .slice none 0 0, by omega, by omega, rfl, bT.out, Kd.R_nil _ _ _ _ _, bR.out, HB.out⟩
  case round =>
    clear HB bR bT
    obtain ⟨i, v, hi, hi30, rfl, hT, hO, hR, hb⟩ := hrel
    obtain ⟨Ao, co, rfl⟩ := Kd.R_slice hO
    by_cases hlt : i < n ∧ i < 30
    · obtain ⟨z, hz⟩ : ∃ z : Int, (i : Int) = z := ⟨_, rfl⟩
      have hil : i < raw.length := by rw [← HN.out]; exact hlt.1
      obtain ⟨x, hx⟩ : ∃ x, rd raw z = x := ⟨_, rfl⟩
      have hxe : raw[i] = x := by
        rw [← hx, ← hz]
        unfold rd
        rw [Int.toNat_natCast, List.getD_eq_getElem?_getD, List.getElem?_eq_getElem hil]
        rfl
      have HF := Aside0.mk (show (raw.take (i + 1)).foldl (fun l x => insT l (rawP x)) [] = insT ((raw.take i).foldl (fun l x => insT l (rawP x)) []) (rawP x) by rw [List.take_succ_eq_append_getElem hil, List.foldl_append, hxe]; rfl)
      have HLN := Aside0.mk (show ((raw.take i).foldl (fun l x => insT l (rawP x)) []).length ≤ 30 by rw [tokR_len raw, List.length_take]; simp; omega)
      have HXI := Aside0.mk (HI.out x (by rw [← hxe]; exact List.getElem_mem hil))
      generalize ((raw.take i).foldl (fun l x => insT l (rawP x)) []) = l at *
      obtain ⟨ln, hln⟩ : ∃ q, l.length = q := ⟨_, rfl⟩
      rw [hln] at HLN hT hO
      have HL := Aside0.mk hln
      clear hln
      rw [hz]
      have hz0 : 0 ≤ z := by omega
      have hz1 : z < (n : Int) := by omega
      have hz2 : z < 30 := by omega
      have hd1 : decide (z < (n : Int)) = true := decide_eq_true hz1
      have hd2 : decide (z < 30) = true := decide_eq_true hz2
      obtain ⟨ad, rfl, rX⟩ := Kd.at_int (Kd.C_below HX.out hb) z hz0 hz1
      rw [hx] at rX
      have kX := cell_lt rX
      have HZ := Aside0.mk hz
      obtain ⟨p0, hp0⟩ : ∃ p, pickZ x 12 = p := ⟨_, rfl⟩
      obtain ⟨y, hy⟩ : ∃ y, x.tdiv 16 = y := ⟨_, rfl⟩
      have hyi := tdiv_in HXI.out
      rw [hy] at hyi
      have HYI := Aside0.mk hyi
      have hwq : IntKind.i64.wrap (x.tdiv 16) = y := by rw [hy]; exact IntWalk.i64_in _ hyi
      obtain ⟨p1, hp1⟩ : ∃ p, pickZ y 3 = p := ⟨_, rfl⟩
      have q0 := pickZ_lt x 12 (by omega)
      have q1 := pickZ_lt y 3 (by omega)
      rw [hp0] at q0
      rw [hp1] at q1
      have HP := Aside0.mk (And.intro hp0 hp1)
      have HPE := Aside0.mk (show rawP x = ⟨p0, p1⟩ by unfold rawP; rw [hp0, hy, hp1])
      have hc0 : IntKind.u64.wrap p0 = p0 := by rw [IntKind.wrap_u64]; omega
      have hc1 : IntKind.u64.wrap p1 = p1 := by rw [IntKind.wrap_u64]; omega
      have HT := Aside0.mk hT
      have HO := Aside0.mk hO
      have HR := Aside0.mk hR
      have HB := Aside0.mk hb
      clear hy hyi hz hx hxe hp0 hp1 hT hO hR hb hil hlt q0 q1
      go_upto_region 5 with (fail)
      go_cut [6, 7] (fun v6 v7 wd => ∃ B, v6 = .int .i64 z ∧ v7 = .pointer (some ⟨B, 0, none⟩) ∧ wr.heap.size ≤ B ∧ Box wd B #[.int .u64 p0, .int .u64 p1] 52 ∧ Below wr.heap.size wr wd)
      case first =>
        refine wp_region_last_drew (S := (fun w' => Below wr.heap.size wr w' ∧ (w'.cell? ((ad.add z.toNat)) = some (.int .i64 x)))) (ds := [15]) (by kernel_rfl) ?hS10x0 (fun hHeld => ?hR10x0)
        case hS10x0 => ((try dsimp only); (first | exact ⟨below_drew1 (Below.refl _ _), rX⟩ | exact ⟨below_drew1 b0_, rX⟩ | exact ⟨j0, jX⟩ | exact ⟨below_alloc j0 _, (cell_alloc_oldp (Nat.lt_of_lt_of_le kX j0.size)).trans jX⟩ | exact ⟨below_alloc (below_drew1 (Below.refl _ _)) _, (cell_alloc_oldp kX).trans rX⟩ | assumption))
        refine wpAnyLast_take (i := 0) (oi := ⟨some 21, _, _, _, _, _⟩) (v := ?_) rfl (by kernel_rfl) (by kernel_rfl) (by kernel_rfl) (by kernel_rfl) (by kernel_rfl) (fun _ _ _ h => h) (Or.inl ⟨by rfl, ?hY10x2⟩) (by assumption) ?hR10x2
        case hY10x2 => (intro w hSw; (try dsimp only at hSw); go_simp; try with_reducible rfl)
        (try simp only [Act.put, qa_, qb_, qc_])
        refine wpAnyLast_take (i := 1) (oi := ⟨some 22, _, _, _, _, _⟩) (v := ?_) rfl (by kernel_rfl) (by kernel_rfl) (by kernel_rfl) (by kernel_rfl) (by kernel_rfl) (fun _ _ _ h => h) (Or.inl ⟨by rfl, ?hY10x3⟩) (by assumption) ?hR10x3
        case hY10x3 => (intro w hSw; (try dsimp only at hSw); go_simp; try with_reducible rfl)
        (try simp only [Act.put, qa_, qb_, qc_])
        refine wpAnyLast_take (i := 2) (oi := ⟨some 23, _, _, _, _, _⟩) (v := ?_) rfl (by kernel_rfl) (by kernel_rfl) (by kernel_rfl) (by kernel_rfl) (by kernel_rfl) (fun _ _ _ h => h) (Or.inl ⟨by rfl, ?hY10x4⟩) (by assumption) ?hR10x4
        case hY10x4 => (intro w hSw; (try dsimp only at hSw); go_simp; try with_reducible rfl)
        (try simp only [Act.put, qa_, qb_, qc_])
        refine wpAnyLast_take (i := 3) (oi := ⟨some 24, _, _, _, _, _⟩) (v := ?_) rfl (by kernel_rfl) (by kernel_rfl) (by kernel_rfl) (by kernel_rfl) (by kernel_rfl) (fun _ _ _ h => h) (Or.inl ⟨by rfl, ?hY10x5⟩) (by assumption) ?hR10x5
        case hY10x5 => (intro w hSw; (try dsimp only at hSw); go_simp; try with_reducible rfl)
        (try simp only [Act.put, qa_, qb_, qc_])
        refine wpAnyLast_take (i := 6) (oi := ⟨some 27, _, _, _, _, _⟩) (v := ?_) rfl (by kernel_rfl) (by kernel_rfl) (by kernel_rfl) (by kernel_rfl) (by kernel_rfl) (fun _ _ _ h => h) (Or.inl ⟨by rfl, ?hY10x6⟩) (by assumption) ?hR10x6
        case hY10x6 => (intro w hSw; (try dsimp only at hSw); go_simp; try with_reducible rfl)
        (try simp only [Act.put, qa_, qb_, qc_])
        refine wpAnyLast_take (i := 7) (oi := ⟨some 28, _, _, _, _, _⟩) (v := ?_) rfl (by kernel_rfl) (by kernel_rfl) (by kernel_rfl) (by kernel_rfl) (by kernel_rfl) (fun _ _ _ h => h) (Or.inl ⟨by rfl, ?hY10x7⟩) (by assumption) ?hR10x7
        case hY10x7 => (intro w hSw; (try dsimp only at hSw); go_simp; try with_reducible rfl)
        (try simp only [Act.put, qa_, qb_, qc_])
        refine wpAnyLast_take (i := 8) (oi := ⟨some 29, _, _, _, _, _⟩) (v := ?_) rfl (by kernel_rfl) (by kernel_rfl) (by kernel_rfl) (by kernel_rfl) (by kernel_rfl) (fun _ _ _ h => h) (Or.inl ⟨by rfl, ?hY10x8⟩) (by assumption) ?hR10x8
        case hY10x8 => (intro w hSw; (try dsimp only at hSw); go_simp; try with_reducible rfl)
        (try simp only [Act.put, qa_, qb_, qc_])
        refine wpAnyLast_take (i := 9) (oi := ⟨some 30, _, _, _, _, _⟩) (v := ?_) rfl (by kernel_rfl) (by kernel_rfl) (by kernel_rfl) (by kernel_rfl) (by kernel_rfl) (fun _ _ _ h => h) (Or.inl ⟨by rfl, ?hY10x9⟩) (by assumption) ?hR10x9
        case hY10x9 => (intro w hSw; (try dsimp only at hSw); go_simp; try with_reducible rfl)
        (try simp only [Act.put, qa_, qb_, qc_])
        refine wpAnyLast_take (i := 10) (oi := ⟨some 31, _, _, _, _, _⟩) (v := ?_) rfl (by kernel_rfl) (by kernel_rfl) (by kernel_rfl) (by kernel_rfl) (by kernel_rfl) (fun _ _ _ h => h) (Or.inl ⟨by rfl, ?hY10x10⟩) (by assumption) ?hR10x10
        case hY10x10 => (intro w hSw; (try dsimp only at hSw); go_simp; try with_reducible rfl)
        (try simp only [Act.put, qa_, qb_, qc_])
        refine wpAnyLast_ready (rs := [4, 14]) (by kernel_rfl) (by simp) ?_
        refine AllReadyL.cons (o := ⟨some 25, _, _, _, _, _⟩) rfl (by decide) (fun K hK => ?hT10x110) (AllReadyL.cons (o := ⟨some 7, _, _, _, _, _⟩) rfl (by decide) (fun K hK => ?hT10x111) (AllReadyL.nil))
        case hT10x110 =>
          go_simp
          (first | (go_at_call 38; obtain ⟨g0, gX⟩ := ‹Below wr.heap.size wr _ ∧ _›; ((with_reducible refine (pick5E x 12 p0 HXI.out (by omega) _ HP.out.1).mono ?_));  rintro e w5 ⟨rfl, hb_⟩; have j0 := below_step g0 hb_; have s5 := j0.size; have jX := (j0.cell (p := (ad.add z.toNat)) kX).trans rX; (try first | have bq5 := Box.below Box.new hb_ | have bq5 := Box.below (Box.drew Box.new) hb_); (try have rq5 := bq5.cell); (try have fq5 := bq5.frozen)) | (go_at_call 38; obtain ⟨g0, gX⟩ := ‹Below wr.heap.size wr _ ∧ _›; ((with_reducible refine (pick5E y 3 p1 HYI.out (by omega) _ HP.out.2).mono ?_));  rintro e w6 ⟨rfl, hb_⟩; have j0 := below_step g0 hb_; have s6 := j0.size; have jX := (j0.cell (p := (ad.add z.toNat)) kX).trans rX; (try first | have bq6 := Box.below Box.new hb_ | have bq6 := Box.below (Box.drew Box.new) hb_ | have bq6 := Box.below bq5 hb_); (try have rq6 := bq6.cell); (try have fq6 := bq6.frozen)))
          (try go_wp2_with fail)
          refine hK.out _ _ ?hS10x12 (fun hHeld => ?hR10x12)
          case hS10x12 => ((try dsimp only); (first | exact ⟨below_drew1 (Below.refl _ _), rX⟩ | exact ⟨below_drew1 b0_, rX⟩ | exact ⟨j0, jX⟩ | exact ⟨below_alloc j0 _, (cell_alloc_oldp (Nat.lt_of_lt_of_le kX j0.size)).trans jX⟩ | exact ⟨below_alloc (below_drew1 (Below.refl _ _)) _, (cell_alloc_oldp kX).trans rX⟩ | assumption))
          clear hK K
          (try simp only [Act.put, qa_, qb_, qc_])
          refine wpAnyLast_take (i := 5) (oi := ⟨some 26, _, _, _, _, _⟩) (v := ?_) rfl (by kernel_rfl) (by kernel_rfl) (by kernel_rfl) (by kernel_rfl) (by kernel_rfl) (fun _ _ _ h => h) (Or.inl ⟨by rfl, ?hY10x13⟩) (by assumption) ?hR10x13
          case hY10x13 => (intro w hSw; (try dsimp only at hSw); go_simp; try with_reducible rfl)
          (try simp only [Act.put, qa_, qb_, qc_])
          refine wpAnyLast_ready (rs := [11, 14]) (by kernel_rfl) (by simp) ?_
          refine AllReadyL.cons (o := ⟨some 32, _, _, _, _, _⟩) rfl (by decide) (fun K hK => ?hT10x140) (AllReadyL.cons (o := ⟨some 7, _, _, _, _, _⟩) rfl (by decide) (fun K hK => ?hT10x141) (AllReadyL.nil))
          case hT10x140 =>
            go_simp
            (first | (go_at_call 38; obtain ⟨g0, gX⟩ := ‹Below wr.heap.size wr _ ∧ _›; ((with_reducible refine (pick5E x 12 p0 HXI.out (by omega) _ HP.out.1).mono ?_));  rintro e w5 ⟨rfl, hb_⟩; have j0 := below_step g0 hb_; have s5 := j0.size; have jX := (j0.cell (p := (ad.add z.toNat)) kX).trans rX; (try first | have bq5 := Box.below Box.new hb_ | have bq5 := Box.below (Box.drew Box.new) hb_); (try have rq5 := bq5.cell); (try have fq5 := bq5.frozen)) | (go_at_call 38; obtain ⟨g0, gX⟩ := ‹Below wr.heap.size wr _ ∧ _›; ((with_reducible refine (pick5E y 3 p1 HYI.out (by omega) _ HP.out.2).mono ?_));  rintro e w6 ⟨rfl, hb_⟩; have j0 := below_step g0 hb_; have s6 := j0.size; have jX := (j0.cell (p := (ad.add z.toNat)) kX).trans rX; (try first | have bq6 := Box.below Box.new hb_ | have bq6 := Box.below (Box.drew Box.new) hb_ | have bq6 := Box.below bq5 hb_); (try have rq6 := bq6.cell); (try have fq6 := bq6.frozen)))
            (try go_wp2_with fail)
            refine hK.out _ _ ?hS10x15 (fun hHeld => ?hR10x15)
            case hS10x15 => ((try dsimp only); (first | exact ⟨below_drew1 (Below.refl _ _), rX⟩ | exact ⟨below_drew1 b0_, rX⟩ | exact ⟨j0, jX⟩ | exact ⟨below_alloc j0 _, (cell_alloc_oldp (Nat.lt_of_lt_of_le kX j0.size)).trans jX⟩ | exact ⟨below_alloc (below_drew1 (Below.refl _ _)) _, (cell_alloc_oldp kX).trans rX⟩ | assumption))
            clear hK K
            (try simp only [Act.put, qa_, qb_, qc_])
            refine wpAnyLast_take (i := 12) (oi := ⟨some 33, _, _, _, _, _⟩) (v := ?_) rfl (by kernel_rfl) (by kernel_rfl) (by kernel_rfl) (by kernel_rfl) (by kernel_rfl) (fun _ _ _ h => h) (Or.inl ⟨by rfl, ?hY10x16⟩) (by assumption) ?hR10x16
            case hY10x16 => (intro w hSw; (try dsimp only at hSw); go_simp; try with_reducible rfl)
            (try simp only [Act.put, qa_, qb_, qc_])
            refine wpAnyLast_take (i := 13) (oi := ⟨some 34, _, _, _, _, _⟩) (v := ?_) rfl (by kernel_rfl) (by kernel_rfl) (by kernel_rfl) (by kernel_rfl) (by kernel_rfl) (fun _ _ _ h => h) (Or.inl ⟨by rfl, ?hY10x17⟩) (by assumption) ?hR10x17
            case hY10x17 => (intro w hSw; (try dsimp only at hSw); go_simp; try with_reducible rfl)
            (try simp only [Act.put, qa_, qb_, qc_])
            refine wpAnyLast_ready (rs := [14]) (by kernel_rfl) (by simp) ?_
            refine AllReadyL.cons (o := ⟨some 7, _, _, _, _, _⟩) rfl (by decide) (fun K hK => ?hT10x18) ?hM10x18
            case hM10x18 => exact AllReadyL.nil
            go_simp
            (try go_wp2_with fail)
            refine hK.out _ _ ?hS10x18 (fun hHeld => ?hR10x18)
            case hS10x18 => ((try dsimp only); (first | exact ⟨below_drew1 (Below.refl _ _), rX⟩ | exact ⟨below_drew1 b0_, rX⟩ | exact ⟨j0, jX⟩ | exact ⟨below_alloc j0 _, (cell_alloc_oldp (Nat.lt_of_lt_of_le kX j0.size)).trans jX⟩ | exact ⟨below_alloc (below_drew1 (Below.refl _ _)) _, (cell_alloc_oldp kX).trans rX⟩ | assumption))
            clear hK K
            (try simp only [Act.put, qa_, qb_, qc_])
            refine wpAnyLast_ready (rs := [15]) (by kernel_rfl) (by simp) ?_
            refine AllReadyL.cons_last (o := ⟨none, _, _, _, _, _⟩) rfl (by decide) (fun K hK => ?hT10x19) ?hM10x19
            case hM10x19 => exact AllReadyL.nil
            go_simp
            (try go_wp2_with fail)
            refine hK.out _ _ ?hR10x19
            clear hK K
            (try simp only [Act.put, qa_, qb_, qc_])
            refine wpAnyLast_done (by kernel_rfl) ?_ _
            go_wp2
            go_meet
            case rel =>
              first
                | exact ⟨w6.heap.size, rfl, rfl, j0.size, Box.new, below_alloc j0 _⟩
                | exact ⟨w5.heap.size, rfl, rfl, s5, Box.two bq6, below_set (below_set j0 (by first | omega | (simp only; omega))) (by first | omega | (simp only; omega))⟩
                | exact ⟨wr.heap.size, rfl, rfl, Nat.le_refl _, Box.two bq6, below_set (below_set j0 (by first | omega | (simp only; omega))) (by first | omega | (simp only; omega))⟩
          case hT10x141 =>
            go_simp
            (try go_wp2_with fail)
            refine hK.out _ _ ?hS10x20 (fun hHeld => ?hR10x20)
            case hS10x20 => ((try dsimp only); (first | exact ⟨below_drew1 (Below.refl _ _), rX⟩ | exact ⟨below_drew1 b0_, rX⟩ | exact ⟨j0, jX⟩ | exact ⟨below_alloc j0 _, (cell_alloc_oldp (Nat.lt_of_lt_of_le kX j0.size)).trans jX⟩ | exact ⟨below_alloc (below_drew1 (Below.refl _ _)) _, (cell_alloc_oldp kX).trans rX⟩ | assumption))
            clear hK K
            (try simp only [Act.put, qa_, qb_, qc_])
            refine wpAnyLast_ready (rs := [11]) (by kernel_rfl) (by simp) ?_
            refine AllReadyL.cons (o := ⟨some 32, _, _, _, _, _⟩) rfl (by decide) (fun K hK => ?hT10x21) ?hM10x21
            case hM10x21 => exact AllReadyL.nil
            go_simp
            (first | (go_at_call 38; obtain ⟨g0, gX⟩ := ‹Below wr.heap.size wr _ ∧ _›; ((with_reducible refine (pick5E x 12 p0 HXI.out (by omega) _ HP.out.1).mono ?_));  rintro e w5 ⟨rfl, hb_⟩; have j0 := below_step g0 hb_; have s5 := j0.size; have jX := (j0.cell (p := (ad.add z.toNat)) kX).trans rX; (try first | have bq5 := Box.below Box.new hb_ | have bq5 := Box.below (Box.drew Box.new) hb_); (try have rq5 := bq5.cell); (try have fq5 := bq5.frozen)) | (go_at_call 38; obtain ⟨g0, gX⟩ := ‹Below wr.heap.size wr _ ∧ _›; ((with_reducible refine (pick5E y 3 p1 HYI.out (by omega) _ HP.out.2).mono ?_));  rintro e w6 ⟨rfl, hb_⟩; have j0 := below_step g0 hb_; have s6 := j0.size; have jX := (j0.cell (p := (ad.add z.toNat)) kX).trans rX; (try first | have bq6 := Box.below Box.new hb_ | have bq6 := Box.below (Box.drew Box.new) hb_ | have bq6 := Box.below bq5 hb_); (try have rq6 := bq6.cell); (try have fq6 := bq6.frozen)))
            (try go_wp2_with fail)
            refine hK.out _ _ ?hS10x21 (fun hHeld => ?hR10x21)
            case hS10x21 => ((try dsimp only); (first | exact ⟨below_drew1 (Below.refl _ _), rX⟩ | exact ⟨below_drew1 b0_, rX⟩ | exact ⟨j0, jX⟩ | exact ⟨below_alloc j0 _, (cell_alloc_oldp (Nat.lt_of_lt_of_le kX j0.size)).trans jX⟩ | exact ⟨below_alloc (below_drew1 (Below.refl _ _)) _, (cell_alloc_oldp kX).trans rX⟩ | assumption))
            clear hK K
            (try simp only [Act.put, qa_, qb_, qc_])
            refine wpAnyLast_take (i := 12) (oi := ⟨some 33, _, _, _, _, _⟩) (v := ?_) rfl (by kernel_rfl) (by kernel_rfl) (by kernel_rfl) (by kernel_rfl) (by kernel_rfl) (fun _ _ _ h => h) (Or.inl ⟨by rfl, ?hY10x22⟩) (by assumption) ?hR10x22
            case hY10x22 => (intro w hSw; (try dsimp only at hSw); go_simp; try with_reducible rfl)
            (try simp only [Act.put, qa_, qb_, qc_])
            refine wpAnyLast_take (i := 13) (oi := ⟨some 34, _, _, _, _, _⟩) (v := ?_) rfl (by kernel_rfl) (by kernel_rfl) (by kernel_rfl) (by kernel_rfl) (by kernel_rfl) (fun _ _ _ h => h) (Or.inl ⟨by rfl, ?hY10x23⟩) (by assumption) ?hR10x23
            case hY10x23 => (intro w hSw; (try dsimp only at hSw); go_simp; try with_reducible rfl)
            (try simp only [Act.put, qa_, qb_, qc_])
            refine wpAnyLast_ready (rs := [15]) (by kernel_rfl) (by simp) ?_
            refine AllReadyL.cons_last (o := ⟨none, _, _, _, _, _⟩) rfl (by decide) (fun K hK => ?hT10x24) ?hM10x24
            case hM10x24 => exact AllReadyL.nil
            go_simp
            (try go_wp2_with fail)
            refine hK.out _ _ ?hR10x24
            clear hK K
            (try simp only [Act.put, qa_, qb_, qc_])
            refine wpAnyLast_done (by kernel_rfl) ?_ _
            go_wp2
            go_meet
            case rel =>
              first
                | exact ⟨w6.heap.size, rfl, rfl, j0.size, Box.new, below_alloc j0 _⟩
                | exact ⟨w5.heap.size, rfl, rfl, s5, Box.two bq6, below_set (below_set j0 (by first | omega | (simp only; omega))) (by first | omega | (simp only; omega))⟩
                | exact ⟨wr.heap.size, rfl, rfl, Nat.le_refl _, Box.two bq6, below_set (below_set j0 (by first | omega | (simp only; omega))) (by first | omega | (simp only; omega))⟩
        case hT10x111 =>
          go_simp
          (try go_wp2_with fail)
          refine hK.out _ _ ?hS10x25 (fun hHeld => ?hR10x25)
          case hS10x25 => ((try dsimp only); (first | exact ⟨below_drew1 (Below.refl _ _), rX⟩ | exact ⟨below_drew1 b0_, rX⟩ | exact ⟨j0, jX⟩ | exact ⟨below_alloc j0 _, (cell_alloc_oldp (Nat.lt_of_lt_of_le kX j0.size)).trans jX⟩ | exact ⟨below_alloc (below_drew1 (Below.refl _ _)) _, (cell_alloc_oldp kX).trans rX⟩ | assumption))
          clear hK K
          (try simp only [Act.put, qa_, qb_, qc_])
          refine wpAnyLast_ready (rs := [4]) (by kernel_rfl) (by simp) ?_
          refine AllReadyL.cons (o := ⟨some 25, _, _, _, _, _⟩) rfl (by decide) (fun K hK => ?hT10x26) ?hM10x26
          case hM10x26 => exact AllReadyL.nil
          go_simp
          (first | (go_at_call 38; obtain ⟨g0, gX⟩ := ‹Below wr.heap.size wr _ ∧ _›; ((with_reducible refine (pick5E x 12 p0 HXI.out (by omega) _ HP.out.1).mono ?_));  rintro e w5 ⟨rfl, hb_⟩; have j0 := below_step g0 hb_; have s5 := j0.size; have jX := (j0.cell (p := (ad.add z.toNat)) kX).trans rX; (try first | have bq5 := Box.below Box.new hb_ | have bq5 := Box.below (Box.drew Box.new) hb_); (try have rq5 := bq5.cell); (try have fq5 := bq5.frozen)) | (go_at_call 38; obtain ⟨g0, gX⟩ := ‹Below wr.heap.size wr _ ∧ _›; ((with_reducible refine (pick5E y 3 p1 HYI.out (by omega) _ HP.out.2).mono ?_));  rintro e w6 ⟨rfl, hb_⟩; have j0 := below_step g0 hb_; have s6 := j0.size; have jX := (j0.cell (p := (ad.add z.toNat)) kX).trans rX; (try first | have bq6 := Box.below Box.new hb_ | have bq6 := Box.below (Box.drew Box.new) hb_ | have bq6 := Box.below bq5 hb_); (try have rq6 := bq6.cell); (try have fq6 := bq6.frozen)))
          (try go_wp2_with fail)
          refine hK.out _ _ ?hS10x26 (fun hHeld => ?hR10x26)
          case hS10x26 => ((try dsimp only); (first | exact ⟨below_drew1 (Below.refl _ _), rX⟩ | exact ⟨below_drew1 b0_, rX⟩ | exact ⟨j0, jX⟩ | exact ⟨below_alloc j0 _, (cell_alloc_oldp (Nat.lt_of_lt_of_le kX j0.size)).trans jX⟩ | exact ⟨below_alloc (below_drew1 (Below.refl _ _)) _, (cell_alloc_oldp kX).trans rX⟩ | assumption))
          clear hK K
          (try simp only [Act.put, qa_, qb_, qc_])
          refine wpAnyLast_take (i := 5) (oi := ⟨some 26, _, _, _, _, _⟩) (v := ?_) rfl (by kernel_rfl) (by kernel_rfl) (by kernel_rfl) (by kernel_rfl) (by kernel_rfl) (fun _ _ _ h => h) (Or.inl ⟨by rfl, ?hY10x27⟩) (by assumption) ?hR10x27
          case hY10x27 => (intro w hSw; (try dsimp only at hSw); go_simp; try with_reducible rfl)
          (try simp only [Act.put, qa_, qb_, qc_])
          refine wpAnyLast_ready (rs := [11]) (by kernel_rfl) (by simp) ?_
          refine AllReadyL.cons (o := ⟨some 32, _, _, _, _, _⟩) rfl (by decide) (fun K hK => ?hT10x28) ?hM10x28
          case hM10x28 => exact AllReadyL.nil
          go_simp
          (first | (go_at_call 38; obtain ⟨g0, gX⟩ := ‹Below wr.heap.size wr _ ∧ _›; ((with_reducible refine (pick5E x 12 p0 HXI.out (by omega) _ HP.out.1).mono ?_));  rintro e w5 ⟨rfl, hb_⟩; have j0 := below_step g0 hb_; have s5 := j0.size; have jX := (j0.cell (p := (ad.add z.toNat)) kX).trans rX; (try first | have bq5 := Box.below Box.new hb_ | have bq5 := Box.below (Box.drew Box.new) hb_); (try have rq5 := bq5.cell); (try have fq5 := bq5.frozen)) | (go_at_call 38; obtain ⟨g0, gX⟩ := ‹Below wr.heap.size wr _ ∧ _›; ((with_reducible refine (pick5E y 3 p1 HYI.out (by omega) _ HP.out.2).mono ?_));  rintro e w6 ⟨rfl, hb_⟩; have j0 := below_step g0 hb_; have s6 := j0.size; have jX := (j0.cell (p := (ad.add z.toNat)) kX).trans rX; (try first | have bq6 := Box.below Box.new hb_ | have bq6 := Box.below (Box.drew Box.new) hb_ | have bq6 := Box.below bq5 hb_); (try have rq6 := bq6.cell); (try have fq6 := bq6.frozen)))
          (try go_wp2_with fail)
          refine hK.out _ _ ?hS10x28 (fun hHeld => ?hR10x28)
          case hS10x28 => ((try dsimp only); (first | exact ⟨below_drew1 (Below.refl _ _), rX⟩ | exact ⟨below_drew1 b0_, rX⟩ | exact ⟨j0, jX⟩ | exact ⟨below_alloc j0 _, (cell_alloc_oldp (Nat.lt_of_lt_of_le kX j0.size)).trans jX⟩ | exact ⟨below_alloc (below_drew1 (Below.refl _ _)) _, (cell_alloc_oldp kX).trans rX⟩ | assumption))
          clear hK K
          (try simp only [Act.put, qa_, qb_, qc_])
          refine wpAnyLast_take (i := 12) (oi := ⟨some 33, _, _, _, _, _⟩) (v := ?_) rfl (by kernel_rfl) (by kernel_rfl) (by kernel_rfl) (by kernel_rfl) (by kernel_rfl) (fun _ _ _ h => h) (Or.inl ⟨by rfl, ?hY10x29⟩) (by assumption) ?hR10x29
          case hY10x29 => (intro w hSw; (try dsimp only at hSw); go_simp; try with_reducible rfl)
          (try simp only [Act.put, qa_, qb_, qc_])
          refine wpAnyLast_take (i := 13) (oi := ⟨some 34, _, _, _, _, _⟩) (v := ?_) rfl (by kernel_rfl) (by kernel_rfl) (by kernel_rfl) (by kernel_rfl) (by kernel_rfl) (fun _ _ _ h => h) (Or.inl ⟨by rfl, ?hY10x30⟩) (by assumption) ?hR10x30
          case hY10x30 => (intro w hSw; (try dsimp only at hSw); go_simp; try with_reducible rfl)
          (try simp only [Act.put, qa_, qb_, qc_])
          refine wpAnyLast_ready (rs := [15]) (by kernel_rfl) (by simp) ?_
          refine AllReadyL.cons_last (o := ⟨none, _, _, _, _, _⟩) rfl (by decide) (fun K hK => ?hT10x31) ?hM10x31
          case hM10x31 => exact AllReadyL.nil
          go_simp
          (try go_wp2_with fail)
          refine hK.out _ _ ?hR10x31
          clear hK K
          (try simp only [Act.put, qa_, qb_, qc_])
          refine wpAnyLast_done (by kernel_rfl) ?_ _
          go_wp2
          go_meet
          case rel =>
            first
              | exact ⟨w6.heap.size, rfl, rfl, j0.size, Box.new, below_alloc j0 _⟩
              | exact ⟨w5.heap.size, rfl, rfl, s5, Box.two bq6, below_set (below_set j0 (by first | omega | (simp only; omega))) (by first | omega | (simp only; omega))⟩
              | exact ⟨wr.heap.size, rfl, rfl, Nat.le_refl _, Box.two bq6, below_set (below_set j0 (by first | omega | (simp only; omega))) (by first | omega | (simp only; omega))⟩
      case rest =>
        obtain ⟨B, rfl, rfl, hB0, bE, hbc⟩ := hcut
        have HTC := Aside0.mk (HT.out.below hbc)
        have HOC := Aside0.mk (Kd.R_below HO.out hbc)
        have HRC := Aside0.mk (HR.out.below hbc)
        have HBC := Aside0.mk (below_step HB.out hbc)
        have XE := Aside0.mk bE
        have hBs : s + 2 ≤ B := by have := HT.out.lt; omega
        have hsz : s + 2 ≤ wc.heap.size := by have := bE.lt; omega
        clear HT HO HR HB hbc bE rX kX hB0
        have HXL := Aside0.mk (show kP.C wc Ao ln l from HL.out ▸ (Kd.R_reads' HOC.out).2.2)
        have hlc := (Kd.R_reads' HOC.out).2.1
        have rT := HTC.out.cell
        have t1 : wc.cell? ⟨s + 1, 1, none⟩ = some (.slice Ao ln co) := rT 1
        go_upto_block 2 with (fail)
        clear t1 rT
        go_cut [8] (fun v8 wd => ∃ p : Nat, p ≤ ln ∧ v8 = .int .i64 p ∧ p = posT l ⟨p0, p1⟩ ln ∧ Below wc.heap.size wc wd)
        case first =>
          go_wp2
          go_loopw [8] (fun iv wx => ∃ p : Nat, p ≤ ln ∧ iv = .int .i64 p ∧ posT l ⟨p0, p1⟩ p = posT l ⟨p0, p1⟩ ln ∧ Below wc.heap.size wc wx) (fun iv _ => (intOf iv).toNat)
          case atStart => exact ⟨ln, Nat.le_refl _, rfl, rfl, Below.refl _ _⟩
          case round =>
            obtain ⟨p, hp, rfl, hpp, hbx⟩ := hrel
            have HBX := Aside0.mk hbx
            have HPP := Aside0.mk hpp
            clear hbx hpp
            have rE := (Box.below XE.out HBX.out).cell
            have kE := (Box.below XE.out HBX.out).lt
            have rT := (Box.below HTC.out HBX.out).cell
            have kT := (Box.below HTC.out HBX.out).lt
            have HXW := Aside0.mk (Kd.C_below HXL.out HBX.out)
            cases p with
            | zero =>
              have hd : decide ((0 : Int) < ((0 : Nat) : Int)) = false := by decide
              have HQ := Aside0.mk (show 0 = posT l ⟨p0, p1⟩ ln from HPP.out)
              go_upto_region 7 with (fail)
              refine wp_region_held_drew (S := (fun w' => Below wr.heap.size wr w' ∧ (∀ j, w'.cell? ⟨B, j, none⟩ = (#[.int .u64 p0, .int .u64 p1] : Array Value)[j]?))) (by kernel_rfl) ?hS11x0 (fun hHeld => ?hR11x0)
              case hS11x0 => ((try dsimp only); (first | exact ⟨below_drew1 (Below.refl _ _), rE⟩ | exact ⟨below_drew1 b0_, rE⟩ | exact ⟨j0, jE⟩ | exact ⟨below_alloc j0 _, fun j => (cell_alloc_old (Nat.lt_of_lt_of_le kE j0.size)).trans (jE j)⟩ | exact ⟨below_alloc (below_drew1 (Below.refl _ _)) _, fun j => (cell_alloc_old kE).trans (rE j)⟩ | assumption))
              refine wpAnyH_take (i := 0) (oi := ⟨some 38, _, _, _, _, _⟩) (v := ?_) rfl (by kernel_rfl) (by kernel_rfl) (by kernel_rfl) (fun _ _ _ h => h) (Or.inl ⟨by rfl, ?hY11x2⟩) (by assumption) ?hR11x2
              case hY11x2 => (intro w hSw; (try dsimp only at hSw); go_simp; try with_reducible rfl)
              (try simp only [Act.put, qa_, qb_, qc_])
              refine wpAnyH_take (i := 1) (oi := ⟨some 39, _, _, _, _, _⟩) (v := ?_) rfl (by kernel_rfl) (by kernel_rfl) (by kernel_rfl) (fun _ _ _ h => h) (Or.inl ⟨by rfl, ?hY11x3⟩) (by assumption) ?hR11x3
              case hY11x3 => (intro w hSw; (try dsimp only at hSw); go_simp; try with_reducible rfl)
              (try simp only [Act.put, qa_, qb_, qc_])
              refine wpAnyH_take (i := 2) (oi := ⟨some 40, _, _, _, _, _⟩) (v := ?_) rfl (by kernel_rfl) (by kernel_rfl) (by kernel_rfl) (fun _ _ _ h => h) (Or.inl ⟨by rfl, ?hY11x4⟩) (by assumption) ?hR11x4
              case hY11x4 => (intro w hSw; (try dsimp only at hSw); go_simp; try with_reducible rfl)
              (try simp only [Act.put, qa_, qb_, qc_])
              refine wpAnyH_take (i := 3) (oi := ⟨some 41, _, _, _, _, _⟩) (v := undef) rfl (by kernel_rfl) (by kernel_rfl) (by kernel_rfl) (fun _ _ _ h => h) (Or.inr ⟨by rfl, rfl⟩) (by assumption) ?_
              (try simp only [Act.put, qa_, qb_, qc_])
              refine wpAnyH_take (i := 4) (oi := ⟨some 42, _, _, _, _, _⟩) (v := undef) rfl (by kernel_rfl) (by kernel_rfl) (by kernel_rfl) (fun _ _ _ h => h) (Or.inr ⟨by rfl, rfl⟩) (by assumption) ?_
              (try simp only [Act.put, qa_, qb_, qc_])
              refine wpAnyH_take (i := 5) (oi := ⟨some 43, _, _, _, _, _⟩) (v := undef) rfl (by kernel_rfl) (by kernel_rfl) (by kernel_rfl) (fun _ _ _ h => h) (Or.inr ⟨by rfl, rfl⟩) (by assumption) ?_
              (try simp only [Act.put, qa_, qb_, qc_])
              refine wpAnyH_take (i := 6) (oi := ⟨some 44, _, _, _, _, _⟩) (v := undef) rfl (by kernel_rfl) (by kernel_rfl) (by kernel_rfl) (fun _ _ _ h => h) (Or.inr ⟨by rfl, rfl⟩) (by assumption) ?_
              (try simp only [Act.put, qa_, qb_, qc_])
              refine wpAnyH_take (i := 7) (oi := ⟨some 45, _, _, _, _, _⟩) (v := undef) rfl (by kernel_rfl) (by kernel_rfl) (by kernel_rfl) (fun _ _ _ h => h) (Or.inr ⟨by rfl, rfl⟩) (by assumption) ?_
              (try simp only [Act.put, qa_, qb_, qc_])
              refine wpAnyH_take (i := 8) (oi := ⟨some 46, _, _, _, _, _⟩) (v := undef) rfl (by kernel_rfl) (by kernel_rfl) (by kernel_rfl) (fun _ _ _ h => h) (Or.inr ⟨by rfl, rfl⟩) (by assumption) ?_
              (try simp only [Act.put, qa_, qb_, qc_])
              refine wpAnyH_take (i := 9) (oi := ⟨some 47, _, _, _, _, _⟩) (v := undef) rfl (by kernel_rfl) (by kernel_rfl) (by kernel_rfl) (fun _ _ _ h => h) (Or.inr ⟨by rfl, rfl⟩) (by assumption) ?_
              (try simp only [Act.put, qa_, qb_, qc_])
              refine wpAnyH_take (i := 10) (oi := ⟨some 48, _, _, _, _, _⟩) (v := undef) rfl (by kernel_rfl) (by kernel_rfl) (by kernel_rfl) (fun _ _ _ h => h) (Or.inr ⟨by rfl, rfl⟩) (by assumption) ?_
              (try simp only [Act.put, qa_, qb_, qc_])
              refine wpAnyH_take (i := 11) (oi := ⟨some 49, _, _, _, _, _⟩) (v := ?_) rfl (by kernel_rfl) (by kernel_rfl) (by kernel_rfl) (fun _ _ _ h => h) (Or.inl ⟨by rfl, ?hY11x13⟩) (by assumption) ?hR11x13
              case hY11x13 => (intro w hSw; (try dsimp only at hSw); go_simp; try with_reducible rfl)
              (try simp only [Act.put, qa_, qb_, qc_])
              refine wpAnyH_done (by kernel_rfl) ?_ _
              go_wp2
              go_meet
              case rel => exact ⟨0, by omega, rfl, HQ.out, below_drew1 HBX.out⟩
            | succ k =>
              obtain ⟨z9, hz9⟩ : ∃ z : Int, ((k + 1 : Nat) : Int) = z := ⟨_, rfl⟩
              rw [hz9]
              have hd : decide ((0 : Int) < z9) = true := decide_eq_true (by omega)
              obtain ⟨z8, hz8⟩ : ∃ z0 : Int, (k : Int) = z0 := ⟨_, rfl⟩
              have hw : IntKind.i64.wrap (z9 - 1) = z8 := by rw [IntKind.wrap_i64]; have := HLN.out; omega
              have h0 : 0 ≤ z8 := by omega
              have h1 : z8 < (ln : Int) := by omega
              have HZ9 := Aside0.mk (And.intro hz9 hz8)
              obtain ⟨ad9, rfl, rC, rD⟩ := at_P HXW.out z8 h0 h1
              obtain ⟨x9, hx9⟩ : ∃ x, rdP l z8 = x := ⟨_, rfl⟩
              rw [hx9] at rC rD
              obtain ⟨b, hb⟩ : ∃ b, ltP ⟨p0, p1⟩ x9 = b := ⟨_, rfl⟩
              have HXX := Aside0.mk hx9
              have HBB := Aside0.mk hb
              have kC := cell_lt rC
              have kD := cell_lt rD
              clear hx9 hb hz9 hz8
              go_upto_region 7 with (fail)
              refine wp_region_held_drew (S := (fun w' => Below wr.heap.size wr w' ∧ (∀ j, w'.cell? ⟨B, j, none⟩ = (#[.int .u64 p0, .int .u64 p1] : Array Value)[j]?) ∧ (∀ j, w'.cell? ⟨s + 1, j, none⟩ = (#[.bool f, .slice (some ad9) ln co] : Array Value)[j]?) ∧ (w'.cell? ((ad9.add (z8.toNat * 2))) = some (.int .u64 x9.f0)) ∧ (w'.cell? ((⟨(ad9.add (z8.toNat * 2)).block, (ad9.add (z8.toNat * 2)).off + 1, none⟩ : Addr)) = some (.int .u64 x9.f1)))) (by kernel_rfl) ?hS12x0 (fun hHeld => ?hR12x0)
              case hS12x0 => ((try dsimp only); (first | exact ⟨below_drew1 (Below.refl _ _), rE, rT, rC, rD⟩ | exact ⟨below_drew1 b0_, rE, rT, rC, rD⟩ | exact ⟨j0, jE, jT, jC, jD⟩ | exact ⟨below_alloc j0 _, fun j => (cell_alloc_old (Nat.lt_of_lt_of_le kE j0.size)).trans (jE j), fun j => (cell_alloc_old (Nat.lt_of_lt_of_le kT j0.size)).trans (jT j), (cell_alloc_oldp (Nat.lt_of_lt_of_le kC j0.size)).trans jC, (cell_alloc_oldp (Nat.lt_of_lt_of_le kD j0.size)).trans jD⟩ | exact ⟨below_alloc (below_drew1 (Below.refl _ _)) _, fun j => (cell_alloc_old kE).trans (rE j), fun j => (cell_alloc_old kT).trans (rT j), (cell_alloc_oldp kC).trans rC, (cell_alloc_oldp kD).trans rD⟩ | assumption))
              refine wpAnyH_take (i := 0) (oi := ⟨some 38, _, _, _, _, _⟩) (v := ?_) rfl (by kernel_rfl) (by kernel_rfl) (by kernel_rfl) (fun _ _ _ h => h) (Or.inl ⟨by rfl, ?hY12x2⟩) (by assumption) ?hR12x2
              case hY12x2 => (intro w hSw; (try dsimp only at hSw); go_simp; try with_reducible rfl)
              (try simp only [Act.put, qa_, qb_, qc_])
              refine wpAnyH_take (i := 1) (oi := ⟨some 39, _, _, _, _, _⟩) (v := ?_) rfl (by kernel_rfl) (by kernel_rfl) (by kernel_rfl) (fun _ _ _ h => h) (Or.inl ⟨by rfl, ?hY12x3⟩) (by assumption) ?hR12x3
              case hY12x3 => (intro w hSw; (try dsimp only at hSw); go_simp; try with_reducible rfl)
              (try simp only [Act.put, qa_, qb_, qc_])
              refine wpAnyH_take (i := 2) (oi := ⟨some 40, _, _, _, _, _⟩) (v := ?_) rfl (by kernel_rfl) (by kernel_rfl) (by kernel_rfl) (fun _ _ _ h => h) (Or.inl ⟨by rfl, ?hY12x4⟩) (by assumption) ?hR12x4
              case hY12x4 => (intro w hSw; (try dsimp only at hSw); go_simp; try with_reducible rfl)
              (try simp only [Act.put, qa_, qb_, qc_])
              refine wpAnyH_take (i := 3) (oi := ⟨some 41, _, _, _, _, _⟩) (v := ?_) rfl (by kernel_rfl) (by kernel_rfl) (by kernel_rfl) (fun _ _ _ h => h) (Or.inl ⟨by rfl, ?hY12x5⟩) (by assumption) ?hR12x5
              case hY12x5 => (intro w hSw; (try dsimp only at hSw); go_simp; try with_reducible rfl)
              (try simp only [Act.put, qa_, qb_, qc_])
              refine wpAnyH_take (i := 4) (oi := ⟨some 42, _, _, _, _, _⟩) (v := ?_) rfl (by kernel_rfl) (by kernel_rfl) (by kernel_rfl) (fun _ _ _ h => h) (Or.inl ⟨by rfl, ?hY12x6⟩) (by assumption) ?hR12x6
              case hY12x6 => (intro w hSw; (try dsimp only at hSw); go_simp; try with_reducible rfl)
              (try simp only [Act.put, qa_, qb_, qc_])
              refine wpAnyH_take (i := 5) (oi := ⟨some 43, _, _, _, _, _⟩) (v := ?_) rfl (by kernel_rfl) (by kernel_rfl) (by kernel_rfl) (fun _ _ _ h => h) (Or.inl ⟨by rfl, ?hY12x7⟩) (by assumption) ?hR12x7
              case hY12x7 => (intro w hSw; (try dsimp only at hSw); go_simp; try with_reducible rfl)
              (try simp only [Act.put, qa_, qb_, qc_])
              refine wpAnyH_take (i := 6) (oi := ⟨some 44, _, _, _, _, _⟩) (v := ?_) rfl (by kernel_rfl) (by kernel_rfl) (by kernel_rfl) (fun _ _ _ h => h) (Or.inl ⟨by rfl, ?hY12x8⟩) (by assumption) ?hR12x8
              case hY12x8 => (intro w hSw; (try dsimp only at hSw); go_simp; try with_reducible rfl)
              (try simp only [Act.put, qa_, qb_, qc_])
              refine wpAnyH_take (i := 7) (oi := ⟨some 45, _, _, _, _, _⟩) (v := ?_) rfl (by kernel_rfl) (by kernel_rfl) (by kernel_rfl) (fun _ _ _ h => h) (Or.inl ⟨by rfl, ?hY12x9⟩) (by assumption) ?hR12x9
              case hY12x9 => (intro w hSw; (try dsimp only at hSw); go_simp; try with_reducible rfl)
              (try simp only [Act.put, qa_, qb_, qc_])
              refine wpAnyH_take (i := 8) (oi := ⟨some 46, _, _, _, _, _⟩) (v := ?_) rfl (by kernel_rfl) (by kernel_rfl) (by kernel_rfl) (fun _ _ _ h => h) (Or.inl ⟨by rfl, ?hY12x10⟩) (by assumption) ?hR12x10
              case hY12x10 => (intro w hSw; (try dsimp only at hSw); go_simp; try with_reducible rfl)
              (try simp only [Act.put, qa_, qb_, qc_])
              refine wpAnyH_take (i := 9) (oi := ⟨some 47, _, _, _, _, _⟩) (v := ?_) rfl (by kernel_rfl) (by kernel_rfl) (by kernel_rfl) (fun _ _ _ h => h) (Or.inl ⟨by rfl, ?hY12x11⟩) (by assumption) ?hR12x11
              case hY12x11 => (intro w hSw; (try dsimp only at hSw); go_simp; try with_reducible rfl)
              (try simp only [Act.put, qa_, qb_, qc_])
              refine wpAnyH_ready (rs := [10]) (by kernel_rfl) (by simp) ?_
              refine AllReadyH.cons (o := ⟨some 48, _, _, _, _, _⟩) rfl (fun K hK => ?hT12x12) ?hM12x12
              case hM12x12 => exact AllReadyH.nil
              go_simp
              (first | (go_at_call 39; obtain ⟨g0, gE, gT, gC, gD⟩ := ‹Below wr.heap.size wr _ ∧ _›; ((with_reducible refine (rAheadE ⟨p0, p1⟩ x9 b _ HBB.out).mono ?_));  rintro e w5 ⟨rfl, hb_⟩; have j0 := below_step g0 hb_; have s5 := j0.size; have jE := fun j => (j0.cell (p := ⟨B, j, none⟩) kE).trans (rE j); have jT := fun j => (j0.cell (p := ⟨s + 1, j, none⟩) kT).trans (rT j); have jC := (j0.cell (p := (ad9.add (z8.toNat * 2))) kC).trans rC; have jD := (j0.cell (p := (⟨(ad9.add (z8.toNat * 2)).block, (ad9.add (z8.toNat * 2)).off + 1, none⟩ : Addr)) kD).trans rD))
              (try go_wp2_with fail)
              refine hK.out _ _ ?hS12x12 (fun hHeld => ?hR12x12)
              case hS12x12 => ((try dsimp only); (first | exact ⟨below_drew1 (Below.refl _ _), rE, rT, rC, rD⟩ | exact ⟨below_drew1 b0_, rE, rT, rC, rD⟩ | exact ⟨j0, jE, jT, jC, jD⟩ | exact ⟨below_alloc j0 _, fun j => (cell_alloc_old (Nat.lt_of_lt_of_le kE j0.size)).trans (jE j), fun j => (cell_alloc_old (Nat.lt_of_lt_of_le kT j0.size)).trans (jT j), (cell_alloc_oldp (Nat.lt_of_lt_of_le kC j0.size)).trans jC, (cell_alloc_oldp (Nat.lt_of_lt_of_le kD j0.size)).trans jD⟩ | exact ⟨below_alloc (below_drew1 (Below.refl _ _)) _, fun j => (cell_alloc_old kE).trans (rE j), fun j => (cell_alloc_old kT).trans (rT j), (cell_alloc_oldp kC).trans rC, (cell_alloc_oldp kD).trans rD⟩ | assumption))
              clear hK K
              (try simp only [Act.put, qa_, qb_, qc_])
              refine wpAnyH_take (i := 11) (oi := ⟨some 49, _, _, _, _, _⟩) (v := ?_) rfl (by kernel_rfl) (by kernel_rfl) (by kernel_rfl) (fun _ _ _ h => h) (Or.inl ⟨by rfl, ?hY12x13⟩) (by assumption) ?hR12x13
              case hY12x13 => (intro w hSw; (try dsimp only at hSw); go_simp; try with_reducible rfl)
              (try simp only [Act.put, qa_, qb_, qc_])
              refine wpAnyH_done (by kernel_rfl) ?_ _
              cases b with
              | false =>
                go_wp2
                go_meet
                case rel =>
                  refine ⟨k + 1, hp, by rw [HZ9.out.1], ?_, below_step HBX.out j0⟩
                  rw [← HPP.out]
                  show k + 1 = posT l ⟨p0, p1⟩ (k + 1)
                  unfold posT
                  rw [HZ9.out.2, HXX.out, HBB.out, if_neg (by decide)]
              | true =>
                go_wp2
                go_roundw
                case rel =>
                  refine ⟨k, by omega, by rw [HZ9.out.2], ?_, below_step HBX.out j0⟩
                  rw [← HPP.out]
                  show posT l ⟨p0, p1⟩ k = posT l ⟨p0, p1⟩ (k + 1)
                  conv => rhs; unfold posT
                  rw [HZ9.out.2, HXX.out, HBB.out, if_pos rfl]
                case measure =>
                  have := HZ9.out
                  simp [intOf]
                  omega
        case rest =>
          obtain ⟨p, hp, rfl, hpe, hbx⟩ := hcut
          have HPO := Aside0.mk hpe
          clear hpe
          rename World => V
          have HTV := Aside0.mk (HTC.out.below hbx)
          have HRV := Aside0.mk (HRC.out.below hbx)
          have HBV := Aside0.mk (below_step HBC.out hbx)
          have XEV := Aside0.mk (XE.out.below hbx)
          have HXV := Aside0.mk (Kd.C_below HXL.out hbx)
          have hszV : s + 2 ≤ V.heap.size := Nat.le_trans hsz hbx.size
          have rE := XEV.out.cell
          have kE := XEV.out.lt
          have rT := HTV.out.cell
          have kT := HTV.out.lt
          have hpc : p ≤ co := by omega
          have hl30 := HLN.out
          clear hbx HTC HOC HRC HBC XE HXL hsz
          go_upto_region 9 with (fail)
          have key : p < ln ∨ (p = ln ∧ p = co) ∨ (p = ln ∧ p ≠ co) := by omega
          rcases key with hlt | ⟨hpl, hpe⟩ | ⟨hpl, hne⟩
          · refine wp_region_last_drew (S := (fun w' => Below V.heap.size V w' ∧ (∀ j, w'.cell? ⟨B, j, none⟩ = (#[.int .u64 p0, .int .u64 p1] : Array Value)[j]?) ∧ (∀ j, w'.cell? ⟨s + 1, j, none⟩ = (#[.bool f, .slice Ao ln co] : Array Value)[j]?))) (ds := [14]) (by kernel_rfl) ?hS13x0 (fun hHeld => ?hR13x0)
            case hS13x0 => ((try dsimp only); (first | exact ⟨below_drew1 (Below.refl _ _), rE, rT⟩ | exact ⟨below_drew1 b0_, rE, rT⟩ | exact ⟨j0, jE, jT⟩ | exact ⟨below_alloc j0 _, fun j => (cell_alloc_old (Nat.lt_of_lt_of_le kE j0.size)).trans (jE j), fun j => (cell_alloc_old (Nat.lt_of_lt_of_le kT j0.size)).trans (jT j)⟩ | exact ⟨below_alloc (below_drew1 (Below.refl _ _)) _, fun j => (cell_alloc_old kE).trans (rE j), fun j => (cell_alloc_old kT).trans (rT j)⟩ | assumption))
            refine wpAnyLast_take (i := 0) (oi := ⟨some 52, _, _, _, _, _⟩) (v := ?_) rfl (by kernel_rfl) (by kernel_rfl) (by kernel_rfl) (by kernel_rfl) (by kernel_rfl) (fun _ _ _ h => h) (Or.inl ⟨by rfl, ?hY13x2⟩) (by assumption) ?hR13x2
            case hY13x2 => (intro w hSw; (try dsimp only at hSw); go_simp; try with_reducible rfl)
            (try simp only [Act.put, qa_, qb_, qc_])
            refine wpAnyLast_take (i := 1) (oi := ⟨some 53, _, _, _, _, _⟩) (v := ?_) rfl (by kernel_rfl) (by kernel_rfl) (by kernel_rfl) (by kernel_rfl) (by kernel_rfl) (fun _ _ _ h => h) (Or.inl ⟨by rfl, ?hY13x3⟩) (by assumption) ?hR13x3
            case hY13x3 => (intro w hSw; (try dsimp only at hSw); go_simp; try with_reducible rfl)
            (try simp only [Act.put, qa_, qb_, qc_])
            refine wpAnyLast_take (i := 2) (oi := ⟨some 54, _, _, _, _, _⟩) (v := ?_) rfl (by kernel_rfl) (by kernel_rfl) (by kernel_rfl) (by kernel_rfl) (by kernel_rfl) (fun _ _ _ h => h) (Or.inl ⟨by rfl, ?hY13x4⟩) (by assumption) ?hR13x4
            case hY13x4 => (intro w hSw; (try dsimp only at hSw); go_simp; try with_reducible rfl)
            (try simp only [Act.put, qa_, qb_, qc_])
            refine wpAnyLast_take (i := 3) (oi := ⟨some 55, _, _, _, _, _⟩) (v := ?_) rfl (by kernel_rfl) (by kernel_rfl) (by kernel_rfl) (by kernel_rfl) (by kernel_rfl) (fun _ _ _ h => h) (Or.inl ⟨by rfl, ?hY13x5⟩) (by assumption) ?hR13x5
            case hY13x5 => (intro w hSw; (try dsimp only at hSw); go_simp; try with_reducible rfl)
            (try simp only [Act.put, qa_, qb_, qc_])
            refine wpAnyLast_take (i := 5) (oi := ⟨some 57, _, _, _, _, _⟩) (v := ?_) rfl (by kernel_rfl) (by kernel_rfl) (by kernel_rfl) (by kernel_rfl) (by kernel_rfl) (fun _ _ _ h => h) (Or.inl ⟨by rfl, ?hY13x6⟩) (by assumption) ?hR13x6
            case hY13x6 => (intro w hSw; (try dsimp only at hSw); go_simp; try with_reducible rfl)
            (try simp only [Act.put, qa_, qb_, qc_])
            refine wpAnyLast_take (i := 8) (oi := ⟨some 60, _, _, _, _, _⟩) (v := ?_) rfl (by kernel_rfl) (by kernel_rfl) (by kernel_rfl) (by kernel_rfl) (by kernel_rfl) (fun _ _ _ h => h) (Or.inl ⟨by rfl, ?hY13x7⟩) (by assumption) ?hR13x7
            case hY13x7 => (intro w hSw; (try dsimp only at hSw); go_simp; try with_reducible rfl)
            (try simp only [Act.put, qa_, qb_, qc_])
            refine wpAnyLast_take (i := 9) (oi := ⟨some 61, _, _, _, _, _⟩) (v := ?_) rfl (by kernel_rfl) (by kernel_rfl) (by kernel_rfl) (by kernel_rfl) (by kernel_rfl) (fun _ _ _ h => h) (Or.inl ⟨by rfl, ?hY13x8⟩) (by assumption) ?hR13x8
            case hY13x8 => (intro w hSw; (try dsimp only at hSw); go_simp; try with_reducible rfl)
            (try simp only [Act.put, qa_, qb_, qc_])
            refine wpAnyLast_take (i := 10) (oi := ⟨some 62, _, _, _, _, _⟩) (v := ?_) rfl (by kernel_rfl) (by kernel_rfl) (by kernel_rfl) (by kernel_rfl) (by kernel_rfl) (fun _ _ _ h => h) (Or.inl ⟨by rfl, ?hY13x9⟩) (by assumption) ?hR13x9
            case hY13x9 => (intro w hSw; (try dsimp only at hSw); go_simp; try with_reducible rfl)
            (try simp only [Act.put, qa_, qb_, qc_])
            refine wpAnyLast_take (i := 11) (oi := ⟨some 63, _, _, _, _, _⟩) (v := ?_) rfl (by kernel_rfl) (by kernel_rfl) (by kernel_rfl) (by kernel_rfl) (by kernel_rfl) (fun _ _ _ h => h) (Or.inl ⟨by rfl, ?hY13x10⟩) (by assumption) ?hR13x10
            case hY13x10 => (intro w hSw; (try dsimp only at hSw); go_simp; try with_reducible rfl)
            (try simp only [Act.put, qa_, qb_, qc_])
            refine wpAnyLast_ready (rs := [4, 6]) (by kernel_rfl) (by simp) ?_
            refine AllReadyL.cons (o := ⟨some 56, _, _, _, _, _⟩) rfl (by decide) (fun K hK => ?hT13x11) (AllReadyL.cons (o := ⟨some 58, _, _, _, _, _⟩) rfl (by decide) (fun K hK => ?hM13x11) AllReadyL.nil)
            case hT13x11 =>
              (obtain ⟨g0, gE, gT⟩ := ‹Below V.heap.size V _ ∧ _›; refine Kd.R_append_rows_step (kP) (w0 := V) V.heap.size (by rfl) (.const (.slice none 0 0)) (.tmp 55) 22 52 (.agg #[.int .u64 0, .int .u64 0]) 16 rfl Try.underlying22 info52 rfl (by decide) (by omega) (.slice none 0 0) ([]) ((l).take p) (_) (p) (_) (fun _ => True) (fun _ => False) rfl rfl (Kd.R_nil _ _ _ _ _) (C_takeG (Kd.C_below HXV.out g0) (by omega)) (fun x cs h => kP_of_K x cs h) (fun _ hk => hk.elim) (fun _ _ => trivial) g0 g0.size (by simp; omega) ?_; (intro v4 w4 ho_ hb_ hg_ hat_; have HO4 := Aside0.mk ho_; have HG4 := Aside0.mk ((Below.refl _ _).grown (row := none) hg_ (Nat.le_refl _) (fun k hk => by cases hk)); clear ho_ hg_ hat_; have j0 := hb_; have jE := fun j => (j0.cell (p := ⟨B, j, none⟩) kE).trans (rE j); have jT := fun j => (j0.cell (p := ⟨s + 1, j, none⟩) kT).trans (rT j)))
              refine hK.out _ _ ?hS13x12 (fun hHeld => ?hR13x12)
              case hS13x12 => ((try dsimp only); (first | exact ⟨below_drew1 (Below.refl _ _), rE, rT⟩ | exact ⟨below_drew1 b0_, rE, rT⟩ | exact ⟨j0, jE, jT⟩ | exact ⟨below_alloc j0 _, fun j => (cell_alloc_old (Nat.lt_of_lt_of_le kE j0.size)).trans (jE j), fun j => (cell_alloc_old (Nat.lt_of_lt_of_le kT j0.size)).trans (jT j)⟩ | exact ⟨below_alloc (below_drew1 (Below.refl _ _)) _, fun j => (cell_alloc_old kE).trans (rE j), fun j => (cell_alloc_old kT).trans (rT j)⟩ | assumption))
              clear hK K
              (try simp only [Act.put, qa_, qb_, qc_])
              refine wpAnyLast_ready (rs := [6]) (by kernel_rfl) (by simp) ?_
              refine AllReadyL.cons (o := ⟨some 58, _, _, _, _, _⟩) rfl (by decide) (fun K hK => ?hT13x13) ?hM13x13
              case hM13x13 => exact AllReadyL.nil
              go_simp
              (try go_wp2_with fail)
              refine hK.out _ _ ?hS13x13 (fun hHeld => ?hR13x13)
              case hS13x13 => ((try dsimp only); (first | exact ⟨below_drew1 (Below.refl _ _), rE, rT⟩ | exact ⟨below_drew1 b0_, rE, rT⟩ | exact ⟨j0, jE, jT⟩ | exact ⟨below_alloc j0 _, fun j => (cell_alloc_old (Nat.lt_of_lt_of_le kE j0.size)).trans (jE j), fun j => (cell_alloc_old (Nat.lt_of_lt_of_le kT j0.size)).trans (jT j)⟩ | exact ⟨below_alloc (below_drew1 (Below.refl _ _)) _, fun j => (cell_alloc_old kE).trans (rE j), fun j => (cell_alloc_old kT).trans (rT j)⟩ | assumption))
              clear hK K
              (try simp only [Act.put, qa_, qb_, qc_])
              refine wpAnyLast_ready (rs := [7]) (by kernel_rfl) (by simp) ?_
              refine AllReadyL.cons (o := ⟨some 59, _, _, _, _, _⟩) rfl (by decide) (fun K hK => ?hT13x14) ?hM13x14
              case hM13x14 => exact AllReadyL.nil
              (obtain ⟨g0, gE, gT⟩ := ‹Below V.heap.size V _ ∧ _›; refine Kd.R_append_rows_step (kP) (w0 := V) V.heap.size (by rfl) (.tmp 56) (.tmp 58) 22 52 (.agg #[.int .u64 0, .int .u64 0]) 16 rfl Try.underlying22 info52 rfl (by decide) (by omega) (v4) ((l).take p) ([(⟨p0, p1⟩ : Pr)]) (_) (1) (1) (fun _ => True) (fun _ => False) rfl rfl ((by (with_reducible repeat (first | apply Kd.R_alloc | apply Kd.R_drewN | apply Kd.R_drew)); exact HO4.out)) (by first | exact C_oneP Box.new | exact C_oneP (Box.drew Box.new) | exact C_oneP (Box.below (Box.drew Box.new) HG4.out) | exact C_oneP (Box.below Box.new HG4.out)) (fun x cs h => kP_of_K x cs h) (fun _ hk => hk.elim) (fun _ _ => trivial) g0 g0.size (by simp; omega) ?_; (intro v7 w7 ho_ hb_ hg_ hat_; have HO7 := Aside0.mk ho_; clear ho_ hg_ hat_; have j0 := hb_; have jE := fun j => (j0.cell (p := ⟨B, j, none⟩) kE).trans (rE j); have jT := fun j => (j0.cell (p := ⟨s + 1, j, none⟩) kT).trans (rT j)))
              refine hK.out _ _ ?hS13x14 (fun hHeld => ?hR13x14)
              case hS13x14 => ((try dsimp only); (first | exact ⟨below_drew1 (Below.refl _ _), rE, rT⟩ | exact ⟨below_drew1 b0_, rE, rT⟩ | exact ⟨j0, jE, jT⟩ | exact ⟨below_alloc j0 _, fun j => (cell_alloc_old (Nat.lt_of_lt_of_le kE j0.size)).trans (jE j), fun j => (cell_alloc_old (Nat.lt_of_lt_of_le kT j0.size)).trans (jT j)⟩ | exact ⟨below_alloc (below_drew1 (Below.refl _ _)) _, fun j => (cell_alloc_old kE).trans (rE j), fun j => (cell_alloc_old kT).trans (rT j)⟩ | assumption))
              clear hK K
              (try simp only [Act.put, qa_, qb_, qc_])
              refine wpAnyLast_ready (rs := [12]) (by kernel_rfl) (by simp) ?_
              refine AllReadyL.cons (o := ⟨some 64, _, _, _, _, _⟩) rfl (by decide) (fun K hK => ?hT13x15) ?hM13x15
              case hM13x15 => exact AllReadyL.nil
              (obtain ⟨g0, gE, gT⟩ := ‹Below V.heap.size V _ ∧ _›; refine Kd.R_append_rows_step (kP) (w0 := V) V.heap.size (by rfl) (.tmp 59) (.tmp 63) 22 52 (.agg #[.int .u64 0, .int .u64 0]) 16 rfl Try.underlying22 info52 rfl (by decide) (by omega) (v7) ((l).take p ++ [(⟨p0, p1⟩ : Pr)]) ((l).drop p) (_) (_) (_) (fun _ => True) (fun _ => False) rfl rfl ((by (with_reducible repeat (first | apply Kd.R_alloc | apply Kd.R_drewN | apply Kd.R_drew)); exact HO7.out)) (by have e := C_dropP (Kd.C_below HXV.out g0) hp hlc; first | exact e | (rw [if_neg (by omega)] at e; exact e)) (fun x cs h => kP_of_K x cs h) (fun _ hk => hk.elim) (fun _ _ => trivial) g0 g0.size (by simp; omega) ?_; (intro v12 w12 ho_ hb_ hg_ hat_; have HO12 := Aside0.mk ho_; clear ho_ hg_ hat_; have j0 := hb_; have jE := fun j => (j0.cell (p := ⟨B, j, none⟩) kE).trans (rE j); have jT := fun j => (j0.cell (p := ⟨s + 1, j, none⟩) kT).trans (rT j); have HO13 := Aside0.mk (insT_R HO12.out (by rw [HL.out]; exact HPO.out)); obtain ⟨A12, c12, rfl⟩ := Kd.R_slice HO13.out; have fT12 := (HTV.out.below j0).frozen; have rT12 := (HTV.out.below j0).cell))
              refine hK.out _ _ ?hS13x15 (fun hHeld => ?hR13x15)
              case hS13x15 => ((try dsimp only); (first | exact ⟨below_drew1 (Below.refl _ _), rE, rT⟩ | exact ⟨below_drew1 b0_, rE, rT⟩ | exact ⟨j0, jE, jT⟩ | exact ⟨below_alloc j0 _, fun j => (cell_alloc_old (Nat.lt_of_lt_of_le kE j0.size)).trans (jE j), fun j => (cell_alloc_old (Nat.lt_of_lt_of_le kT j0.size)).trans (jT j)⟩ | exact ⟨below_alloc (below_drew1 (Below.refl _ _)) _, fun j => (cell_alloc_old kE).trans (rE j), fun j => (cell_alloc_old kT).trans (rT j)⟩ | assumption))
              clear hK K
              (try simp only [Act.put, qa_, qb_, qc_])
              refine wpAnyLast_take (i := 13) (oi := ⟨some 65, _, _, _, _, _⟩) (v := ?_) rfl (by kernel_rfl) (by kernel_rfl) (by kernel_rfl) (by kernel_rfl) (by kernel_rfl) (fun _ _ _ h => h) (Or.inl ⟨by rfl, ?hY13x16⟩) (by assumption) ?hR13x16
              case hY13x16 => (intro w hSw; (try dsimp only at hSw); go_simp; try with_reducible rfl)
              (try simp only [Act.put, qa_, qb_, qc_])
              refine wpAnyLast_ready (rs := [14]) (by kernel_rfl) (by simp) ?_
              refine AllReadyL.cons_last (o := ⟨none, _, _, _, _, _⟩) rfl (by decide) (fun K hK => ?hT13x17) ?hM13x17
              case hM13x17 => exact AllReadyL.nil
              go_simp
              (try go_wp2_with fail)
              refine hK.out _ _ ?hR13x17
              clear hK K
              (try simp only [Act.put, qa_, qb_, qc_])
              refine wpAnyLast_done (by kernel_rfl) ?_ _
              go_wp2
              go_roundw
              case rel =>
                refine ⟨i + 1, .slice A12 (insT l ⟨p0, p1⟩).length c12, by have := HZ.out; omega, by have := HZ.out; omega, by have := HZ.out; subst this; go_num, ?_, ?_, (HRV.out.below j0).far (by simp), below_set (below_step HBV.out j0) (by have := HS.out.1; show _ ≤ s + 1; omega)⟩
                · have := Box.put (j := 1) (v := .slice A12 (insT l ⟨p0, p1⟩).length c12) (HTV.out.below j0)
                  simpa using this
                · rw [HF.out, HPE.out]
                  exact Kd.R_mono (Kd.R_far (p := ⟨s + 1, 1, none⟩) (Kd.R_bound (Kd.R_lower HO13.out hszV)) (fun k hk => by have := hk.2.1; show k ≠ s + 1; omega) _) (fun _ _ => trivial)
              case measure =>
                have := HZ.out
                simp [intOf]
                omega
            case hM13x11 =>
              go_simp
              (try go_wp2_with fail)
              refine hK.out _ _ ?hS13x18 (fun hHeld => ?hR13x18)
              case hS13x18 => ((try dsimp only); (first | exact ⟨below_drew1 (Below.refl _ _), rE, rT⟩ | exact ⟨below_drew1 b0_, rE, rT⟩ | exact ⟨j0, jE, jT⟩ | exact ⟨below_alloc j0 _, fun j => (cell_alloc_old (Nat.lt_of_lt_of_le kE j0.size)).trans (jE j), fun j => (cell_alloc_old (Nat.lt_of_lt_of_le kT j0.size)).trans (jT j)⟩ | exact ⟨below_alloc (below_drew1 (Below.refl _ _)) _, fun j => (cell_alloc_old kE).trans (rE j), fun j => (cell_alloc_old kT).trans (rT j)⟩ | assumption))
              clear hK K
              (try simp only [Act.put, qa_, qb_, qc_])
              refine wpAnyLast_ready (rs := [4]) (by kernel_rfl) (by simp) ?_
              refine AllReadyL.cons (o := ⟨some 56, _, _, _, _, _⟩) rfl (by decide) (fun K hK => ?hT13x19) ?hM13x19
              case hM13x19 => exact AllReadyL.nil
              (obtain ⟨g0, gE, gT⟩ := ‹Below V.heap.size V _ ∧ _›; refine Kd.R_append_rows_step (kP) (w0 := V) V.heap.size (by rfl) (.const (.slice none 0 0)) (.tmp 55) 22 52 (.agg #[.int .u64 0, .int .u64 0]) 16 rfl Try.underlying22 info52 rfl (by decide) (by omega) (.slice none 0 0) ([]) ((l).take p) (_) (p) (_) (fun _ => True) (fun _ => False) rfl rfl (Kd.R_nil _ _ _ _ _) (C_takeG (Kd.C_below HXV.out g0) (by omega)) (fun x cs h => kP_of_K x cs h) (fun _ hk => hk.elim) (fun _ _ => trivial) g0 g0.size (by simp; omega) ?_; (intro v4 w4 ho_ hb_ hg_ hat_; have HO4 := Aside0.mk ho_; have HG4 := Aside0.mk ((Below.refl _ _).grown (row := none) hg_ (Nat.le_refl _) (fun k hk => by cases hk)); clear ho_ hg_ hat_; have j0 := hb_; have jE := fun j => (j0.cell (p := ⟨B, j, none⟩) kE).trans (rE j); have jT := fun j => (j0.cell (p := ⟨s + 1, j, none⟩) kT).trans (rT j)))
              refine hK.out _ _ ?hS13x19 (fun hHeld => ?hR13x19)
              case hS13x19 => ((try dsimp only); (first | exact ⟨below_drew1 (Below.refl _ _), rE, rT⟩ | exact ⟨below_drew1 b0_, rE, rT⟩ | exact ⟨j0, jE, jT⟩ | exact ⟨below_alloc j0 _, fun j => (cell_alloc_old (Nat.lt_of_lt_of_le kE j0.size)).trans (jE j), fun j => (cell_alloc_old (Nat.lt_of_lt_of_le kT j0.size)).trans (jT j)⟩ | exact ⟨below_alloc (below_drew1 (Below.refl _ _)) _, fun j => (cell_alloc_old kE).trans (rE j), fun j => (cell_alloc_old kT).trans (rT j)⟩ | assumption))
              clear hK K
              (try simp only [Act.put, qa_, qb_, qc_])
              refine wpAnyLast_ready (rs := [7]) (by kernel_rfl) (by simp) ?_
              refine AllReadyL.cons (o := ⟨some 59, _, _, _, _, _⟩) rfl (by decide) (fun K hK => ?hT13x20) ?hM13x20
              case hM13x20 => exact AllReadyL.nil
              (obtain ⟨g0, gE, gT⟩ := ‹Below V.heap.size V _ ∧ _›; refine Kd.R_append_rows_step (kP) (w0 := V) V.heap.size (by rfl) (.tmp 56) (.tmp 58) 22 52 (.agg #[.int .u64 0, .int .u64 0]) 16 rfl Try.underlying22 info52 rfl (by decide) (by omega) (v4) ((l).take p) ([(⟨p0, p1⟩ : Pr)]) (_) (1) (1) (fun _ => True) (fun _ => False) rfl rfl ((by (with_reducible repeat (first | apply Kd.R_alloc | apply Kd.R_drewN | apply Kd.R_drew)); exact HO4.out)) (by first | exact C_oneP Box.new | exact C_oneP (Box.drew Box.new) | exact C_oneP (Box.below (Box.drew Box.new) HG4.out) | exact C_oneP (Box.below Box.new HG4.out)) (fun x cs h => kP_of_K x cs h) (fun _ hk => hk.elim) (fun _ _ => trivial) g0 g0.size (by simp; omega) ?_; (intro v7 w7 ho_ hb_ hg_ hat_; have HO7 := Aside0.mk ho_; clear ho_ hg_ hat_; have j0 := hb_; have jE := fun j => (j0.cell (p := ⟨B, j, none⟩) kE).trans (rE j); have jT := fun j => (j0.cell (p := ⟨s + 1, j, none⟩) kT).trans (rT j)))
              refine hK.out _ _ ?hS13x20 (fun hHeld => ?hR13x20)
              case hS13x20 => ((try dsimp only); (first | exact ⟨below_drew1 (Below.refl _ _), rE, rT⟩ | exact ⟨below_drew1 b0_, rE, rT⟩ | exact ⟨j0, jE, jT⟩ | exact ⟨below_alloc j0 _, fun j => (cell_alloc_old (Nat.lt_of_lt_of_le kE j0.size)).trans (jE j), fun j => (cell_alloc_old (Nat.lt_of_lt_of_le kT j0.size)).trans (jT j)⟩ | exact ⟨below_alloc (below_drew1 (Below.refl _ _)) _, fun j => (cell_alloc_old kE).trans (rE j), fun j => (cell_alloc_old kT).trans (rT j)⟩ | assumption))
              clear hK K
              (try simp only [Act.put, qa_, qb_, qc_])
              refine wpAnyLast_ready (rs := [12]) (by kernel_rfl) (by simp) ?_
              refine AllReadyL.cons (o := ⟨some 64, _, _, _, _, _⟩) rfl (by decide) (fun K hK => ?hT13x21) ?hM13x21
              case hM13x21 => exact AllReadyL.nil
              (obtain ⟨g0, gE, gT⟩ := ‹Below V.heap.size V _ ∧ _›; refine Kd.R_append_rows_step (kP) (w0 := V) V.heap.size (by rfl) (.tmp 59) (.tmp 63) 22 52 (.agg #[.int .u64 0, .int .u64 0]) 16 rfl Try.underlying22 info52 rfl (by decide) (by omega) (v7) ((l).take p ++ [(⟨p0, p1⟩ : Pr)]) ((l).drop p) (_) (_) (_) (fun _ => True) (fun _ => False) rfl rfl ((by (with_reducible repeat (first | apply Kd.R_alloc | apply Kd.R_drewN | apply Kd.R_drew)); exact HO7.out)) (by have e := C_dropP (Kd.C_below HXV.out g0) hp hlc; first | exact e | (rw [if_neg (by omega)] at e; exact e)) (fun x cs h => kP_of_K x cs h) (fun _ hk => hk.elim) (fun _ _ => trivial) g0 g0.size (by simp; omega) ?_; (intro v12 w12 ho_ hb_ hg_ hat_; have HO12 := Aside0.mk ho_; clear ho_ hg_ hat_; have j0 := hb_; have jE := fun j => (j0.cell (p := ⟨B, j, none⟩) kE).trans (rE j); have jT := fun j => (j0.cell (p := ⟨s + 1, j, none⟩) kT).trans (rT j); have HO13 := Aside0.mk (insT_R HO12.out (by rw [HL.out]; exact HPO.out)); obtain ⟨A12, c12, rfl⟩ := Kd.R_slice HO13.out; have fT12 := (HTV.out.below j0).frozen; have rT12 := (HTV.out.below j0).cell))
              refine hK.out _ _ ?hS13x21 (fun hHeld => ?hR13x21)
              case hS13x21 => ((try dsimp only); (first | exact ⟨below_drew1 (Below.refl _ _), rE, rT⟩ | exact ⟨below_drew1 b0_, rE, rT⟩ | exact ⟨j0, jE, jT⟩ | exact ⟨below_alloc j0 _, fun j => (cell_alloc_old (Nat.lt_of_lt_of_le kE j0.size)).trans (jE j), fun j => (cell_alloc_old (Nat.lt_of_lt_of_le kT j0.size)).trans (jT j)⟩ | exact ⟨below_alloc (below_drew1 (Below.refl _ _)) _, fun j => (cell_alloc_old kE).trans (rE j), fun j => (cell_alloc_old kT).trans (rT j)⟩ | assumption))
              clear hK K
              (try simp only [Act.put, qa_, qb_, qc_])
              refine wpAnyLast_take (i := 13) (oi := ⟨some 65, _, _, _, _, _⟩) (v := ?_) rfl (by kernel_rfl) (by kernel_rfl) (by kernel_rfl) (by kernel_rfl) (by kernel_rfl) (fun _ _ _ h => h) (Or.inl ⟨by rfl, ?hY13x22⟩) (by assumption) ?hR13x22
              case hY13x22 => (intro w hSw; (try dsimp only at hSw); go_simp; try with_reducible rfl)
              (try simp only [Act.put, qa_, qb_, qc_])
              refine wpAnyLast_ready (rs := [14]) (by kernel_rfl) (by simp) ?_
              refine AllReadyL.cons_last (o := ⟨none, _, _, _, _, _⟩) rfl (by decide) (fun K hK => ?hT13x23) ?hM13x23
              case hM13x23 => exact AllReadyL.nil
              go_simp
              (try go_wp2_with fail)
              refine hK.out _ _ ?hR13x23
              clear hK K
              (try simp only [Act.put, qa_, qb_, qc_])
              refine wpAnyLast_done (by kernel_rfl) ?_ _
              go_wp2
              go_roundw
              case rel =>
                refine ⟨i + 1, .slice A12 (insT l ⟨p0, p1⟩).length c12, by have := HZ.out; omega, by have := HZ.out; omega, by have := HZ.out; subst this; go_num, ?_, ?_, (HRV.out.below j0).far (by simp), below_set (below_step HBV.out j0) (by have := HS.out.1; show _ ≤ s + 1; omega)⟩
                · have := Box.put (j := 1) (v := .slice A12 (insT l ⟨p0, p1⟩).length c12) (HTV.out.below j0)
                  simpa using this
                · rw [HF.out, HPE.out]
                  exact Kd.R_mono (Kd.R_far (p := ⟨s + 1, 1, none⟩) (Kd.R_bound (Kd.R_lower HO13.out hszV)) (fun k hk => by have := hk.2.1; show k ≠ s + 1; omega) _) (fun _ _ => trivial)
              case measure =>
                have := HZ.out
                simp [intOf]
                omega
          · obtain rfl : p = ln := hpl
            obtain rfl : p = co := hpe
            refine wp_region_last_drew (S := (fun w' => Below V.heap.size V w' ∧ (∀ j, w'.cell? ⟨B, j, none⟩ = (#[.int .u64 p0, .int .u64 p1] : Array Value)[j]?) ∧ (∀ j, w'.cell? ⟨s + 1, j, none⟩ = (#[.bool f, .slice Ao p p] : Array Value)[j]?))) (ds := [14]) (by kernel_rfl) ?hS14x0 (fun hHeld => ?hR14x0)
            case hS14x0 => ((try dsimp only); (first | exact ⟨below_drew1 (Below.refl _ _), rE, rT⟩ | exact ⟨below_drew1 b0_, rE, rT⟩ | exact ⟨j0, jE, jT⟩ | exact ⟨below_alloc j0 _, fun j => (cell_alloc_old (Nat.lt_of_lt_of_le kE j0.size)).trans (jE j), fun j => (cell_alloc_old (Nat.lt_of_lt_of_le kT j0.size)).trans (jT j)⟩ | exact ⟨below_alloc (below_drew1 (Below.refl _ _)) _, fun j => (cell_alloc_old kE).trans (rE j), fun j => (cell_alloc_old kT).trans (rT j)⟩ | assumption))
            refine wpAnyLast_take (i := 0) (oi := ⟨some 52, _, _, _, _, _⟩) (v := ?_) rfl (by kernel_rfl) (by kernel_rfl) (by kernel_rfl) (by kernel_rfl) (by kernel_rfl) (fun _ _ _ h => h) (Or.inl ⟨by rfl, ?hY14x2⟩) (by assumption) ?hR14x2
            case hY14x2 => (intro w hSw; (try dsimp only at hSw); go_simp; try with_reducible rfl)
            (try simp only [Act.put, qa_, qb_, qc_])
            refine wpAnyLast_take (i := 1) (oi := ⟨some 53, _, _, _, _, _⟩) (v := ?_) rfl (by kernel_rfl) (by kernel_rfl) (by kernel_rfl) (by kernel_rfl) (by kernel_rfl) (fun _ _ _ h => h) (Or.inl ⟨by rfl, ?hY14x3⟩) (by assumption) ?hR14x3
            case hY14x3 => (intro w hSw; (try dsimp only at hSw); go_simp; try with_reducible rfl)
            (try simp only [Act.put, qa_, qb_, qc_])
            refine wpAnyLast_take (i := 2) (oi := ⟨some 54, _, _, _, _, _⟩) (v := ?_) rfl (by kernel_rfl) (by kernel_rfl) (by kernel_rfl) (by kernel_rfl) (by kernel_rfl) (fun _ _ _ h => h) (Or.inl ⟨by rfl, ?hY14x4⟩) (by assumption) ?hR14x4
            case hY14x4 => (intro w hSw; (try dsimp only at hSw); go_simp; try with_reducible rfl)
            (try simp only [Act.put, qa_, qb_, qc_])
            refine wpAnyLast_take (i := 3) (oi := ⟨some 55, _, _, _, _, _⟩) (v := ?_) rfl (by kernel_rfl) (by kernel_rfl) (by kernel_rfl) (by kernel_rfl) (by kernel_rfl) (fun _ _ _ h => h) (Or.inl ⟨by rfl, ?hY14x5⟩) (by assumption) ?hR14x5
            case hY14x5 => (intro w hSw; (try dsimp only at hSw); go_simp; try with_reducible rfl)
            (try simp only [Act.put, qa_, qb_, qc_])
            refine wpAnyLast_take (i := 5) (oi := ⟨some 57, _, _, _, _, _⟩) (v := ?_) rfl (by kernel_rfl) (by kernel_rfl) (by kernel_rfl) (by kernel_rfl) (by kernel_rfl) (fun _ _ _ h => h) (Or.inl ⟨by rfl, ?hY14x6⟩) (by assumption) ?hR14x6
            case hY14x6 => (intro w hSw; (try dsimp only at hSw); go_simp; try with_reducible rfl)
            (try simp only [Act.put, qa_, qb_, qc_])
            refine wpAnyLast_take (i := 8) (oi := ⟨some 60, _, _, _, _, _⟩) (v := ?_) rfl (by kernel_rfl) (by kernel_rfl) (by kernel_rfl) (by kernel_rfl) (by kernel_rfl) (fun _ _ _ h => h) (Or.inl ⟨by rfl, ?hY14x7⟩) (by assumption) ?hR14x7
            case hY14x7 => (intro w hSw; (try dsimp only at hSw); go_simp; try with_reducible rfl)
            (try simp only [Act.put, qa_, qb_, qc_])
            refine wpAnyLast_take (i := 9) (oi := ⟨some 61, _, _, _, _, _⟩) (v := ?_) rfl (by kernel_rfl) (by kernel_rfl) (by kernel_rfl) (by kernel_rfl) (by kernel_rfl) (fun _ _ _ h => h) (Or.inl ⟨by rfl, ?hY14x8⟩) (by assumption) ?hR14x8
            case hY14x8 => (intro w hSw; (try dsimp only at hSw); go_simp; try with_reducible rfl)
            (try simp only [Act.put, qa_, qb_, qc_])
            refine wpAnyLast_take (i := 10) (oi := ⟨some 62, _, _, _, _, _⟩) (v := ?_) rfl (by kernel_rfl) (by kernel_rfl) (by kernel_rfl) (by kernel_rfl) (by kernel_rfl) (fun _ _ _ h => h) (Or.inl ⟨by rfl, ?hY14x9⟩) (by assumption) ?hR14x9
            case hY14x9 => (intro w hSw; (try dsimp only at hSw); go_simp; try with_reducible rfl)
            (try simp only [Act.put, qa_, qb_, qc_])
            refine wpAnyLast_take (i := 11) (oi := ⟨some 63, _, _, _, _, _⟩) (v := ?_) rfl (by kernel_rfl) (by kernel_rfl) (by kernel_rfl) (by kernel_rfl) (by kernel_rfl) (fun _ _ _ h => h) (Or.inl ⟨by rfl, ?hY14x10⟩) (by assumption) ?hR14x10
            case hY14x10 => (intro w hSw; (try dsimp only at hSw); go_simp; try with_reducible rfl)
            (try simp only [Act.put, qa_, qb_, qc_])
            refine wpAnyLast_ready (rs := [4, 6]) (by kernel_rfl) (by simp) ?_
            refine AllReadyL.cons (o := ⟨some 56, _, _, _, _, _⟩) rfl (by decide) (fun K hK => ?hT14x11) (AllReadyL.cons (o := ⟨some 58, _, _, _, _, _⟩) rfl (by decide) (fun K hK => ?hM14x11) AllReadyL.nil)
            case hT14x11 =>
              (obtain ⟨g0, gE, gT⟩ := ‹Below V.heap.size V _ ∧ _›; refine Kd.R_append_rows_step (kP) (w0 := V) V.heap.size (by rfl) (.const (.slice none 0 0)) (.tmp 55) 22 52 (.agg #[.int .u64 0, .int .u64 0]) 16 rfl Try.underlying22 info52 rfl (by decide) (by omega) (.slice none 0 0) ([]) ((l).take p) (_) (p) (_) (fun _ => True) (fun _ => False) rfl rfl (Kd.R_nil _ _ _ _ _) (C_takeG (Kd.C_below HXV.out g0) (by omega)) (fun x cs h => kP_of_K x cs h) (fun _ hk => hk.elim) (fun _ _ => trivial) g0 g0.size (by simp; omega) ?_; (intro v4 w4 ho_ hb_ hg_ hat_; have HO4 := Aside0.mk ho_; have HG4 := Aside0.mk ((Below.refl _ _).grown (row := none) hg_ (Nat.le_refl _) (fun k hk => by cases hk)); clear ho_ hg_ hat_; have j0 := hb_; have jE := fun j => (j0.cell (p := ⟨B, j, none⟩) kE).trans (rE j); have jT := fun j => (j0.cell (p := ⟨s + 1, j, none⟩) kT).trans (rT j)))
              refine hK.out _ _ ?hS14x12 (fun hHeld => ?hR14x12)
              case hS14x12 => ((try dsimp only); (first | exact ⟨below_drew1 (Below.refl _ _), rE, rT⟩ | exact ⟨below_drew1 b0_, rE, rT⟩ | exact ⟨j0, jE, jT⟩ | exact ⟨below_alloc j0 _, fun j => (cell_alloc_old (Nat.lt_of_lt_of_le kE j0.size)).trans (jE j), fun j => (cell_alloc_old (Nat.lt_of_lt_of_le kT j0.size)).trans (jT j)⟩ | exact ⟨below_alloc (below_drew1 (Below.refl _ _)) _, fun j => (cell_alloc_old kE).trans (rE j), fun j => (cell_alloc_old kT).trans (rT j)⟩ | assumption))
              clear hK K
              (try simp only [Act.put, qa_, qb_, qc_])
              refine wpAnyLast_ready (rs := [6]) (by kernel_rfl) (by simp) ?_
              refine AllReadyL.cons (o := ⟨some 58, _, _, _, _, _⟩) rfl (by decide) (fun K hK => ?hT14x13) ?hM14x13
              case hM14x13 => exact AllReadyL.nil
              go_simp
              (try go_wp2_with fail)
              refine hK.out _ _ ?hS14x13 (fun hHeld => ?hR14x13)
              case hS14x13 => ((try dsimp only); (first | exact ⟨below_drew1 (Below.refl _ _), rE, rT⟩ | exact ⟨below_drew1 b0_, rE, rT⟩ | exact ⟨j0, jE, jT⟩ | exact ⟨below_alloc j0 _, fun j => (cell_alloc_old (Nat.lt_of_lt_of_le kE j0.size)).trans (jE j), fun j => (cell_alloc_old (Nat.lt_of_lt_of_le kT j0.size)).trans (jT j)⟩ | exact ⟨below_alloc (below_drew1 (Below.refl _ _)) _, fun j => (cell_alloc_old kE).trans (rE j), fun j => (cell_alloc_old kT).trans (rT j)⟩ | assumption))
              clear hK K
              (try simp only [Act.put, qa_, qb_, qc_])
              refine wpAnyLast_ready (rs := [7]) (by kernel_rfl) (by simp) ?_
              refine AllReadyL.cons (o := ⟨some 59, _, _, _, _, _⟩) rfl (by decide) (fun K hK => ?hT14x14) ?hM14x14
              case hM14x14 => exact AllReadyL.nil
              (obtain ⟨g0, gE, gT⟩ := ‹Below V.heap.size V _ ∧ _›; refine Kd.R_append_rows_step (kP) (w0 := V) V.heap.size (by rfl) (.tmp 56) (.tmp 58) 22 52 (.agg #[.int .u64 0, .int .u64 0]) 16 rfl Try.underlying22 info52 rfl (by decide) (by omega) (v4) ((l).take p) ([(⟨p0, p1⟩ : Pr)]) (_) (1) (1) (fun _ => True) (fun _ => False) rfl rfl ((by (with_reducible repeat (first | apply Kd.R_alloc | apply Kd.R_drewN | apply Kd.R_drew)); exact HO4.out)) (by first | exact C_oneP Box.new | exact C_oneP (Box.drew Box.new) | exact C_oneP (Box.below (Box.drew Box.new) HG4.out) | exact C_oneP (Box.below Box.new HG4.out)) (fun x cs h => kP_of_K x cs h) (fun _ hk => hk.elim) (fun _ _ => trivial) g0 g0.size (by simp; omega) ?_; (intro v7 w7 ho_ hb_ hg_ hat_; have HO7 := Aside0.mk ho_; clear ho_ hg_ hat_; have j0 := hb_; have jE := fun j => (j0.cell (p := ⟨B, j, none⟩) kE).trans (rE j); have jT := fun j => (j0.cell (p := ⟨s + 1, j, none⟩) kT).trans (rT j)))
              refine hK.out _ _ ?hS14x14 (fun hHeld => ?hR14x14)
              case hS14x14 => ((try dsimp only); (first | exact ⟨below_drew1 (Below.refl _ _), rE, rT⟩ | exact ⟨below_drew1 b0_, rE, rT⟩ | exact ⟨j0, jE, jT⟩ | exact ⟨below_alloc j0 _, fun j => (cell_alloc_old (Nat.lt_of_lt_of_le kE j0.size)).trans (jE j), fun j => (cell_alloc_old (Nat.lt_of_lt_of_le kT j0.size)).trans (jT j)⟩ | exact ⟨below_alloc (below_drew1 (Below.refl _ _)) _, fun j => (cell_alloc_old kE).trans (rE j), fun j => (cell_alloc_old kT).trans (rT j)⟩ | assumption))
              clear hK K
              (try simp only [Act.put, qa_, qb_, qc_])
              refine wpAnyLast_ready (rs := [12]) (by kernel_rfl) (by simp) ?_
              refine AllReadyL.cons (o := ⟨some 64, _, _, _, _, _⟩) rfl (by decide) (fun K hK => ?hT14x15) ?hM14x15
              case hM14x15 => exact AllReadyL.nil
              (obtain ⟨g0, gE, gT⟩ := ‹Below V.heap.size V _ ∧ _›; refine Kd.R_append_rows_step (kP) (w0 := V) V.heap.size (by rfl) (.tmp 59) (.tmp 63) 22 52 (.agg #[.int .u64 0, .int .u64 0]) 16 rfl Try.underlying22 info52 rfl (by decide) (by omega) (v7) ((l).take p ++ [(⟨p0, p1⟩ : Pr)]) ((l).drop p) (_) (_) (_) (fun _ => True) (fun _ => False) rfl rfl ((by (with_reducible repeat (first | apply Kd.R_alloc | apply Kd.R_drewN | apply Kd.R_drew)); exact HO7.out)) (C_noP HL.out.symm) (fun x cs h => kP_of_K x cs h) (fun _ hk => hk.elim) (fun _ _ => trivial) g0 g0.size (by simp; omega) ?_; (intro v12 w12 ho_ hb_ hg_ hat_; have HO12 := Aside0.mk ho_; clear ho_ hg_ hat_; have j0 := hb_; have jE := fun j => (j0.cell (p := ⟨B, j, none⟩) kE).trans (rE j); have jT := fun j => (j0.cell (p := ⟨s + 1, j, none⟩) kT).trans (rT j); have HO13 := Aside0.mk (insT_R HO12.out (by rw [HL.out]; exact HPO.out)); obtain ⟨A12, c12, rfl⟩ := Kd.R_slice HO13.out; have fT12 := (HTV.out.below j0).frozen; have rT12 := (HTV.out.below j0).cell))
              refine hK.out _ _ ?hS14x15 (fun hHeld => ?hR14x15)
              case hS14x15 => ((try dsimp only); (first | exact ⟨below_drew1 (Below.refl _ _), rE, rT⟩ | exact ⟨below_drew1 b0_, rE, rT⟩ | exact ⟨j0, jE, jT⟩ | exact ⟨below_alloc j0 _, fun j => (cell_alloc_old (Nat.lt_of_lt_of_le kE j0.size)).trans (jE j), fun j => (cell_alloc_old (Nat.lt_of_lt_of_le kT j0.size)).trans (jT j)⟩ | exact ⟨below_alloc (below_drew1 (Below.refl _ _)) _, fun j => (cell_alloc_old kE).trans (rE j), fun j => (cell_alloc_old kT).trans (rT j)⟩ | assumption))
              clear hK K
              (try simp only [Act.put, qa_, qb_, qc_])
              refine wpAnyLast_take (i := 13) (oi := ⟨some 65, _, _, _, _, _⟩) (v := ?_) rfl (by kernel_rfl) (by kernel_rfl) (by kernel_rfl) (by kernel_rfl) (by kernel_rfl) (fun _ _ _ h => h) (Or.inl ⟨by rfl, ?hY14x16⟩) (by assumption) ?hR14x16
              case hY14x16 => (intro w hSw; (try dsimp only at hSw); go_simp; try with_reducible rfl)
              (try simp only [Act.put, qa_, qb_, qc_])
              refine wpAnyLast_ready (rs := [14]) (by kernel_rfl) (by simp) ?_
              refine AllReadyL.cons_last (o := ⟨none, _, _, _, _, _⟩) rfl (by decide) (fun K hK => ?hT14x17) ?hM14x17
              case hM14x17 => exact AllReadyL.nil
              go_simp
              (try go_wp2_with fail)
              refine hK.out _ _ ?hR14x17
              clear hK K
              (try simp only [Act.put, qa_, qb_, qc_])
              refine wpAnyLast_done (by kernel_rfl) ?_ _
              go_wp2
              go_roundw
              case rel =>
                refine ⟨i + 1, .slice A12 (insT l ⟨p0, p1⟩).length c12, by have := HZ.out; omega, by have := HZ.out; omega, by have := HZ.out; subst this; go_num, ?_, ?_, (HRV.out.below j0).far (by simp), below_set (below_step HBV.out j0) (by have := HS.out.1; show _ ≤ s + 1; omega)⟩
                · have := Box.put (j := 1) (v := .slice A12 (insT l ⟨p0, p1⟩).length c12) (HTV.out.below j0)
                  simpa using this
                · rw [HF.out, HPE.out]
                  exact Kd.R_mono (Kd.R_far (p := ⟨s + 1, 1, none⟩) (Kd.R_bound (Kd.R_lower HO13.out hszV)) (fun k hk => by have := hk.2.1; show k ≠ s + 1; omega) _) (fun _ _ => trivial)
              case measure =>
                have := HZ.out
                simp [intOf]
                omega
            case hM14x11 =>
              go_simp
              (try go_wp2_with fail)
              refine hK.out _ _ ?hS14x18 (fun hHeld => ?hR14x18)
              case hS14x18 => ((try dsimp only); (first | exact ⟨below_drew1 (Below.refl _ _), rE, rT⟩ | exact ⟨below_drew1 b0_, rE, rT⟩ | exact ⟨j0, jE, jT⟩ | exact ⟨below_alloc j0 _, fun j => (cell_alloc_old (Nat.lt_of_lt_of_le kE j0.size)).trans (jE j), fun j => (cell_alloc_old (Nat.lt_of_lt_of_le kT j0.size)).trans (jT j)⟩ | exact ⟨below_alloc (below_drew1 (Below.refl _ _)) _, fun j => (cell_alloc_old kE).trans (rE j), fun j => (cell_alloc_old kT).trans (rT j)⟩ | assumption))
              clear hK K
              (try simp only [Act.put, qa_, qb_, qc_])
              refine wpAnyLast_ready (rs := [4]) (by kernel_rfl) (by simp) ?_
              refine AllReadyL.cons (o := ⟨some 56, _, _, _, _, _⟩) rfl (by decide) (fun K hK => ?hT14x19) ?hM14x19
              case hM14x19 => exact AllReadyL.nil
              (obtain ⟨g0, gE, gT⟩ := ‹Below V.heap.size V _ ∧ _›; refine Kd.R_append_rows_step (kP) (w0 := V) V.heap.size (by rfl) (.const (.slice none 0 0)) (.tmp 55) 22 52 (.agg #[.int .u64 0, .int .u64 0]) 16 rfl Try.underlying22 info52 rfl (by decide) (by omega) (.slice none 0 0) ([]) ((l).take p) (_) (p) (_) (fun _ => True) (fun _ => False) rfl rfl (Kd.R_nil _ _ _ _ _) (C_takeG (Kd.C_below HXV.out g0) (by omega)) (fun x cs h => kP_of_K x cs h) (fun _ hk => hk.elim) (fun _ _ => trivial) g0 g0.size (by simp; omega) ?_; (intro v4 w4 ho_ hb_ hg_ hat_; have HO4 := Aside0.mk ho_; have HG4 := Aside0.mk ((Below.refl _ _).grown (row := none) hg_ (Nat.le_refl _) (fun k hk => by cases hk)); clear ho_ hg_ hat_; have j0 := hb_; have jE := fun j => (j0.cell (p := ⟨B, j, none⟩) kE).trans (rE j); have jT := fun j => (j0.cell (p := ⟨s + 1, j, none⟩) kT).trans (rT j)))
              refine hK.out _ _ ?hS14x19 (fun hHeld => ?hR14x19)
              case hS14x19 => ((try dsimp only); (first | exact ⟨below_drew1 (Below.refl _ _), rE, rT⟩ | exact ⟨below_drew1 b0_, rE, rT⟩ | exact ⟨j0, jE, jT⟩ | exact ⟨below_alloc j0 _, fun j => (cell_alloc_old (Nat.lt_of_lt_of_le kE j0.size)).trans (jE j), fun j => (cell_alloc_old (Nat.lt_of_lt_of_le kT j0.size)).trans (jT j)⟩ | exact ⟨below_alloc (below_drew1 (Below.refl _ _)) _, fun j => (cell_alloc_old kE).trans (rE j), fun j => (cell_alloc_old kT).trans (rT j)⟩ | assumption))
              clear hK K
              (try simp only [Act.put, qa_, qb_, qc_])
              refine wpAnyLast_ready (rs := [7]) (by kernel_rfl) (by simp) ?_
              refine AllReadyL.cons (o := ⟨some 59, _, _, _, _, _⟩) rfl (by decide) (fun K hK => ?hT14x20) ?hM14x20
              case hM14x20 => exact AllReadyL.nil
              (obtain ⟨g0, gE, gT⟩ := ‹Below V.heap.size V _ ∧ _›; refine Kd.R_append_rows_step (kP) (w0 := V) V.heap.size (by rfl) (.tmp 56) (.tmp 58) 22 52 (.agg #[.int .u64 0, .int .u64 0]) 16 rfl Try.underlying22 info52 rfl (by decide) (by omega) (v4) ((l).take p) ([(⟨p0, p1⟩ : Pr)]) (_) (1) (1) (fun _ => True) (fun _ => False) rfl rfl ((by (with_reducible repeat (first | apply Kd.R_alloc | apply Kd.R_drewN | apply Kd.R_drew)); exact HO4.out)) (by first | exact C_oneP Box.new | exact C_oneP (Box.drew Box.new) | exact C_oneP (Box.below (Box.drew Box.new) HG4.out) | exact C_oneP (Box.below Box.new HG4.out)) (fun x cs h => kP_of_K x cs h) (fun _ hk => hk.elim) (fun _ _ => trivial) g0 g0.size (by simp; omega) ?_; (intro v7 w7 ho_ hb_ hg_ hat_; have HO7 := Aside0.mk ho_; clear ho_ hg_ hat_; have j0 := hb_; have jE := fun j => (j0.cell (p := ⟨B, j, none⟩) kE).trans (rE j); have jT := fun j => (j0.cell (p := ⟨s + 1, j, none⟩) kT).trans (rT j)))
              refine hK.out _ _ ?hS14x20 (fun hHeld => ?hR14x20)
              case hS14x20 => ((try dsimp only); (first | exact ⟨below_drew1 (Below.refl _ _), rE, rT⟩ | exact ⟨below_drew1 b0_, rE, rT⟩ | exact ⟨j0, jE, jT⟩ | exact ⟨below_alloc j0 _, fun j => (cell_alloc_old (Nat.lt_of_lt_of_le kE j0.size)).trans (jE j), fun j => (cell_alloc_old (Nat.lt_of_lt_of_le kT j0.size)).trans (jT j)⟩ | exact ⟨below_alloc (below_drew1 (Below.refl _ _)) _, fun j => (cell_alloc_old kE).trans (rE j), fun j => (cell_alloc_old kT).trans (rT j)⟩ | assumption))
              clear hK K
              (try simp only [Act.put, qa_, qb_, qc_])
              refine wpAnyLast_ready (rs := [12]) (by kernel_rfl) (by simp) ?_
              refine AllReadyL.cons (o := ⟨some 64, _, _, _, _, _⟩) rfl (by decide) (fun K hK => ?hT14x21) ?hM14x21
              case hM14x21 => exact AllReadyL.nil
              (obtain ⟨g0, gE, gT⟩ := ‹Below V.heap.size V _ ∧ _›; refine Kd.R_append_rows_step (kP) (w0 := V) V.heap.size (by rfl) (.tmp 59) (.tmp 63) 22 52 (.agg #[.int .u64 0, .int .u64 0]) 16 rfl Try.underlying22 info52 rfl (by decide) (by omega) (v7) ((l).take p ++ [(⟨p0, p1⟩ : Pr)]) ((l).drop p) (_) (_) (_) (fun _ => True) (fun _ => False) rfl rfl ((by (with_reducible repeat (first | apply Kd.R_alloc | apply Kd.R_drewN | apply Kd.R_drew)); exact HO7.out)) (C_noP HL.out.symm) (fun x cs h => kP_of_K x cs h) (fun _ hk => hk.elim) (fun _ _ => trivial) g0 g0.size (by simp; omega) ?_; (intro v12 w12 ho_ hb_ hg_ hat_; have HO12 := Aside0.mk ho_; clear ho_ hg_ hat_; have j0 := hb_; have jE := fun j => (j0.cell (p := ⟨B, j, none⟩) kE).trans (rE j); have jT := fun j => (j0.cell (p := ⟨s + 1, j, none⟩) kT).trans (rT j); have HO13 := Aside0.mk (insT_R HO12.out (by rw [HL.out]; exact HPO.out)); obtain ⟨A12, c12, rfl⟩ := Kd.R_slice HO13.out; have fT12 := (HTV.out.below j0).frozen; have rT12 := (HTV.out.below j0).cell))
              refine hK.out _ _ ?hS14x21 (fun hHeld => ?hR14x21)
              case hS14x21 => ((try dsimp only); (first | exact ⟨below_drew1 (Below.refl _ _), rE, rT⟩ | exact ⟨below_drew1 b0_, rE, rT⟩ | exact ⟨j0, jE, jT⟩ | exact ⟨below_alloc j0 _, fun j => (cell_alloc_old (Nat.lt_of_lt_of_le kE j0.size)).trans (jE j), fun j => (cell_alloc_old (Nat.lt_of_lt_of_le kT j0.size)).trans (jT j)⟩ | exact ⟨below_alloc (below_drew1 (Below.refl _ _)) _, fun j => (cell_alloc_old kE).trans (rE j), fun j => (cell_alloc_old kT).trans (rT j)⟩ | assumption))
              clear hK K
              (try simp only [Act.put, qa_, qb_, qc_])
              refine wpAnyLast_take (i := 13) (oi := ⟨some 65, _, _, _, _, _⟩) (v := ?_) rfl (by kernel_rfl) (by kernel_rfl) (by kernel_rfl) (by kernel_rfl) (by kernel_rfl) (fun _ _ _ h => h) (Or.inl ⟨by rfl, ?hY14x22⟩) (by assumption) ?hR14x22
              case hY14x22 => (intro w hSw; (try dsimp only at hSw); go_simp; try with_reducible rfl)
              (try simp only [Act.put, qa_, qb_, qc_])
              refine wpAnyLast_ready (rs := [14]) (by kernel_rfl) (by simp) ?_
              refine AllReadyL.cons_last (o := ⟨none, _, _, _, _, _⟩) rfl (by decide) (fun K hK => ?hT14x23) ?hM14x23
              case hM14x23 => exact AllReadyL.nil
              go_simp
              (try go_wp2_with fail)
              refine hK.out _ _ ?hR14x23
              clear hK K
              (try simp only [Act.put, qa_, qb_, qc_])
              refine wpAnyLast_done (by kernel_rfl) ?_ _
              go_wp2
              go_roundw
              case rel =>
                refine ⟨i + 1, .slice A12 (insT l ⟨p0, p1⟩).length c12, by have := HZ.out; omega, by have := HZ.out; omega, by have := HZ.out; subst this; go_num, ?_, ?_, (HRV.out.below j0).far (by simp), below_set (below_step HBV.out j0) (by have := HS.out.1; show _ ≤ s + 1; omega)⟩
                · have := Box.put (j := 1) (v := .slice A12 (insT l ⟨p0, p1⟩).length c12) (HTV.out.below j0)
                  simpa using this
                · rw [HF.out, HPE.out]
                  exact Kd.R_mono (Kd.R_far (p := ⟨s + 1, 1, none⟩) (Kd.R_bound (Kd.R_lower HO13.out hszV)) (fun k hk => by have := hk.2.1; show k ≠ s + 1; omega) _) (fun _ _ => trivial)
              case measure =>
                have := HZ.out
                simp [intOf]
                omega
          · obtain rfl : p = ln := hpl
            refine wp_region_last_drew (S := (fun w' => Below V.heap.size V w' ∧ (∀ j, w'.cell? ⟨B, j, none⟩ = (#[.int .u64 p0, .int .u64 p1] : Array Value)[j]?) ∧ (∀ j, w'.cell? ⟨s + 1, j, none⟩ = (#[.bool f, .slice Ao p co] : Array Value)[j]?))) (ds := [14]) (by kernel_rfl) ?hS15x0 (fun hHeld => ?hR15x0)
            case hS15x0 => ((try dsimp only); (first | exact ⟨below_drew1 (Below.refl _ _), rE, rT⟩ | exact ⟨below_drew1 b0_, rE, rT⟩ | exact ⟨j0, jE, jT⟩ | exact ⟨below_alloc j0 _, fun j => (cell_alloc_old (Nat.lt_of_lt_of_le kE j0.size)).trans (jE j), fun j => (cell_alloc_old (Nat.lt_of_lt_of_le kT j0.size)).trans (jT j)⟩ | exact ⟨below_alloc (below_drew1 (Below.refl _ _)) _, fun j => (cell_alloc_old kE).trans (rE j), fun j => (cell_alloc_old kT).trans (rT j)⟩ | assumption))
            refine wpAnyLast_take (i := 0) (oi := ⟨some 52, _, _, _, _, _⟩) (v := ?_) rfl (by kernel_rfl) (by kernel_rfl) (by kernel_rfl) (by kernel_rfl) (by kernel_rfl) (fun _ _ _ h => h) (Or.inl ⟨by rfl, ?hY15x2⟩) (by assumption) ?hR15x2
            case hY15x2 => (intro w hSw; (try dsimp only at hSw); go_simp; try with_reducible rfl)
            (try simp only [Act.put, qa_, qb_, qc_])
            refine wpAnyLast_take (i := 1) (oi := ⟨some 53, _, _, _, _, _⟩) (v := ?_) rfl (by kernel_rfl) (by kernel_rfl) (by kernel_rfl) (by kernel_rfl) (by kernel_rfl) (fun _ _ _ h => h) (Or.inl ⟨by rfl, ?hY15x3⟩) (by assumption) ?hR15x3
            case hY15x3 => (intro w hSw; (try dsimp only at hSw); go_simp; try with_reducible rfl)
            (try simp only [Act.put, qa_, qb_, qc_])
            refine wpAnyLast_take (i := 2) (oi := ⟨some 54, _, _, _, _, _⟩) (v := ?_) rfl (by kernel_rfl) (by kernel_rfl) (by kernel_rfl) (by kernel_rfl) (by kernel_rfl) (fun _ _ _ h => h) (Or.inl ⟨by rfl, ?hY15x4⟩) (by assumption) ?hR15x4
            case hY15x4 => (intro w hSw; (try dsimp only at hSw); go_simp; try with_reducible rfl)
            (try simp only [Act.put, qa_, qb_, qc_])
            refine wpAnyLast_take (i := 3) (oi := ⟨some 55, _, _, _, _, _⟩) (v := ?_) rfl (by kernel_rfl) (by kernel_rfl) (by kernel_rfl) (by kernel_rfl) (by kernel_rfl) (fun _ _ _ h => h) (Or.inl ⟨by rfl, ?hY15x5⟩) (by assumption) ?hR15x5
            case hY15x5 => (intro w hSw; (try dsimp only at hSw); go_simp; try with_reducible rfl)
            (try simp only [Act.put, qa_, qb_, qc_])
            refine wpAnyLast_take (i := 5) (oi := ⟨some 57, _, _, _, _, _⟩) (v := ?_) rfl (by kernel_rfl) (by kernel_rfl) (by kernel_rfl) (by kernel_rfl) (by kernel_rfl) (fun _ _ _ h => h) (Or.inl ⟨by rfl, ?hY15x6⟩) (by assumption) ?hR15x6
            case hY15x6 => (intro w hSw; (try dsimp only at hSw); go_simp; try with_reducible rfl)
            (try simp only [Act.put, qa_, qb_, qc_])
            refine wpAnyLast_take (i := 8) (oi := ⟨some 60, _, _, _, _, _⟩) (v := ?_) rfl (by kernel_rfl) (by kernel_rfl) (by kernel_rfl) (by kernel_rfl) (by kernel_rfl) (fun _ _ _ h => h) (Or.inl ⟨by rfl, ?hY15x7⟩) (by assumption) ?hR15x7
            case hY15x7 => (intro w hSw; (try dsimp only at hSw); go_simp; try with_reducible rfl)
            (try simp only [Act.put, qa_, qb_, qc_])
            refine wpAnyLast_take (i := 9) (oi := ⟨some 61, _, _, _, _, _⟩) (v := ?_) rfl (by kernel_rfl) (by kernel_rfl) (by kernel_rfl) (by kernel_rfl) (by kernel_rfl) (fun _ _ _ h => h) (Or.inl ⟨by rfl, ?hY15x8⟩) (by assumption) ?hR15x8
            case hY15x8 => (intro w hSw; (try dsimp only at hSw); go_simp; try with_reducible rfl)
            (try simp only [Act.put, qa_, qb_, qc_])
            refine wpAnyLast_take (i := 10) (oi := ⟨some 62, _, _, _, _, _⟩) (v := ?_) rfl (by kernel_rfl) (by kernel_rfl) (by kernel_rfl) (by kernel_rfl) (by kernel_rfl) (fun _ _ _ h => h) (Or.inl ⟨by rfl, ?hY15x9⟩) (by assumption) ?hR15x9
            case hY15x9 => (intro w hSw; (try dsimp only at hSw); go_simp; try with_reducible rfl)
            (try simp only [Act.put, qa_, qb_, qc_])
            refine wpAnyLast_take (i := 11) (oi := ⟨some 63, _, _, _, _, _⟩) (v := ?_) rfl (by kernel_rfl) (by kernel_rfl) (by kernel_rfl) (by kernel_rfl) (by kernel_rfl) (fun _ _ _ h => h) (Or.inl ⟨by rfl, ?hY15x10⟩) (by assumption) ?hR15x10
            case hY15x10 => (intro w hSw; (try dsimp only at hSw); go_simp; try with_reducible rfl)
            (try simp only [Act.put, qa_, qb_, qc_])
            refine wpAnyLast_ready (rs := [4, 6]) (by kernel_rfl) (by simp) ?_
            refine AllReadyL.cons (o := ⟨some 56, _, _, _, _, _⟩) rfl (by decide) (fun K hK => ?hT15x11) (AllReadyL.cons (o := ⟨some 58, _, _, _, _, _⟩) rfl (by decide) (fun K hK => ?hM15x11) AllReadyL.nil)
            case hT15x11 =>
              (obtain ⟨g0, gE, gT⟩ := ‹Below V.heap.size V _ ∧ _›; refine Kd.R_append_rows_step (kP) (w0 := V) V.heap.size (by rfl) (.const (.slice none 0 0)) (.tmp 55) 22 52 (.agg #[.int .u64 0, .int .u64 0]) 16 rfl Try.underlying22 info52 rfl (by decide) (by omega) (.slice none 0 0) ([]) ((l).take p) (_) (p) (_) (fun _ => True) (fun _ => False) rfl rfl (Kd.R_nil _ _ _ _ _) (C_takeG (Kd.C_below HXV.out g0) (by omega)) (fun x cs h => kP_of_K x cs h) (fun _ hk => hk.elim) (fun _ _ => trivial) g0 g0.size (by simp; omega) ?_; (intro v4 w4 ho_ hb_ hg_ hat_; have HO4 := Aside0.mk ho_; have HG4 := Aside0.mk ((Below.refl _ _).grown (row := none) hg_ (Nat.le_refl _) (fun k hk => by cases hk)); clear ho_ hg_ hat_; have j0 := hb_; have jE := fun j => (j0.cell (p := ⟨B, j, none⟩) kE).trans (rE j); have jT := fun j => (j0.cell (p := ⟨s + 1, j, none⟩) kT).trans (rT j)))
              refine hK.out _ _ ?hS15x12 (fun hHeld => ?hR15x12)
              case hS15x12 => ((try dsimp only); (first | exact ⟨below_drew1 (Below.refl _ _), rE, rT⟩ | exact ⟨below_drew1 b0_, rE, rT⟩ | exact ⟨j0, jE, jT⟩ | exact ⟨below_alloc j0 _, fun j => (cell_alloc_old (Nat.lt_of_lt_of_le kE j0.size)).trans (jE j), fun j => (cell_alloc_old (Nat.lt_of_lt_of_le kT j0.size)).trans (jT j)⟩ | exact ⟨below_alloc (below_drew1 (Below.refl _ _)) _, fun j => (cell_alloc_old kE).trans (rE j), fun j => (cell_alloc_old kT).trans (rT j)⟩ | assumption))
              clear hK K
              (try simp only [Act.put, qa_, qb_, qc_])
              refine wpAnyLast_ready (rs := [6]) (by kernel_rfl) (by simp) ?_
              refine AllReadyL.cons (o := ⟨some 58, _, _, _, _, _⟩) rfl (by decide) (fun K hK => ?hT15x13) ?hM15x13
              case hM15x13 => exact AllReadyL.nil
              go_simp
              (try go_wp2_with fail)
              refine hK.out _ _ ?hS15x13 (fun hHeld => ?hR15x13)
              case hS15x13 => ((try dsimp only); (first | exact ⟨below_drew1 (Below.refl _ _), rE, rT⟩ | exact ⟨below_drew1 b0_, rE, rT⟩ | exact ⟨j0, jE, jT⟩ | exact ⟨below_alloc j0 _, fun j => (cell_alloc_old (Nat.lt_of_lt_of_le kE j0.size)).trans (jE j), fun j => (cell_alloc_old (Nat.lt_of_lt_of_le kT j0.size)).trans (jT j)⟩ | exact ⟨below_alloc (below_drew1 (Below.refl _ _)) _, fun j => (cell_alloc_old kE).trans (rE j), fun j => (cell_alloc_old kT).trans (rT j)⟩ | assumption))
              clear hK K
              (try simp only [Act.put, qa_, qb_, qc_])
              refine wpAnyLast_ready (rs := [7]) (by kernel_rfl) (by simp) ?_
              refine AllReadyL.cons (o := ⟨some 59, _, _, _, _, _⟩) rfl (by decide) (fun K hK => ?hT15x14) ?hM15x14
              case hM15x14 => exact AllReadyL.nil
              (obtain ⟨g0, gE, gT⟩ := ‹Below V.heap.size V _ ∧ _›; refine Kd.R_append_rows_step (kP) (w0 := V) V.heap.size (by rfl) (.tmp 56) (.tmp 58) 22 52 (.agg #[.int .u64 0, .int .u64 0]) 16 rfl Try.underlying22 info52 rfl (by decide) (by omega) (v4) ((l).take p) ([(⟨p0, p1⟩ : Pr)]) (_) (1) (1) (fun _ => True) (fun _ => False) rfl rfl ((by (with_reducible repeat (first | apply Kd.R_alloc | apply Kd.R_drewN | apply Kd.R_drew)); exact HO4.out)) (by first | exact C_oneP Box.new | exact C_oneP (Box.drew Box.new) | exact C_oneP (Box.below (Box.drew Box.new) HG4.out) | exact C_oneP (Box.below Box.new HG4.out)) (fun x cs h => kP_of_K x cs h) (fun _ hk => hk.elim) (fun _ _ => trivial) g0 g0.size (by simp; omega) ?_; (intro v7 w7 ho_ hb_ hg_ hat_; have HO7 := Aside0.mk ho_; clear ho_ hg_ hat_; have j0 := hb_; have jE := fun j => (j0.cell (p := ⟨B, j, none⟩) kE).trans (rE j); have jT := fun j => (j0.cell (p := ⟨s + 1, j, none⟩) kT).trans (rT j)))
              refine hK.out _ _ ?hS15x14 (fun hHeld => ?hR15x14)
              case hS15x14 => ((try dsimp only); (first | exact ⟨below_drew1 (Below.refl _ _), rE, rT⟩ | exact ⟨below_drew1 b0_, rE, rT⟩ | exact ⟨j0, jE, jT⟩ | exact ⟨below_alloc j0 _, fun j => (cell_alloc_old (Nat.lt_of_lt_of_le kE j0.size)).trans (jE j), fun j => (cell_alloc_old (Nat.lt_of_lt_of_le kT j0.size)).trans (jT j)⟩ | exact ⟨below_alloc (below_drew1 (Below.refl _ _)) _, fun j => (cell_alloc_old kE).trans (rE j), fun j => (cell_alloc_old kT).trans (rT j)⟩ | assumption))
              clear hK K
              (try simp only [Act.put, qa_, qb_, qc_])
              refine wpAnyLast_ready (rs := [12]) (by kernel_rfl) (by simp) ?_
              refine AllReadyL.cons (o := ⟨some 64, _, _, _, _, _⟩) rfl (by decide) (fun K hK => ?hT15x15) ?hM15x15
              case hM15x15 => exact AllReadyL.nil
              (obtain ⟨g0, gE, gT⟩ := ‹Below V.heap.size V _ ∧ _›; refine Kd.R_append_rows_step (kP) (w0 := V) V.heap.size (by rfl) (.tmp 59) (.tmp 63) 22 52 (.agg #[.int .u64 0, .int .u64 0]) 16 rfl Try.underlying22 info52 rfl (by decide) (by omega) (v7) ((l).take p ++ [(⟨p0, p1⟩ : Pr)]) ((l).drop p) (_) (_) (_) (fun _ => True) (fun _ => False) rfl rfl ((by (with_reducible repeat (first | apply Kd.R_alloc | apply Kd.R_drewN | apply Kd.R_drew)); exact HO7.out)) (C_noP HL.out.symm) (fun x cs h => kP_of_K x cs h) (fun _ hk => hk.elim) (fun _ _ => trivial) g0 g0.size (by simp; omega) ?_; (intro v12 w12 ho_ hb_ hg_ hat_; have HO12 := Aside0.mk ho_; clear ho_ hg_ hat_; have j0 := hb_; have jE := fun j => (j0.cell (p := ⟨B, j, none⟩) kE).trans (rE j); have jT := fun j => (j0.cell (p := ⟨s + 1, j, none⟩) kT).trans (rT j); have HO13 := Aside0.mk (insT_R HO12.out (by rw [HL.out]; exact HPO.out)); obtain ⟨A12, c12, rfl⟩ := Kd.R_slice HO13.out; have fT12 := (HTV.out.below j0).frozen; have rT12 := (HTV.out.below j0).cell))
              refine hK.out _ _ ?hS15x15 (fun hHeld => ?hR15x15)
              case hS15x15 => ((try dsimp only); (first | exact ⟨below_drew1 (Below.refl _ _), rE, rT⟩ | exact ⟨below_drew1 b0_, rE, rT⟩ | exact ⟨j0, jE, jT⟩ | exact ⟨below_alloc j0 _, fun j => (cell_alloc_old (Nat.lt_of_lt_of_le kE j0.size)).trans (jE j), fun j => (cell_alloc_old (Nat.lt_of_lt_of_le kT j0.size)).trans (jT j)⟩ | exact ⟨below_alloc (below_drew1 (Below.refl _ _)) _, fun j => (cell_alloc_old kE).trans (rE j), fun j => (cell_alloc_old kT).trans (rT j)⟩ | assumption))
              clear hK K
              (try simp only [Act.put, qa_, qb_, qc_])
              refine wpAnyLast_take (i := 13) (oi := ⟨some 65, _, _, _, _, _⟩) (v := ?_) rfl (by kernel_rfl) (by kernel_rfl) (by kernel_rfl) (by kernel_rfl) (by kernel_rfl) (fun _ _ _ h => h) (Or.inl ⟨by rfl, ?hY15x16⟩) (by assumption) ?hR15x16
              case hY15x16 => (intro w hSw; (try dsimp only at hSw); go_simp; try with_reducible rfl)
              (try simp only [Act.put, qa_, qb_, qc_])
              refine wpAnyLast_ready (rs := [14]) (by kernel_rfl) (by simp) ?_
              refine AllReadyL.cons_last (o := ⟨none, _, _, _, _, _⟩) rfl (by decide) (fun K hK => ?hT15x17) ?hM15x17
              case hM15x17 => exact AllReadyL.nil
              go_simp
              (try go_wp2_with fail)
              refine hK.out _ _ ?hR15x17
              clear hK K
              (try simp only [Act.put, qa_, qb_, qc_])
              refine wpAnyLast_done (by kernel_rfl) ?_ _
              go_wp2
              go_roundw
              case rel =>
                refine ⟨i + 1, .slice A12 (insT l ⟨p0, p1⟩).length c12, by have := HZ.out; omega, by have := HZ.out; omega, by have := HZ.out; subst this; go_num, ?_, ?_, (HRV.out.below j0).far (by simp), below_set (below_step HBV.out j0) (by have := HS.out.1; show _ ≤ s + 1; omega)⟩
                · have := Box.put (j := 1) (v := .slice A12 (insT l ⟨p0, p1⟩).length c12) (HTV.out.below j0)
                  simpa using this
                · rw [HF.out, HPE.out]
                  exact Kd.R_mono (Kd.R_far (p := ⟨s + 1, 1, none⟩) (Kd.R_bound (Kd.R_lower HO13.out hszV)) (fun k hk => by have := hk.2.1; show k ≠ s + 1; omega) _) (fun _ _ => trivial)
              case measure =>
                have := HZ.out
                simp [intOf]
                omega
            case hM15x11 =>
              go_simp
              (try go_wp2_with fail)
              refine hK.out _ _ ?hS15x18 (fun hHeld => ?hR15x18)
              case hS15x18 => ((try dsimp only); (first | exact ⟨below_drew1 (Below.refl _ _), rE, rT⟩ | exact ⟨below_drew1 b0_, rE, rT⟩ | exact ⟨j0, jE, jT⟩ | exact ⟨below_alloc j0 _, fun j => (cell_alloc_old (Nat.lt_of_lt_of_le kE j0.size)).trans (jE j), fun j => (cell_alloc_old (Nat.lt_of_lt_of_le kT j0.size)).trans (jT j)⟩ | exact ⟨below_alloc (below_drew1 (Below.refl _ _)) _, fun j => (cell_alloc_old kE).trans (rE j), fun j => (cell_alloc_old kT).trans (rT j)⟩ | assumption))
              clear hK K
              (try simp only [Act.put, qa_, qb_, qc_])
              refine wpAnyLast_ready (rs := [4]) (by kernel_rfl) (by simp) ?_
              refine AllReadyL.cons (o := ⟨some 56, _, _, _, _, _⟩) rfl (by decide) (fun K hK => ?hT15x19) ?hM15x19
              case hM15x19 => exact AllReadyL.nil
              (obtain ⟨g0, gE, gT⟩ := ‹Below V.heap.size V _ ∧ _›; refine Kd.R_append_rows_step (kP) (w0 := V) V.heap.size (by rfl) (.const (.slice none 0 0)) (.tmp 55) 22 52 (.agg #[.int .u64 0, .int .u64 0]) 16 rfl Try.underlying22 info52 rfl (by decide) (by omega) (.slice none 0 0) ([]) ((l).take p) (_) (p) (_) (fun _ => True) (fun _ => False) rfl rfl (Kd.R_nil _ _ _ _ _) (C_takeG (Kd.C_below HXV.out g0) (by omega)) (fun x cs h => kP_of_K x cs h) (fun _ hk => hk.elim) (fun _ _ => trivial) g0 g0.size (by simp; omega) ?_; (intro v4 w4 ho_ hb_ hg_ hat_; have HO4 := Aside0.mk ho_; have HG4 := Aside0.mk ((Below.refl _ _).grown (row := none) hg_ (Nat.le_refl _) (fun k hk => by cases hk)); clear ho_ hg_ hat_; have j0 := hb_; have jE := fun j => (j0.cell (p := ⟨B, j, none⟩) kE).trans (rE j); have jT := fun j => (j0.cell (p := ⟨s + 1, j, none⟩) kT).trans (rT j)))
              refine hK.out _ _ ?hS15x19 (fun hHeld => ?hR15x19)
              case hS15x19 => ((try dsimp only); (first | exact ⟨below_drew1 (Below.refl _ _), rE, rT⟩ | exact ⟨below_drew1 b0_, rE, rT⟩ | exact ⟨j0, jE, jT⟩ | exact ⟨below_alloc j0 _, fun j => (cell_alloc_old (Nat.lt_of_lt_of_le kE j0.size)).trans (jE j), fun j => (cell_alloc_old (Nat.lt_of_lt_of_le kT j0.size)).trans (jT j)⟩ | exact ⟨below_alloc (below_drew1 (Below.refl _ _)) _, fun j => (cell_alloc_old kE).trans (rE j), fun j => (cell_alloc_old kT).trans (rT j)⟩ | assumption))
              clear hK K
              (try simp only [Act.put, qa_, qb_, qc_])
              refine wpAnyLast_ready (rs := [7]) (by kernel_rfl) (by simp) ?_
              refine AllReadyL.cons (o := ⟨some 59, _, _, _, _, _⟩) rfl (by decide) (fun K hK => ?hT15x20) ?hM15x20
              case hM15x20 => exact AllReadyL.nil
              (obtain ⟨g0, gE, gT⟩ := ‹Below V.heap.size V _ ∧ _›; refine Kd.R_append_rows_step (kP) (w0 := V) V.heap.size (by rfl) (.tmp 56) (.tmp 58) 22 52 (.agg #[.int .u64 0, .int .u64 0]) 16 rfl Try.underlying22 info52 rfl (by decide) (by omega) (v4) ((l).take p) ([(⟨p0, p1⟩ : Pr)]) (_) (1) (1) (fun _ => True) (fun _ => False) rfl rfl ((by (with_reducible repeat (first | apply Kd.R_alloc | apply Kd.R_drewN | apply Kd.R_drew)); exact HO4.out)) (by first | exact C_oneP Box.new | exact C_oneP (Box.drew Box.new) | exact C_oneP (Box.below (Box.drew Box.new) HG4.out) | exact C_oneP (Box.below Box.new HG4.out)) (fun x cs h => kP_of_K x cs h) (fun _ hk => hk.elim) (fun _ _ => trivial) g0 g0.size (by simp; omega) ?_; (intro v7 w7 ho_ hb_ hg_ hat_; have HO7 := Aside0.mk ho_; clear ho_ hg_ hat_; have j0 := hb_; have jE := fun j => (j0.cell (p := ⟨B, j, none⟩) kE).trans (rE j); have jT := fun j => (j0.cell (p := ⟨s + 1, j, none⟩) kT).trans (rT j)))
              refine hK.out _ _ ?hS15x20 (fun hHeld => ?hR15x20)
              case hS15x20 => ((try dsimp only); (first | exact ⟨below_drew1 (Below.refl _ _), rE, rT⟩ | exact ⟨below_drew1 b0_, rE, rT⟩ | exact ⟨j0, jE, jT⟩ | exact ⟨below_alloc j0 _, fun j => (cell_alloc_old (Nat.lt_of_lt_of_le kE j0.size)).trans (jE j), fun j => (cell_alloc_old (Nat.lt_of_lt_of_le kT j0.size)).trans (jT j)⟩ | exact ⟨below_alloc (below_drew1 (Below.refl _ _)) _, fun j => (cell_alloc_old kE).trans (rE j), fun j => (cell_alloc_old kT).trans (rT j)⟩ | assumption))
              clear hK K
              (try simp only [Act.put, qa_, qb_, qc_])
              refine wpAnyLast_ready (rs := [12]) (by kernel_rfl) (by simp) ?_
              refine AllReadyL.cons (o := ⟨some 64, _, _, _, _, _⟩) rfl (by decide) (fun K hK => ?hT15x21) ?hM15x21
              case hM15x21 => exact AllReadyL.nil
              (obtain ⟨g0, gE, gT⟩ := ‹Below V.heap.size V _ ∧ _›; refine Kd.R_append_rows_step (kP) (w0 := V) V.heap.size (by rfl) (.tmp 59) (.tmp 63) 22 52 (.agg #[.int .u64 0, .int .u64 0]) 16 rfl Try.underlying22 info52 rfl (by decide) (by omega) (v7) ((l).take p ++ [(⟨p0, p1⟩ : Pr)]) ((l).drop p) (_) (_) (_) (fun _ => True) (fun _ => False) rfl rfl ((by (with_reducible repeat (first | apply Kd.R_alloc | apply Kd.R_drewN | apply Kd.R_drew)); exact HO7.out)) (C_noP HL.out.symm) (fun x cs h => kP_of_K x cs h) (fun _ hk => hk.elim) (fun _ _ => trivial) g0 g0.size (by simp; omega) ?_; (intro v12 w12 ho_ hb_ hg_ hat_; have HO12 := Aside0.mk ho_; clear ho_ hg_ hat_; have j0 := hb_; have jE := fun j => (j0.cell (p := ⟨B, j, none⟩) kE).trans (rE j); have jT := fun j => (j0.cell (p := ⟨s + 1, j, none⟩) kT).trans (rT j); have HO13 := Aside0.mk (insT_R HO12.out (by rw [HL.out]; exact HPO.out)); obtain ⟨A12, c12, rfl⟩ := Kd.R_slice HO13.out; have fT12 := (HTV.out.below j0).frozen; have rT12 := (HTV.out.below j0).cell))
              refine hK.out _ _ ?hS15x21 (fun hHeld => ?hR15x21)
              case hS15x21 => ((try dsimp only); (first | exact ⟨below_drew1 (Below.refl _ _), rE, rT⟩ | exact ⟨below_drew1 b0_, rE, rT⟩ | exact ⟨j0, jE, jT⟩ | exact ⟨below_alloc j0 _, fun j => (cell_alloc_old (Nat.lt_of_lt_of_le kE j0.size)).trans (jE j), fun j => (cell_alloc_old (Nat.lt_of_lt_of_le kT j0.size)).trans (jT j)⟩ | exact ⟨below_alloc (below_drew1 (Below.refl _ _)) _, fun j => (cell_alloc_old kE).trans (rE j), fun j => (cell_alloc_old kT).trans (rT j)⟩ | assumption))
              clear hK K
              (try simp only [Act.put, qa_, qb_, qc_])
              refine wpAnyLast_take (i := 13) (oi := ⟨some 65, _, _, _, _, _⟩) (v := ?_) rfl (by kernel_rfl) (by kernel_rfl) (by kernel_rfl) (by kernel_rfl) (by kernel_rfl) (fun _ _ _ h => h) (Or.inl ⟨by rfl, ?hY15x22⟩) (by assumption) ?hR15x22
              case hY15x22 => (intro w hSw; (try dsimp only at hSw); go_simp; try with_reducible rfl)
              (try simp only [Act.put, qa_, qb_, qc_])
              refine wpAnyLast_ready (rs := [14]) (by kernel_rfl) (by simp) ?_
              refine AllReadyL.cons_last (o := ⟨none, _, _, _, _, _⟩) rfl (by decide) (fun K hK => ?hT15x23) ?hM15x23
              case hM15x23 => exact AllReadyL.nil
              go_simp
              (try go_wp2_with fail)
              refine hK.out _ _ ?hR15x23
              clear hK K
              (try simp only [Act.put, qa_, qb_, qc_])
              refine wpAnyLast_done (by kernel_rfl) ?_ _
              go_wp2
              go_roundw
              case rel =>
                refine ⟨i + 1, .slice A12 (insT l ⟨p0, p1⟩).length c12, by have := HZ.out; omega, by have := HZ.out; omega, by have := HZ.out; subst this; go_num, ?_, ?_, (HRV.out.below j0).far (by simp), below_set (below_step HBV.out j0) (by have := HS.out.1; show _ ≤ s + 1; omega)⟩
                · have := Box.put (j := 1) (v := .slice A12 (insT l ⟨p0, p1⟩).length c12) (HTV.out.below j0)
                  simpa using this
                · rw [HF.out, HPE.out]
                  exact Kd.R_mono (Kd.R_far (p := ⟨s + 1, 1, none⟩) (Kd.R_bound (Kd.R_lower HO13.out hszV)) (fun k hk => by have := hk.2.1; show k ≠ s + 1; omega) _) (fun _ _ => trivial)
              case measure =>
                have := HZ.out
                simp [intOf]
                omega
    · have HT := Aside0.mk hT
      have HO := Aside0.mk hO
      have HR := Aside0.mk hR
      have rT := hT.cell
      have kT := hT.lt
      have rR := hR.cell
      have fR := hR.frozen
      have kR := hR.lt
      clear hT hO hR
      have hd : (decide ((i : Int) < (n : Int)) = false ∧ decide (i < n) = false) ∨ ((decide ((i : Int) < (n : Int)) = true ∧ decide (i < n) = true) ∧ decide ((i : Int) < 30) = false ∧ decide (i < 30) = false) := by
        by_cases h1 : i < n
        · exact Or.inr ⟨⟨decide_eq_true (by omega), decide_eq_true h1⟩, decide_eq_false (by omega), decide_eq_false (by omega)⟩
        · exact Or.inl ⟨decide_eq_false (by omega), decide_eq_false h1⟩
      have HE := Aside0.mk (show raw.take i = raw.take 30 by
        by_cases h1 : i < n
        · rw [show i = 30 by omega]
        · rw [List.take_of_length_le (by rw [← HN.out]; omega), List.take_of_length_le (by rw [← HN.out]; omega)])
      obtain ⟨m, hm⟩ : ∃ m, (List.foldl (fun l x => insT l (rawP x)) [] (List.take i raw)).length = m := ⟨_, rfl⟩
      rw [hm] at rT HT
      rcases hd with ⟨hd, hd1⟩ | ⟨⟨hd, hd1⟩, hd2, hd3⟩
      · go_wp2
        refine bodyPost_ret (v := .agg #[.bool f, .slice Ao m co]) (by simp [results, Try.results28, go_sem, rR, fR]) rfl ⟨_, rfl, ?_, below_set (below_set hb (by have := HS.out.1; show _ ≤ s; omega)) (by have := HS.out.1; show _ ≤ s; omega)⟩
        have e : tokR raw = List.foldl (fun l x => insT l (rawP x)) [] (List.take i raw) := by
          unfold tokR
          rw [HE.out]
        rw [e]
        have ho := HO.out
        rw [hm] at ho
        exact Kd.R_mono (Kd.R_lower (Kd.R_far (p := ⟨s, 1, none⟩) (Kd.R_far (p := ⟨s, 0, none⟩) (Kd.R_bound ho) (fun k hk => by have := hk.2.1; show k ≠ s; omega) _) (fun k hk => by have := hk.2.1; show k ≠ s; omega) _) (by have := HS.out.1; omega)) (fun _ _ => trivial)
      · go_wp2
        refine bodyPost_ret (v := .agg #[.bool f, .slice Ao m co]) (by simp [results, Try.results28, go_sem, rR, fR]) rfl ⟨_, rfl, ?_, below_set (below_set hb (by have := HS.out.1; show _ ≤ s; omega)) (by have := HS.out.1; show _ ≤ s; omega)⟩
        have e : tokR raw = List.foldl (fun l x => insT l (rawP x)) [] (List.take i raw) := by
          unfold tokR
          rw [HE.out]
        rw [e]
        have ho := HO.out
        rw [hm] at ho
        exact Kd.R_mono (Kd.R_lower (Kd.R_far (p := ⟨s, 1, none⟩) (Kd.R_far (p := ⟨s, 0, none⟩) (Kd.R_bound ho) (fun k hk => by have := hk.2.1; show k ≠ s; omega) _) (fun k hk => by have := hk.2.1; show k ≠ s; omega) _) (by have := HS.out.1; omega)) (fun _ _ => trivial)
end Go.Proofs.Ytnfglkgkdechlaa


/- Raw keys (chapter 7's statements). -/
namespace Go.Proofs.Ytnfglkgkdechlaa
open Go.RowKit Go.Proofs.YtnfglkgkdechlaaW.PrintWords Go.Proofs.YtnfglkgkdechlaaW.PrintLast Go.Proofs.YtnfglkgkdechlaaW.PrintMore

open Go.Proofs.Ytnfglkgkdechlaa.PQ

def In64k (c : Int) : Prop := -9223372036854775808 ≤ c ∧ c ≤ 9223372036854775807
def pickK (c n : Int) : Int := Int.tmod (if c < 0 then -(c + 1) else c) n
theorem pickK_f (c n : Int) (hc : In64k c) (hn : 0 < n) : mootbelllaw07_pick.f c n = some (pickK c n) := by
  unfold mootbelllaw07_pick.f pickK
  unfold In64k at hc
  have w64 : ∀ {x : Int}, (-9223372036854775808 ≤ x ∧ x ≤ 9223372036854775807) → wrap64 x = x := fun h => by
    rw [← i64_w]
    exact IntWalk.i64_in _ h
  by_cases h : c < 0
  · rw [if_pos h, if_neg (by omega), if_pos h, w64 (x := c + 1) (by omega), w64 (x := -(c + 1)) (by omega)]
  · rw [if_neg h, if_neg (by omega), if_neg h]
theorem pickK_lt (c n : Int) (hn : 0 < n) : 0 ≤ pickK c n ∧ pickK c n < n := by
  unfold pickK
  have h0 : 0 ≤ (if c < 0 then -(c + 1) else c) := by split <;> omega
  rw [Int.tmod_eq_emod_of_nonneg h0]
  exact ⟨Int.emod_nonneg _ (by omega), Int.emod_lt_of_pos _ hn⟩
theorem pickKE (c n r : Int) (hc : In64k c) (hn : 0 < n) (w : World) (h : pickK c n = r) : Calls Try.prog 20 #[.int .i64 c, .int .i64 n] w fun e w' => e = .returned (.int .i64 r) ∧ Below w.heap.size w w' :=
  (mootbelllaw07_pick.calls c n r w (by rw [pickK_f c n hc hn, h])).mono fun e w' hh => ⟨hh.1, hh.2.below⟩
def addK (acc : List Int) (k : Int) : List Int := if acc.contains k then acc else acc ++ [k]
def keysR (raw : List Int) : List Int := (raw.take 12).foldl (fun acc x => addK acc (pickK x 12)) []
def hadK (acc : List Int) : Array Value := ((List.range 12).map (fun i : Nat => Value.bool (acc.contains (i : Int)))).toArray
theorem hadK_get (acc : List Int) {i : Nat} (h : i < 12) : (hadK acc)[i]? = some (.bool (acc.contains (i : Int))) := by simp [hadK, h]
theorem hadK_put (acc : List Int) (i : Nat) (h : i < 12) : (hadK acc).setIfInBounds i (.bool true) = hadK (acc ++ [(i : Int)]) := by
  apply Array.ext
  · simp [hadK]
  · intro j h1 h2
    simp only [hadK, List.setIfInBounds_toArray, List.getElem_toArray, List.getElem_set, List.getElem_map, List.getElem_range]
    by_cases e : i = j
    · subst e
      simp
    · rw [if_neg e]
      have : ¬ (j : Int) = (i : Int) := by omega
      simp [this]
theorem had_zeroK (u : World) : (zeroValue 76).run Try.prog u = .ok (.agg (hadK [])) u := by kernel_rfl
theorem addK_len (acc : List Int) (k : Int) : (addK acc k).length ≤ acc.length + 1 := by
  unfold addK
  split
  · omega
  · simp
set_option maxRecDepth 100000 in
set_option maxHeartbeats 8000000 in
theorem lKeys (A : Option Addr) (n c : Nat) (raw : List Int) (w : World) (hA : (Kd.int .i64).C w A n raw) (hc : n ≤ c) (hi : ∀ x ∈ raw, In64k x) : Calls Try.prog 27 #[.slice A n c] w
    fun r w' => ∃ v, r = .returned v ∧ (Kd.int .u64).R 28 w' w.heap.size (fun _ => True) v (keysR raw) ∧ Below w.heap.size w w' := by
  have HN := Aside0.mk (show n = raw.length from (Kd.C_len hA).symm)
  have hn63 : n ≤ 9223372036854775807 := by rw [HN.out]; exact Kd.C_len hA ▸ Kd.C_max hA
  have HX := Aside0.mk hA
  have HI := Aside0.mk hi
  clear hA hi
  have hz := had_zeroK
  go_enter Try.func27, Try.ntmps27
  go_wp2
  clear hz
  obtain ⟨W, hW⟩ : ∃ W, w.alloc (.cells (hadK []) 76) = W := ⟨_, rfl⟩
  rw [hW]
  have bH := Aside0.mk (hW ▸ Box.new : Box W w.heap.size (hadK []) 76)
  have HB := Aside0.mk (hW ▸ below_alloc (Below.refl _ _) _ : Below w.heap.size w W)
  have hsW : W.heap.size = w.heap.size + 1 := by rw [← hW, size_alloc]
  clear hW
  obtain ⟨s, hs⟩ : ∃ s, w.heap.size = s := ⟨_, rfl⟩
  rw [hs] at bH hsW ⊢
  have HS := Aside0.mk hs
  clear hs
  go_loopw [4, 5] (fun v4 v5 wx => ∃ (i : Nat), i ≤ n ∧ i ≤ 12 ∧ v5 = .int .i64 i ∧ Box wx s (hadK ((raw.take i).foldl (fun acc x => addK acc (pickK x 12)) [])) 76 ∧ (Kd.int .u64).R 28 wx (s + 1) (fun _ => True) v4 ((raw.take i).foldl (fun acc x => addK acc (pickK x 12)) []) ∧ ((raw.take i).foldl (fun acc x => addK acc (pickK x 12)) []).length ≤ i ∧ Below w.heap.size w wx) (fun _ v5 _ => 12 - (intOf v5).toNat)
  case atStart => exact ⟨0, by omega, by omega, rfl, bH.out, Kd.R_nil _ _ _ _ _, by simp, HB.out⟩
  case round =>
    clear HB bH
    obtain ⟨i, hi, hi12, rfl, hH, hO, hlen, hb⟩ := hrel
    by_cases hlt : i < n ∧ i < 12
    · obtain ⟨z, hz⟩ : ∃ z : Int, (i : Int) = z := ⟨_, rfl⟩
      have hil : i < raw.length := by rw [← HN.out]; exact hlt.1
      obtain ⟨x, hx⟩ : ∃ x, rd raw z = x := ⟨_, rfl⟩
      have hxe : raw[i] = x := by
        rw [← hx, ← hz]
        unfold rd
        rw [Int.toNat_natCast, List.getD_eq_getElem?_getD, List.getElem?_eq_getElem hil]
        rfl
      have HF := Aside0.mk (show (raw.take (i + 1)).foldl (fun acc x => addK acc (pickK x 12)) [] = addK ((raw.take i).foldl (fun acc x => addK acc (pickK x 12)) []) (pickK x 12) by rw [List.take_succ_eq_append_getElem hil, List.foldl_append, hxe]; rfl)
      have HXI := Aside0.mk (HI.out x (by rw [← hxe]; exact List.getElem_mem hil))
      generalize ((raw.take i).foldl (fun acc x => addK acc (pickK x 12)) []) = l at *
      rw [hz]
      have hz0 : 0 ≤ z := by omega
      have hz1 : z < (n : Int) := by omega
      have hz2 : z < 12 := by omega
      have hd1 : decide (z < (n : Int)) = true := decide_eq_true hz1
      have hd2 : decide (z < 12) = true := decide_eq_true hz2
      obtain ⟨ad, rfl, rX⟩ := Kd.at_int (Kd.C_below HX.out hb) z hz0 hz1
      rw [hx] at rX
      have HZ := Aside0.mk hz
      obtain ⟨k, hk⟩ : ∃ p : Nat, pickK x 12 = (p : Int) := ⟨(pickK x 12).toNat, by have := pickK_lt x 12 (by omega); omega⟩
      have hk12 : k < 12 := by have := pickK_lt x 12 (by omega); omega
      have HP := Aside0.mk hk
      rw [hk] at HF
      obtain ⟨kz, hkz⟩ : ∃ z : Int, (k : Int) = z := ⟨_, rfl⟩
      have HKZ := Aside0.mk hkz
      rw [hkz] at hk HF
      have hkz0 : 0 ≤ kz := by omega
      have hkz1 : kz < 12 := by omega
      have hkt : kz.toNat = k := by omega
      have hc1 : IntKind.u64.wrap kz = kz := by rw [IntKind.wrap_u64]; omega
      have hH0 := Aside0.mk hH
      have HO := Aside0.mk hO
      have HB := Aside0.mk hb
      have hPK := Aside0.mk (show pickK x 12 = kz from hk)
      clear hz hx hxe hH hO hb hil hlt hkz hk
      go_wp2_with fail
      refine (pickKE x 12 kz HXI.out (by omega) _ hPK.out).mono ?_
      rintro e w5 ⟨rfl, hb_⟩
      have XH := Aside0.mk (hH0.out.below hb_)
      have HO5 := Aside0.mk (Kd.R_below HO.out hb_)
      have HB := Aside0.mk (below_step HB.out hb_)
      obtain ⟨b, hbb⟩ : ∃ b, l.contains kz = b := ⟨_, rfl⟩
      have h0 : w5.cell? ⟨s, k, none⟩ = some (.bool b) := by
        rw [XH.out.cell, hadK_get _ hk12, HKZ.out, hbb]
      have h1 : w5.frozen? ⟨s, k, none⟩ = false := XH.out.frozen _
      clear hb_ rX
      cases b with
      | true =>
        have HBB := Aside0.mk hbb
        clear hbb
        go_wp2
        go_roundw
        case rel =>
          refine ⟨i + 1, by have := HZ.out; omega, by have := HZ.out; omega, by have := HZ.out; subst this; go_num, ?_, ?_, ?_, HB.out⟩
          all_goals rw [HF.out, addK, HBB.out, if_pos rfl]
          · exact XH.out
          · exact HO5.out
          · omega
        case measure =>
          have := HZ.out
          simp [intOf]
          omega
      | false =>
        have HBB := Aside0.mk hbb
        have HAD := Aside0.mk (show addK l kz = l ++ [kz] by rw [addK, hbb, if_neg (by decide)])
        clear hbb
        have hl12 : l.length ≤ 12 := by omega
        have hsz : s + 1 ≤ w5.heap.size := XH.out.lt
        go_upto_region 9 with (fail)
        obtain ⟨V, hV⟩ : ∃ V, w5.setCell ⟨s, k, none⟩ (.bool true) = V := ⟨_, rfl⟩
        rw [hV]
        have XV := Aside0.mk (show Box V s (hadK (l ++ [kz])) 76 from by
          have e := Box.put (j := k) (v := .bool true) XH.out
          rw [hV, hadK_put _ _ hk12, HKZ.out] at e
          exact e)
        have HOV := Aside0.mk (show (Kd.int .u64).R 28 V (s + 1) (fun _ => True) u4 l from hV ▸ Kd.R_mono (Kd.R_far (p := ⟨s, k, none⟩) (Kd.R_bound HO5.out) (fun k hk => by have := hk.2.1; show k ≠ s; omega) _) (fun _ _ => trivial))
        have HBV := Aside0.mk (show Below w.heap.size w V from hV ▸ below_set HB.out (by have := HS.out; show _ ≤ s; omega))
        have hszV : s + 1 ≤ V.heap.size := XV.out.lt
        clear hV HB HO5 XH h0 h1 HO hH0
        have HB := Aside0.mk (Below.refl (s + 1) V)
        have HO := HOV
        go_wp2_with (first | ((with_reducible refine gate_builtin (b := .append) (xs := #[.tmp 28, .tmp 31]) rfl ?_); at_builtin; go_must (refine Kd.R_append (Kd.int .u64) (w0 := V) (s + 1) rfl (.tmp 28) (.tmp 31) 27 28 (.int .u64 0) 8 rfl Try.underlying27 infoU64 rfl (by decide) (by omega) (_) (l) (kz) [.int .u64 kz] (fun _ => True) (fun _ => False) rfl rfl ?aP (fun _ hk => hk.elim) ?aF ?aO ?aB ?aS ?aL ?_; (case aP => exact rfl); (case aB => exact (by repeat (first | exact HB.out | apply below_alloc | apply pw_below_drewN | apply below_drew1 | refine below_set ?_ (by first | omega | (simp; omega))))); (case aF => exact (fun _ _ => trivial)); (case aO => exact (by (with_reducible repeat (first | apply Kd.R_alloc | apply Kd.R_drewN | apply Kd.R_drew)); exact HO.out)); (case aS => (have := hszV; first | omega | (simp; omega))); (case aL => first | omega | (simp; omega)); intro v1 w1 ho_ hb_ hg_ hat_; clear HB; clear HO; have HB := Aside0.mk hb_; have HO := Aside0.mk ho_; clear ho_ hb_ hg_ hat_; )))
        go_roundw
        case rel =>
          have hb1 := HB.out
          have ho1 := HO.out
          refine ⟨i + 1, by have := HZ.out; omega, by have := HZ.out; omega, by have := HZ.out; subst this; go_num, ?_, ?_, ?_, Below.trans HBV.out (hb1.mono (by have := HS.out; omega))⟩
          all_goals rw [HF.out, HAD.out]
          · exact (hb1.block s (by omega)).trans XV.out
          · exact ho1
          · simp; omega
        case measure =>
          have := HZ.out
          simp [intOf]
          omega
    · have hd : (decide ((i : Int) < (n : Int)) = false ∧ decide (i < n) = false) ∨ ((decide ((i : Int) < (n : Int)) = true ∧ decide (i < n) = true) ∧ decide ((i : Int) < 12) = false ∧ decide (i < 12) = false) := by
        by_cases h1 : i < n
        · exact Or.inr ⟨⟨decide_eq_true (by omega), decide_eq_true h1⟩, decide_eq_false (by omega), decide_eq_false (by omega)⟩
        · exact Or.inl ⟨decide_eq_false (by omega), decide_eq_false h1⟩
      have HE := Aside0.mk (show raw.take i = raw.take 12 by
        by_cases h1 : i < n
        · rw [show i = 12 by omega]
        · rw [List.take_of_length_le (by rw [← HN.out]; omega), List.take_of_length_le (by rw [← HN.out]; omega)])
      have HO := Aside0.mk hO
      have HB := Aside0.mk hb
      clear hO hb hH hlen
      rcases hd with ⟨hd, hd1⟩ | ⟨⟨hd, hd1⟩, hd2, hd3⟩
      · go_wp2
        go_ret
        refine ⟨_, rfl, ?_, HB.out⟩
        have e := HO.out
        rw [HE.out] at e
        exact Kd.R_lower e (by have := HS.out; omega)
      · go_wp2
        go_ret
        refine ⟨_, rfl, ?_, HB.out⟩
        have e := HO.out
        rw [HE.out] at e
        exact Kd.R_lower e (by have := HS.out; omega)
end Go.Proofs.Ytnfglkgkdechlaa

namespace Go.Proofs.Ytnfglkgkdechlaa.PQ
open Go.RowKit Go.Proofs.YtnfglkgkdechlaaW.PrintWords Go.Proofs.YtnfglkgkdechlaaW.PrintLast Go.Proofs.YtnfglkgkdechlaaW.PrintMore
attribute [local go_sem] max2_int min2_int max_two min_two max_three min_three max_four min_four   -- for this text's walks alone

attribute [local go_sem high] eqA52

/-! ### mootbellref07_Sign: function 29 -/
def mootbellref07_Sign.l0 : Nat → Int → List Int → Int → Bool → List (S52) → Option (Bool × (List (S52)) × Int)
  | 0, _, _, _, _, _ => none
  | k + 1, x0, x1, x7, x147000, x147001 => if x7 < (x1.length : Int) then (if 0 ≤ x7 then ((mootbellref07_with.f x147001 (rd x1 x7) x0).bind fun t148 => (mootbellref07_Sign.l0 k x0 x1 (wrap64 (x7 + 1)) x147000 t148)) else (none)) else (some (x147000, x147001, 0))
def mootbellref07_Sign.f (k : Nat) (a0 : Int) (l1 : List Int) : Option (Bool × (List (S52)) × Int) := if (l1.length : Int) > 2048 then (some (false, ([] : List (S52)), 4)) else (mootbellref07_Sign.l0 k a0 l1 0 false ([] : List (S52)))
theorem mootbellref07_Sign.mono_l : ∀ k, (∀ y0 y1 y2 y3 y4, LeO (mootbellref07_Sign.l0 k y0 y1 y2 y3 y4) (mootbellref07_Sign.l0 (k + 1) y0 y1 y2 y3 y4))
  | 0 => fun _ _ _ _ _ r h => by simp [mootbellref07_Sign.l0] at h
  | k + 1 => by
    have ih0 := mootbellref07_Sign.mono_l k
    · intro y0 y1 y2 y3 y4
      unfold mootbellref07_Sign.l0
      repeat' first
      | (with_reducible exact ih0 _ _ _ _ _)
      | (with_reducible exact LeO.refl _)
      | (with_reducible exact LeO.none _)
      | (with_reducible refine LeO.ite ?_ ?_)
      | (with_reducible refine LeO.bind ?_ (fun _ => ?_))
      | exact ih0 _ _ _ _ _
      | exact LeO.none _
      | refine LeO.ite ?_ ?_
      | refine LeO.bind ?_ (fun _ => ?_)
theorem mootbellref07_Sign.mono : ∀ a0 a1 k, LeO (mootbellref07_Sign.f k a0 a1) (mootbellref07_Sign.f (k + 1) a0 a1) := by
  intro a0 a1 k
  have ih0 := mootbellref07_Sign.mono_l k
  unfold mootbellref07_Sign.f
  repeat' first
      | (with_reducible exact ih0 _ _ _ _ _)
      | (with_reducible exact LeO.refl _)
      | (with_reducible exact LeO.none _)
      | (with_reducible refine LeO.ite ?_ ?_)
      | (with_reducible refine LeO.bind ?_ (fun _ => ?_))
      | exact ih0 _ _ _ _ _
      | exact LeO.none _
      | refine LeO.ite ?_ ?_
      | refine LeO.bind ?_ (fun _ => ?_)
def mootbellref07_Sign.T7 : Bool × List (List Nat × List Nat) := (true, [([], []), ([0], [0]), ([], []), ([], []), ([2, 3], [2, 3]), ([4], [4]), ([], []), ([5, 6], [5, 6]), ([1, 7], [1, 7]), ([0, 1, 2, 3, 4, 5, 6, 7, 8], []), ([9, 8, 8, 0, 1, 2, 3, 4, 5, 6, 7, 8], [8, 9])])
def mootbellref07_Sign.B7 : List Nat := [0, 1, 0, 0, 12, 28, 0, 124, 255, 511, 1023]
theorem mootbellref07_Sign.tab7 : rtab .any (opsOf Try.f29 7) = mootbellref07_Sign.T7 := by kernel_rfl
theorem mootbellref07_Sign.bits7 : waitsOk mootbellref07_Sign.T7.2 mootbellref07_Sign.B7 = true := by kernel_rfl
set_option maxHeartbeats 8000000 in
set_option maxRecDepth 100000 in
theorem mootbellref07_Sign.calls (k : Nat) (a0 : Int) (A1 : Option Addr) (c1 : Nat) (l1 : List Int) (r1 : Bool) (r2 : List (S52)) (r3 : Int) (w : World) (hr1 : Kd.C (Kd.int .u64) w A1 l1.length l1) (hc1 : l1.length ≤ c1) (h : mootbellref07_Sign.f k a0 l1 = some (r1, r2, r3)) :
    Calls Try.prog 29 #[.int .u64 a0, .slice A1 l1.length c1] w fun e w' => ∃ v1_ : Value, e = .returned (.tuple #[.agg #[.bool r1, v1_], .int .i64 r3]) ∧ Kd.R k52 52 w' w.heap.size (fun _ => True) v1_ r2 ∧ Below w.heap.size w w' := by
  have hu30 := Try.underlying30
  have hu52 := Try.underlying52
  have HR1 := Aside0.mk hr1
  have HC1 := Aside0.mk hc1
  clear hr1 hc1
  have HB := Aside0.mk (Below.refl w.heap.size w)
  have H : (if (l1.length : Int) > 2048 then (some (false, ([] : List (S52)), 4)) else (mootbellref07_Sign.l0 k a0 l1 0 false ([] : List (S52)))) = some (r1, r2, r3) := h
  clear h
  by_cases c3 : (l1.length : Int) > 2048
  · rw [if_pos c3] at H
    have c3b0 : decide (2048 < (l1.length : Int)) = true := decide_eq_true c3
    have c3b1 : decide (2048 < l1.length) = true := decide_eq_true (by omega)
    clear c3
    simp only [Option.some.injEq, Prod.mk.injEq] at H
    obtain ⟨rfl, rfl, rfl⟩ := H
    go_enter Try.func29, Try.ntmps29
    go_wp2_with (first | ((with_reducible refine gate_dst (N := 4) rfl ?_); refine box_event ?hg (N := 4) ?hd (cs := #[.bool false, .slice none 0 0]) (t := 30) ?hr ?_; (case hd => rfl); (case hg => rfl); (case hr => first | (go_simp; done) | (go_simp; rfl)); intro gb145 hg w4 hbox hb; have n0_ := Aside0.mk (below_step (by repeat (first | (with_reducible first | exact HB.out | apply below_alloc | apply pw_below_drewN | apply below_drew1) | exact HB.out)) hb); have n1_ := Aside0.mk (hbox); have n2_ := Aside0.mk ((by rw [hg]; exact (below_size (by repeat (first | (with_reducible first | exact HB.out | apply below_alloc | apply pw_below_drewN | apply below_drew1) | exact HB.out))) : w.heap.size ≤ gb145)); have n3_ := Aside0.mk ((by rw [hg]; exact (below_size (by repeat (first | (with_reducible first | exact HB.out | apply below_alloc | apply pw_below_drewN | apply below_drew1) | exact HB.out))) : w.heap.size ≤ gb145)); clear HB; have HB := n0_; have BK145 := n1_; have GW145 := n2_; have GE145 := n3_; clear n0_ n1_ n2_ n3_; clear hb hbox hg; have hcz5_0 : w4.cell? ⟨gb145, 0, none⟩ = some (.bool false) := (blk_cell BK145.out 0).trans rfl; have hcz5_1 : w4.cell? ⟨gb145, 1, none⟩ = some (.slice none 0 0) := (blk_cell BK145.out 1).trans rfl; have hfz5_0 := blk_frozen BK145.out 0; have hfz5_1 := blk_frozen BK145.out 1))
    refine bodyPost_ret (results_ct rfl _ _ gb145 30 #[.bool false, .slice none 0 0] (0, 0) _ rfl (by (with_reducible repeat (first | refine blk_drewN ?_ _ | refine blk_drew ?_ | refine blk_alloc ?_ _)); refine blk_put (cs := #[.bool false, .slice none 0 0]) ?_ 1 _ rfl; (with_reducible repeat (first | refine blk_drewN ?_ _ | refine blk_drew ?_ | refine blk_alloc ?_ _)); refine blk_put (cs := #[.bool false, .slice none 0 0]) ?_ 0 _ rfl; (with_reducible repeat (first | refine blk_drewN ?_ _ | refine blk_drew ?_ | refine blk_alloc ?_ _)); exact BK145.out) Try.underlying30 rfl (by kernel_rfl)) rfl ?_
    exact ⟨_, by first | rfl | (simp [errW_none, errW_some] <;> rfl) | (simp [*, errW_none, errW_some] <;> rfl), by first | exact Kd.R_nil _ _ _ _ _ | exact Kd.N_nil _ _ _ _ _ | exact Kd.V_nil _ _ _ _ _ | exact Kd.Q_nil _ _ _ _ _ | exact Kd.S_nil _ _ _ _ _, by repeat (first | (with_reducible first | exact HB.out | apply below_alloc | apply pw_below_drewN | apply below_drew1 | refine below_set ?_ GE145.out) | exact HB.out)⟩
  · rw [if_neg c3] at H
    have c3b0 : decide (2048 < (l1.length : Int)) = false := decide_eq_false c3
    have c3b1 : decide (2048 < l1.length) = false := decide_eq_false (by omega)
    clear c3
    have H' := Aside0.mk H
    clear H
    go_enter Try.func29, Try.ntmps29
    go_wp2_with (first | ((with_reducible refine gate_dst (N := 4) rfl ?_); refine box_event ?hg (N := 4) ?hd (cs := #[.bool false, .slice none 0 0]) (t := 30) ?hr ?_; (case hd => rfl); (case hg => rfl); (case hr => first | (go_simp; done) | (go_simp; rfl)); intro gb145 hg w6 hbox hb; have n0_ := Aside0.mk (below_step (by repeat (first | (with_reducible first | exact HB.out | apply below_alloc | apply pw_below_drewN | apply below_drew1) | exact HB.out)) hb); have n1_ := Aside0.mk (hbox); have n2_ := Aside0.mk ((by rw [hg]; exact (below_size (by repeat (first | (with_reducible first | exact HB.out | apply below_alloc | apply pw_below_drewN | apply below_drew1) | exact HB.out))) : w.heap.size ≤ gb145)); have n3_ := Aside0.mk ((by rw [hg]; exact (below_size (by repeat (first | (with_reducible first | exact HB.out | apply below_alloc | apply pw_below_drewN | apply below_drew1) | exact HB.out))) : w.heap.size ≤ gb145)); clear HB; have HB := n0_; have BK145 := n1_; have GW145 := n2_; have GE145 := n3_; clear n0_ n1_ n2_ n3_; clear hb hbox hg) | ((with_reducible refine gate_dst (N := 6) rfl ?_); refine box_event ?hg (N := 6) ?hd (cs := #[.bool false, .slice none 0 0]) (t := 30) ?hr ?_; (case hd => rfl); (case hg => rfl); (case hr => first | (go_simp; done) | (go_simp; rfl)); intro gb146 hg w7 hbox hb; have n0_ := Aside0.mk (blk_below (g := gb145) (o := .cells #[.bool false, .slice none 0 0] 30 (0, 0)) (by (with_reducible repeat (first | refine blk_drewN ?_ _ | refine blk_drew ?_ | refine blk_alloc ?_ _)); exact BK145.out) hb); have n1_ := Aside0.mk (below_step (by repeat (first | (with_reducible first | exact HB.out | apply below_alloc | apply pw_below_drewN | apply below_drew1 | refine below_set ?_ GE145.out) | exact HB.out)) hb); have n2_ := Aside0.mk (hbox); have n3_ := Aside0.mk ((by rw [hg]; exact (below_size (by repeat (first | (with_reducible first | exact HB.out | apply below_alloc | apply pw_below_drewN | apply below_drew1 | refine below_set ?_ GE145.out) | exact HB.out))) : w.heap.size ≤ gb146)); have n4_ := Aside0.mk ((by rw [hg]; exact (below_size (by repeat (first | (with_reducible first | exact HB.out | apply below_alloc | apply pw_below_drewN | apply below_drew1 | refine below_set ?_ GE145.out) | exact HB.out))) : w.heap.size ≤ gb146)); have n5_ := Aside0.mk ((by rw [hg]; exact Nat.ne_of_lt (blk_lt (g := gb145) (o := .cells #[.bool false, .slice none 0 0] 30 (0, 0)) (by (with_reducible repeat (first | refine blk_drewN ?_ _ | refine blk_drew ?_ | refine blk_alloc ?_ _)); exact BK145.out)) : gb145 ≠ gb146)); have n6_ := Aside0.mk ((by rw [hg]; exact Nat.ne_of_gt (blk_lt (g := gb145) (o := .cells #[.bool false, .slice none 0 0] 30 (0, 0)) (by (with_reducible repeat (first | refine blk_drewN ?_ _ | refine blk_drew ?_ | refine blk_alloc ?_ _)); exact BK145.out)) : gb146 ≠ gb145)); clear BK145; clear HB; have BK145 := n0_; have HB := n1_; have BK146 := n2_; have GW146 := n3_; have GE146 := n4_; have NB145_146 := n5_; have NB146_145 := n6_; clear n0_ n1_ n2_ n3_ n4_ n5_ n6_; clear hb hbox hg; have hnb8 := NB146_145.out; have hnc8 := NB145_146.out; have hcz9_0 : w7.cell? ⟨gb146, 0, none⟩ = some (.bool false) := (blk_cell BK146.out 0).trans rfl; have hcz9_1 : w7.cell? ⟨gb146, 1, none⟩ = some (.slice none 0 0) := (blk_cell BK146.out 1).trans rfl; have hfz9_0 := blk_frozen BK146.out 0; have hfz9_1 := blk_frozen BK146.out 1))
    go_loopg [7] k (fun kq v7 w' => ∃ (x7_1 : Int) (x147001_1 : List (S52)) (u147001 : Value), v7 = .int .i64 x7_1 ∧ Aside0 (mootbellref07_Sign.l0 kq a0 l1 x7_1 false x147001_1 = some (r1, r2, r3)) ∧ Aside0 (kq ≤ k) ∧ Aside0 (Kd.R k52 52 w' w.heap.size (fun _ => True) u147001 x147001_1) ∧ Aside0 (w'.heap[gb145]? = some (.cells #[.bool false, (.slice none 0 0)] 30 (0, 0))) ∧ Aside0 (w'.heap[gb146]? = some (.cells #[.bool false, u147001] 30 (0, 0))) ∧ Aside0 (Below w.heap.size w w'))
    case atStart => exact ⟨(0), (([] : List (S52))), (.slice none 0 0), (by first | rfl | (simp; done) | (simp [*]; done)), H', ⟨Nat.le_refl _⟩, ⟨by first | exact Kd.R_nil _ _ _ _ _ | exact Kd.N_nil _ _ _ _ _ | exact Kd.V_nil _ _ _ _ _ | exact Kd.Q_nil _ _ _ _ _ | exact Kd.S_nil _ _ _ _ _⟩, ⟨by (with_reducible repeat (first | refine blk_drewN ?_ _ | refine blk_drew ?_ | refine blk_alloc ?_ _)); refine blk_far ?_ NB145_146.out _; (with_reducible repeat (first | refine blk_drewN ?_ _ | refine blk_drew ?_ | refine blk_alloc ?_ _)); refine blk_far ?_ NB145_146.out _; (with_reducible repeat (first | refine blk_drewN ?_ _ | refine blk_drew ?_ | refine blk_alloc ?_ _)); exact BK145.out⟩, ⟨by (with_reducible repeat (first | refine blk_drewN ?_ _ | refine blk_drew ?_ | refine blk_alloc ?_ _)); refine blk_put (cs := #[.bool false, .slice none 0 0]) ?_ 1 _ rfl; (with_reducible repeat (first | refine blk_drewN ?_ _ | refine blk_drew ?_ | refine blk_alloc ?_ _)); refine blk_put (cs := #[.bool false, .slice none 0 0]) ?_ 0 _ rfl; (with_reducible repeat (first | refine blk_drewN ?_ _ | refine blk_drew ?_ | refine blk_alloc ?_ _)); exact BK146.out⟩, ⟨by repeat (first | (with_reducible first | exact HB.out | apply below_alloc | apply pw_below_drewN | apply below_drew1 | refine below_set ?_ GE145.out | refine below_set ?_ GE146.out) | exact HB.out)⟩⟩
    case round =>
      clear H'
      try clear c1
      try clear c2
      try clear p2
      try clear c3
      try clear c3b0
      try clear c3b1
      try clear c8
      try clear hcz5_0
      try clear hcz5_1
      try clear hcz9_0
      try clear hcz9_1
      try clear hfz5_0
      try clear hfz5_1
      try clear hfz9_0
      try clear hfz9_1
      obtain ⟨x7_1, x147001_1, u147001, rfl, HA, HK1, HO_147001, BK145, BK146, HB⟩ := hrel
      cases gk with
      | zero => exact absurd HA.out (by simp [mootbellref07_Sign.l0])
      | succ k1 =>
        have H := HA.out
        clear HA
        simp only [mootbellref07_Sign.l0] at H
        by_cases c10 : x7_1 < (l1.length : Int)
        · rw [if_pos c10] at H
          have c10b0 : decide (x7_1 < (l1.length : Int)) = true := decide_eq_true c10
          clear c10
          by_cases c11 : 0 ≤ x7_1
          · rw [if_pos c11] at H
            have c11b0 : decide (0 ≤ x7_1) = true := decide_eq_true c11
            clear c11
            replace H := Option.bind_eq_some_iff.mp H
            obtain ⟨t148, A120, H⟩ := H
            replace H : (mootbellref07_Sign.l0 k1 a0 l1 (wrap64 (x7_1 + 1)) false t148) = some (r1, r2, r3) := H
            have A12 := Aside0.mk A120
            clear A120
            have H' := Aside0.mk H
            clear H
            try go_wp2
            have n0_ := Aside0.mk (Kd.R_drew HO_147001.out)
            have n1_ := Aside0.mk (blk_drew BK145.out)
            have n2_ := Aside0.mk (blk_drew BK146.out)
            have n3_ := Aside0.mk (below_drew1 HB.out)
            clear HO_147001
            clear BK145
            clear BK146
            clear HB
            have HO_147001 := n0_
            have BK145 := n1_
            have BK146 := n2_
            have HB := n3_
            clear n0_ n1_ n2_ n3_
            have p147 : 0 ≤ (x7_1 : Int) := of_decide_eq_true (by first | (with_reducible assumption) | assumption)
            have q147 : x7_1 < (l1.length : Int) := of_decide_eq_true (by first | (with_reducible assumption) | assumption)
            obtain ⟨ad147, e147, hx147_0⟩ := Kd.at_int HR1.out x7_1 p147 q147
            have hw147_0 := hx147_0
            cases e147
            replace hx147_0 := (HB.out.cell (World.block_lt_of_cell? w _ hx147_0)).trans hx147_0
            replace p147 := eq_true p147
            replace q147 := eq_true q147
            obtain ⟨Ao14, co14, eo14⟩ := Kd.R_slice HO_147001.out
            (first | subst eo14 | (injection eo14 with f1_ f2_ f3_; have f4_ := f1_.symm; have f5_ := f3_.symm; clear f1_ f2_ f3_; subst f4_; subst f5_))
            refine start_ (n := 11) (S := fun w' => w'.cell? ⟨gb146, 0, none⟩ = some (.bool false) ∧ w'.cell? ⟨gb146, 1, none⟩ = some (.slice Ao14 x147001_1.length co14) ∧ w'.cell? (ad147.add (x7_1).toNat) = some (.int .u64 (rd l1 x7_1))) (ds := [10]) #[false, false, false, false, false, false, false, false, false, false, false] (by kernel_rfl) rfl rfl ⟨(blk_cell BK146.out 0).trans rfl, (blk_cell BK146.out 1).trans rfl, ((HB.out.cell (World.block_lt_of_cell? w _ hw147_0)).trans hw147_0)⟩ (fun hHeld => ?_); refine with_tabW mootbellref07_Sign.tab7 mootbellref07_Sign.bits7 (fun HT_ HW_ => ?_)
            generalize wr.drew = w13 at HO_147001 BK145 BK146 HB hx147_0 hHeld ⊢
            refine pure_ (i := 0) (N := some 19) (v := ?_) (a' := ?_) #[true, false, false, false, false, false, false, false, false, false, false] rfl rfl (any_of HT_.out (by kernel_rfl)) (fun _ _ _ h => h) (Or.inl ⟨by rfl, ?_⟩) ?_ ?_
            rotate_left
            · intro w'
              go_simp
              with_reducible rfl
            rotate_left
            · simp only [Act.put, qa_, qb_, qc_, i64_w, i32_w]
              rfl
            refine pure_ (i := 2) (N := some 21) (v := ?_) (a' := ?_) #[true, false, true, false, false, false, false, false, false, false, false] rfl rfl (any_of HT_.out (by kernel_rfl)) (fun _ _ _ h => h) (Or.inl ⟨by rfl, ?_⟩) ?_ ?_
            rotate_left
            · intro w'
              go_simp
              with_reducible rfl
            rotate_left
            · simp only [Act.put, qa_, qb_, qc_, i64_w, i32_w]
              rfl
            refine pure_ (i := 3) (N := some 22) (v := ?_) (a' := ?_) #[true, false, true, true, false, false, false, false, false, false, false] rfl rfl (any_of HT_.out (by kernel_rfl)) (fun _ _ _ h => h) (Or.inl ⟨by rfl, ?_⟩) ?_ ?_
            rotate_left
            · intro w'
              go_simp
              with_reducible rfl
            rotate_left
            · simp only [Act.put, qa_, qb_, qc_, i64_w, i32_w]
              rfl
            refine pure_ (i := 4) (N := some 23) (v := ?_) (a' := ?_) #[true, false, true, true, true, false, false, false, false, false, false] rfl rfl (any_of HT_.out (by kernel_rfl)) (fun _ _ _ h => h) (Or.inl ⟨by rfl, ?_⟩) ?_ ?_
            rotate_left
            · intro w'
              go_simp
              with_reducible rfl
            rotate_left
            · simp only [Act.put, qa_, qb_, qc_, i64_w, i32_w]
              rfl
            refine pure_ (i := 6) (N := some 25) (v := ?_) (a' := ?_) #[true, false, true, true, true, false, true, false, false, false, false] rfl rfl (any_of HT_.out (by kernel_rfl)) (fun _ _ _ h => h) (Or.inl ⟨by rfl, ?_⟩) ?_ ?_
            rotate_left
            · intro w'
              go_simp
              with_reducible rfl
            rotate_left
            · simp only [Act.put, qa_, qb_, qc_, i64_w, i32_w]
              rfl
            refine take_ (i := 1) (N := some 20) (v := ?_) (a' := ?_) #[true, true, true, true, true, false, true, false, false, false, false] rfl rfl (take_ofW HT_.out HW_.out (by kernel_rfl)) (fun _ _ _ h => h) (Or.inl ⟨by rfl, ?_⟩) hHeld ?_ ?_
            rotate_left
            · rintro w' ⟨s0, s1, s2⟩
              go_simp
              with_reducible rfl
            rotate_left
            · simp only [Act.put, qa_, qb_, qc_, i64_w, i32_w]
              rfl
            refine take_ (i := 5) (N := some 24) (v := ?_) (a' := ?_) #[true, true, true, true, true, true, true, false, false, false, false] rfl rfl (take_ofW HT_.out HW_.out (by kernel_rfl)) (fun _ _ _ h => h) (Or.inl ⟨by rfl, ?_⟩) hHeld ?_ ?_
            rotate_left
            · rintro w' ⟨s0, s1, s2⟩
              go_simp
              with_reducible rfl
            rotate_left
            · simp only [Act.put, qa_, qb_, qc_, i64_w, i32_w]
              rfl
            refine pure_ (i := 7) (N := some 26) (v := ?_) (a' := ?_) #[true, true, true, true, true, true, true, true, false, false, false] rfl rfl (any_of HT_.out (by kernel_rfl)) (fun _ _ _ h => h) (Or.inl ⟨by rfl, ?_⟩) ?_ ?_
            rotate_left
            · intro w'
              go_simp
              with_reducible rfl
            rotate_left
            · simp only [Act.put, qa_, qb_, qc_, i64_w, i32_w]
              rfl
            refine one_ (i := 8) (N := some 27) #[true, true, true, true, true, true, true, true, true, false, false] rfl rfl (one_of HT_.out (by kernel_rfl)) (by decide) (fun K hK => ?_)
            refine goes_ Try.func32 (by kernel_rfl) rfl #[.slice Ao14 x147001_1.length co14, .agg #[.int .u64 (rd l1 x7_1), .int .u64 a0]] (by rfl) rfl rfl (by (try simp only [List.map_toArray, List.map_cons, List.map_nil]); first | done | rfl | (simp only [List.length_drop, List.length_take]; rfl)) ?_
            with_reducible refine (mootbellref07_with.calls _ _ x147001_1 (rd l1 x7_1) a0 t148 _ ?side1 ?side2 A12.out).mono ?_
            (case side1 => repeat (first | exact (Kd.R_reads' HO_147001.out).2.2 | (with_reducible refine Kd.C_alloc ?_ _) | (with_reducible refine Kd.C_drewN ?_ _) | (with_reducible refine Kd.C_drew ?_)))
            (case side2 => exact (Kd.R_reads' HO_147001.out).2.1)
            rintro e w15 ⟨v149, rfl, ho0, hb⟩
            refine ⟨_, rfl, ?_⟩
            have n0_ := Aside0.mk (Kd.R_elder' (by (with_reducible repeat (first | apply Kd.R_alloc | apply Kd.R_drewN | apply Kd.R_drew)); exact HO_147001.out) (Kd.R_base ho0) hb)
            have n1_ := Aside0.mk (Kd.R_lower (Kd.R_new' ho0 (Kd.R_lt (by (with_reducible repeat (first | apply Kd.R_alloc | apply Kd.R_drewN | apply Kd.R_drew)); exact HO_147001.out))) (below_size (by repeat (first | (with_reducible first | exact HB.out | apply below_alloc | apply pw_below_drewN | apply below_drew1 | refine below_set ?_ GE145.out | refine below_set ?_ GE146.out) | exact HB.out))))
            have n2_ := Aside0.mk (blk_below (g := gb145) (o := .cells #[.bool false, .slice none 0 0] 30 (0, 0)) (by (with_reducible repeat (first | refine blk_drewN ?_ _ | refine blk_drew ?_ | refine blk_alloc ?_ _)); exact BK145.out) hb)
            have n3_ := Aside0.mk (blk_below (g := gb146) (o := .cells #[.bool false, .slice Ao14 x147001_1.length co14] 30 (0, 0)) (by (with_reducible repeat (first | refine blk_drewN ?_ _ | refine blk_drew ?_ | refine blk_alloc ?_ _)); exact BK146.out) hb)
            have n4_ := Aside0.mk (below_step (by repeat (first | (with_reducible first | exact HB.out | apply below_alloc | apply pw_below_drewN | apply below_drew1 | refine below_set ?_ GE145.out | refine below_set ?_ GE146.out) | exact HB.out)) hb)
            clear HO_147001
            clear BK145
            clear BK146
            clear HB
            have HO_147001 := n0_
            have HO150 := n1_
            have BK145 := n2_
            have BK146 := n3_
            have HB := n4_
            clear n0_ n1_ n2_ n3_ n4_
            (try clear hb)
            (try clear hb2)
            (try clear hk)
            (try clear hi)
            (try clear ho0)
            obtain ⟨Ao16, co16, eo16⟩ := Kd.R_slice HO150.out
            (first | subst eo16 | (injection eo16 with f1_ f2_ f3_; have f4_ := f1_.symm; have f5_ := f3_.symm; clear f1_ f2_ f3_; subst f4_; subst f5_))
            refine hK.out _ _ ⟨(blk_cell BK146.out 0).trans rfl, (blk_cell BK146.out 1).trans rfl, ((HB.out.cell (World.block_lt_of_cell? w _ hw147_0)).trans hw147_0)⟩ (fun hHeld => ?_)
            clear hK K
            refine norm_ (a' := ?_) ?_ ?_
            rotate_left
            · show Act.put _ (some 27) _ = _
              simp only [Act.put, qa_, qb_, qc_, i64_w, i32_w]
              rfl
            refine pure_ (i := 9) (N := some 28) (v := ?_) (a' := ?_) #[true, true, true, true, true, true, true, true, true, true, false] rfl rfl (any_of HT_.out (by kernel_rfl)) (fun _ _ _ h => h) (Or.inl ⟨by rfl, ?_⟩) ?_ ?_
            rotate_left
            · intro w'
              go_simp
              with_reducible rfl
            rotate_left
            · simp only [Act.put, qa_, qb_, qc_, i64_w, i32_w]
              rfl
            refine last_ (i := 10) (N := none) #[true, true, true, true, true, true, true, true, true, true, true] rfl rfl (one_of HT_.out (by kernel_rfl)) (by decide) (fun K hK => ?_)
            have hs17 : w15.cell? ⟨gb146, 1, none⟩ = some (.slice Ao14 x147001_1.length co14) := (blk_cell BK146.out 1).trans rfl
            have hfs17 := blk_frozen BK146.out 1
            have hns17_0 := NB145_146.out
            have hms17_0 := NB146_145.out
            refine skip_ (w1 := ?_) (by rfl) rfl ?_ ?_
            rotate_left
            · go_simp
              rfl
            refine hK.out _ _ ?_
            clear hK K
            refine done_ (done_of HT_.out (by kernel_rfl)) ?_
            try go_wp2
            go_roundg k1
            case measure => have := HK1.out; omega
            case rel => exact ⟨(wrap64 (x7_1 + 1)), (t148), (.slice Ao16 t148.length co16), (by first | rfl | (simp; done) | (simp [*]; done)), H', ⟨by have := HK1.out; omega⟩, ⟨by (with_reducible repeat (first | apply Kd.R_alloc | apply Kd.R_drewN | apply Kd.R_drew)); exact Kd.R_mono (Kd.R_far (p := ⟨gb146, 1, none⟩) (Kd.R_types HO150.out BK146.out (by decide)) (fun _ hk => hk.2) (.slice Ao16 t148.length co16)) (fun _ hk => trivial)⟩, ⟨by (with_reducible repeat (first | refine blk_drewN ?_ _ | refine blk_drew ?_ | refine blk_alloc ?_ _)); refine blk_far ?_ NB145_146.out _; (with_reducible repeat (first | refine blk_drewN ?_ _ | refine blk_drew ?_ | refine blk_alloc ?_ _)); exact BK145.out⟩, ⟨by (with_reducible repeat (first | refine blk_drewN ?_ _ | refine blk_drew ?_ | refine blk_alloc ?_ _)); refine blk_put (cs := #[.bool false, .slice Ao14 x147001_1.length co14]) ?_ 1 _ rfl; (with_reducible repeat (first | refine blk_drewN ?_ _ | refine blk_drew ?_ | refine blk_alloc ?_ _)); exact BK146.out⟩, ⟨by repeat (first | (with_reducible first | exact HB.out | apply below_alloc | apply pw_below_drewN | apply below_drew1 | refine below_set ?_ GE145.out | refine below_set ?_ GE146.out) | exact HB.out)⟩⟩
          · rw [if_neg c11] at H
            exact absurd H (by simp)
        · rw [if_neg c10] at H
          have c10b0 : decide (x7_1 < (l1.length : Int)) = false := decide_eq_false c10
          clear c10
          simp only [Option.some.injEq, Prod.mk.injEq] at H
          obtain ⟨rfl, rfl, rfl⟩ := H
          have hnb18 := NB146_145.out
          have hnc18 := NB145_146.out
          have hcz19_0 : wr.cell? ⟨gb146, 0, none⟩ = some (.bool false) := (blk_cell BK146.out 0).trans rfl
          have hcz19_1 : wr.cell? ⟨gb146, 1, none⟩ = some (u147001) := (blk_cell BK146.out 1).trans rfl
          have hfz19_0 := blk_frozen BK146.out 0
          have hfz19_1 := blk_frozen BK146.out 1
          have hcz20_0 : wr.cell? ⟨gb145, 0, none⟩ = some (.bool false) := (blk_cell BK145.out 0).trans rfl
          have hcz20_1 : wr.cell? ⟨gb145, 1, none⟩ = some (.slice none 0 0) := (blk_cell BK145.out 1).trans rfl
          have hfz20_0 := blk_frozen BK145.out 0
          have hfz20_1 := blk_frozen BK145.out 1
          obtain ⟨Ao21, co21, eo21⟩ := Kd.R_slice HO_147001.out
          subst eo21
          go_wp2
          refine bodyPost_ret (results_ct rfl _ _ gb145 30 #[.bool false, .slice Ao21 x147001_1.length co21] (0, 0) _ rfl (by (with_reducible repeat (first | refine blk_drewN ?_ _ | refine blk_drew ?_ | refine blk_alloc ?_ _)); refine blk_put (cs := #[.bool false, .slice none 0 0]) ?_ 1 _ rfl; (with_reducible repeat (first | refine blk_drewN ?_ _ | refine blk_drew ?_ | refine blk_alloc ?_ _)); refine blk_put (cs := #[.bool false, .slice none 0 0]) ?_ 0 _ rfl; (with_reducible repeat (first | refine blk_drewN ?_ _ | refine blk_drew ?_ | refine blk_alloc ?_ _)); exact BK145.out) Try.underlying30 rfl (by kernel_rfl)) rfl ?_
          exact ⟨_, by first | rfl | (simp [errW_none, errW_some] <;> rfl) | (simp [*, errW_none, errW_some] <;> rfl), by (with_reducible repeat (first | apply Kd.R_alloc | apply Kd.R_drewN | apply Kd.R_drew)); exact Kd.R_mono (Kd.R_far (p := ⟨gb145, 1, none⟩) (Kd.R_far (p := ⟨gb145, 0, none⟩) (Kd.R_types HO_147001.out BK145.out (by decide)) (fun _ hk => hk.2) (.bool false)) (fun _ hk => hk.2) (.slice Ao21 x147001_1.length co21)) (fun _ hk => trivial), by repeat (first | (with_reducible first | exact HB.out | apply below_alloc | apply pw_below_drewN | apply below_drew1 | refine below_set ?_ GE145.out | refine below_set ?_ GE146.out) | exact HB.out)⟩
end Go.Proofs.Ytnfglkgkdechlaa.PQ

