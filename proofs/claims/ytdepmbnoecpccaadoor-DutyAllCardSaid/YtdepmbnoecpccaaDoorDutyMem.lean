
/- A committee's members as a box, and where they are (chapter 10). -/
import Derived.Test.YtdepmbnoecpccaaDoorHadRow
set_option linter.unusedVariables false
set_option linter.unusedSimpArgs false
namespace Go.Proofs.YtdepmbnoecpccaaDoor
open Go.RowKit Go.Proofs.YtdepmbnoecpccaaDoorW.PrintWords Go.Proofs.YtdepmbnoecpccaaDoorW.PrintLast Go.Proofs.YtdepmbnoecpccaaDoorW.PrintMore

theorem member_where (c : ChainV) (e k j : Int) (hf : fitsC c = true) (hk : 0 ≤ k ∧ k < c.sl * c.co) (h1 : fromK c k ≤ j) (h2 : j < fromK c (k + 1)) :
    placeOf c e (placeF c.va (seedF c e) c.ro.toNat j) = j ∧ whichOf c e (placeF c.va (seedF c e) c.ro.toNat j) = k := by
  obtain ⟨a1, a2, a3, a4⟩ := chain_A c hf
  obtain ⟨q1, q2, q3, q4⟩ := fromK_facts c hf k hk
  have hj : placeOf c e (placeF c.va (seedF c e) c.ro.toNat j) = j := back_place _ _ _ _ ⟨by omega, by omega⟩
  refine ⟨hj, ?_⟩
  unfold whichOf
  rw [hj]
  exact kOf_uniq a1 a3 h1 h2
theorem slot_parts (c : ChainV) (e k : Int) (hf : fitsC c = true) (hk : 0 ≤ k ∧ k < c.sl * c.co) (he : 0 ≤ e) : 0 ≤ k / c.co ∧ k / c.co < c.sl ∧ 0 ≤ k % c.co ∧ k % c.co < c.co ∧ (e * c.sl + k / c.co) / c.sl = e ∧ commF c (e * c.sl + k / c.co) (k % c.co) = k := by
  obtain ⟨h1, h2, h3, h4, h5, h6, h7, h8, h9⟩ := (fitsC_iff c).1 hf
  have d1 := Int.ediv_nonneg hk.1 (show (0 : Int) ≤ c.co by omega)
  have d2 : k / c.co < c.sl := by rw [Int.ediv_lt_iff_lt_mul (by omega)]; exact hk.2
  have d3 := Int.emod_nonneg k (show c.co ≠ 0 by omega)
  have d4 := Int.emod_lt_of_pos k (show 0 < c.co by omega)
  refine ⟨d1, d2, d3, d4, epoch_at c e _ ⟨d1, d2⟩, ?_⟩
  rw [comm_at c e _ _ ⟨d1, d2⟩, Int.mul_comm]
  exact Int.mul_ediv_add_emod k c.co

/-- Members' contract, its row as a box. -/
theorem Members_c (c : ChainV) (s i : Int) (w : World) (h : maySlot c s i = true) (hse : 0 ≤ c.se) (hG : DutyLaid w) : Calls Tryd.prog 12 #[.agg #[.int .i64 c.va, .int .i64 c.sl, .int .i64 c.co, .int .i64 c.su, .int .i64 c.ti, .int .i64 c.di, .int .i64 c.ra, .int .i64 c.ro, .int .i64 c.ag, .int .u64 c.se], .int .i64 s, .int .i64 i] w fun e w' =>
    ∃ A mc, e = .returned (.tuple #[.slice A (cntF c (commF c s i)) mc, .int .i64 0]) ∧ (∀ k : Nat, k < cntF c (commF c s i) → ∃ g cs, A = some ⟨g, 0, none⟩ ∧ w.heap.size ≤ g ∧ Box w' g cs 3 ∧ ∀ j : Nat, j < cntF c (commF c s i) → cs[j]? = some (.int .i64 (placeF c.va (seedF c (s / c.sl)) c.ro.toNat (fromK c (commF c s i) + j)))) ∧ (Kd.int .i64).R 3 w' w.heap.size (fun _ => True) (.slice A (cntF c (commF c s i)) mc) (memF c (s / c.sl) (commF c s i)) ∧ Below w.heap.size w w' := by
  refine (Members_yes c s i w h hse hG).mono ?_
  rintro e w5 ⟨v, rfl, hRm, hb_⟩
  have hlen : (memF c (s / c.sl) (commF c s i)).length = cntF c (commF c s i) := memPart_len _ _ _ _
  obtain ⟨A, mc, rfl⟩ := Kd.R_slice hRm
  rw [hlen] at hRm ⊢
  refine ⟨A, mc, rfl, ?_, hRm, hb_⟩
  intro k hk
  obtain ⟨g, cap2, he, hgb, hgl, cs, hcs⟩ := Kd.R_form hRm (by rw [hlen]; omega)
  obtain ⟨rfl, rfl⟩ : A = some ⟨g, 0, none⟩ ∧ mc = cap2 := by
    injection he with a1 a2 a3
    exact ⟨a1, a3⟩
  refine ⟨g, cs, rfl, hgb, hcs, fun j hj => ?_⟩
  have h := (Kd.R_celln 0 hRm (j : Int) (by omega) (by omega)).1
  rw [Int.toNat_natCast] at h
  rw [← Box.cell hcs j, h]
  congr 2
  unfold rdOf memF memPart
  rw [Int.toNat_natCast]
  simp [List.getD_eq_getElem?_getD, hj]
theorem pickB_calls (c n : Int) (w : World) (h0 : -9223372036854775808 ≤ c) (h1 : c ≤ 9223372036854775807) (h2 : 1 ≤ n) (h3 : n ≤ 9223372036854775807) : Calls Tryd.prog 11 #[.int .i64 c, .int .i64 n] w fun e w' => e = .returned (.int .i64 (pickF c n)) ∧ Below w.heap.size w w' :=
  (pick10_calls c n w h0 h1 h2 h3).mono fun e w' h => ⟨h.1, h.2 ▸ Below.refl _ _⟩
end Go.Proofs.YtdepmbnoecpccaaDoor
