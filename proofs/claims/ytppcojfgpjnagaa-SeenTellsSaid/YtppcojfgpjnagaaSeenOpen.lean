
/- Arguments of the statements of chapter 13, opened. -/
import Derived.Laws.IdiomArrays
import Derived.Deep.Slices
import Derived.Test.YtppcojfgpjnagaaShellG
import Derived.Test.YtppcojfgpjnagaaSeenLawPure
set_option linter.unusedVariables false
set_option linter.unusedSimpArgs false
namespace Go.Proofs.Ytppcojfgpjnagaa
open Go.RowKit Go.Proofs.YtppcojfgpjnagaaW.PrintWords Go.Proofs.YtppcojfgpjnagaaW.PrintLast Go.Proofs.YtppcojfgpjnagaaW.PrintMore
open Go.ChangeShapes Go.WideShapes Go.ChangeAt
open Go.ChangeMaps (open_string shut_string)
open Go.Proofs.Ytppcojfgpjnagaa.PQ Go.Deep

theorem in64_wf {n : Int} (h : (Lit.int .i64 n).wf = true) : In64 n := bounds_i64 h
theorem raws_came {H : Type} {enc : TypeId × Value → H} {W : World} {b0 : Nat} {v : Value} {d : DataW H} {ps : List MemPlace} (hval : Value.okWide Try.prog W .any b0 23 v) (hd : DataW.Trod enc Try.prog W 0 (fun _ => true) true 23 v d ps) :
    ∃ A n c l, v = .slice A n c ∧ n ≤ c ∧ Kd.C k26 W A n l ∧ OkR l := by
  obtain ⟨A, n, c, rfl⟩ := okWide_slice Try.underlying23 hval
  obtain ⟨fuel, hf⟩ := hd
  rcases open_slice Try.underlying23 hf with ⟨hcs, hx⟩ | ⟨a, len, cap, m, k, D, Pl, hcs, _, hl, hm, hmm, hx, hi⟩
  · simp [Value.cells] at hcs
    obtain ⟨rfl, rfl, rfl⟩ := hcs
    exact ⟨none, 0, 0, [], rfl, Nat.le_refl _, Kd.C_nil _ _, fun x hx => by cases hx⟩
  · simp [Value.cells] at hcs
    obtain ⟨rfl, rfl, rfl⟩ := hcs
    have hC : Try.prog.cellsOf 26 = 3 := by kernel_rfl
    have hrow : ∀ i, i < n → ∃ x : Rw, (In64 x.f0 ∧ In64 x.f1 ∧ In64 x.f2) ∧ ∀ j u, ([.int .i64 x.f0, .int .i64 x.f1, .int .i64 x.f2] : List Value)[j]? = some u → W.cell? (a.add (i * 3 + j)) = some u := by
      intro i hin
      obtain ⟨cs, hc, ht⟩ := hi i (by rw [hmm]; simp; omega)
      rw [hC] at hc
      obtain ⟨_, hcl, hat⟩ := World.cells?_some hc
      match cs, hcl with
      | [c0, c1, c2], _ =>
        obtain ⟨y0, y1, y2, fu, _, t0, t1, t2⟩ := trod_array3 Try.underlying26 (by kernel_rfl) ht
        obtain ⟨n0, e0, _, w0⟩ := DataW.trod_int Try.underlying3 t0
        obtain ⟨n1, e1, _, w1⟩ := DataW.trod_int Try.underlying3 t1
        obtain ⟨n2, e2, _, w2⟩ := DataW.trod_int Try.underlying3 t2
        obtain rfl : c0 = .int .i64 n0 := by simpa using e0
        obtain rfl : c1 = .int .i64 n1 := by simpa using e1
        obtain rfl : c2 = .int .i64 n2 := by simpa using e2
        refine ⟨⟨n0, n1, n2⟩, ⟨in64_wf w0, in64_wf w1, in64_wf w2⟩, fun j u hu => ?_⟩
        have hj : j < 3 := by
          rcases Nat.lt_or_ge j 3 with h | h
          · exact h
          · rw [List.getElem?_eq_none (by simpa using h)] at hu
            cases hu
        have := hat j hj
        rw [hu] at this
        rw [← this]
        congr 1
        exact (Go.Deep.add_add _ _ _).symm
    refine ⟨_, _, _, (List.range n).map (fun i => if h : i < n then (hrow i h).choose else z26), rfl, hl, ⟨by simp, by unfold maxLen at hm; omega, fun _ => ⟨a, rfl, fun j p hj => ?_⟩⟩, fun x hx => ?_⟩
    · rw [List.getElem?_map] at hj
      obtain ⟨i, hi1, rfl⟩ := Option.map_eq_some_iff.1 hj
      have hi2 : i = j ∧ j < n := by
        rw [List.getElem?_eq_some_iff] at hi1
        obtain ⟨h1, h2⟩ := hi1
        rw [List.getElem_range] at h2
        rw [List.length_range] at h1
        exact ⟨h2.symm, h1⟩
      obtain ⟨rfl, hjn⟩ := hi2
      rw [dif_pos hjn]
      have hs := (hrow i hjn).choose_spec
      refine ⟨_, rfl, k26_mk _ _, fun q u hu => ?_⟩
      exact hs.2 q u hu
    · obtain ⟨i, hi1, rfl⟩ := List.mem_map.1 hx
      have hin := List.mem_range.1 hi1
      rw [dif_pos hin]
      exact (hrow i hin).choose_spec.1
/-- Three numbers by value. -/
theorem three_came {P : Program} {W : World} {b0 : Nat} {t u : TypeId} {v : Value} (hu : P.underlying u = some (.int .i64)) (hs : (match P.underlying t with | some (.struct _) => true | some (.array _ _) => true | _ => false) = true) (hts : P.cellTypes P.depth t = some [u, u, u]) (hn : P.cellsOf t = 3) (hval : Value.okWide P W .any b0 t v) :
    ∃ x y z : Int, v = .agg #[.int .i64 x, .int .i64 y, .int .i64 z] ∧ In64 x ∧ In64 y ∧ In64 z := by
  obtain ⟨cs, rfl, h⟩ := open_agg hs hts hn hval
  obtain ⟨x, cs, rfl, h1, h⟩ := agg_cons hu h
  obtain ⟨y, cs, rfl, h2, h⟩ := agg_cons hu h
  obtain ⟨z, cs, rfl, h3, h⟩ := agg_cons hu h
  obtain rfl := allOk_nil h
  refine ⟨x, y, z, rfl, ?_, ?_, ?_⟩
  · simp [IntKind.min, IntKind.max] at h1
    exact h1
  · simp [IntKind.min, IntKind.max] at h2
    exact h2
  · simp [IntKind.min, IntKind.max] at h3
    exact h3
end Go.Proofs.Ytppcojfgpjnagaa
