
/- (without laid tables) From a walk to a row: what a statement's row asks beyond the walk, once for all statements of this seat. -/
import Derived.Test.YtnfglkgkdechlaaBase
import Derived.ProofKit
import Derived.OpenShut
import Derived.ShutString
import Derived.SizedLaws
import Derived.ChangeOld
import Derived.LaidMore
import Derived.MakeChecks
import Derived.Lib.LaidTab
import Derived.Stop.Joined
import Derived.SevenTiedAt
import Derived.LaidByTextLater
import Derived.LaidSub
import Derived.LaidOnce
set_option linter.unusedVariables false
set_option linter.unusedSimpArgs false
namespace Go.Proofs.Ytnfglkgkdechlaa
open Go.ChangeShapes Go.WideShapes Go.ChangeAt Go.RowKit
open Go.Proofs.YtnfglkgkdechlaaW.PrintWords Go.Proofs.YtnfglkgkdechlaaW.PrintLast Go.Proofs.YtnfglkgkdechlaaW.PrintMore

theorem own : ownKnob Try.prog.godebug = none := by kernel_rfl
theorem laidOut : laidOutB Try.prog = true := by kernel_rfl

/-- All arguments read as they did. -/
theorem below_trodAll {H : Type} {enc : TypeId × Value → H} {P : Program} (hl : laidOutB P = true) {W W' : World} (hb : Below W.heap.size W W') :
    ∀ {ts : List TypeId} {vs : List Value} {ds : List (DataW H)} {ps : List MemPlace}, (ts.all fun t => P.readableRec t && decide (t < P.types.size)) = true →
      DataW.TrodAll enc P W 0 (fun _ => true) true ts vs ds ps → (∀ x ∈ ps, x.block < W.heap.size) → DataW.TrodAll enc P W' 0 (fun b => decide (b < W.heap.size)) true ts vs ds ps := by
  intro ts
  induction ts with
  | nil =>
    intro vs ds ps _ h _
    obtain ⟨rfl, rfl, rfl⟩ := trodAll_nil h
    exact trodAll_mk0
  | cons t ts ih =>
    intro vs ds ps ha h hp
    obtain ⟨v, vs', d, ds', p, q, rfl, rfl, rfl, h0, h1⟩ := trodAll_cons h
    rw [List.all_cons, Bool.and_eq_true, Bool.and_eq_true, decide_eq_true_eq] at ha
    exact trodAll_cons_mk (Below.trod hl ha.1.1 ha.1.2 h0 hb fun x hx => hp x (List.mem_append_left _ hx)) (ih ha.2 h1 fun x hx => hp x (List.mem_append_right _ hx))
theorem trodAll_lt {H : Type} {enc : TypeId × Value → H} {P : Program} {W : World} : ∀ {ts : List TypeId} {vs : List Value} {ds : List (DataW H)} {ps : List MemPlace},
    DataW.TrodAll enc P W 0 (fun _ => true) true ts vs ds ps → ∀ x ∈ ps, x.block < W.heap.size := by
  intro ts
  induction ts with
  | nil =>
    intro vs ds ps h x hx
    obtain ⟨rfl, rfl, rfl⟩ := trodAll_nil h
    cases hx
  | cons t ts ih =>
    intro vs ds ps h x hx
    obtain ⟨v, vs', d, ds', p, q, rfl, rfl, rfl, ⟨m, hm⟩, h1⟩ := trodAll_cons h
    rcases List.mem_append.1 hx with hx | hx
    · exact DataW.trod_lt m _ _ _ hm x hx
    · exact ih h1 x hx

/-- A slice of whole numbers that came in. -/
theorem C_came {H : Type} {enc : TypeId × Value → H} {P : Program} {W : World} {b0 : Nat} {t e : TypeId} {k : IntKind} {v : Value} {d : DataW H} {ps : List MemPlace} (ht : P.underlying t = some (.slice e)) (he : P.underlying e = some (.int k)) (hc : P.cellsOf e = 1)
    (hval : Value.okWide P W .any b0 t v) (hd : DataW.Trod enc P W 0 (fun _ => true) true t v d ps) :
    ∃ A n c l, v = .slice A n c ∧ n ≤ c ∧ (Kd.int k).C W A n l ∧ ∀ x ∈ l, (Lit.int k x).wf = true := by
  obtain ⟨A, n, c, rfl⟩ := okWide_slice ht hval
  obtain ⟨fuel, hf⟩ := hd
  rcases open_ints ht he hc hf with ⟨hcs, hx⟩ | ⟨a, len, cap, zs, hcs, _, hl, hm, hz, hx, hcell, hwz⟩
  · simp [Value.cells] at hcs
    obtain ⟨rfl, rfl, rfl⟩ := hcs
    exact ⟨none, 0, 0, [], rfl, Nat.le_refl _, Kd.C_nil _ _, by simp⟩
  · simp [Value.cells] at hcs
    obtain ⟨rfl, rfl, rfl⟩ := hcs
    have hz' : zs.length = c := by simpa using hz
    refine ⟨_, _, _, zs.take n, rfl, hl, ?_, fun x hx => hwz x (List.mem_of_mem_take hx)⟩
    refine Kd.C_of_reads (enc := Value.int k) (d := (0 : Int)) (h1 := fun _ => rfl) ⟨by rw [List.length_take]; omega, by unfold maxLen at hm; omega, fun _ => ⟨_, rfl, fun j hj => ?_⟩⟩
    have := hcell j (by omega)
    rw [this]
    simp [List.getD_eq_getElem?_getD, List.getElem?_take, hj]


/-- A struct or an array by value, that came in: its cells, one by one. -/
def AllOk (P : Program) (W : World) (b : Nat) : List TypeId → List Value → Prop
  | [], [] => True
  | u :: ts, v :: vs => Cell.okWide P W .any b u v ∧ AllOk P W b ts vs
  | _, _ => False
theorem allOk_of {P : Program} {W : World} {b : Nat} : ∀ (ts : List TypeId) (cs : List Value), cs.length = ts.length → (∀ (i : Nat) (v : Value), cs[i]? = some v → ∃ u : TypeId, ts[i]? = some u ∧ Cell.okWide P W .any b u v) → AllOk P W b ts cs
  | [], [], _, _ => trivial
  | [], _ :: _, h, _ => by simp at h
  | _ :: _, [], h, _ => by simp at h
  | u :: ts, v :: cs, h, ho => by
    refine ⟨?_, allOk_of ts cs (by simpa using h) fun i x hx => ?_⟩
    · obtain ⟨u', h1, h2⟩ := ho 0 v rfl
      simp at h1
      exact h1 ▸ h2
    · simpa using ho (i + 1) x (by simpa using hx)
theorem open_agg {P : Program} {W : World} {b : Nat} {t : TypeId} {v : Value} {ts : List TypeId} (hs : (match P.underlying t with | some (.struct _) => true | some (.array _ _) => true | _ => false) = true) (hts : P.cellTypes P.depth t = some ts) (hn : P.cellsOf t = ts.length)
    (hv : Value.okWide P W .any b t v) : ∃ cs : List Value, v = .agg ⟨cs⟩ ∧ AllOk P W b ts cs := by
  have h : ∃ cs, v = .agg cs ∧ cs.size = P.cellsOf t ∧ Row.okWide P W .any b t cs := by
    unfold Value.okWide at hv
    split at hv
    · exact hv
    · exact hv
    · next h1 h2 => split at hs <;> simp_all
  obtain ⟨⟨cs⟩, rfl, hz, ts', h1, _, h2⟩ := h
  obtain rfl := Option.some.inj (hts.symm.trans h1)
  have hz' : cs.length = ts.length := by simpa [hn] using hz
  refine ⟨cs, rfl, allOk_of ts cs hz' fun i x hx => ?_⟩
  obtain ⟨u, h3, h4⟩ := h2 i x (by simpa using hx)
  have hi : i < cs.length := (List.getElem?_eq_some_iff.1 hx).1
  rw [Nat.mod_eq_of_lt (by omega)] at h3
  exact ⟨u, h3, h4⟩
theorem allOk_cons {P : Program} {W : World} {b : Nat} {u : TypeId} {ts : List TypeId} {cs : List Value} (h : AllOk P W b (u :: ts) cs) : ∃ v vs, cs = v :: vs ∧ Cell.okWide P W .any b u v ∧ AllOk P W b ts vs := by
  cases cs with
  | nil => exact h.elim
  | cons v vs => exact ⟨v, vs, rfl, h.1, h.2⟩
theorem allOk_nil {P : Program} {W : World} {b : Nat} {cs : List Value} (h : AllOk P W b [] cs) : cs = [] := by
  cases cs with
  | nil => rfl
  | cons v vs => exact h.elim
theorem cell_int {P : Program} {W : World} {b : Nat} {u : TypeId} {k : IntKind} {v : Value} (hu : P.underlying u = some (.int k)) (h : Cell.okWide P W .any b u v) : ∃ n, v = .int k n ∧ k.min ≤ n ∧ n ≤ k.max := by
  simp only [Cell.okWide, hu, Cell.ok] at h
  cases v <;> simp_all [IntKind.has]
theorem cell_bool {P : Program} {W : World} {b : Nat} {u : TypeId} {v : Value} (hu : P.underlying u = some .bool) (h : Cell.okWide P W .any b u v) : ∃ x, v = .bool x := by
  simp only [Cell.okWide, hu, Cell.ok] at h
  cases v <;> simp_all
theorem agg_cons {P : Program} {W : World} {b : Nat} {u : TypeId} {k : IntKind} {ts : List TypeId} {cs : List Value} (hu : P.underlying u = some (.int k)) (h : AllOk P W b (u :: ts) cs) : ∃ n vs, cs = .int k n :: vs ∧ (k.min ≤ n ∧ n ≤ k.max) ∧ AllOk P W b ts vs := by
  obtain ⟨v, vs, rfl, h1, h2⟩ := allOk_cons h
  obtain ⟨n, rfl, h3, h4⟩ := cell_int hu h1
  exact ⟨n, vs, rfl, ⟨h3, h4⟩, h2⟩
theorem agg_bool {P : Program} {W : World} {b : Nat} {u : TypeId} {ts : List TypeId} {cs : List Value} (hu : P.underlying u = some .bool) (h : AllOk P W b (u :: ts) cs) : ∃ x vs, cs = .bool x :: vs ∧ AllOk P W b ts vs := by
  obtain ⟨v, vs, rfl, h1, h2⟩ := allOk_cons h
  obtain ⟨n, rfl⟩ := cell_bool hu h1
  exact ⟨n, vs, rfl, h2⟩
end Go.Proofs.Ytnfglkgkdechlaa
