
/- From a walk to a row: what a statement's row asks beyond the walk, once for all statements of this seat. -/
import Derived.Test.YtdepmbnoecpccaaDoorBase
import Derived.Test.YtdepmbnoecpccaaDoorDutyWalk
import Derived.ProofKit
import Derived.OpenShut
import Derived.ShutString
import Derived.SizedLaws
import Derived.ChangeOld
import Derived.LaidMore
import Derived.MakeChecks
import Derived.Lib.LaidTab
import Derived.Stop.Joined
import Derived.SevenTiedAt
import Derived.LaidByTextLater
import Derived.LaidSub
import Derived.LaidOnce
set_option linter.unusedVariables false
set_option linter.unusedSimpArgs false
namespace Go.Proofs.YtdepmbnoecpccaaDoor
open Go.ChangeShapes Go.WideShapes Go.ChangeAt Go.RowKit
open Go.Proofs.YtdepmbnoecpccaaDoorW.PrintWords Go.Proofs.YtdepmbnoecpccaaDoorW.PrintLast Go.Proofs.YtdepmbnoecpccaaDoorW.PrintMore

theorem own : ownKnob Tryd.prog.godebug = none := by kernel_rfl
theorem laidOut : laidOutB Tryd.prog = true := by kernel_rfl

/-- All arguments read as they did. -/
theorem below_trodAll {H : Type} {enc : TypeId × Value → H} {P : Program} (hl : laidOutB P = true) {W W' : World} (hb : Below W.heap.size W W') :
    ∀ {ts : List TypeId} {vs : List Value} {ds : List (DataW H)} {ps : List MemPlace}, (ts.all fun t => P.readableRec t && decide (t < P.types.size)) = true →
      DataW.TrodAll enc P W 0 (fun _ => true) true ts vs ds ps → (∀ x ∈ ps, x.block < W.heap.size) → DataW.TrodAll enc P W' 0 (fun b => decide (b < W.heap.size)) true ts vs ds ps := by
  intro ts
  induction ts with
  | nil =>
    intro vs ds ps _ h _
    obtain ⟨rfl, rfl, rfl⟩ := trodAll_nil h
    exact trodAll_mk0
  | cons t ts ih =>
    intro vs ds ps ha h hp
    obtain ⟨v, vs', d, ds', p, q, rfl, rfl, rfl, h0, h1⟩ := trodAll_cons h
    rw [List.all_cons, Bool.and_eq_true, Bool.and_eq_true, decide_eq_true_eq] at ha
    exact trodAll_cons_mk (Below.trod hl ha.1.1 ha.1.2 h0 hb fun x hx => hp x (List.mem_append_left _ hx)) (ih ha.2 h1 fun x hx => hp x (List.mem_append_right _ hx))
theorem trodAll_lt {H : Type} {enc : TypeId × Value → H} {P : Program} {W : World} : ∀ {ts : List TypeId} {vs : List Value} {ds : List (DataW H)} {ps : List MemPlace},
    DataW.TrodAll enc P W 0 (fun _ => true) true ts vs ds ps → ∀ x ∈ ps, x.block < W.heap.size := by
  intro ts
  induction ts with
  | nil =>
    intro vs ds ps h x hx
    obtain ⟨rfl, rfl, rfl⟩ := trodAll_nil h
    cases hx
  | cons t ts ih =>
    intro vs ds ps h x hx
    obtain ⟨v, vs', d, ds', p, q, rfl, rfl, rfl, ⟨m, hm⟩, h1⟩ := trodAll_cons h
    rcases List.mem_append.1 hx with hx | hx
    · exact DataW.trod_lt m _ _ _ hm x hx
    · exact ih h1 x hx

/-- A slice of whole numbers that came in. -/
theorem C_came {H : Type} {enc : TypeId × Value → H} {P : Program} {W : World} {b0 : Nat} {t e : TypeId} {k : IntKind} {v : Value} {d : DataW H} {ps : List MemPlace} (ht : P.underlying t = some (.slice e)) (he : P.underlying e = some (.int k)) (hc : P.cellsOf e = 1)
    (hval : Value.okWide P W .any b0 t v) (hd : DataW.Trod enc P W 0 (fun _ => true) true t v d ps) :
    ∃ A n c l, v = .slice A n c ∧ n ≤ c ∧ (Kd.int k).C W A n l ∧ ∀ x ∈ l, (Lit.int k x).wf = true := by
  obtain ⟨A, n, c, rfl⟩ := okWide_slice ht hval
  obtain ⟨fuel, hf⟩ := hd
  rcases open_ints ht he hc hf with ⟨hcs, hx⟩ | ⟨a, len, cap, zs, hcs, _, hl, hm, hz, hx, hcell, hwz⟩
  · simp [Value.cells] at hcs
    obtain ⟨rfl, rfl, rfl⟩ := hcs
    exact ⟨none, 0, 0, [], rfl, Nat.le_refl _, Kd.C_nil _ _, by simp⟩
  · simp [Value.cells] at hcs
    obtain ⟨rfl, rfl, rfl⟩ := hcs
    have hz' : zs.length = c := by simpa using hz
    refine ⟨_, _, _, zs.take n, rfl, hl, ?_, fun x hx => hwz x (List.mem_of_mem_take hx)⟩
    refine Kd.C_of_reads (enc := Value.int k) (d := (0 : Int)) (h1 := fun _ => rfl) ⟨by rw [List.length_take]; omega, by unfold maxLen at hm; omega, fun _ => ⟨_, rfl, fun j hj => ?_⟩⟩
    have := hcell j (by omega)
    rw [this]
    simp [List.getD_eq_getElem?_getD, List.getElem?_take, hj]

theorem cells_of_tab2 {H : Type} {enc : TypeId × Value → H} {P : Program} {w : World} {base : Nat} {sp : Nat → Bool} {held : Bool} {fuel : Nat} {t e u : TypeId} {n m : Nat} {k : IntKind} {cs : List Value} {rows : List (List Int)} {p : List MemPlace}
    (ht : P.underlying t = some (.array n e)) (he : P.underlying e = some (.array m u)) (hu : P.underlying u = some (.int k)) (hcu : P.cellsOf u = 1) (hce : P.cellsOf e = m)
    (h : DataW.trod enc P w base sp held fuel t cs = some (.agg (rows.map (Lib.tabData k)), p)) : ∀ i, i < n → ∃ zs, rows[i]? = some zs ∧ (cs.drop (i * m)).take m = zs.map fun z => Value.int k z := by
  intro i hi
  cases fuel with
  | zero => simp [DataW.trod] at h
  | succ fuel =>
    simp only [DataW.trod, ht, hce] at h
    split at h
    · obtain ⟨xs, hm, hx⟩ := Option.map_eq_some_iff.1 h
      have hxs : xs.map (·.1) = rows.map (Lib.tabData k) := by
        have := congrArg Prod.fst hx
        simpa using this
      obtain ⟨⟨b1, b2⟩, hb, hf⟩ := Lib.mapM_at hm i i (by simp [hi])
      have h2 : (xs.map (·.1))[i]? = some b1 := by simp [hb]
      rw [hxs] at h2
      simp only [List.getElem?_map, Option.map_eq_some_iff] at h2
      obtain ⟨zs, hz, rfl⟩ := h2
      exact ⟨zs, hz, Lib.cells_of_tab he hu hcu hce hf⟩
    · cases h
theorem laid_two {W : World} (h : laidMetH Tryd.prog [("mootbell/clock.bounds", Rows.laid_mootbell_clock_bounds), ("mootbell/churn.sum", Rows.laid_mootbell_churn_sum)] W) : DutyLaid W := by
  rw [MakeChecks.laidMetH_plain _ _ _ (by kernel_rfl)] at h
  obtain ⟨ps, ⟨g0, t0, cs0, f0, p0, q0, hg0, ht0, hv0, hd0, ⟨g1, t1, cs1, f1, p1, q1, hg1, ht1, hv1, hd1, _⟩, _⟩, _⟩ := h
  constructor
  · obtain rfl := Option.some.inj ((show Tryd.prog.globalNamed "mootbell/churn.sum" = some 0 by kernel_rfl).symm.trans hg1)
    obtain rfl := Option.some.inj ((show (Tryd.prog.globals[0]?).map (·.type) = some 81 by kernel_rfl).symm.trans ht1)
    have hcs := Lib.cells_of_tab (zs := [14695981039346656037, 1099511628211, 14886173955864302971]) Tryd.underlying81 Tryd.underlying22 (by kernel_rfl) (by kernel_rfl) hd1
    have hc := World.var?_cell hg1 hv1
    obtain ⟨l⟩ := cs1
    simp only at hcs
    subst hcs
    exact ⟨by simpa using hc 0, by simpa using hc 1, by simpa using hc 2⟩
  · obtain rfl := Option.some.inj ((show Tryd.prog.globalNamed "mootbell/clock.bounds" = some 1 by kernel_rfl).symm.trans hg0)
    obtain rfl := Option.some.inj ((show (Tryd.prog.globals[1]?).map (·.type) = some 88 by kernel_rfl).symm.trans ht0)
    have hcs := cells_of_tab2 (rows := [[1, 1024], [1, 32], [1, 8], [1, 64], [1, 1000], [1, 64], [0, 90], [1, 16]]) Tryd.underlying88 Tryd.underlying87 Tryd.underlying3 (by kernel_rfl) (by kernel_rfl) hd0
    have hc := World.var?_cell hg0 hv0
    obtain ⟨cs0⟩ := cs0
    simp only at hcs
    have q0 : cs0[0]? = boundsArr[0]? := by
      obtain ⟨zs, hz, hc⟩ := hcs 0 (by omega)
      obtain rfl := Option.some.inj hz
      have := congrArg (·[0]?) hc
      simpa [List.getElem?_take, List.getElem?_drop, boundsArr] using this
    have q1 : cs0[1]? = boundsArr[1]? := by
      obtain ⟨zs, hz, hc⟩ := hcs 0 (by omega)
      obtain rfl := Option.some.inj hz
      have := congrArg (·[1]?) hc
      simpa [List.getElem?_take, List.getElem?_drop, boundsArr] using this
    have q2 : cs0[2]? = boundsArr[2]? := by
      obtain ⟨zs, hz, hc⟩ := hcs 1 (by omega)
      obtain rfl := Option.some.inj hz
      have := congrArg (·[0]?) hc
      simpa [List.getElem?_take, List.getElem?_drop, boundsArr] using this
    have q3 : cs0[3]? = boundsArr[3]? := by
      obtain ⟨zs, hz, hc⟩ := hcs 1 (by omega)
      obtain rfl := Option.some.inj hz
      have := congrArg (·[1]?) hc
      simpa [List.getElem?_take, List.getElem?_drop, boundsArr] using this
    have q4 : cs0[4]? = boundsArr[4]? := by
      obtain ⟨zs, hz, hc⟩ := hcs 2 (by omega)
      obtain rfl := Option.some.inj hz
      have := congrArg (·[0]?) hc
      simpa [List.getElem?_take, List.getElem?_drop, boundsArr] using this
    have q5 : cs0[5]? = boundsArr[5]? := by
      obtain ⟨zs, hz, hc⟩ := hcs 2 (by omega)
      obtain rfl := Option.some.inj hz
      have := congrArg (·[1]?) hc
      simpa [List.getElem?_take, List.getElem?_drop, boundsArr] using this
    have q6 : cs0[6]? = boundsArr[6]? := by
      obtain ⟨zs, hz, hc⟩ := hcs 3 (by omega)
      obtain rfl := Option.some.inj hz
      have := congrArg (·[0]?) hc
      simpa [List.getElem?_take, List.getElem?_drop, boundsArr] using this
    have q7 : cs0[7]? = boundsArr[7]? := by
      obtain ⟨zs, hz, hc⟩ := hcs 3 (by omega)
      obtain rfl := Option.some.inj hz
      have := congrArg (·[1]?) hc
      simpa [List.getElem?_take, List.getElem?_drop, boundsArr] using this
    have q8 : cs0[8]? = boundsArr[8]? := by
      obtain ⟨zs, hz, hc⟩ := hcs 4 (by omega)
      obtain rfl := Option.some.inj hz
      have := congrArg (·[0]?) hc
      simpa [List.getElem?_take, List.getElem?_drop, boundsArr] using this
    have q9 : cs0[9]? = boundsArr[9]? := by
      obtain ⟨zs, hz, hc⟩ := hcs 4 (by omega)
      obtain rfl := Option.some.inj hz
      have := congrArg (·[1]?) hc
      simpa [List.getElem?_take, List.getElem?_drop, boundsArr] using this
    have q10 : cs0[10]? = boundsArr[10]? := by
      obtain ⟨zs, hz, hc⟩ := hcs 5 (by omega)
      obtain rfl := Option.some.inj hz
      have := congrArg (·[0]?) hc
      simpa [List.getElem?_take, List.getElem?_drop, boundsArr] using this
    have q11 : cs0[11]? = boundsArr[11]? := by
      obtain ⟨zs, hz, hc⟩ := hcs 5 (by omega)
      obtain rfl := Option.some.inj hz
      have := congrArg (·[1]?) hc
      simpa [List.getElem?_take, List.getElem?_drop, boundsArr] using this
    have q12 : cs0[12]? = boundsArr[12]? := by
      obtain ⟨zs, hz, hc⟩ := hcs 6 (by omega)
      obtain rfl := Option.some.inj hz
      have := congrArg (·[0]?) hc
      simpa [List.getElem?_take, List.getElem?_drop, boundsArr] using this
    have q13 : cs0[13]? = boundsArr[13]? := by
      obtain ⟨zs, hz, hc⟩ := hcs 6 (by omega)
      obtain rfl := Option.some.inj hz
      have := congrArg (·[1]?) hc
      simpa [List.getElem?_take, List.getElem?_drop, boundsArr] using this
    have q14 : cs0[14]? = boundsArr[14]? := by
      obtain ⟨zs, hz, hc⟩ := hcs 7 (by omega)
      obtain rfl := Option.some.inj hz
      have := congrArg (·[0]?) hc
      simpa [List.getElem?_take, List.getElem?_drop, boundsArr] using this
    have q15 : cs0[15]? = boundsArr[15]? := by
      obtain ⟨zs, hz, hc⟩ := hcs 7 (by omega)
      obtain rfl := Option.some.inj hz
      have := congrArg (·[1]?) hc
      simpa [List.getElem?_take, List.getElem?_drop, boundsArr] using this
    refine ⟨fun j hj => ?_⟩
    have hcj := hc j
    have hv : j = 0 ∨ j = 1 ∨ j = 2 ∨ j = 3 ∨ j = 4 ∨ j = 5 ∨ j = 6 ∨ j = 7 ∨ j = 8 ∨ j = 9 ∨ j = 10 ∨ j = 11 ∨ j = 12 ∨ j = 13 ∨ j = 14 ∨ j = 15 := by omega
    rcases hv with rfl | rfl | rfl | rfl | rfl | rfl | rfl | rfl | rfl | rfl | rfl | rfl | rfl | rfl | rfl | rfl
    · rw [← q0]; simpa using hcj
    · rw [← q1]; simpa using hcj
    · rw [← q2]; simpa using hcj
    · rw [← q3]; simpa using hcj
    · rw [← q4]; simpa using hcj
    · rw [← q5]; simpa using hcj
    · rw [← q6]; simpa using hcj
    · rw [← q7]; simpa using hcj
    · rw [← q8]; simpa using hcj
    · rw [← q9]; simpa using hcj
    · rw [← q10]; simpa using hcj
    · rw [← q11]; simpa using hcj
    · rw [← q12]; simpa using hcj
    · rw [← q13]; simpa using hcj
    · rw [← q14]; simpa using hcj
    · rw [← q15]; simpa using hcj

theorem u64_of_wf {x : Int} (h : (Lit.int .u64 x).wf = true) : u64ok x := by
  have := bounds_u64 h
  exact ⟨by omega, by omega⟩
/-- The door's own heap meets the condition. -/
theorem door_met (os : Os) (args : Array Value) : laidMetH Tryd.prog [("mootbell/clock.bounds", Rows.laid_mootbell_clock_bounds), ("mootbell/churn.sum", Rows.laid_mootbell_churn_sum)] ((World.doorLaid Tryd.prog 400 os).forCall (fun _ _ => 0) ⟨#[], args, []⟩).memory :=
  laidMetH_of_parts3 (fuel := 8) (laidMet_of_run' 8 (by kernel_rfl) (by kernel_rfl)) (by kernel_rfl) (by kernel_rfl)
/-- A struct or an array by value, that came in: its cells, one by one. -/
def AllOk (P : Program) (W : World) (b : Nat) : List TypeId → List Value → Prop
  | [], [] => True
  | u :: ts, v :: vs => Cell.okWide P W .any b u v ∧ AllOk P W b ts vs
  | _, _ => False
theorem allOk_of {P : Program} {W : World} {b : Nat} : ∀ (ts : List TypeId) (cs : List Value), cs.length = ts.length → (∀ (i : Nat) (v : Value), cs[i]? = some v → ∃ u : TypeId, ts[i]? = some u ∧ Cell.okWide P W .any b u v) → AllOk P W b ts cs
  | [], [], _, _ => trivial
  | [], _ :: _, h, _ => by simp at h
  | _ :: _, [], h, _ => by simp at h
  | u :: ts, v :: cs, h, ho => by
    refine ⟨?_, allOk_of ts cs (by simpa using h) fun i x hx => ?_⟩
    · obtain ⟨u', h1, h2⟩ := ho 0 v rfl
      simp at h1
      exact h1 ▸ h2
    · simpa using ho (i + 1) x (by simpa using hx)
theorem open_agg {P : Program} {W : World} {b : Nat} {t : TypeId} {v : Value} {ts : List TypeId} (hs : (match P.underlying t with | some (.struct _) => true | some (.array _ _) => true | _ => false) = true) (hts : P.cellTypes P.depth t = some ts) (hn : P.cellsOf t = ts.length)
    (hv : Value.okWide P W .any b t v) : ∃ cs : List Value, v = .agg ⟨cs⟩ ∧ AllOk P W b ts cs := by
  have h : ∃ cs, v = .agg cs ∧ cs.size = P.cellsOf t ∧ Row.okWide P W .any b t cs := by
    unfold Value.okWide at hv
    split at hv
    · exact hv
    · exact hv
    · next h1 h2 => split at hs <;> simp_all
  obtain ⟨⟨cs⟩, rfl, hz, ts', h1, _, h2⟩ := h
  obtain rfl := Option.some.inj (hts.symm.trans h1)
  have hz' : cs.length = ts.length := by simpa [hn] using hz
  refine ⟨cs, rfl, allOk_of ts cs hz' fun i x hx => ?_⟩
  obtain ⟨u, h3, h4⟩ := h2 i x (by simpa using hx)
  have hi : i < cs.length := (List.getElem?_eq_some_iff.1 hx).1
  rw [Nat.mod_eq_of_lt (by omega)] at h3
  exact ⟨u, h3, h4⟩
theorem allOk_cons {P : Program} {W : World} {b : Nat} {u : TypeId} {ts : List TypeId} {cs : List Value} (h : AllOk P W b (u :: ts) cs) : ∃ v vs, cs = v :: vs ∧ Cell.okWide P W .any b u v ∧ AllOk P W b ts vs := by
  cases cs with
  | nil => exact h.elim
  | cons v vs => exact ⟨v, vs, rfl, h.1, h.2⟩
theorem allOk_nil {P : Program} {W : World} {b : Nat} {cs : List Value} (h : AllOk P W b [] cs) : cs = [] := by
  cases cs with
  | nil => rfl
  | cons v vs => exact h.elim
theorem cell_int {P : Program} {W : World} {b : Nat} {u : TypeId} {k : IntKind} {v : Value} (hu : P.underlying u = some (.int k)) (h : Cell.okWide P W .any b u v) : ∃ n, v = .int k n ∧ k.min ≤ n ∧ n ≤ k.max := by
  simp only [Cell.okWide, hu, Cell.ok] at h
  cases v <;> simp_all [IntKind.has]
theorem cell_bool {P : Program} {W : World} {b : Nat} {u : TypeId} {v : Value} (hu : P.underlying u = some .bool) (h : Cell.okWide P W .any b u v) : ∃ x, v = .bool x := by
  simp only [Cell.okWide, hu, Cell.ok] at h
  cases v <;> simp_all
theorem agg_cons {P : Program} {W : World} {b : Nat} {u : TypeId} {k : IntKind} {ts : List TypeId} {cs : List Value} (hu : P.underlying u = some (.int k)) (h : AllOk P W b (u :: ts) cs) : ∃ n vs, cs = .int k n :: vs ∧ (k.min ≤ n ∧ n ≤ k.max) ∧ AllOk P W b ts vs := by
  obtain ⟨v, vs, rfl, h1, h2⟩ := allOk_cons h
  obtain ⟨n, rfl, h3, h4⟩ := cell_int hu h1
  exact ⟨n, vs, rfl, ⟨h3, h4⟩, h2⟩
theorem agg_bool {P : Program} {W : World} {b : Nat} {u : TypeId} {ts : List TypeId} {cs : List Value} (hu : P.underlying u = some .bool) (h : AllOk P W b (u :: ts) cs) : ∃ x vs, cs = .bool x :: vs ∧ AllOk P W b ts vs := by
  obtain ⟨v, vs, rfl, h1, h2⟩ := allOk_cons h
  obtain ⟨n, rfl⟩ := cell_bool hu h1
  exact ⟨n, vs, rfl, h2⟩
theorem six_came {W : World} {b : Nat} {v : Value} (hv : Value.okWide Tryd.prog W .any b 25 v) : ∃ n : Six, v = .agg #[.int .i64 n.a, .int .i64 n.b, .int .i64 n.c, .int .i64 n.d, .int .i64 n.e, .int .i64 n.f] := by
  obtain ⟨cs, rfl, h⟩ := open_agg (ts := [3, 3, 3, 3, 3, 3]) (by rw [Tryd.underlying25]) (by kernel_rfl) (by kernel_rfl) hv
  obtain ⟨a, _, rfl, ha, h⟩ := agg_cons Tryd.underlying3 h
  obtain ⟨b, _, rfl, hb, h⟩ := agg_cons Tryd.underlying3 h
  obtain ⟨c, _, rfl, hc, h⟩ := agg_cons Tryd.underlying3 h
  obtain ⟨d, _, rfl, hd, h⟩ := agg_cons Tryd.underlying3 h
  obtain ⟨e, _, rfl, he, h⟩ := agg_cons Tryd.underlying3 h
  obtain ⟨f, _, rfl, hf, h⟩ := agg_cons Tryd.underlying3 h
  obtain rfl := allOk_nil h
  exact ⟨⟨a, b, c, d, e, f, ha, hb, hc, hd, he, hf⟩, rfl⟩
end Go.Proofs.YtdepmbnoecpccaaDoor
