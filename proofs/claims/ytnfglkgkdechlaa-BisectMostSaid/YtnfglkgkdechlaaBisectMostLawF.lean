import Derived.Test.YtnfglkgkdechlaaF2
import Derived.Test.YtnfglkgkdechlaaF3

/- BisectMost: for every input the call of the statement returns true and leaves its arguments as they were. Conditions: none beyond the row's own. -/
set_option linter.unusedVariables false
set_option linter.unusedSimpArgs false
namespace Go.Proofs.Ytnfglkgkdechlaa
open Go.RowKit Go.Proofs.YtnfglkgkdechlaaW.PrintWords Go.Proofs.YtnfglkgkdechlaaW.PrintLast Go.Proofs.YtnfglkgkdechlaaW.PrintMore
open Go.ChangeShapes Go.WideShapes Go.ChangeAt
open Go.ChangeMaps (open_string shut_string)
open Go.Proofs.Ytnfglkgkdechlaa.PQ

theorem range_map {α β : Type} (l : List α) (f : Nat → β) (g : α → β) (h : ∀ (i : Nat) (hi : i < l.length), f i = g l[i]) : (List.range l.length).map f = l.map g := by
  apply List.ext_getElem
  · simp
  · intro i h1 h2
    rw [List.getElem_map, List.getElem_map, List.getElem_range]
    exact h i (by simpa using h1)
theorem most_D (n : Nat) (h1 : 1 ≤ n) (h : n ≤ 20) : ∃ D, D ≤ 5 ∧ n ≤ 2 ^ D ∧ ∀ e : Nat, e < D → 2 ^ e < n := by
  have p0 : (2 : Nat) ^ 0 = 1 := rfl
  have p1 : (2 : Nat) ^ 1 = 2 := rfl
  have p2 : (2 : Nat) ^ 2 = 4 := rfl
  have p3 : (2 : Nat) ^ 3 = 8 := rfl
  have p4 : (2 : Nat) ^ 4 = 16 := rfl
  have p5 : (2 : Nat) ^ 5 = 32 := rfl
  by_cases a0 : n ≤ 1
  · exact ⟨0, by omega, by omega, fun e he => by omega⟩
  by_cases a1 : n ≤ 2
  · refine ⟨1, by omega, by omega, fun e he => ?_⟩
    obtain rfl : e = 0 := by omega
    omega
  by_cases a2 : n ≤ 4
  · refine ⟨2, by omega, by omega, fun e he => ?_⟩
    have : e = 0 ∨ e = 1 := by omega
    rcases this with rfl | rfl <;> omega
  by_cases a3 : n ≤ 8
  · refine ⟨3, by omega, by omega, fun e he => ?_⟩
    have : e = 0 ∨ e = 1 ∨ e = 2 := by omega
    rcases this with rfl | rfl | rfl <;> omega
  by_cases a4 : n ≤ 16
  · refine ⟨4, by omega, by omega, fun e he => ?_⟩
    have : e = 0 ∨ e = 1 ∨ e = 2 ∨ e = 3 := by omega
    rcases this with rfl | rfl | rfl | rfl <;> omega
  · refine ⟨5, by omega, by omega, fun e he => ?_⟩
    have : e = 0 ∨ e = 1 ∨ e = 2 ∨ e = 3 ∨ e = 4 := by omega
    rcases this with rfl | rfl | rfl | rfl | rfl <;> omega
theorem most_f (raw : List Int) (items : List Rw) (hr : ∀ x ∈ raw, In64 x) (hi : ∀ x ∈ items, OkR x) : mootbelllaw15_BisectMost.f 100 raw items = some true := by
  obtain ⟨its, hits⟩ : ∃ q, itemsR items = q := ⟨_, rfl⟩
  obtain ⟨t, ht⟩ : ∃ q, tabR raw = q := ⟨_, rfl⟩
  have hlen : its.length ≤ 20 := by rw [← hits]; exact itemsR_len items
  have hok : its.all okIB = true := List.all_eq_true.2 fun x hx => okIB_iff.2 (okI_items items x (by rw [hits]; exact hx))
  have ha : (List.range its.length).map (fun j : Nat => chk t (rdI its (j : Int))) = its.map (chk t) := range_map its _ _ fun i h => by rw [rdI_eq h]
  unfold mootbelllaw15_BisectMost.f
  rw [mootbelllaw15_awake.f, Option.bind_some, mootbelllaw07_Table.f, if_pos (List.all_eq_true.2 fun x hx => in64B_iff.2 (hr x hx)), Option.bind_some, mootbelllaw15_Items.f, if_pos (List.all_eq_true.2 fun x hx => okRB_iff.2 (hi x hx)), Option.bind_some, hits, ht, bisect_Find.f, if_pos ⟨by omega, hok⟩, Option.bind_some, ha]
  dsimp only
  rw [if_pos (by simp)]
  have hw : ((its.map (chk t)).filter fun b => !b).length = wrongs (chk t) its := by
    rw [List.filter_map, List.length_map]
    rfl
  have := most_l0 its (its.map (chk t)) (cnt (chk t) its : Int) (by simpa using hlen) its.length 0 100 0 (by omega) (by simp) (by omega) (fun _ => by
    rw [List.drop_zero, hw, Nat.zero_add]
    by_cases h0 : its.length = 0
    · rw [if_pos (by omega), cnt_none _ _ h0]
      rfl
    · rw [if_neg (by omega)]
      obtain ⟨D, hD, hn, hd⟩ := most_D its.length (by omega) hlen
      have c2 := cnt_most (chk t) D its hn
      refine most_l1 its (cnt (chk t) its : Int) (wrongs (chk t) its) D hD hn (by omega) hd (by have := wrongs_le (chk t) its; omega) (by have := cnt_pos (chk t) its h0; omega) ?_ (fun hz => by rw [cnt_all _ _ h0 ((wrongs_zero _ _).1 hz)]; rfl) D 0 _ (by omega) (by omega)
      have c3 : ((cnt (chk t) its : Nat) : Int) ≤ ((1 + 2 * wrongs (chk t) its * D : Nat) : Int) := Int.ofNat_le.2 c2
      rw [Int.natCast_add, Int.natCast_mul, Int.natCast_mul] at c3
      exact c3)
  exact this
theorem most_calls (A : Option Addr) (n c : Nat) (raw : List Int) (B : Option Addr) (m d : Nat) (items : List Rw) (W : World) (hA : (Kd.int .i64).C W A n raw) (hc : n ≤ c) (hr : ∀ x ∈ raw, (Lit.int .i64 x).wf = true) (hB : kR.C W B m items) (hd : m ≤ d) (hi : ∀ x ∈ items, OkR x) :
    Calls Try.prog 5 #[.slice A n c, .slice B m d] W fun e W' => e = .returned (.bool true) ∧ Below W.heap.size W W' := by
  obtain rfl := Kd.C_len hA
  obtain rfl := Kd.C_len hB
  exact mootbelllaw15_BisectMost.calls 100 A c raw B d items true W hA hc hB hd (most_f raw items (fun x hx => in64_wf (hr x hx)) hi) rfl
set_option maxRecDepth 100000 in
theorem bisectMost_lifted (os : Os) (started : os.Started) (H : Type) (enc : TypeId × Value → H) :
    ReturnsInHanded {} Try.checked os 5 .any (Rows.bisectMostSpec.pre6 enc Try.prog Try.f5 Rows.bisectMostRow.domain false) (Rows.bisectMostSpec.post enc Try.prog Try.f5 false true false false) := by
  refine returnsInHanded_of_change_sized (C := Try.checked) own started (by kernel_rfl) Try.func5
    (ChangeSpec.witness6 (enc := enc) (C := Try.checked) false ⟨#[], #[.slice none 0 0, .slice none 0 0], []⟩ 8 (by kernel_rfl) (by kernel_rfl) (by kernel_rfl) (by kernel_rfl)) ?_
  intro W base args ds gs before hval0 hW hcnd hsz0 _
  have hsz : (DataW.weightsEach Try.prog (Try.f5.params.toList ++ Rows.bisectMostSpec.plain.varTypes Try.prog) (ds ++ gs)).all (· ≤ reachBytes) = true := hsz0
  have hval : ∀ (j : Nat) t v, Try.f5.params[j]? = some t → args[j]? = some v → Value.okWide Try.prog W .any base t v := hval0
  have hW' := hW
  obtain ⟨p, q, hA0, hV, rfl, hfz, hnd⟩ := hW
  have hA : DataW.TrodAll enc Try.prog W 0 (fun _ => true) true Try.f5.params.toList args.toList ds p := hA0
  have hAll := hA
  rw [Try.params5] at hA hval hsz
  obtain ⟨v0, vs0, d0, ds0, p0, q0, hargs, rfl, rfl, h0, r0⟩ := trodAll_cons hA
  obtain ⟨v1, vs1, d1, ds1, p1, q1, rfl, rfl, rfl, h1, r1⟩ := trodAll_cons r0
  obtain ⟨rfl, rfl, rfl⟩ := trodAll_nil r1
  obtain rfl : args = #[v0, v1] := by cases args; simp_all
  obtain ⟨rfl, rfl⟩ := trodVars_none hV
  have hlt := trodAll_lt hAll
  obtain ⟨A, n, c, l, rfl, hc, hC, ho⟩ := C_came Try.underlying23 Try.underlying3 (by kernel_rfl) (hval 0 23 v0 rfl rfl) h0
  obtain ⟨B, m, d, q, rfl, hd, hD, hq⟩ := rawsS_came (hval 1 24 v1 rfl rfl) h1
  clear hA0 hval0 hsz0 hsz
  refine (most_calls A n c l B m d q W hC hc ho hD hd hq).mono fun e W' ⟨he, bel⟩ => ?_
  subst he
  exact ⟨_, rfl, _, _, _, [], _, [], hW', trodAll_mk1 (shut_bool Try.underlying4 _), below_trodAll laidOut bel (by kernel_rfl) hAll hlt, rfl, bel.frame _, fun h => by cases h⟩
theorem bisectMost_over : Rows.bisectMostRow.holds Try.pinned (OpenSpec.ofChange Rows.bisectMostSpec) :=
  OpenClaim.holds_of_wide 5 Try.f5 rfl rfl rfl rfl rfl rfl rfl ⟨rfl, rfl, rfl, rfl, rfl⟩ rfl rfl rfl rfl rfl (by kernel_rfl) Try.func5 (by kernel_rfl)
    (of_decide_eq_true (by kernel_rfl)) (by unfold Func.isWrapper; first | (rw [if_pos (by decide +kernel)]; kernel_rfl) | (rw [if_neg (by decide +kernel)]; exact ⟨rfl, rfl⟩))
    (fun os started H enc _ => bisectMost_lifted os started H enc)
theorem bisectMost_holds : Rows.BisectMostSaid := bisectMost_over
#print axioms bisectMost_holds
end Go.Proofs.Ytnfglkgkdechlaa
