
/- SeenOrder: for every input the call of the statement returns true and leaves its arguments as they were. Conditions: none beyond the row's own. -/
import Derived.Test.YtppcojfgpjnagaaSeenOpen
import Derived.Test.YtppcojfgpjnagaaSeenAwakeF
import Derived.Test.YtppcojfgpjnagaaQmootbelllaw13SeenOrder
set_option linter.unusedVariables false
set_option linter.unusedSimpArgs false
namespace Go.Proofs.Ytppcojfgpjnagaa
open Go.RowKit Go.Proofs.YtppcojfgpjnagaaW.PrintWords Go.Proofs.YtppcojfgpjnagaaW.PrintLast Go.Proofs.YtppcojfgpjnagaaW.PrintMore
open Go.ChangeShapes Go.WideShapes Go.ChangeAt
open Go.ChangeMaps (open_string shut_string)
open Go.Proofs.Ytppcojfgpjnagaa.PQ

/-- A list of marks that are right, and whose those are. -/
def Holds (L : List Mk) (s : Nat → Mk) (i : Nat) : Prop := rightM L = true ∧ L.length ≤ i ∧ ∀ x, x ∈ L ↔ ∃ j, j < i ∧ s j = x
theorem holds_next {L : List Mk} {s : Nat → Mk} {i : Nat} (h : Holds L s i) (hm : mayM (s i) = true) (hi : i < 200) : Holds (nextM L 200 (s i)) s (i + 1) := by
  obtain ⟨h1, h2, h3⟩ := h
  obtain ⟨g1, g2, g3⟩ := next_spec (room := 200) h1 hm (by omega)
  refine ⟨g1, by omega, fun x => ?_⟩
  rw [g3, h3]
  constructor
  · rintro (rfl | ⟨j, hj, rfl⟩)
    · exact ⟨i, by omega, rfl⟩
    · exact ⟨j, by omega, rfl⟩
  · rintro ⟨j, hj, rfl⟩
    rcases Nat.lt_or_ge j i with g | g
    · exact .inr ⟨j, g, rfl⟩
    · exact .inl (by rw [show j = i by omega])
theorem raw_may (x : Rw) : mayM (rawM x) = true := mark_may _ _ _
/-- The place of the i-th one in the other order. -/
def turnI (n k i : Nat) : Nat := (n - 1 - i + k) % n
theorem order_l0 (raw : List Rw) (ho : OkR raw) (n t : Nat) (hn : n ≤ 40) (hnr : n ≤ raw.length) (ht : t ≤ n) (r i k : Nat) (a b : List Mk) (hi : i + r = n) (hk : 2 * r + 100 ≤ k)
    (ha : Holds a (fun j => rawM (rdR raw j)) i) (hb : Holds b (fun j => rawM (rdR raw (turnI n t j))) i) :
    mootbelllaw13_SeenOrder.l0 k raw true (n : Int) (t : Int) a b (i : Int) = some true := by
  induction r generalizing i k a b with
  | zero =>
    obtain ⟨k, rfl⟩ : ∃ k', k = k' + 2 := ⟨k - 2, by omega⟩
    obtain rfl : i = n := by omega
    have e : a = b := by
      refine right_ext a b ha.1 hb.1 fun x => ?_
      rw [ha.2.2, hb.2.2]
      constructor
      · rintro ⟨j, hj, rfl⟩
        refine ⟨(i - 1 + t + i - j) % i, Nat.mod_lt _ (by omega), ?_⟩
        have : turnI i t ((i - 1 + t + i - j) % i) = j := by
          unfold turnI
          have h1 := Nat.div_add_mod (i - 1 + t + i - j) i
          have h2 := Nat.mod_lt (i - 1 + t + i - j) (show 0 < i by omega)
          generalize hq : (i - 1 + t + i - j) / i = q at h1
          generalize hm : (i - 1 + t + i - j) % i = m at h1 h2
          have h3 : i - 1 - m + t + i = j + i * q := by omega
          have h4 : (i - 1 - m + t + i) % i = j := by
            rw [h3, Nat.add_mul_mod_self_left, Nat.mod_eq_of_lt hj]
          rw [Nat.add_mod_right] at h4
          exact h4
        simp only [this]
      · rintro ⟨j, hj, rfl⟩
        exact ⟨turnI i t j, Nat.mod_lt _ (by omega), rfl⟩
    subst e
    have hal := ha.2.1
    rw [mootbelllaw13_SeenOrder.l0, if_neg (by omega), if_pos rfl, same_f a a (by omega) (k + 1) (by omega), decide_eq_true rfl, Option.bind_some, if_pos rfl, sright_f (by omega), Option.bind_some, ha.1]
  | succ r ih =>
    obtain ⟨k, rfl⟩ : ∃ k', k = k' + 2 := ⟨k - 2, by omega⟩
    have hrd := ho.rd (show i < raw.length by omega)
    have hti : turnI n t i < n := Nat.mod_lt _ (by omega)
    have hrt := ho.rd (show turnI n t i < raw.length by omega)
    have hal := ha.2.1
    have hbl := hb.2.1
    have hA : seen_Add.f a 200 (markM (rdR raw i).f0 (rdR raw i).f1 (rdR raw i).f2).f0 (markM (rdR raw i).f0 (rdR raw i).f1 (rdR raw i).f2).f1 (markM (rdR raw i).f0 (rdR raw i).f1 (rdR raw i).f2).f2 = some (addM a 200 (rawM (rdR raw i))) := sadd_f (by omega) 200 _
    have hB : seen_Add.f b 200 (markM (rdR raw (turnI n t i)).f0 (rdR raw (turnI n t i)).f1 (rdR raw (turnI n t i)).f2).f0 (markM (rdR raw (turnI n t i)).f0 (rdR raw (turnI n t i)).f1 (rdR raw (turnI n t i)).f2).f1 (markM (rdR raw (turnI n t i)).f0 (rdR raw (turnI n t i)).f1 (rdR raw (turnI n t i)).f2).f2 = some (addM b 200 (rawM (rdR raw (turnI n t i)))) := sadd_f (by omega) 200 _
    have hi200 : i < 200 := by omega
    have hn0 : ¬ (n : Int) = 0 := by omega
    have ht0 : (0 : Int) ≤ ((turnI n t i : Nat) : Int) := by omega
    have ht1 : ((turnI n t i : Nat) : Int) < (raw.length : Int) := by omega
    have hir : i + 1 + r = n := by omega
    have hrk : 2 * r + 100 ≤ k := by omega
    have hin0 : (i : Int) < (n : Int) := by omega
    have hi0 : (0 : Int) ≤ (i : Int) := by omega
    have hil : (i : Int) < (raw.length : Int) := by omega
    have eT : Int.tmod (wrap64 ((wrap64 ((wrap64 ((n : Int) - 1)) - (i : Int))) + (t : Int))) (n : Int) = ((turnI n t i : Nat) : Int) := by
      rw [w64 (x := (n : Int) - 1) (by unfold In64; omega), w64 (x := (n : Int) - 1 - i) (by unfold In64; omega), w64 (x := (n : Int) - 1 - i + t) (by unfold In64; omega), Int.tmod_eq_emod_of_nonneg (by omega)]
      unfold turnI
      rw [Int.natCast_emod]
      congr 1
      omega
    have eN : wrap64 ((i : Int) + 1) = ((i + 1 : Nat) : Int) := i64_next (n := 40) (by omega) (by omega)
    have j1 : ∀ a', Holds a' (fun j => rawM (rdR raw j)) (i + 1) → mootbelllaw13_SeenOrder.j1 (k + 1) raw true (n : Int) (t : Int) a' b (i : Int) = some true := by
      intro a' ha'
      have hs := holds_next hb (raw_may (rdR raw (turnI n t i))) hi200
      rw [mootbelllaw13_SeenOrder.j1, if_neg hn0, eT, if_pos ht0, if_pos ht1, mark_f _ _ _ hrt.1 hrt.2.1 hrt.2.2, Option.bind_some, hB, Option.bind_some, eN]
      have e := ih (i + 1) k a' _ hir hrk ha' hs
      unfold nextM at e
      split at e
      · rw [if_pos (by assumption)]
        exact e
      · rw [if_neg (by assumption)]
        exact e
    have hs := holds_next ha (raw_may (rdR raw i)) hi200
    rw [mootbelllaw13_SeenOrder.l0, if_pos hin0, if_pos hi0, if_pos hil, mark_f _ _ _ hrd.1 hrd.2.1 hrd.2.2, Option.bind_some, hA, Option.bind_some]
    have e := j1 _ hs
    unfold nextM at e
    split at e
    · rw [if_pos (by assumption)]
      exact e
    · rw [if_neg (by assumption)]
      exact e
theorem order_f (raw : List Rw) (turn : Int) (ho : OkR raw) (hm : In64 turn) : mootbelllaw13_SeenOrder.f 200 raw turn = some true := by
  obtain ⟨n, hn⟩ : ∃ n : Nat, mn (raw.length : Int) 40 = (n : Int) := ⟨min raw.length 40, by unfold mn; split <;> omega⟩
  have hn2 : n ≤ 40 ∧ n ≤ raw.length := by
    unfold mn at hn
    split at hn <;> omega
  have hp := pickZ_lt turn ((n : Int) + 1) (by omega)
  obtain ⟨t, ht⟩ : ∃ t : Nat, pickZ turn ((n : Int) + 1) = (t : Int) := ⟨(pickZ turn ((n : Int) + 1)).toNat, by omega⟩
  unfold mootbelllaw13_SeenOrder.f
  rw [awake_f 200 (by omega), Option.bind_some, hn, pick_f _ _ hm (by omega), Option.bind_some, ht]
  rw [ht] at hp
  exact order_l0 raw ho n t hn2.1 hn2.2 (by omega) n 0 200 [] [] (by omega) (by omega) ⟨right_nil, by simp, fun x => by simp⟩ ⟨right_nil, by simp, fun x => by simp⟩
theorem order_calls' (A : Option Addr) (n c : Nat) (l : List Rw) (turn : Int) (W : World) (hc : n ≤ c) (hC : Kd.C k26 W A n l) (ho : OkR l) (hm : In64 turn) : Calls Try.prog 5 #[.slice A n c, .int .i64 turn] W fun e W' => e = .returned (.bool true) ∧ Below W.heap.size W W' := by
  obtain rfl := Kd.C_len hC
  exact mootbelllaw13_SeenOrder.calls 200 A c l turn true W hC hc (order_f l turn ho hm) rfl
set_option maxRecDepth 100000 in
theorem seenOrder_lifted (os : Os) (started : os.Started) (H : Type) (enc : TypeId × Value → H) :
    ReturnsInHanded {} Try.checked os 5 .any (Rows.seenOrderSpec.pre6 enc Try.prog Try.f5 Rows.seenOrderRow.domain false) (Rows.seenOrderSpec.post enc Try.prog Try.f5 false true false false) := by
  refine returnsInHanded_of_change_sized (C := Try.checked) own started (by kernel_rfl) Try.func5
    (ChangeSpec.witness6 (enc := enc) (C := Try.checked) false ⟨#[], #[.slice none 0 0, .int .i64 0], []⟩ 8 (by kernel_rfl) (by kernel_rfl) (by kernel_rfl) (by kernel_rfl)) ?_
  intro W base args ds gs before hval0 hW hcnd hsz0 _
  have hsz : (DataW.weightsEach Try.prog (Try.f5.params.toList ++ Rows.seenOrderSpec.plain.varTypes Try.prog) (ds ++ gs)).all (· ≤ reachBytes) = true := hsz0
  have hval : ∀ (j : Nat) t v, Try.f5.params[j]? = some t → args[j]? = some v → Value.okWide Try.prog W .any base t v := hval0
  have hW' := hW
  obtain ⟨p, q, hA0, hV, rfl, hfz, hnd⟩ := hW
  have hA : DataW.TrodAll enc Try.prog W 0 (fun _ => true) true Try.f5.params.toList args.toList ds p := hA0
  have hAll := hA
  rw [Try.params5] at hA hval hsz
  obtain ⟨v0, vs0, d0, ds0, p0, q0, hargs, rfl, rfl, h0, r0⟩ := trodAll_cons hA
  obtain ⟨v1, vs1, d1, ds1, p1, q1, rfl, rfl, rfl, h1, r1⟩ := trodAll_cons r0
  obtain ⟨rfl, rfl, rfl⟩ := trodAll_nil r1
  obtain rfl : args = #[v0, v1] := by cases args; simp_all
  obtain ⟨rfl, rfl⟩ := trodVars_none hV
  have hlt := trodAll_lt hAll
  obtain ⟨A, n, c, l, rfl, hc, hC, ho⟩ := raws_came (hval 0 23 v0 rfl rfl) h0
  obtain ⟨r, rfl, rfl, rfl, w1⟩ := open_int Try.underlying3 (hval 1 3 v1 rfl rfl) h1
  clear hA0 hval0 hsz0 hsz
  refine (order_calls' A n c l r W hc hC ho (bounds_i64 w1)).mono fun e W' ⟨he, bel⟩ => ?_
  subst he
  exact ⟨_, rfl, _, _, _, [], _, [], hW', trodAll_mk1 (shut_bool Try.underlying4 _), below_trodAll laidOut bel (by kernel_rfl) hAll hlt, rfl, bel.frame _, fun h => by cases h⟩
theorem seenOrder_over : Rows.seenOrderRow.holds Try.pinned (OpenSpec.ofChange Rows.seenOrderSpec) :=
  OpenClaim.holds_of_wide 5 Try.f5 rfl rfl rfl rfl rfl rfl rfl ⟨rfl, rfl, rfl, rfl, rfl⟩ rfl rfl rfl rfl rfl (by kernel_rfl) Try.func5 (by kernel_rfl)
    (of_decide_eq_true (by kernel_rfl)) (by unfold Func.isWrapper; first | (rw [if_pos (by decide +kernel)]; kernel_rfl) | (rw [if_neg (by decide +kernel)]; exact ⟨rfl, rfl⟩))
    (fun os started H enc _ => seenOrder_lifted os started H enc)
theorem seenOrder_holds : Rows.SeenOrderSaid := seenOrder_over
#print axioms seenOrder_holds
end Go.Proofs.Ytppcojfgpjnagaa
