/- Texts and words that are unlike in one byte alone have unlike sums: plain Lean. -/
import Derived.Test.YtllbeodngnjgbaaDoorChurnPure
import Derived.Laws.BytesArg
set_option linter.unusedVariables false
set_option linter.unusedSimpArgs false
namespace Go.Proofs.YtllbeodngnjgbaaDoor
open Go.RowKit

theorem xor_cancel (a b c : Nat) (h : a ^^^ b = a ^^^ c) : b = c := by
  have : a ^^^ (a ^^^ b) = a ^^^ (a ^^^ c) := by rw [h]
  rwa [← Nat.xor_assoc, ← Nat.xor_assoc, Nat.xor_self, Nat.zero_xor, Nat.zero_xor] at this
theorem stepF_inj (h : Int) (x y : UInt8) (hh : u64ok h) (e : stepF h x = stepF h y) : x = y := by
  obtain ⟨n, rfl⟩ := Int.eq_ofNat_of_zero_le hh.1
  have hn : n < 18446744073709551616 := by have := hh.2; omega
  have hx := x.toNat_lt
  have hy := y.toNat_lt
  rw [stepF_nat n x hn, stepF_nat n y hn] at e
  have e2 : (n ^^^ x.toNat) * 1099511628211 % 18446744073709551616 = (n ^^^ y.toNat) * 1099511628211 % 18446744073709551616 := by exact_mod_cast e
  have e3 : n ^^^ x.toNat = n ^^^ y.toNat := by
    rw [← mul_inv (n ^^^ x.toNat) (xor_lt _ _ hn (by omega)), ← mul_inv (n ^^^ y.toNat) (xor_lt _ _ hn (by omega)), e2]
  exact UInt8.toNat_inj.1 (xor_cancel _ _ _ e3)
theorem more_one (a b : List UInt8) (x y : UInt8) (h : Int) (hh : u64ok h) : moreF h (a ++ x :: b) = moreF h (a ++ y :: b) ↔ x = y := by
  constructor
  · intro e
    rw [moreF_append, moreF_append, moreF_cons, moreF_cons] at e
    have k := moreF_ok a h hh
    exact stepF_inj _ _ _ k ((more_inj b _ _ (stepF_ok _ x k) (stepF_ok _ y k)).1 e)
  · rintro rfl; rfl
theorem more_one_beq (s u : List UInt8) (k : Nat) (y : UInt8) (hk : k < s.length) (hu : u = s.take k ++ y :: s.drop (k + 1)) (h : Int) (hh : u64ok h) : (moreF h s == moreF h u) = (s == u) := by
  have hs : s = s.take k ++ s[k] :: s.drop (k + 1) := by rw [← List.drop_eq_getElem_cons hk, List.take_append_drop]
  rw [Bool.eq_iff_iff, beq_iff_eq, beq_iff_eq]
  constructor
  · intro e
    rw [hu] at e ⊢
    rw [hs] at e
    have hl : (s.take k).length = k := by rw [List.length_take]; omega
    have : (List.take k (List.take k s ++ s[k] :: List.drop (k + 1) s)) = s.take k := by rw [← hs]
    have e2 : moreF h (s.take k ++ s[k] :: s.drop (k + 1)) = moreF h (s.take k ++ y :: s.drop (k + 1)) := by
      rw [← hs]
      rw [← hs] at e
      exact e
    have := (more_one _ _ _ _ h hh).1 e2
    rw [← this]
    exact hs
  · intro e; rw [← e]
theorem byteAt_xor (h c j i : Nat) (hc : c < 256) (hi : i ≠ j) : byteAt (((h ^^^ c * 2 ^ (8 * j) : Nat)) : Int) i = byteAt (h : Int) i := by
  unfold byteAt
  simp only [Int.toNat_natCast]
  congr 1
  rw [← Nat.shiftRight_eq_div_pow, ← Nat.shiftRight_eq_div_pow, Nat.shiftRight_xor_distrib, show (256 : Nat) = 2 ^ 8 from rfl, Nat.xor_mod_two_pow]
  have : (c * 2 ^ (8 * j)) >>> (8 * i) % 2 ^ 8 = 0 := by
    rw [Nat.shiftRight_eq_div_pow]
    rcases Nat.lt_or_ge i j with h1 | h1
    · have e : c * 2 ^ (8 * j) = (c * 2 ^ (8 * (j - i) - 8)) * 2 ^ 8 * 2 ^ (8 * i) := by
        rw [Nat.mul_assoc, Nat.mul_assoc, ← Nat.pow_add, ← Nat.pow_add]
        congr 2; omega
      rw [e, Nat.mul_div_cancel _ (Nat.two_pow_pos _), Nat.mul_mod_left]
    · have e : 2 ^ (8 * i) = 2 ^ (8 * (i - j)) * 2 ^ (8 * j) := by rw [← Nat.pow_add]; congr 1; omega
      rw [e, Nat.mul_div_mul_right _ _ (Nat.two_pow_pos _), Nat.div_eq_of_lt]
      have : 2 ^ 8 ≤ 2 ^ (8 * (i - j)) := Nat.pow_le_pow_right (by omega) (by omega)
      omega
  rw [this, Nat.xor_zero]
theorem byteAt_xor_same (h c j : Nat) (hc : c < 256) : (byteAt (((h ^^^ c * 2 ^ (8 * j) : Nat)) : Int) j = byteAt (h : Int) j) → c = 0 := by
  unfold byteAt
  simp only [Int.toNat_natCast]
  intro e
  have e2 := congrArg UInt8.toNat e
  rw [UInt8.toNat_ofNat', UInt8.toNat_ofNat'] at e2
  rw [← Nat.shiftRight_eq_div_pow, ← Nat.shiftRight_eq_div_pow, Nat.shiftRight_xor_distrib, show (256 : Nat) = 2 ^ 8 from rfl, Nat.xor_mod_two_pow, Nat.mod_mod, Nat.mod_eq_of_lt (Nat.xor_lt_two_pow (Nat.mod_lt _ (by decide)) (Nat.mod_lt _ (by decide)))] at e2
  have e3 : (c * 2 ^ (8 * j)) >>> (8 * j) % 2 ^ 8 = c := by
    rw [Nat.shiftRight_eq_div_pow, Nat.mul_div_cancel _ (Nat.two_pow_pos _)]
    exact Nat.mod_eq_of_lt (by omega)
  rw [e3] at e2
  exact xor_cancel (h >>> (8 * j) % 2 ^ 8) c 0 (by rw [e2, Nat.xor_zero])
theorem put_one (h c j : Nat) (hc : c < 256) (hj : j < 8) (x : Int) (hx : u64ok x) : moreF x (putF (h : Int) 8) = moreF x (putF (((h ^^^ c * 2 ^ (8 * j) : Nat)) : Int) 8) ↔ c = 0 := by
  have e : ∀ v : Int, putF v 8 = (List.range j).map (byteAt v) ++ byteAt v j :: (List.range' (j + 1) (7 - j)).map (byteAt v) := by
    intro v
    unfold putF
    rw [if_pos (by omega)]
    have : List.range 8 = List.range j ++ j :: List.range' (j + 1) (7 - j) := by
      rw [List.range_eq_range', List.range_eq_range', show (8 : Nat) = j + (8 - j) by omega, ← List.range'_append_1, Nat.zero_add]
      congr 1
      rw [show 8 - j = (7 - j) + 1 by omega, List.range'_succ]
    rw [this, List.map_append, List.map_cons]
  rw [e, e]
  have e1 : (List.range j).map (byteAt (((h ^^^ c * 2 ^ (8 * j) : Nat)) : Int)) = (List.range j).map (byteAt (h : Int)) :=
    List.map_congr_left fun i hi => byteAt_xor h c j i hc (by have := List.mem_range.1 hi; omega)
  have e2 : (List.range' (j + 1) (7 - j)).map (byteAt (((h ^^^ c * 2 ^ (8 * j) : Nat)) : Int)) = (List.range' (j + 1) (7 - j)).map (byteAt (h : Int)) :=
    List.map_congr_left fun i hi => byteAt_xor h c j i hc (by have := (List.mem_range'_1.1 hi).1; omega)
  rw [e1, e2, more_one _ _ _ _ x hx]
  constructor
  · intro e; exact byteAt_xor_same h c j hc e.symm
  · rintro rfl; rw [Nat.zero_mul, Nat.xor_zero]
theorem foldF_three (a h b : Int) : foldF [a, h, b] = moreF (moreF (moreF basis0 (putF a 8)) (putF h 8)) (putF b 8) := by
  unfold foldF
  rw [List.foldl_cons, List.foldl_cons, List.foldl_cons, List.foldl_nil]
theorem fold_one (h c j : Nat) (hc : c < 256) (hj : j < 8) (V : Int) (hV : V = ((h ^^^ c * 2 ^ (8 * j) : Nat) : Int)) : (foldF [1, (h : Int), 2] == foldF [1, V, 2]) = ((h : Int) == V) := by
  have k := moreF_ok (putF 1 8) _ basis_ok
  rw [Bool.eq_iff_iff, beq_iff_eq, beq_iff_eq, foldF_three, foldF_three, more_inj _ _ _ (moreF_ok _ _ k) (moreF_ok _ _ k), hV, put_one h c j hc hj _ k]
  constructor
  · rintro rfl; rw [Nat.zero_mul, Nat.xor_zero]
  · intro e
    have e2 : h = h ^^^ c * 2 ^ (8 * j) := by exact_mod_cast e
    have e3 := xor_cancel h 0 (c * 2 ^ (8 * j)) (by rw [Nat.xor_zero]; exact e2)
    have := Nat.two_pow_pos (8 * j)
    rcases Nat.eq_zero_or_pos c with h0 | h0
    · exact h0
    · have := Nat.mul_pos h0 this; omega
end Go.Proofs.YtllbeodngnjgbaaDoor
