
/- Sums of bytes (chapter 4), in plain Lean: no program in sight. -/
import Derived.Laws.Bits64
import Derived.Laws.BitsAllLaws
import Derived.RowKit
set_option linter.unusedVariables false
set_option linter.unusedSimpArgs false
namespace Go.Proofs.YtdepmbnoecpccaaDoor
open Go.RowKit

/-- One byte more, one byte less; in the walk's own spelling. -/
def stepF (h : Int) (c : UInt8) : Int := IntKind.u64.wrap (bits .xor .u64 h (IntKind.u64.wrap (c.toNat : Int)) * 1099511628211)
def stepB (h : Int) (c : UInt8) : Int := bits .xor .u64 (IntKind.u64.wrap (h * 14886173955864302971)) (IntKind.u64.wrap (c.toNat : Int))
def moreF (h : Int) (l : List UInt8) : Int := l.foldl stepF h
def backF (h : Int) (l : List UInt8) : Int := l.foldr (fun c h => stepB h c) h
def byteAt (w : Int) (i : Nat) : UInt8 := UInt8.ofNat (w.toNat / 2 ^ (8 * i) % 256)
def putF (w : Int) (n : Nat) : List UInt8 := if 1 ≤ n ∧ n ≤ 8 then (List.range n).map (byteAt w) else []
def basis0 : Int := 14695981039346656037
def sumF (l : List UInt8) : Int := moreF basis0 l
def foldF (ws : List Int) : Int := ws.foldl (fun h w => moreF h (putF w 8)) basis0

def u64ok (h : Int) : Prop := 0 ≤ h ∧ h < 18446744073709551616

theorem byteW (c : UInt8) : IntKind.u64.wrap (c.toNat : Int) = (c.toNat : Int) := by
  rw [IntKind.wrap_u64]
  have := c.toNat_lt
  omega
theorem xorN (a b : Nat) (ha : a < 18446744073709551616) (hb : b < 18446744073709551616) : bits .xor .u64 (a : Int) (b : Int) = ((a ^^^ b : Nat) : Int) := bits_xor_u64_nat a b ha hb
theorem xor_lt (a b : Nat) (ha : a < 18446744073709551616) (hb : b < 18446744073709551616) : a ^^^ b < 18446744073709551616 := by
  have : a ^^^ b < 2 ^ 64 := Nat.xor_lt_two_pow (by omega) (by omega)
  omega
theorem stepF_nat (h : Nat) (c : UInt8) (hh : h < 18446744073709551616) : stepF (h : Int) c = (((h ^^^ c.toNat) * 1099511628211 % 18446744073709551616 : Nat) : Int) := by
  have hc := c.toNat_lt
  unfold stepF
  rw [byteW, xorN _ _ hh (by omega), IntKind.wrap_u64]
  omega
theorem stepB_nat (h : Nat) (c : UInt8) (hh : h < 18446744073709551616) : stepB (h : Int) c = ((h * 14886173955864302971 % 18446744073709551616 ^^^ c.toNat : Nat) : Int) := by
  have hc := c.toNat_lt
  unfold stepB
  rw [byteW, IntKind.wrap_u64]
  have e : ((h : Int) * 14886173955864302971 % 18446744073709551616) = ((h * 14886173955864302971 % 18446744073709551616 : Nat) : Int) := by omega
  rw [e, xorN _ _ (by omega) (by omega)]
theorem stepF_ok (h : Int) (c : UInt8) (hh : u64ok h) : u64ok (stepF h c) := by
  obtain ⟨n, rfl⟩ := Int.eq_ofNat_of_zero_le hh.1
  rw [stepF_nat n c (by have := hh.2; omega)]
  constructor <;> omega
theorem stepB_ok (h : Int) (c : UInt8) (hh : u64ok h) : u64ok (stepB h c) := by
  obtain ⟨n, rfl⟩ := Int.eq_ofNat_of_zero_le hh.1
  rw [stepB_nat n c (by have := hh.2; omega)]
  have hc := c.toNat_lt
  have := xor_lt (n * 14886173955864302971 % 18446744073709551616) c.toNat (by omega) (by omega)
  constructor <;> omega
theorem mul_inv (x : Nat) (hx : x < 18446744073709551616) : x * 1099511628211 % 18446744073709551616 * 14886173955864302971 % 18446744073709551616 = x := by omega
theorem mul_inv' (x : Nat) (hx : x < 18446744073709551616) : x * 14886173955864302971 % 18446744073709551616 * 1099511628211 % 18446744073709551616 = x := by omega
theorem stepB_F (h : Int) (c : UInt8) (hh : u64ok h) : stepB (stepF h c) c = h := by
  obtain ⟨n, rfl⟩ := Int.eq_ofNat_of_zero_le hh.1
  have hn : n < 18446744073709551616 := by have := hh.2; omega
  have hc := c.toNat_lt
  rw [stepF_nat n c hn, stepB_nat _ c (by omega), mul_inv _ (xor_lt _ _ hn (by omega)), Nat.xor_assoc, Nat.xor_self, Nat.xor_zero]
theorem stepF_B (h : Int) (c : UInt8) (hh : u64ok h) : stepF (stepB h c) c = h := by
  obtain ⟨n, rfl⟩ := Int.eq_ofNat_of_zero_le hh.1
  have hn : n < 18446744073709551616 := by have := hh.2; omega
  have hc := c.toNat_lt
  rw [stepB_nat n c hn, stepF_nat _ c (xor_lt _ _ (by omega) (by omega)), Nat.xor_assoc, Nat.xor_self, Nat.xor_zero, mul_inv' _ hn]
theorem moreF_nil (h : Int) : moreF h [] = h := rfl
theorem moreF_cons (h : Int) (c : UInt8) (l : List UInt8) : moreF h (c :: l) = moreF (stepF h c) l := rfl
theorem moreF_append (h : Int) (l m : List UInt8) : moreF h (l ++ m) = moreF (moreF h l) m := by unfold moreF; rw [List.foldl_append]
theorem moreF_snoc (h : Int) (l : List UInt8) (c : UInt8) : moreF h (l ++ [c]) = stepF (moreF h l) c := by rw [moreF_append]; rfl
theorem backF_append (h : Int) (l m : List UInt8) : backF h (l ++ m) = backF (backF h m) l := by unfold backF; rw [List.foldr_append]
theorem backF_cons (h : Int) (c : UInt8) (l : List UInt8) : backF h (c :: l) = stepB (backF h l) c := rfl
theorem moreF_ok (l : List UInt8) : ∀ h, u64ok h → u64ok (moreF h l) := by
  induction l with
  | nil => exact fun h hh => hh
  | cons c l ih => exact fun h hh => ih _ (stepF_ok h c hh)
theorem backF_ok (l : List UInt8) : ∀ h, u64ok h → u64ok (backF h l) := by
  induction l with
  | nil => exact fun h hh => hh
  | cons c l ih => exact fun h hh => stepB_ok _ c (ih h hh)
theorem back_more (l : List UInt8) : ∀ h, u64ok h → backF (moreF h l) l = h := by
  induction l with
  | nil => exact fun h hh => rfl
  | cons c l ih => exact fun h hh => by rw [moreF_cons, backF_cons, ih _ (stepF_ok h c hh), stepB_F h c hh]
theorem more_back (l : List UInt8) : ∀ h, u64ok h → moreF (backF h l) l = h := by
  induction l with
  | nil => exact fun h hh => rfl
  | cons c l ih => exact fun h hh => by rw [moreF_cons, backF_cons, stepF_B _ c (backF_ok l h hh), ih h hh]
theorem more_inj (l : List UInt8) (h g : Int) (hh : u64ok h) (hg : u64ok g) : moreF h l = moreF g l ↔ h = g :=
  ⟨fun e => by rw [← back_more l h hh, ← back_more l g hg, e], fun e => by rw [e]⟩
theorem back_inj (l : List UInt8) (h g : Int) (hh : u64ok h) (hg : u64ok g) : backF h l = backF g l ↔ h = g :=
  ⟨fun e => by rw [← more_back l h hh, ← more_back l g hg, e], fun e => by rw [e]⟩
theorem basis_ok : u64ok basis0 := by unfold basis0; constructor <;> omega
theorem sumF_ok (l : List UInt8) : u64ok (sumF l) := moreF_ok l _ basis_ok
theorem foldl_more_ok (ws : List Int) : ∀ h, u64ok h → u64ok (ws.foldl (fun h w => moreF h (putF w 8)) h) := by
  induction ws with
  | nil => exact fun h hh => hh
  | cons w ws ih => exact fun h hh => ih _ (moreF_ok _ h hh)
theorem foldF_ok (ws : List Int) : u64ok (foldF ws) := foldl_more_ok ws _ basis_ok


theorem and_one (a : Int) (h0 : 0 ≤ a) (h1 : a < 18446744073709551616) : bits .and .u64 a 1 = a % 2 := by
  rw [u64_and a 1 h0 h1 (by omega) (by omega)]
  obtain ⟨n, rfl⟩ := Int.eq_ofNat_of_zero_le h0
  have : n &&& 1 = n % 2 := Nat.and_one_is_mod n
  simp only [Int.toNat_natCast]
  rw [show (1 : Int).toNat = 1 from rfl, this]
  omega
def drawF (n : Int) (ws : List Int) : Int := if n < 1 then 0 else foldF ws % n
def bitF (ws : List Int) : Bool := foldF ws / 1099511627776 % 2 == 1
theorem draw_wrap (n : Int) (ws : List Int) (h1 : ¬ n < 1) (h2 : n ≤ 9223372036854775807) : wrap64 ((foldF ws).tmod n) = foldF ws % n := by
  have h := foldF_ok ws
  rw [Int.tmod_eq_emod_of_nonneg h.1]
  have a := Int.emod_nonneg (foldF ws) (show n ≠ 0 by omega)
  have b := Int.emod_lt_of_pos (foldF ws) (show 0 < n by omega)
  unfold wrap64
  omega
theorem bit_and (ws : List Int) : (bits .and .u64 (foldF ws / 1099511627776) 1 == 1) = bitF ws := by
  have h := foldF_ok ws
  rw [and_one _ (by have := h.1; omega) (by have := h.1; have := h.2; omega)]
  rfl
end Go.Proofs.YtdepmbnoecpccaaDoor
