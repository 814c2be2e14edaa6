import Derived.Test.YtppcojfgpjnagaaSeenQ
import Derived.Test.YtppcojfgpjnagaaSeenAwakeF
import Derived.Test.YtppcojfgpjnagaaQx0
import Derived.Test.YtppcojfgpjnagaaQx1
import Derived.Test.YtppcojfgpjnagaaQmootbellref13Same
import Derived.Test.YtppcojfgpjnagaaQmootbelllaw13awake
import Derived.Test.YtppcojfgpjnagaaQmootbelllaw13pick
import Derived.Test.YtppcojfgpjnagaaQmootbelllaw13Mark
import Derived.Test.YtppcojfgpjnagaaQmootbelllaw13Marks
namespace Go.Proofs.Ytppcojfgpjnagaa.PQ
open Go.RowKit Go.Proofs.YtppcojfgpjnagaaW.PrintWords Go.Proofs.YtppcojfgpjnagaaW.PrintLast Go.Proofs.YtppcojfgpjnagaaW.PrintMore
attribute [local go_sem] max2_int min2_int max_two min_two max_three min_three max_four min_four   -- for this text's walks alone
set_option linter.unusedVariables false
set_option linter.unusedSimpArgs false

private abbrev τ : Bool := true
private abbrev φ : Bool := false
/-! ### mootbelllaw13_SeenPrune: function 6 -/
mutual
def mootbelllaw13_SeenPrune.j0 : Nat → Bool → List (S25) → Bool → Int → Int → Int → Option (Bool)
 | 0, _, _, _, _, _, _ => none
 | k + 1, x9, x10, x59, x220000, x220001, x220002 => if x59 = true then (some false) else ((seen_Of.f x10 x220000 x220001).bind fun t241 => (mootbelllaw13_SeenPrune.l0 k x9 x10 t241 false 0 x220000 x220001 x220002))
def mootbelllaw13_SeenPrune.l0 : Nat → Bool → List (S25) → List Int → Bool → Int → Int → Int → Int → Option (Bool)
 | 0, _, _, _, _, _, _, _, _ => none
 | k + 1, x9, x10, x15, x16, x17, x220000, x220001, x220002 => if x17 < (x15.length : Int) then (if x17 > 0 then (if 0 ≤ (wrap64 (x17 - 1)) then (if (wrap64 (x17 - 1)) < (x15.length : Int) then (if 0 ≤ x17 then (if (rd x15 (wrap64 (x17 - 1))) ≥ (rd x15 x17) then (some false) else ((seen_Has.f x10 x220000 x220001 (rd x15 x17)).bind fun t247 => (if t247 = true then (if x16 = true then (mootbelllaw13_SeenPrune.l0 k x9 x10 x15 true (wrap64 (x17 + 1)) x220000 x220001 x220002) else (mootbelllaw13_SeenPrune.l0 k x9 x10 x15 ((rd x15 x17) == x220002) (wrap64 (x17 + 1)) x220000 x220001 x220002)) else (some false)))) else (none)) else (none)) else (none)) else (if 0 ≤ x17 then ((seen_Has.f x10 x220000 x220001 (rd x15 x17)).bind fun t250 => (if t250 = true then (if x16 = true then (mootbelllaw13_SeenPrune.l0 k x9 x10 x15 true (wrap64 (x17 + 1)) x220000 x220001 x220002) else (mootbelllaw13_SeenPrune.l0 k x9 x10 x15 ((rd x15 x17) == x220002) (wrap64 (x17 + 1)) x220000 x220001 x220002)) else (some false))) else (none))) else (if x9 = true then ((seen_Has.f x10 x220000 x220001 x220002).bind fun t252 => (some (x16 == t252))) else (some false))
end
def mootbelllaw13_SeenPrune.f (k : Nat) (l0 : List (S26)) (a1 : Int) (a2 : Int) (a3_0 : Int) (a3_1 : Int) (a3_2 : Int) : Option (Bool) := (mootbelllaw13_awake.f k).bind fun t210 => ((mootbelllaw13_Marks.f k l0).bind fun t211 => ((mootbelllaw13_pick.f a1 7).bind fun t214 => ((mootbelllaw13_pick.f a2 7).bind fun t215 => ((mootbelllaw13_Mark.f a3_0 a3_1 a3_2).bind fun bt216 => ((seen_Prune.f t211 t214).bind fun t220 => ((seen_Has.f t220 bt216.1 bt216.2.1 bt216.2.2).bind fun t223 => ((seen_Has.f t211 bt216.1 bt216.2.1 bt216.2.2).bind fun t224 => (if t224 = true then (if (t223 != (decide (bt216.1 ≥ t214))) = true then (mootbelllaw13_SeenPrune.j0 k t210 t211 true bt216.1 bt216.2.1 bt216.2.2) else ((seen_Prune.f t220 t215).bind fun t225 => ((seen_Prune.f t211 (mx t214 t215)).bind fun t228 => ((mootbellref13_Same.f k t225 t228).bind fun t231 => (if t231 = true then ((seen_Right.f t220).bind fun t232 => (mootbelllaw13_SeenPrune.j0 k t210 t211 (!t232) bt216.1 bt216.2.1 bt216.2.2)) else (mootbelllaw13_SeenPrune.j0 k t210 t211 true bt216.1 bt216.2.1 bt216.2.2)))))) else (if (t223 != false) = true then (mootbelllaw13_SeenPrune.j0 k t210 t211 true bt216.1 bt216.2.1 bt216.2.2) else ((seen_Prune.f t220 t215).bind fun t233 => ((seen_Prune.f t211 (mx t214 t215)).bind fun t236 => ((mootbellref13_Same.f k t233 t236).bind fun t239 => (if t239 = true then ((seen_Right.f t220).bind fun t240 => (mootbelllaw13_SeenPrune.j0 k t210 t211 (!t240) bt216.1 bt216.2.1 bt216.2.2)) else (mootbelllaw13_SeenPrune.j0 k t210 t211 true bt216.1 bt216.2.1 bt216.2.2))))))))))))))
theorem mootbelllaw13_SeenPrune.mono_l : ∀ k, (∀ y0 y1 y2 y3 y4 y5, LeO (mootbelllaw13_SeenPrune.j0 k y0 y1 y2 y3 y4 y5) (mootbelllaw13_SeenPrune.j0 (k + 1) y0 y1 y2 y3 y4 y5)) ∧ (∀ y0 y1 y2 y3 y4 y5 y6 y7, LeO (mootbelllaw13_SeenPrune.l0 k y0 y1 y2 y3 y4 y5 y6 y7) (mootbelllaw13_SeenPrune.l0 (k + 1) y0 y1 y2 y3 y4 y5 y6 y7))
 | 0 => ⟨fun _ _ _ _ _ _ r h => by simp [mootbelllaw13_SeenPrune.j0] at h, fun _ _ _ _ _ _ _ _ r h => by simp [mootbelllaw13_SeenPrune.l0] at h⟩
 | k + 1 => by
  obtain ⟨ih0, ih1⟩ := mootbelllaw13_SeenPrune.mono_l k
  refine ⟨?_, ?_⟩
  ·
   intro y0 y1 y2 y3 y4 y5
   unfold mootbelllaw13_SeenPrune.j0
   repeat' first
   | (with_reducible exact ih0 _ _ _ _ _ _)
   | (with_reducible exact ih1 _ _ _ _ _ _ _ _)
   | (with_reducible exact mootbelllaw13_Marks.mono _ _)
   | (with_reducible exact mootbelllaw13_awake.mono _)
   | (with_reducible exact mootbellref13_Same.mono _ _ _)
   | (with_reducible exact LeO.refl _)
   | (with_reducible exact LeO.none _)
   | (with_reducible refine LeO.ite ?_ ?_)
   | (with_reducible refine LeO.bind ?_ (fun _ => ?_))
   | exact ih0 _ _ _ _ _ _
   | exact ih1 _ _ _ _ _ _ _ _
   | exact mootbelllaw13_Marks.mono _ _
   | exact mootbelllaw13_awake.mono _
   | exact mootbellref13_Same.mono _ _ _
   | exact LeO.none _
   | refine LeO.ite ?_ ?_
   | refine LeO.bind ?_ (fun _ => ?_)
  ·
   intro y0 y1 y2 y3 y4 y5 y6 y7
   unfold mootbelllaw13_SeenPrune.l0
   repeat' first
   | (with_reducible exact ih0 _ _ _ _ _ _)
   | (with_reducible exact ih1 _ _ _ _ _ _ _ _)
   | (with_reducible exact mootbelllaw13_Marks.mono _ _)
   | (with_reducible exact mootbelllaw13_awake.mono _)
   | (with_reducible exact mootbellref13_Same.mono _ _ _)
   | (with_reducible exact LeO.refl _)
   | (with_reducible exact LeO.none _)
   | (with_reducible refine LeO.ite ?_ ?_)
   | (with_reducible refine LeO.bind ?_ (fun _ => ?_))
   | exact ih0 _ _ _ _ _ _
   | exact ih1 _ _ _ _ _ _ _ _
   | exact mootbelllaw13_Marks.mono _ _
   | exact mootbelllaw13_awake.mono _
   | exact mootbellref13_Same.mono _ _ _
   | exact LeO.none _
   | refine LeO.ite ?_ ?_
   | refine LeO.bind ?_ (fun _ => ?_)
theorem mootbelllaw13_SeenPrune.mono : ∀ a0 a1 a2 a3 a4 a5 k, LeO (mootbelllaw13_SeenPrune.f k a0 a1 a2 a3 a4 a5) (mootbelllaw13_SeenPrune.f (k + 1) a0 a1 a2 a3 a4 a5) := by
 intro a0 a1 a2 a3 a4 a5 k
 obtain ⟨ih0, ih1⟩ := mootbelllaw13_SeenPrune.mono_l k
 unfold mootbelllaw13_SeenPrune.f
 repeat' first
   | (with_reducible exact ih0 _ _ _ _ _ _)
   | (with_reducible exact ih1 _ _ _ _ _ _ _ _)
   | (with_reducible exact mootbelllaw13_Marks.mono _ _)
   | (with_reducible exact mootbelllaw13_awake.mono _)
   | (with_reducible exact mootbellref13_Same.mono _ _ _)
   | (with_reducible exact LeO.refl _)
   | (with_reducible exact LeO.none _)
   | (with_reducible refine LeO.ite ?_ ?_)
   | (with_reducible refine LeO.bind ?_ (fun _ => ?_))
   | exact ih0 _ _ _ _ _ _
   | exact ih1 _ _ _ _ _ _ _ _
   | exact mootbelllaw13_Marks.mono _ _
   | exact mootbelllaw13_awake.mono _
   | exact mootbellref13_Same.mono _ _ _
   | exact LeO.none _
   | refine LeO.ite ?_ ?_
   | refine LeO.bind ?_ (fun _ => ?_)
def mootbelllaw13_SeenPrune.T7 : Bool × List (List Nat × List Nat) := (true, [([], []), ([], []), ([0, 1], [0, 1]), ([], []), ([], []), ([3, 4, 2], [3, 4]), ([5, 5], [5]), ([6], [6]), ([7, 6], [6, 7]), ([6], [6]), ([8, 9, 6], [6, 8, 9]), ([6, 10], [6, 10]), ([2, 11], [2, 11]), ([12, 6], [12]), ([13], [13]), ([13], [13]), ([14, 15, 13, 13], [13, 14, 15]), ([13], [13]), ([13], [13]), ([13], [13]), ([18, 19, 13], [13, 18, 19]), ([17, 20, 16, 13], [13, 17, 20]), ([16, 21, 21, 13], [13, 16, 21]), ([22, 13], [13, 22]), ([13, 23], [13, 23]), ([24, 22], [24]), ([25], [25]), ([26, 25, 25], [25, 26]), ([27, 25], [25, 27]), ([25, 28], [25, 28])])
def mootbelllaw13_SeenPrune.B7 : List Nat := [0, 0, 3, 0, 0, 31, 63, 127, 255, 127, 1023, 2047, 4095, 8191, 16383, 16383, 65535, 16383, 16383, 16383, 802815, 2097151, 4194303, 8388607, 16777215, 33554431, 67108863, 134217727, 268435455, 536870911]
theorem mootbelllaw13_SeenPrune.tab7 : rtab .any (opsOf Try.f6 7) = mootbelllaw13_SeenPrune.T7 := by kernel_rfl
theorem mootbelllaw13_SeenPrune.bits7 : waitsOk mootbelllaw13_SeenPrune.T7.2 mootbelllaw13_SeenPrune.B7 = true := by kernel_rfl
def mootbelllaw13_SeenPrune.T14 : Bool × List (List Nat × List Nat) := (true, [([], []), ([0], [0]), ([1], [1]), ([2], [2]), ([2], [2]), ([4, 2], [2, 4]), ([3, 5, 2], [2, 3, 5]), ([6, 2], [2, 6]), ([2], [2]), ([2], [2]), ([8, 9, 2], [2, 8, 9]), ([10, 2], [2, 10]), ([7, 11, 2], [2, 7, 11]), ([2, 12], [2, 12]), ([13, 2], [13]), ([14], [14]), ([14], [14]), ([16, 14], [14, 16]), ([14], [14]), ([18, 14], [14, 18]), ([14], [14]), ([14], [14]), ([20, 21, 14], [14, 20, 21]), ([22, 14], [14, 22]), ([17, 19, 23, 14], [14, 17, 19, 23]), ([15, 24, 14, 14], [14, 15, 24]), ([25, 14], [14, 25]), ([14, 26], [14, 26])])
def mootbelllaw13_SeenPrune.B14 : List Nat := [0, 1, 3, 7, 7, 23, 63, 127, 7, 7, 775, 1799, 4095, 8191, 16383, 32767, 32767, 98303, 32767, 294911, 32767, 32767, 3178495, 7372799, 16744447, 33554431, 67108863, 134217727]
theorem mootbelllaw13_SeenPrune.tab14 : rtab .any (opsOf Try.f6 14) = mootbelllaw13_SeenPrune.T14 := by kernel_rfl
theorem mootbelllaw13_SeenPrune.bits14 : waitsOk mootbelllaw13_SeenPrune.T14.2 mootbelllaw13_SeenPrune.B14 = true := by kernel_rfl
def mootbelllaw13_SeenPrune.T16 : Bool × List (List Nat × List Nat) := (true, [([], []), ([0], [0]), ([1], [1]), ([1], [1]), ([2, 3, 1], [1, 2, 3]), ([4, 1], [1, 4]), ([1], [1]), ([6, 1], [1, 6]), ([5, 7, 1], [1, 5, 7]), ([1, 8], [1, 8]), ([9, 1, 0, 1, 2, 3, 4, 5, 6, 7, 8, 9], [0, 9])])
def mootbelllaw13_SeenPrune.B16 : List Nat := [0, 1, 3, 3, 15, 31, 3, 67, 255, 511, 1023]
theorem mootbelllaw13_SeenPrune.tab16 : rtab .any (opsOf Try.f6 16) = mootbelllaw13_SeenPrune.T16 := by kernel_rfl
theorem mootbelllaw13_SeenPrune.bits16 : waitsOk mootbelllaw13_SeenPrune.T16.2 mootbelllaw13_SeenPrune.B16 = true := by kernel_rfl
set_option maxHeartbeats 8000000 in
set_option maxRecDepth 100000 in
theorem mootbelllaw13_SeenPrune.calls (k : Nat) (A0 : Option Addr) (c0 : Nat) (l0 : List (S26)) (a1 : Int) (a2 : Int) (a3_0 : Int) (a3_1 : Int) (a3_2 : Int) (r : Bool) (w : World) (hr0 : Kd.C k26 w A0 l0.length l0) (hc0 : l0.length ≤ c0) (h : mootbelllaw13_SeenPrune.f k l0 a1 a2 a3_0 a3_1 a3_2 = some r) (hr : r = true) :
  Calls Try.prog 6 #[.slice A0 l0.length c0, .int .i64 a1, .int .i64 a2, .agg #[.int .i64 a3_0, .int .i64 a3_1, .int .i64 a3_2]] w fun e w' => e = .returned (.bool r) ∧ Below w.heap.size w w' := by
 have HRT := Aside0.mk hr
 clear hr
 have hu26 := Try.underlying26
 have hu25 := Try.underlying25
 have HR0 := Aside0.mk hr0
 have HC0 := Aside0.mk hc0
 clear hr0 hc0
 have HB := Aside0.mk (Below.refl w.heap.size w)
 have H : ((mootbelllaw13_awake.f k).bind fun t210 => ((mootbelllaw13_Marks.f k l0).bind fun t211 => ((mootbelllaw13_pick.f a1 7).bind fun t214 => ((mootbelllaw13_pick.f a2 7).bind fun t215 => ((mootbelllaw13_Mark.f a3_0 a3_1 a3_2).bind fun bt216 => ((seen_Prune.f t211 t214).bind fun t220 => ((seen_Has.f t220 bt216.1 bt216.2.1 bt216.2.2).bind fun t223 => ((seen_Has.f t211 bt216.1 bt216.2.1 bt216.2.2).bind fun t224 => (if t224 = true then (if (t223 != (decide (bt216.1 ≥ t214))) = true then (mootbelllaw13_SeenPrune.j0 k t210 t211 true bt216.1 bt216.2.1 bt216.2.2) else ((seen_Prune.f t220 t215).bind fun t225 => ((seen_Prune.f t211 (mx t214 t215)).bind fun t228 => ((mootbellref13_Same.f k t225 t228).bind fun t231 => (if t231 = true then ((seen_Right.f t220).bind fun t232 => (mootbelllaw13_SeenPrune.j0 k t210 t211 (!t232) bt216.1 bt216.2.1 bt216.2.2)) else (mootbelllaw13_SeenPrune.j0 k t210 t211 true bt216.1 bt216.2.1 bt216.2.2)))))) else (if (t223 != false) = true then (mootbelllaw13_SeenPrune.j0 k t210 t211 true bt216.1 bt216.2.1 bt216.2.2) else ((seen_Prune.f t220 t215).bind fun t233 => ((seen_Prune.f t211 (mx t214 t215)).bind fun t236 => ((mootbellref13_Same.f k t233 t236).bind fun t239 => (if t239 = true then ((seen_Right.f t220).bind fun t240 => (mootbelllaw13_SeenPrune.j0 k t210 t211 (!t240) bt216.1 bt216.2.1 bt216.2.2)) else (mootbelllaw13_SeenPrune.j0 k t210 t211 true bt216.1 bt216.2.1 bt216.2.2))))))))))))))) = some r := h
 clear h
 replace H := Option.bind_eq_some_iff.mp H
 obtain ⟨t210, A50, H⟩ := H
 replace H : ((mootbelllaw13_Marks.f k l0).bind fun t211 => ((mootbelllaw13_pick.f a1 7).bind fun t214 => ((mootbelllaw13_pick.f a2 7).bind fun t215 => ((mootbelllaw13_Mark.f a3_0 a3_1 a3_2).bind fun bt216 => ((seen_Prune.f t211 t214).bind fun t220 => ((seen_Has.f t220 bt216.1 bt216.2.1 bt216.2.2).bind fun t223 => ((seen_Has.f t211 bt216.1 bt216.2.1 bt216.2.2).bind fun t224 => (if t224 = true then (if (t223 != (decide (bt216.1 ≥ t214))) = true then (mootbelllaw13_SeenPrune.j0 k t210 t211 true bt216.1 bt216.2.1 bt216.2.2) else ((seen_Prune.f t220 t215).bind fun t225 => ((seen_Prune.f t211 (mx t214 t215)).bind fun t228 => ((mootbellref13_Same.f k t225 t228).bind fun t231 => (if t231 = true then ((seen_Right.f t220).bind fun t232 => (mootbelllaw13_SeenPrune.j0 k t210 t211 (!t232) bt216.1 bt216.2.1 bt216.2.2)) else (mootbelllaw13_SeenPrune.j0 k t210 t211 true bt216.1 bt216.2.1 bt216.2.2)))))) else (if (t223 != false) = true then (mootbelllaw13_SeenPrune.j0 k t210 t211 true bt216.1 bt216.2.1 bt216.2.2) else ((seen_Prune.f t220 t215).bind fun t233 => ((seen_Prune.f t211 (mx t214 t215)).bind fun t236 => ((mootbellref13_Same.f k t233 t236).bind fun t239 => (if t239 = true then ((seen_Right.f t220).bind fun t240 => (mootbelllaw13_SeenPrune.j0 k t210 t211 (!t240) bt216.1 bt216.2.1 bt216.2.2)) else (mootbelllaw13_SeenPrune.j0 k t210 t211 true bt216.1 bt216.2.1 bt216.2.2)))))))))))))) = some r := H
 have A5 := Aside0.mk A50
 clear A50
 replace H := Option.bind_eq_some_iff.mp H
 obtain ⟨t211, A60, H⟩ := H
 replace H : ((mootbelllaw13_pick.f a1 7).bind fun t214 => ((mootbelllaw13_pick.f a2 7).bind fun t215 => ((mootbelllaw13_Mark.f a3_0 a3_1 a3_2).bind fun bt216 => ((seen_Prune.f t211 t214).bind fun t220 => ((seen_Has.f t220 bt216.1 bt216.2.1 bt216.2.2).bind fun t223 => ((seen_Has.f t211 bt216.1 bt216.2.1 bt216.2.2).bind fun t224 => (if t224 = true then (if (t223 != (decide (bt216.1 ≥ t214))) = true then (mootbelllaw13_SeenPrune.j0 k t210 t211 true bt216.1 bt216.2.1 bt216.2.2) else ((seen_Prune.f t220 t215).bind fun t225 => ((seen_Prune.f t211 (mx t214 t215)).bind fun t228 => ((mootbellref13_Same.f k t225 t228).bind fun t231 => (if t231 = true then ((seen_Right.f t220).bind fun t232 => (mootbelllaw13_SeenPrune.j0 k t210 t211 (!t232) bt216.1 bt216.2.1 bt216.2.2)) else (mootbelllaw13_SeenPrune.j0 k t210 t211 true bt216.1 bt216.2.1 bt216.2.2)))))) else (if (t223 != false) = true then (mootbelllaw13_SeenPrune.j0 k t210 t211 true bt216.1 bt216.2.1 bt216.2.2) else ((seen_Prune.f t220 t215).bind fun t233 => ((seen_Prune.f t211 (mx t214 t215)).bind fun t236 => ((mootbellref13_Same.f k t233 t236).bind fun t239 => (if t239 = true then ((seen_Right.f t220).bind fun t240 => (mootbelllaw13_SeenPrune.j0 k t210 t211 (!t240) bt216.1 bt216.2.1 bt216.2.2)) else (mootbelllaw13_SeenPrune.j0 k t210 t211 true bt216.1 bt216.2.1 bt216.2.2))))))))))))) = some r := H
 have A6 := Aside0.mk A60
 clear A60
 replace H := Option.bind_eq_some_iff.mp H
 obtain ⟨t214, A70, H⟩ := H
 replace H : ((mootbelllaw13_pick.f a2 7).bind fun t215 => ((mootbelllaw13_Mark.f a3_0 a3_1 a3_2).bind fun bt216 => ((seen_Prune.f t211 t214).bind fun t220 => ((seen_Has.f t220 bt216.1 bt216.2.1 bt216.2.2).bind fun t223 => ((seen_Has.f t211 bt216.1 bt216.2.1 bt216.2.2).bind fun t224 => (if t224 = true then (if (t223 != (decide (bt216.1 ≥ t214))) = true then (mootbelllaw13_SeenPrune.j0 k t210 t211 true bt216.1 bt216.2.1 bt216.2.2) else ((seen_Prune.f t220 t215).bind fun t225 => ((seen_Prune.f t211 (mx t214 t215)).bind fun t228 => ((mootbellref13_Same.f k t225 t228).bind fun t231 => (if t231 = true then ((seen_Right.f t220).bind fun t232 => (mootbelllaw13_SeenPrune.j0 k t210 t211 (!t232) bt216.1 bt216.2.1 bt216.2.2)) else (mootbelllaw13_SeenPrune.j0 k t210 t211 true bt216.1 bt216.2.1 bt216.2.2)))))) else (if (t223 != false) = true then (mootbelllaw13_SeenPrune.j0 k t210 t211 true bt216.1 bt216.2.1 bt216.2.2) else ((seen_Prune.f t220 t215).bind fun t233 => ((seen_Prune.f t211 (mx t214 t215)).bind fun t236 => ((mootbellref13_Same.f k t233 t236).bind fun t239 => (if t239 = true then ((seen_Right.f t220).bind fun t240 => (mootbelllaw13_SeenPrune.j0 k t210 t211 (!t240) bt216.1 bt216.2.1 bt216.2.2)) else (mootbelllaw13_SeenPrune.j0 k t210 t211 true bt216.1 bt216.2.1 bt216.2.2)))))))))))) = some r := H
 have A7 := Aside0.mk A70
 clear A70
 replace H := Option.bind_eq_some_iff.mp H
 obtain ⟨t215, A80, H⟩ := H
 replace H : ((mootbelllaw13_Mark.f a3_0 a3_1 a3_2).bind fun bt216 => ((seen_Prune.f t211 t214).bind fun t220 => ((seen_Has.f t220 bt216.1 bt216.2.1 bt216.2.2).bind fun t223 => ((seen_Has.f t211 bt216.1 bt216.2.1 bt216.2.2).bind fun t224 => (if t224 = true then (if (t223 != (decide (bt216.1 ≥ t214))) = true then (mootbelllaw13_SeenPrune.j0 k t210 t211 true bt216.1 bt216.2.1 bt216.2.2) else ((seen_Prune.f t220 t215).bind fun t225 => ((seen_Prune.f t211 (mx t214 t215)).bind fun t228 => ((mootbellref13_Same.f k t225 t228).bind fun t231 => (if t231 = true then ((seen_Right.f t220).bind fun t232 => (mootbelllaw13_SeenPrune.j0 k t210 t211 (!t232) bt216.1 bt216.2.1 bt216.2.2)) else (mootbelllaw13_SeenPrune.j0 k t210 t211 true bt216.1 bt216.2.1 bt216.2.2)))))) else (if (t223 != false) = true then (mootbelllaw13_SeenPrune.j0 k t210 t211 true bt216.1 bt216.2.1 bt216.2.2) else ((seen_Prune.f t220 t215).bind fun t233 => ((seen_Prune.f t211 (mx t214 t215)).bind fun t236 => ((mootbellref13_Same.f k t233 t236).bind fun t239 => (if t239 = true then ((seen_Right.f t220).bind fun t240 => (mootbelllaw13_SeenPrune.j0 k t210 t211 (!t240) bt216.1 bt216.2.1 bt216.2.2)) else (mootbelllaw13_SeenPrune.j0 k t210 t211 true bt216.1 bt216.2.1 bt216.2.2))))))))))) = some r := H
 have A8 := Aside0.mk A80
 clear A80
 replace H := Option.bind_eq_some_iff.mp H
 obtain ⟨⟨t216, t217, t218⟩, A90, H⟩ := H
 replace H : ((seen_Prune.f t211 t214).bind fun t220 => ((seen_Has.f t220 t216 t217 t218).bind fun t223 => ((seen_Has.f t211 t216 t217 t218).bind fun t224 => (if t224 = true then (if (t223 != (decide (t216 ≥ t214))) = true then (mootbelllaw13_SeenPrune.j0 k t210 t211 true t216 t217 t218) else ((seen_Prune.f t220 t215).bind fun t225 => ((seen_Prune.f t211 (mx t214 t215)).bind fun t228 => ((mootbellref13_Same.f k t225 t228).bind fun t231 => (if t231 = true then ((seen_Right.f t220).bind fun t232 => (mootbelllaw13_SeenPrune.j0 k t210 t211 (!t232) t216 t217 t218)) else (mootbelllaw13_SeenPrune.j0 k t210 t211 true t216 t217 t218)))))) else (if (t223 != false) = true then (mootbelllaw13_SeenPrune.j0 k t210 t211 true t216 t217 t218) else ((seen_Prune.f t220 t215).bind fun t233 => ((seen_Prune.f t211 (mx t214 t215)).bind fun t236 => ((mootbellref13_Same.f k t233 t236).bind fun t239 => (if t239 = true then ((seen_Right.f t220).bind fun t240 => (mootbelllaw13_SeenPrune.j0 k t210 t211 (!t240) t216 t217 t218)) else (mootbelllaw13_SeenPrune.j0 k t210 t211 true t216 t217 t218)))))))))) = some r := H
 have A9 := Aside0.mk A90
 clear A90
 replace H := Option.bind_eq_some_iff.mp H
 obtain ⟨t220, A100, H⟩ := H
 replace H : ((seen_Has.f t220 t216 t217 t218).bind fun t223 => ((seen_Has.f t211 t216 t217 t218).bind fun t224 => (if t224 = true then (if (t223 != (decide (t216 ≥ t214))) = true then (mootbelllaw13_SeenPrune.j0 k t210 t211 true t216 t217 t218) else ((seen_Prune.f t220 t215).bind fun t225 => ((seen_Prune.f t211 (mx t214 t215)).bind fun t228 => ((mootbellref13_Same.f k t225 t228).bind fun t231 => (if t231 = true then ((seen_Right.f t220).bind fun t232 => (mootbelllaw13_SeenPrune.j0 k t210 t211 (!t232) t216 t217 t218)) else (mootbelllaw13_SeenPrune.j0 k t210 t211 true t216 t217 t218)))))) else (if (t223 != false) = true then (mootbelllaw13_SeenPrune.j0 k t210 t211 true t216 t217 t218) else ((seen_Prune.f t220 t215).bind fun t233 => ((seen_Prune.f t211 (mx t214 t215)).bind fun t236 => ((mootbellref13_Same.f k t233 t236).bind fun t239 => (if t239 = true then ((seen_Right.f t220).bind fun t240 => (mootbelllaw13_SeenPrune.j0 k t210 t211 (!t240) t216 t217 t218)) else (mootbelllaw13_SeenPrune.j0 k t210 t211 true t216 t217 t218))))))))) = some r := H
 have A10 := Aside0.mk A100
 clear A100
 have HC11 := Aside0.mk H
 clear H
 go_enter Try.func6, Try.ntmps6
 go_upto_region 7 with (first | ((with_reducible refine gate_dst (N := 7) rfl ?_); (try (refine gate_guard (by rfl) ?_; dsimp only)); refine box_event ?hg (N := 7) ?hd (cs := #[.int .i64 a3_0, .int .i64 a3_1, .int .i64 a3_2]) (t := 26) ?hr ?_; (case hd => rfl); (case hg => rfl); (case hr => first | (go_simp; done) | (go_simp; rfl)); intro gb209 hg w12 hbox hb; have n0_ := Aside0.mk (below_step (by repeat (first | (with_reducible first | exact HB.out | apply below_alloc | apply pw_below_drewN | apply below_drew1) | exact HB.out)) hb); have n1_ := Aside0.mk (hbox); have n2_ := Aside0.mk ((by rw [hg]; exact (below_size (by repeat (first | (with_reducible first | exact HB.out | apply below_alloc | apply pw_below_drewN | apply below_drew1) | exact HB.out))) : w.heap.size ≤ gb209)); have n3_ := Aside0.mk ((by rw [hg]; exact (below_size (by repeat (first | (with_reducible first | exact HB.out | apply below_alloc | apply pw_below_drewN | apply below_drew1) | exact HB.out))) : w.heap.size ≤ gb209)); clear HB; have HB := n0_; have BK209 := n1_; have GW209 := n2_; have GE209 := n3_; clear n0_ n1_ n2_ n3_; clear hb hbox hg) | ((with_reducible refine gate_callee (f := 8) rfl ?_); refine goesL_ (some 18) rfl rfl Try.func8 (by kernel_rfl) rfl #[] rfl (by (try simp only [List.map_toArray, List.map_cons, List.map_nil]); first | done | rfl | (simp only [List.length_drop, List.length_take]; rfl)) ?_; (with_reducible refine (mootbelllaw13_awake.callsA k  t210 _ A5.out).mono ?_); rintro e w13 ⟨rfl, hb⟩; refine ⟨_, rfl, ?_⟩; have n0_ := Aside0.mk (blk_below (g := gb209) (o := .cells #[.int .i64 a3_0, .int .i64 a3_1, .int .i64 a3_2] 26 (0, 0)) (by (with_reducible repeat (first | refine blk_drewN ?_ _ | refine blk_drew ?_ | refine blk_alloc ?_ _)); exact BK209.out) hb); have n1_ := Aside0.mk (below_step (by repeat (first | (with_reducible first | exact HB.out | apply below_alloc | apply pw_below_drewN | apply below_drew1 | refine below_set ?_ GE209.out) | exact HB.out)) hb); clear BK209; clear HB; have BK209 := n0_; have HB := n1_; clear n0_ n1_; (try clear hb); (try clear hb2); (try clear hk); (try clear hi)) | ((with_reducible refine gate_callee (f := 9) rfl ?_); refine goesL_ (some 20) rfl rfl Try.func9 (by kernel_rfl) rfl #[.slice A0 l0.length c0] rfl (by (try simp only [List.map_toArray, List.map_cons, List.map_nil]); first | done | rfl | (simp only [List.length_drop, List.length_take]; rfl)) ?_; (with_reducible refine (mootbelllaw13_Marks.calls k _ _ l0 t211 _ ?side1 ?side2 A6.out).mono ?_); (case side1 => repeat (first | exact (Kd.C_below HR0.out HB.out) | (with_reducible refine Kd.C_alloc ?_ _) | (with_reducible refine Kd.C_drewN ?_ _) | (with_reducible refine Kd.C_drew ?_))); (case side2 => exact HC0.out); rintro e w14 ⟨v212, rfl, ho0, hb⟩; refine ⟨_, rfl, ?_⟩; have n0_ := Aside0.mk (Kd.R_lower ho0 (below_size (by repeat (first | (with_reducible first | exact HB.out | apply below_alloc | apply pw_below_drewN | apply below_drew1 | refine below_set ?_ GE209.out) | exact HB.out)))); have n1_ := Aside0.mk (blk_below (g := gb209) (o := .cells #[.int .i64 a3_0, .int .i64 a3_1, .int .i64 a3_2] 26 (0, 0)) (by (with_reducible repeat (first | refine blk_drewN ?_ _ | refine blk_drew ?_ | refine blk_alloc ?_ _)); exact BK209.out) hb); have n2_ := Aside0.mk (below_step (by repeat (first | (with_reducible first | exact HB.out | apply below_alloc | apply pw_below_drewN | apply below_drew1 | refine below_set ?_ GE209.out) | exact HB.out)) hb); clear BK209; clear HB; have HO213 := n0_; have BK209 := n1_; have HB := n2_; clear n0_ n1_ n2_; (try clear hb); (try clear hb2); (try clear hk); (try clear hi); (try clear ho0)) | ((with_reducible refine gate_callee (f := 11) rfl ?_); refine goesL_ (some 22) rfl rfl Try.func11 (by kernel_rfl) rfl #[.int .i64 a1, .int .i64 7] rfl (by (try simp only [List.map_toArray, List.map_cons, List.map_nil]); first | done | rfl | (simp only [List.length_drop, List.length_take]; rfl)) ?_; (with_reducible refine (mootbelllaw13_pick.calls a1 7 t214 _ A7.out).mono ?_); rintro e w' ⟨rfl, ⟨nd, rfl⟩⟩; refine ⟨_, rfl, ?_⟩; (try (rw [drewN_self w14]; generalize hq_ : World.drewN w14 _ = w14; have n0_ : Aside0 (Kd.R k25 25 w14 w.heap.size (fun _ => True) v212 t211) := ⟨by rw [← hq_]; exact (by (with_reducible repeat (first | apply Kd.R_alloc | apply Kd.R_drewN | apply Kd.R_drew)); exact HO213.out)⟩; have n1_ : Aside0 (w14.heap[gb209]? = some (.cells #[.int .i64 a3_0, .int .i64 a3_1, .int .i64 a3_2] 26 (0, 0))) := ⟨by rw [← hq_]; exact (by (with_reducible repeat (first | refine blk_drewN ?_ _ | refine blk_drew ?_ | refine blk_alloc ?_ _)); exact BK209.out)⟩; have n2_ : Aside0 (Below w.heap.size w w14) := ⟨by rw [← hq_]; exact (by repeat (first | (with_reducible first | exact HB.out | apply below_alloc | apply pw_below_drewN | apply below_drew1 | refine below_set ?_ GE209.out) | exact HB.out))⟩; clear HO213 BK209 HB hq_; have HO213 := n0_; have BK209 := n1_; have HB := n2_; clear n0_ n1_ n2_))) | ((with_reducible refine gate_callee (f := 11) rfl ?_); refine goesL_ (some 24) rfl rfl Try.func11 (by kernel_rfl) rfl #[.int .i64 a2, .int .i64 7] rfl (by (try simp only [List.map_toArray, List.map_cons, List.map_nil]); first | done | rfl | (simp only [List.length_drop, List.length_take]; rfl)) ?_; (with_reducible refine (mootbelllaw13_pick.calls a2 7 t215 _ A8.out).mono ?_); rintro e w' ⟨rfl, ⟨nd, rfl⟩⟩; refine ⟨_, rfl, ?_⟩; (try (rw [drewN_self w14]; generalize hq_ : World.drewN w14 _ = w14; have n0_ : Aside0 (Kd.R k25 25 w14 w.heap.size (fun _ => True) v212 t211) := ⟨by rw [← hq_]; exact (by (with_reducible repeat (first | apply Kd.R_alloc | apply Kd.R_drewN | apply Kd.R_drew)); exact HO213.out)⟩; have n1_ : Aside0 (w14.heap[gb209]? = some (.cells #[.int .i64 a3_0, .int .i64 a3_1, .int .i64 a3_2] 26 (0, 0))) := ⟨by rw [← hq_]; exact (by (with_reducible repeat (first | refine blk_drewN ?_ _ | refine blk_drew ?_ | refine blk_alloc ?_ _)); exact BK209.out)⟩; have n2_ : Aside0 (Below w.heap.size w w14) := ⟨by rw [← hq_]; exact (by repeat (first | (with_reducible first | exact HB.out | apply below_alloc | apply pw_below_drewN | apply below_drew1 | refine below_set ?_ GE209.out) | exact HB.out))⟩; clear HO213 BK209 HB hq_; have HO213 := n0_; have BK209 := n1_; have HB := n2_; clear n0_ n1_ n2_)); have hcz15_0 : w14.cell? ⟨gb209, 0, none⟩ = some (.int .i64 a3_0) := (blk_cell BK209.out 0).trans rfl; have hcz15_1 : w14.cell? ⟨gb209, 1, none⟩ = some (.int .i64 a3_1) := (blk_cell BK209.out 1).trans rfl; have hcz15_2 : w14.cell? ⟨gb209, 2, none⟩ = some (.int .i64 a3_2) := (blk_cell BK209.out 2).trans rfl; have hfz15_0 := blk_frozen BK209.out 0; have hfz15_1 := blk_frozen BK209.out 1; have hfz15_2 := blk_frozen BK209.out 2) | ((with_reducible refine gate_callee (f := 10) rfl ?_); refine goesL_ (some 26) rfl rfl Try.func10 (by kernel_rfl) rfl #[.agg #[.int .i64 a3_0, .int .i64 a3_1, .int .i64 a3_2]] rfl (by (try simp only [List.map_toArray, List.map_cons, List.map_nil]); first | done | rfl | (simp only [List.length_drop, List.length_take]; rfl)) ?_; (with_reducible refine (mootbelllaw13_Mark.calls a3_0 a3_1 a3_2 t216 t217 t218 _ A9.out).mono ?_); rintro e w16 ⟨rfl, hb⟩; refine ⟨_, rfl, ?_⟩; have n0_ := Aside0.mk (Kd.R_below (by (with_reducible repeat (first | apply Kd.R_alloc | apply Kd.R_drewN | apply Kd.R_drew)); exact HO213.out) hb); have n1_ := Aside0.mk (blk_below (g := gb209) (o := .cells #[.int .i64 a3_0, .int .i64 a3_1, .int .i64 a3_2] 26 (0, 0)) (by (with_reducible repeat (first | refine blk_drewN ?_ _ | refine blk_drew ?_ | refine blk_alloc ?_ _)); exact BK209.out) hb); have n2_ := Aside0.mk (below_step (by repeat (first | (with_reducible first | exact HB.out | apply below_alloc | apply pw_below_drewN | apply below_drew1 | refine below_set ?_ GE209.out) | exact HB.out)) hb); clear HO213; clear BK209; clear HB; have HO213 := n0_; have BK209 := n1_; have HB := n2_; clear n0_ n1_ n2_; (try clear hb); (try clear hb2); (try clear hk); (try clear hi)) | ((with_reducible refine gate_dst (N := 13) rfl ?_); (try (refine gate_guard (by rfl) ?_; dsimp only)); refine box_event ?hg (N := 13) ?hd (cs := #[.int .i64 0, .int .i64 0, .int .i64 0]) (t := 25) ?hr ?_; (case hd => rfl); (case hg => rfl); (case hr => first | (go_simp; done) | (go_simp; rfl)); intro gb219 hg w17 hbox hb; have n0_ := Aside0.mk (Kd.R_below (Kd.R_elderB (by (with_reducible repeat (first | apply Kd.R_alloc | apply Kd.R_drewN | apply Kd.R_drew)); exact HO213.out) gb219 (Nat.le_of_eq hg.symm)) hb); have n1_ := Aside0.mk (blk_below (g := gb209) (o := .cells #[.int .i64 a3_0, .int .i64 a3_1, .int .i64 a3_2] 26 (0, 0)) (by (with_reducible repeat (first | refine blk_drewN ?_ _ | refine blk_drew ?_ | refine blk_alloc ?_ _)); exact BK209.out) hb); have n2_ := Aside0.mk (below_step (by repeat (first | (with_reducible first | exact HB.out | apply below_alloc | apply pw_below_drewN | apply below_drew1 | refine below_set ?_ GE209.out) | exact HB.out)) hb); have n3_ := Aside0.mk (hbox); have n4_ := Aside0.mk ((by rw [hg]; exact (below_size (by repeat (first | (with_reducible first | exact HB.out | apply below_alloc | apply pw_below_drewN | apply below_drew1 | refine below_set ?_ GE209.out) | exact HB.out))) : w.heap.size ≤ gb219)); have n5_ := Aside0.mk ((by rw [hg]; exact (below_size (by repeat (first | (with_reducible first | exact HB.out | apply below_alloc | apply pw_below_drewN | apply below_drew1 | refine below_set ?_ GE209.out) | exact HB.out))) : w.heap.size ≤ gb219)); have n6_ := Aside0.mk ((by rw [hg]; exact Nat.ne_of_lt (blk_lt (g := gb209) (o := .cells #[.int .i64 a3_0, .int .i64 a3_1, .int .i64 a3_2] 26 (0, 0)) (by (with_reducible repeat (first | refine blk_drewN ?_ _ | refine blk_drew ?_ | refine blk_alloc ?_ _)); exact BK209.out)) : gb209 ≠ gb219)); have n7_ := Aside0.mk ((by rw [hg]; exact Nat.ne_of_gt (blk_lt (g := gb209) (o := .cells #[.int .i64 a3_0, .int .i64 a3_1, .int .i64 a3_2] 26 (0, 0)) (by (with_reducible repeat (first | refine blk_drewN ?_ _ | refine blk_drew ?_ | refine blk_alloc ?_ _)); exact BK209.out)) : gb219 ≠ gb209)); clear HO213; clear BK209; clear HB; have HO213 := n0_; have BK209 := n1_; have HB := n2_; have BK219 := n3_; have GW219 := n4_; have GE219 := n5_; have NB209_219 := n6_; have NB219_209 := n7_; clear n0_ n1_ n2_ n3_ n4_ n5_ n6_ n7_; clear hb hbox hg; have hnb18 := NB219_209.out; have hnc18 := NB209_219.out; have hcz19_0 : w17.cell? ⟨gb219, 0, none⟩ = some (.int .i64 0) := (blk_cell BK219.out 0).trans rfl; have hcz19_1 : w17.cell? ⟨gb219, 1, none⟩ = some (.int .i64 0) := (blk_cell BK219.out 1).trans rfl; have hcz19_2 : w17.cell? ⟨gb219, 2, none⟩ = some (.int .i64 0) := (blk_cell BK219.out 2).trans rfl; have hfz19_0 := blk_frozen BK219.out 0; have hfz19_1 := blk_frozen BK219.out 1; have hfz19_2 := blk_frozen BK219.out 2; obtain ⟨Ao20, co20, eo20⟩ := Kd.R_slice HO213.out; subst eo20) | ((with_reducible refine gate_callee (f := 17) rfl ?_); refine goesL_ (some 29) rfl rfl Try.func17 (by kernel_rfl) rfl #[.slice Ao20 t211.length co20, .int .i64 t214] rfl (by (try simp only [List.map_toArray, List.map_cons, List.map_nil]); first | done | rfl | (simp only [List.length_drop, List.length_take]; rfl)) ?_; (with_reducible refine (seen_Prune.calls _ _ t211 t214 t220 _ ?side1 ?side2 A10.out).mono ?_); (case side1 => refine (Kd.R_reads' (e := 25) (base := w.heap.size) (ok := fun k_ => (True ∧ k_ ≠ gb219)) (n := t211.length) (c := co20) ?_).2.2; exact (by (with_reducible repeat (first | apply Kd.R_alloc | apply Kd.R_drewN | apply Kd.R_drew)); exact (Kd.R_mono (Kd.R_far (p := ⟨gb219, 2, none⟩) (Kd.R_far (p := ⟨gb219, 1, none⟩) (Kd.R_far (p := ⟨gb219, 0, none⟩) (Kd.R_mono HO213.out (fun k_ hk => (⟨hk, hk.2⟩ : _ ∧ k_ ≠ gb219))) (fun _ hk => hk.2) (.int .i64 t216)) (fun _ hk => hk.2) (.int .i64 t217)) (fun _ hk => hk.2) (.int .i64 t218)) (fun _ h_ => h_.1)))); (case side2 => exact (Kd.R_reads' HO213.out).2.1); rintro e w21 ⟨v221, rfl, ho0, hb⟩; refine ⟨_, rfl, ?_⟩; have n0_ := Aside0.mk (Kd.R_elder' (by (with_reducible repeat (first | apply Kd.R_alloc | apply Kd.R_drewN | apply Kd.R_drew)); exact (Kd.R_mono (Kd.R_far (p := ⟨gb219, 2, none⟩) (Kd.R_far (p := ⟨gb219, 1, none⟩) (Kd.R_far (p := ⟨gb219, 0, none⟩) (Kd.R_mono HO213.out (fun k_ hk => (⟨hk, hk.2⟩ : _ ∧ k_ ≠ gb219))) (fun _ hk => hk.2) (.int .i64 t216)) (fun _ hk => hk.2) (.int .i64 t217)) (fun _ hk => hk.2) (.int .i64 t218)) (fun _ h_ => h_.1))) (Kd.R_base ho0) hb); have n1_ := Aside0.mk (Kd.R_lower (Kd.R_newB (Kd.R_new' ho0 (Kd.R_lt (by (with_reducible repeat (first | apply Kd.R_alloc | apply Kd.R_drewN | apply Kd.R_drew)); exact (Kd.R_mono (Kd.R_far (p := ⟨gb219, 2, none⟩) (Kd.R_far (p := ⟨gb219, 1, none⟩) (Kd.R_far (p := ⟨gb219, 0, none⟩) (Kd.R_mono HO213.out (fun k_ hk => (⟨hk, hk.2⟩ : _ ∧ k_ ≠ gb219))) (fun _ hk => hk.2) (.int .i64 t216)) (fun _ hk => hk.2) (.int .i64 t217)) (fun _ hk => hk.2) (.int .i64 t218)) (fun _ h_ => h_.1))))) (g := gb219) (o := .cells #[.int .i64 t216, .int .i64 t217, .int .i64 t218] 25 (0, 0)) (by (with_reducible repeat (first | refine blk_drewN ?_ _ | refine blk_drew ?_ | refine blk_alloc ?_ _)); refine blk_put (cs := #[.int .i64 t216, .int .i64 t217, .int .i64 0]) ?_ 2 _ rfl; (with_reducible repeat (first | refine blk_drewN ?_ _ | refine blk_drew ?_ | refine blk_alloc ?_ _)); refine blk_put (cs := #[.int .i64 t216, .int .i64 0, .int .i64 0]) ?_ 1 _ rfl; (with_reducible repeat (first | refine blk_drewN ?_ _ | refine blk_drew ?_ | refine blk_alloc ?_ _)); refine blk_put (cs := #[.int .i64 0, .int .i64 0, .int .i64 0]) ?_ 0 _ rfl; (with_reducible repeat (first | refine blk_drewN ?_ _ | refine blk_drew ?_ | refine blk_alloc ?_ _)); exact BK219.out)) (below_size (by repeat (first | (with_reducible first | exact HB.out | apply below_alloc | apply pw_below_drewN | apply below_drew1 | refine below_set ?_ GE209.out | refine below_set ?_ GE219.out) | exact HB.out)))); have n2_ := Aside0.mk (blk_below (g := gb209) (o := .cells #[.int .i64 a3_0, .int .i64 a3_1, .int .i64 a3_2] 26 (0, 0)) (by (with_reducible repeat (first | refine blk_drewN ?_ _ | refine blk_drew ?_ | refine blk_alloc ?_ _)); refine blk_far ?_ NB209_219.out _; (with_reducible repeat (first | refine blk_drewN ?_ _ | refine blk_drew ?_ | refine blk_alloc ?_ _)); refine blk_far ?_ NB209_219.out _; (with_reducible repeat (first | refine blk_drewN ?_ _ | refine blk_drew ?_ | refine blk_alloc ?_ _)); refine blk_far ?_ NB209_219.out _; (with_reducible repeat (first | refine blk_drewN ?_ _ | refine blk_drew ?_ | refine blk_alloc ?_ _)); exact BK209.out) hb); have n3_ := Aside0.mk (blk_below (g := gb219) (o := .cells #[.int .i64 t216, .int .i64 t217, .int .i64 t218] 25 (0, 0)) (by (with_reducible repeat (first | refine blk_drewN ?_ _ | refine blk_drew ?_ | refine blk_alloc ?_ _)); refine blk_put (cs := #[.int .i64 t216, .int .i64 t217, .int .i64 0]) ?_ 2 _ rfl; (with_reducible repeat (first | refine blk_drewN ?_ _ | refine blk_drew ?_ | refine blk_alloc ?_ _)); refine blk_put (cs := #[.int .i64 t216, .int .i64 0, .int .i64 0]) ?_ 1 _ rfl; (with_reducible repeat (first | refine blk_drewN ?_ _ | refine blk_drew ?_ | refine blk_alloc ?_ _)); refine blk_put (cs := #[.int .i64 0, .int .i64 0, .int .i64 0]) ?_ 0 _ rfl; (with_reducible repeat (first | refine blk_drewN ?_ _ | refine blk_drew ?_ | refine blk_alloc ?_ _)); exact BK219.out) hb); have n4_ := Aside0.mk (below_step (by repeat (first | (with_reducible first | exact HB.out | apply below_alloc | apply pw_below_drewN | apply below_drew1 | refine below_set ?_ GE209.out | refine below_set ?_ GE219.out) | exact HB.out)) hb); clear HO213; clear BK209; clear BK219; clear HB; have HO213 := n0_; have HO222 := n1_; have BK209 := n2_; have BK219 := n3_; have HB := n4_; clear n0_ n1_ n2_ n3_ n4_; (try clear hb); (try clear hb2); (try clear hk); (try clear hi); (try clear ho0)))
 (try simp only [Act.put, List.setIfInBounds_toArray, List.set_cons_zero, List.set_cons_succ])
 go_cut [59] (fun v59 wc => ∃ (kq : Nat) (x59_10 : Bool), v59 = .bool x59_10 ∧ Aside0 (mootbelllaw13_SeenPrune.j0 kq t210 t211 x59_10 t216 t217 t218 = some r) ∧ Aside0 (kq ≤ k) ∧ Aside0 (Kd.R k25 25 wc w.heap.size (fun k_ => k_ ≠ gb219) (.slice Ao20 t211.length co20) t211) ∧ Aside0 (wc.heap[gb209]? = some (.cells #[.int .i64 a3_0, .int .i64 a3_1, .int .i64 a3_2] 26 (0, 0))) ∧ Aside0 (wc.heap[gb219]? = some (.cells #[.int .i64 t216, .int .i64 t217, .int .i64 t218] 25 (0, 0))) ∧ Aside0 (Below w.heap.size w wc))
 case first =>
  have H := HC11.out
  clear HC11
  replace H := Option.bind_eq_some_iff.mp H
  obtain ⟨t223, A220, H⟩ := H
  replace H : ((seen_Has.f t211 t216 t217 t218).bind fun t224 => (if t224 = true then (if (t223 != (decide (t216 ≥ t214))) = true then (mootbelllaw13_SeenPrune.j0 k t210 t211 true t216 t217 t218) else ((seen_Prune.f t220 t215).bind fun t225 => ((seen_Prune.f t211 (mx t214 t215)).bind fun t228 => ((mootbellref13_Same.f k t225 t228).bind fun t231 => (if t231 = true then ((seen_Right.f t220).bind fun t232 => (mootbelllaw13_SeenPrune.j0 k t210 t211 (!t232) t216 t217 t218)) else (mootbelllaw13_SeenPrune.j0 k t210 t211 true t216 t217 t218)))))) else (if (t223 != false) = true then (mootbelllaw13_SeenPrune.j0 k t210 t211 true t216 t217 t218) else ((seen_Prune.f t220 t215).bind fun t233 => ((seen_Prune.f t211 (mx t214 t215)).bind fun t236 => ((mootbellref13_Same.f k t233 t236).bind fun t239 => (if t239 = true then ((seen_Right.f t220).bind fun t240 => (mootbelllaw13_SeenPrune.j0 k t210 t211 (!t240) t216 t217 t218)) else (mootbelllaw13_SeenPrune.j0 k t210 t211 true t216 t217 t218)))))))) = some r := H
  have A22 := Aside0.mk A220
  clear A220
  replace H := Option.bind_eq_some_iff.mp H
  obtain ⟨t224, A230, H⟩ := H
  replace H : (if t224 = true then (if (t223 != (decide (t216 ≥ t214))) = true then (mootbelllaw13_SeenPrune.j0 k t210 t211 true t216 t217 t218) else ((seen_Prune.f t220 t215).bind fun t225 => ((seen_Prune.f t211 (mx t214 t215)).bind fun t228 => ((mootbellref13_Same.f k t225 t228).bind fun t231 => (if t231 = true then ((seen_Right.f t220).bind fun t232 => (mootbelllaw13_SeenPrune.j0 k t210 t211 (!t232) t216 t217 t218)) else (mootbelllaw13_SeenPrune.j0 k t210 t211 true t216 t217 t218)))))) else (if (t223 != false) = true then (mootbelllaw13_SeenPrune.j0 k t210 t211 true t216 t217 t218) else ((seen_Prune.f t220 t215).bind fun t233 => ((seen_Prune.f t211 (mx t214 t215)).bind fun t236 => ((mootbellref13_Same.f k t233 t236).bind fun t239 => (if t239 = true then ((seen_Right.f t220).bind fun t240 => (mootbelllaw13_SeenPrune.j0 k t210 t211 (!t240) t216 t217 t218)) else (mootbelllaw13_SeenPrune.j0 k t210 t211 true t216 t217 t218))))))) = some r := H
  have A23 := Aside0.mk A230
  clear A230
  by_cases c24 : t224 = true
  ·
   subst c24
   have H1 : (if (t223 != (decide (t216 ≥ t214))) = true then (mootbelllaw13_SeenPrune.j0 k t210 t211 true t216 t217 t218) else ((seen_Prune.f t220 t215).bind fun t225 => ((seen_Prune.f t211 (mx t214 t215)).bind fun t228 => ((mootbellref13_Same.f k t225 t228).bind fun t231 => (if t231 = true then ((seen_Right.f t220).bind fun t232 => (mootbelllaw13_SeenPrune.j0 k t210 t211 (!t232) t216 t217 t218)) else (mootbelllaw13_SeenPrune.j0 k t210 t211 true t216 t217 t218)))))) = some r := by rw [if_pos rfl] at H; exact H
   clear H
   have H := H1
   clear H1
   by_cases c25 : (t223 != (decide (t216 ≥ t214))) = true
   ·
    rw [if_pos c25] at H; (exfalso; rw [HRT.out] at H; cases k <;> simp [mootbelllaw13_SeenPrune.j0] at H)
   ·
    rw [if_neg c25] at H
    have c25b0 : (t223 != (decide (t216 ≥ t214))) = false := by simpa using c25
    (try (have c25b1 : decide (t223 = (decide (t216 ≥ t214))) = true := by simpa using c25))
    (try (have c25b2 : (t223 == (decide (t216 ≥ t214))) = true := by simpa using c25))
    clear c25
    (first | rw [c25b0] | (simp only [i64_w, i32_w]; rw [c25b0]) | skip)
    replace H := Option.bind_eq_some_iff.mp H
    obtain ⟨t225, A300, H⟩ := H
    replace H : ((seen_Prune.f t211 (mx t214 t215)).bind fun t228 => ((mootbellref13_Same.f k t225 t228).bind fun t231 => (if t231 = true then ((seen_Right.f t220).bind fun t232 => (mootbelllaw13_SeenPrune.j0 k t210 t211 (!t232) t216 t217 t218)) else (mootbelllaw13_SeenPrune.j0 k t210 t211 true t216 t217 t218)))) = some r := H
    have A30 := Aside0.mk A300
    clear A300
    obtain ⟨ji31, hji31⟩ : ∃ j_ : Int, (mx t214 t215) = j_ := ⟨_, rfl⟩
    replace H : ((seen_Prune.f t211 (ji31)).bind fun t228 => ((mootbellref13_Same.f k t225 t228).bind fun t231 => (if t231 = true then ((seen_Right.f t220).bind fun t232 => (mootbelllaw13_SeenPrune.j0 k t210 t211 (!t232) t216 t217 t218)) else (mootbelllaw13_SeenPrune.j0 k t210 t211 true t216 t217 t218)))) = some r := by first | (rw [hji31] at H; exact H) | (simp only [hji31] at H ⊢; exact H)
    (try rw [hji31] at A22)
    (try rw [hji31] at A23)
    (try rw [hji31] at A30)
    have hji31_ : (if t214 < t215 then t215 else t214) = ji31 := hji31
    replace H := Option.bind_eq_some_iff.mp H
    obtain ⟨t228, A320, H⟩ := H
    replace H : ((mootbellref13_Same.f k t225 t228).bind fun t231 => (if t231 = true then ((seen_Right.f t220).bind fun t232 => (mootbelllaw13_SeenPrune.j0 k t210 t211 (!t232) t216 t217 t218)) else (mootbelllaw13_SeenPrune.j0 k t210 t211 true t216 t217 t218))) = some r := H
    have A32 := Aside0.mk A320
    clear A320
    replace H := Option.bind_eq_some_iff.mp H
    obtain ⟨t231, A330, H⟩ := H
    replace H : (if t231 = true then ((seen_Right.f t220).bind fun t232 => (mootbelllaw13_SeenPrune.j0 k t210 t211 (!t232) t216 t217 t218)) else (mootbelllaw13_SeenPrune.j0 k t210 t211 true t216 t217 t218)) = some r := H
    have A33 := Aside0.mk A330
    clear A330
    by_cases c34 : t231 = true
    ·
     subst c34
     have H1 : ((seen_Right.f t220).bind fun t232 => (mootbelllaw13_SeenPrune.j0 k t210 t211 (!t232) t216 t217 t218)) = some r := by rw [if_pos rfl] at H; exact H
     clear H
     have H := H1
     clear H1
     replace H := Option.bind_eq_some_iff.mp H
     obtain ⟨t232, A350, H⟩ := H
     replace H : (mootbelllaw13_SeenPrune.j0 k t210 t211 (!t232) t216 t217 t218) = some r := H
     have A35 := Aside0.mk A350
     clear A350
     have H' := Aside0.mk H
     clear H
     try go_wp2
     have n0_ := Aside0.mk (Kd.R_drew HO213.out)
     have n1_ := Aside0.mk (Kd.R_drew HO222.out)
     have n2_ := Aside0.mk (blk_drew BK209.out)
     have n3_ := Aside0.mk (blk_drew BK219.out)
     have n4_ := Aside0.mk (below_drew1 HB.out)
     clear HO213
     clear HO222
     clear BK209
     clear BK219
     clear HB
     have HO213 := n0_
     have HO222 := n1_
     have BK209 := n2_
     have BK219 := n3_
     have HB := n4_
     clear n0_ n1_ n2_ n3_ n4_
     obtain ⟨Ao37, co37, eo37⟩ := Kd.R_slice HO222.out
     (first | subst eo37 | (injection eo37 with f1_ f2_ f3_; have f4_ := f1_.symm; have f5_ := f3_.symm; clear f1_ f2_ f3_; subst f4_; subst f5_))
     refine start_ (n := 30) (S := fun w' => w'.cell? ⟨gb219, 0, none⟩ = some (.int .i64 t216) ∧ w'.cell? ⟨gb219, 1, none⟩ = some (.int .i64 t217) ∧ w'.cell? ⟨gb219, 2, none⟩ = some (.int .i64 t218)) (ds := []) #[φ, φ, φ, φ, φ, φ, φ, φ, φ, φ, φ, φ, φ, φ, φ, φ, φ, φ, φ, φ, φ, φ, φ, φ, φ, φ, φ, φ, φ, φ] (by kernel_rfl) rfl rfl ⟨(blk_cell BK219.out 0).trans rfl, (blk_cell BK219.out 1).trans rfl, (blk_cell BK219.out 2).trans rfl⟩ (fun hHeld => ?_); refine with_tabW mootbelllaw13_SeenPrune.tab7 mootbelllaw13_SeenPrune.bits7 (fun HT_ HW_ => ?_)
     generalize w21.drew = w36 at HO213 HO222 BK209 BK219 HB hHeld ⊢
     refine pure_ (i := 0) (N := some 30) (v := ?_) (a' := ?_) #[τ, φ, φ, φ, φ, φ, φ, φ, φ, φ, φ, φ, φ, φ, φ, φ, φ, φ, φ, φ, φ, φ, φ, φ, φ, φ, φ, φ, φ, φ] rfl rfl (any_of HT_.out (by kernel_rfl)) (fun _ _ _ h => h) (Or.inl ⟨by rfl, ?_⟩) ?_ ?_
     rotate_left
     ·
      intro w'
      go_simp
      with_reducible rfl
     rotate_left
     ·
      simp only [Act.put, List.setIfInBounds_toArray, List.set_cons_zero, List.set_cons_succ, i64_w, i32_w]
      rfl
     refine pure_ (i := 3) (N := some 33) (v := ?_) (a' := ?_) #[τ, φ, φ, τ, φ, φ, φ, φ, φ, φ, φ, φ, φ, φ, φ, φ, φ, φ, φ, φ, φ, φ, φ, φ, φ, φ, φ, φ, φ, φ] rfl rfl (any_of HT_.out (by kernel_rfl)) (fun _ _ _ h => h) (Or.inl ⟨by rfl, ?_⟩) ?_ ?_
     rotate_left
     ·
      intro w'
      go_simp
      with_reducible rfl
     rotate_left
     ·
      simp only [Act.put, List.setIfInBounds_toArray, List.set_cons_zero, List.set_cons_succ, i64_w, i32_w]
      rfl
     refine take_ (i := 1) (N := some 31) (v := ?_) (a' := ?_) #[τ, τ, φ, τ, φ, φ, φ, φ, φ, φ, φ, φ, φ, φ, φ, φ, φ, φ, φ, φ, φ, φ, φ, φ, φ, φ, φ, φ, φ, φ] rfl rfl (take_ofW HT_.out HW_.out (by kernel_rfl)) (fun _ _ _ h => h) (Or.inl ⟨by rfl, ?_⟩) hHeld ?_ ?_
     rotate_left
     ·
      rintro w' ⟨s0, s1, s2⟩
      go_simp
      with_reducible rfl
     rotate_left
     ·
      simp only [Act.put, List.setIfInBounds_toArray, List.set_cons_zero, List.set_cons_succ, i64_w, i32_w]
      rfl
     refine take_ (i := 4) (N := some 34) (v := ?_) (a' := ?_) #[τ, τ, φ, τ, τ, φ, φ, φ, φ, φ, φ, φ, φ, φ, φ, φ, φ, φ, φ, φ, φ, φ, φ, φ, φ, φ, φ, φ, φ, φ] rfl rfl (take_ofW HT_.out HW_.out (by kernel_rfl)) (fun _ _ _ h => h) (Or.inl ⟨by rfl, ?_⟩) hHeld ?_ ?_
     rotate_left
     ·
      rintro w' ⟨s0, s1, s2⟩
      go_simp
      with_reducible rfl
     rotate_left
     ·
      simp only [Act.put, List.setIfInBounds_toArray, List.set_cons_zero, List.set_cons_succ, i64_w, i32_w]
      rfl
     refine one_ (i := 2) (N := some 32) #[τ, τ, τ, τ, τ, φ, φ, φ, φ, φ, φ, φ, φ, φ, φ, φ, φ, φ, φ, φ, φ, φ, φ, φ, φ, φ, φ, φ, φ, φ] rfl rfl (one_of HT_.out (by kernel_rfl)) (by decide) (fun K hK => ?_)
     refine goes_ Try.func15 (by kernel_rfl) rfl #[.slice Ao37 t220.length co37, .agg #[.int .i64 t216, .int .i64 t217, .int .i64 t218]] (by rfl) rfl rfl (by (try simp only [List.map_toArray, List.map_cons, List.map_nil]); first | done | rfl | (simp only [List.length_drop, List.length_take]; rfl)) ?_
     with_reducible refine (seen_Has.calls _ _ t220 t216 t217 t218 t223 _ ?side1 ?side2 A22.out).mono ?_
     (case side1 => repeat (first | exact (Kd.R_reads' HO222.out).2.2 | (with_reducible refine Kd.C_alloc ?_ _) | (with_reducible refine Kd.C_drewN ?_ _) | (with_reducible refine Kd.C_drew ?_)))
     (case side2 => exact (Kd.R_reads' HO222.out).2.1)
     rintro e w38 ⟨rfl, hb⟩
     refine ⟨_, rfl, ?_⟩
     have n0_ := Aside0.mk (Kd.R_below (by (with_reducible repeat (first | apply Kd.R_alloc | apply Kd.R_drewN | apply Kd.R_drew)); exact HO213.out) hb)
     have n1_ := Aside0.mk (Kd.R_below (by (with_reducible repeat (first | apply Kd.R_alloc | apply Kd.R_drewN | apply Kd.R_drew)); exact HO222.out) hb)
     have n2_ := Aside0.mk (blk_below (g := gb209) (o := .cells #[.int .i64 a3_0, .int .i64 a3_1, .int .i64 a3_2] 26 (0, 0)) (by (with_reducible repeat (first | refine blk_drewN ?_ _ | refine blk_drew ?_ | refine blk_alloc ?_ _)); exact BK209.out) hb)
     have n3_ := Aside0.mk (blk_below (g := gb219) (o := .cells #[.int .i64 t216, .int .i64 t217, .int .i64 t218] 25 (0, 0)) (by (with_reducible repeat (first | refine blk_drewN ?_ _ | refine blk_drew ?_ | refine blk_alloc ?_ _)); exact BK219.out) hb)
     have n4_ := Aside0.mk (below_step (by repeat (first | (with_reducible first | exact HB.out | apply below_alloc | apply pw_below_drewN | apply below_drew1 | refine below_set ?_ GE209.out | refine below_set ?_ GE219.out) | exact HB.out)) hb)
     clear HO213
     clear HO222
     clear BK209
     clear BK219
     clear HB
     have HO213 := n0_
     have HO222 := n1_
     have BK209 := n2_
     have BK219 := n3_
     have HB := n4_
     clear n0_ n1_ n2_ n3_ n4_
     (try clear hb)
     (try clear hb2)
     (try clear hk)
     (try clear hi)
     refine hK.out _ _ ⟨(blk_cell BK219.out 0).trans rfl, (blk_cell BK219.out 1).trans rfl, (blk_cell BK219.out 2).trans rfl⟩ (fun hHeld => ?_)
     clear hK K
     refine norm_ (a' := ?_) ?_ ?_
     rotate_left
     ·
      show Act.put _ (some 32) _ = _
      simp only [Act.put, List.setIfInBounds_toArray, List.set_cons_zero, List.set_cons_succ, i64_w, i32_w]
      rfl
     refine one_ (i := 5) (N := some 35) #[τ, τ, τ, τ, τ, τ, φ, φ, φ, φ, φ, φ, φ, φ, φ, φ, φ, φ, φ, φ, φ, φ, φ, φ, φ, φ, φ, φ, φ, φ] rfl rfl (one_of HT_.out (by kernel_rfl)) (by decide) (fun K hK => ?_)
     refine goes_ Try.func15 (by kernel_rfl) rfl #[.slice Ao20 t211.length co20, .agg #[.int .i64 t216, .int .i64 t217, .int .i64 t218]] (by rfl) rfl rfl (by (try simp only [List.map_toArray, List.map_cons, List.map_nil]); first | done | rfl | (simp only [List.length_drop, List.length_take]; rfl)) ?_
     with_reducible refine (seen_Has.calls _ _ t211 t216 t217 t218 true _ ?side1 ?side2 A23.out).mono ?_
     (case side1 => repeat (first | exact (Kd.R_reads' HO213.out).2.2 | (with_reducible refine Kd.C_alloc ?_ _) | (with_reducible refine Kd.C_drewN ?_ _) | (with_reducible refine Kd.C_drew ?_)))
     (case side2 => exact (Kd.R_reads' HO213.out).2.1)
     rintro e w39 ⟨rfl, hb⟩
     refine ⟨_, rfl, ?_⟩
     have n0_ := Aside0.mk (Kd.R_below (by (with_reducible repeat (first | apply Kd.R_alloc | apply Kd.R_drewN | apply Kd.R_drew)); exact HO213.out) hb)
     have n1_ := Aside0.mk (Kd.R_below (by (with_reducible repeat (first | apply Kd.R_alloc | apply Kd.R_drewN | apply Kd.R_drew)); exact HO222.out) hb)
     have n2_ := Aside0.mk (blk_below (g := gb209) (o := .cells #[.int .i64 a3_0, .int .i64 a3_1, .int .i64 a3_2] 26 (0, 0)) (by (with_reducible repeat (first | refine blk_drewN ?_ _ | refine blk_drew ?_ | refine blk_alloc ?_ _)); exact BK209.out) hb)
     have n3_ := Aside0.mk (blk_below (g := gb219) (o := .cells #[.int .i64 t216, .int .i64 t217, .int .i64 t218] 25 (0, 0)) (by (with_reducible repeat (first | refine blk_drewN ?_ _ | refine blk_drew ?_ | refine blk_alloc ?_ _)); exact BK219.out) hb)
     have n4_ := Aside0.mk (below_step (by repeat (first | (with_reducible first | exact HB.out | apply below_alloc | apply pw_below_drewN | apply below_drew1 | refine below_set ?_ GE209.out | refine below_set ?_ GE219.out) | exact HB.out)) hb)
     clear HO213
     clear HO222
     clear BK209
     clear BK219
     clear HB
     have HO213 := n0_
     have HO222 := n1_
     have BK209 := n2_
     have BK219 := n3_
     have HB := n4_
     clear n0_ n1_ n2_ n3_ n4_
     (try clear hb)
     (try clear hb2)
     (try clear hk)
     (try clear hi)
     refine hK.out _ _ ⟨(blk_cell BK219.out 0).trans rfl, (blk_cell BK219.out 1).trans rfl, (blk_cell BK219.out 2).trans rfl⟩ (fun hHeld => ?_)
     clear hK K
     refine norm_ (a' := ?_) ?_ ?_
     rotate_left
     ·
      show Act.put _ (some 35) _ = _
      simp only [Act.put, List.setIfInBounds_toArray, List.set_cons_zero, List.set_cons_succ, i64_w, i32_w]
      rfl
     refine pure_ (i := 6) (N := some 36) (v := ?_) (a' := ?_) #[τ, τ, τ, τ, τ, τ, τ, φ, φ, φ, φ, φ, φ, φ, φ, φ, φ, φ, φ, φ, φ, φ, φ, φ, φ, φ, φ, φ, φ, φ] rfl rfl (any_of HT_.out (by kernel_rfl)) (fun _ _ _ h => h) (Or.inl ⟨by rfl, ?_⟩) ?_ ?_
     rotate_left
     ·
      intro w'
      go_simp
      with_reducible rfl
     rotate_left
     ·
      simp only [Act.put, List.setIfInBounds_toArray, List.set_cons_zero, List.set_cons_succ, i64_w, i32_w]
      rfl
     refine pure_ (i := 7) (N := some 37) (v := ?_) (a' := ?_) #[τ, τ, τ, τ, τ, τ, τ, τ, φ, φ, φ, φ, φ, φ, φ, φ, φ, φ, φ, φ, φ, φ, φ, φ, φ, φ, φ, φ, φ, φ] rfl rfl (any_of HT_.out (by kernel_rfl)) (fun _ _ _ h => h) (Or.inl ⟨by rfl, ?_⟩) ?_ ?_
     rotate_left
     ·
      intro w'
      go_simp
      with_reducible rfl
     rotate_left
     ·
      simp only [Act.put, List.setIfInBounds_toArray, List.set_cons_zero, List.set_cons_succ, i64_w, i32_w]
      rfl
     refine pure_ (i := 9) (N := some 39) (v := ?_) (a' := ?_) #[τ, τ, τ, τ, τ, τ, τ, τ, φ, τ, φ, φ, φ, φ, φ, φ, φ, φ, φ, φ, φ, φ, φ, φ, φ, φ, φ, φ, φ, φ] rfl rfl (any_of HT_.out (by kernel_rfl)) (fun _ _ _ h => h) (Or.inl ⟨by rfl, ?_⟩) ?_ ?_
     rotate_left
     ·
      intro w'
      go_simp
      with_reducible rfl
     rotate_left
     ·
      simp only [Act.put, List.setIfInBounds_toArray, List.set_cons_zero, List.set_cons_succ, i64_w, i32_w]
      rfl
     refine take_ (i := 8) (N := some 38) (v := ?_) (a' := ?_) #[τ, τ, τ, τ, τ, τ, τ, τ, τ, τ, φ, φ, φ, φ, φ, φ, φ, φ, φ, φ, φ, φ, φ, φ, φ, φ, φ, φ, φ, φ] rfl rfl (take_ofW HT_.out HW_.out (by kernel_rfl)) (fun _ _ _ h => h) (Or.inl ⟨by rfl, ?_⟩) hHeld ?_ ?_
     rotate_left
     ·
      rintro w' ⟨s0, s1, s2⟩
      go_simp
      with_reducible rfl
     rotate_left
     ·
      simp only [Act.put, List.setIfInBounds_toArray, List.set_cons_zero, List.set_cons_succ, i64_w, i32_w]
      rfl
     refine pure_ (i := 10) (N := some 40) (v := ?_) (a' := ?_) #[τ, τ, τ, τ, τ, τ, τ, τ, τ, τ, τ, φ, φ, φ, φ, φ, φ, φ, φ, φ, φ, φ, φ, φ, φ, φ, φ, φ, φ, φ] rfl rfl (any_of HT_.out (by kernel_rfl)) (fun _ _ _ h => h) (Or.inl ⟨by rfl, ?_⟩) ?_ ?_
     rotate_left
     ·
      intro w'
      go_simp
      with_reducible rfl
     rotate_left
     ·
      simp only [Act.put, List.setIfInBounds_toArray, List.set_cons_zero, List.set_cons_succ, i64_w, i32_w]
      rfl
     refine pure_ (i := 11) (N := some 41) (v := ?_) (a' := ?_) #[τ, τ, τ, τ, τ, τ, τ, τ, τ, τ, τ, τ, φ, φ, φ, φ, φ, φ, φ, φ, φ, φ, φ, φ, φ, φ, φ, φ, φ, φ] rfl rfl (any_of HT_.out (by kernel_rfl)) (fun _ _ _ h => h) (Or.inl ⟨by rfl, ?_⟩) ?_ ?_
     rotate_left
     ·
      intro w'
      go_simp
      with_reducible rfl
     rotate_left
     ·
      simp only [Act.put, List.setIfInBounds_toArray, List.set_cons_zero, List.set_cons_succ, i64_w, i32_w]
      rfl
     refine pure_ (i := 12) (N := some 42) (v := ?_) (a' := ?_) #[τ, τ, τ, τ, τ, τ, τ, τ, τ, τ, τ, τ, τ, φ, φ, φ, φ, φ, φ, φ, φ, φ, φ, φ, φ, φ, φ, φ, φ, φ] rfl rfl (any_of HT_.out (by kernel_rfl)) (fun _ _ _ h => h) (Or.inl ⟨by rfl, ?_⟩) ?_ ?_
     rotate_left
     ·
      intro w'
      go_simp
      with_reducible rfl
     rotate_left
     ·
      simp only [Act.put, List.setIfInBounds_toArray, List.set_cons_zero, List.set_cons_succ, i64_w, i32_w]
      rfl
     refine pure_ (i := 13) (N := some 43) (v := ?_) (a' := ?_) #[τ, τ, τ, τ, τ, τ, τ, τ, τ, τ, τ, τ, τ, τ, φ, φ, φ, φ, φ, φ, φ, φ, φ, φ, φ, φ, φ, φ, φ, φ] rfl rfl (any_of HT_.out (by kernel_rfl)) (fun _ _ _ h => h) (Or.inl ⟨by rfl, ?_⟩) ?_ ?_
     rotate_left
     ·
      intro w'
      go_simp
      with_reducible rfl
     rotate_left
     ·
      simp only [Act.put, List.setIfInBounds_toArray, List.set_cons_zero, List.set_cons_succ, i64_w, i32_w]
      rfl
     refine pure_ (i := 14) (N := some 44) (v := ?_) (a' := ?_) #[τ, τ, τ, τ, τ, τ, τ, τ, τ, τ, τ, τ, τ, τ, τ, φ, φ, φ, φ, φ, φ, φ, φ, φ, φ, φ, φ, φ, φ, φ] rfl rfl (any_of HT_.out (by kernel_rfl)) (fun _ _ _ h => h) (Or.inl ⟨by rfl, ?_⟩) ?_ ?_
     rotate_left
     ·
      intro w'
      go_simp
      with_reducible rfl
     rotate_left
     ·
      simp only [Act.put, List.setIfInBounds_toArray, List.set_cons_zero, List.set_cons_succ, i64_w, i32_w]
      rfl
     refine pure_ (i := 15) (N := some 45) (v := ?_) (a' := ?_) #[τ, τ, τ, τ, τ, τ, τ, τ, τ, τ, τ, τ, τ, τ, τ, τ, φ, φ, φ, φ, φ, φ, φ, φ, φ, φ, φ, φ, φ, φ] rfl rfl (any_of HT_.out (by kernel_rfl)) (fun _ _ _ h => h) (Or.inl ⟨by rfl, ?_⟩) ?_ ?_
     rotate_left
     ·
      intro w'
      go_simp
      with_reducible rfl
     rotate_left
     ·
      simp only [Act.put, List.setIfInBounds_toArray, List.set_cons_zero, List.set_cons_succ, i64_w, i32_w]
      rfl
     refine pure_ (i := 17) (N := some 47) (v := ?_) (a' := ?_) #[τ, τ, τ, τ, τ, τ, τ, τ, τ, τ, τ, τ, τ, τ, τ, τ, φ, τ, φ, φ, φ, φ, φ, φ, φ, φ, φ, φ, φ, φ] rfl rfl (any_of HT_.out (by kernel_rfl)) (fun _ _ _ h => h) (Or.inl ⟨by rfl, ?_⟩) ?_ ?_
     rotate_left
     ·
      intro w'
      go_simp
      with_reducible rfl
     rotate_left
     ·
      simp only [Act.put, List.setIfInBounds_toArray, List.set_cons_zero, List.set_cons_succ, i64_w, i32_w]
      rfl
     refine pure_ (i := 18) (N := some 48) (v := ?_) (a' := ?_) #[τ, τ, τ, τ, τ, τ, τ, τ, τ, τ, τ, τ, τ, τ, τ, τ, φ, τ, τ, φ, φ, φ, φ, φ, φ, φ, φ, φ, φ, φ] rfl rfl (any_of HT_.out (by kernel_rfl)) (fun _ _ _ h => h) (Or.inl ⟨by rfl, ?_⟩) ?_ ?_
     rotate_left
     ·
      intro w'
      go_simp
      with_reducible rfl
     rotate_left
     ·
      simp only [Act.put, List.setIfInBounds_toArray, List.set_cons_zero, List.set_cons_succ, i64_w, i32_w]
      rfl
     refine pure_ (i := 19) (N := some 49) (v := ?_) (a' := ?_) #[τ, τ, τ, τ, τ, τ, τ, τ, τ, τ, τ, τ, τ, τ, τ, τ, φ, τ, τ, τ, φ, φ, φ, φ, φ, φ, φ, φ, φ, φ] rfl rfl (any_of HT_.out (by kernel_rfl)) (fun _ _ _ h => h) (Or.inl ⟨by rfl, ?_⟩) ?_ ?_
     rotate_left
     ·
      intro w'
      go_simp
      with_reducible rfl
     rotate_left
     ·
      simp only [Act.put, List.setIfInBounds_toArray, List.set_cons_zero, List.set_cons_succ, i64_w, i32_w]
      rfl
     refine pure_ (i := 20) (N := some 50) (v := ?_) (a' := ?_) #[τ, τ, τ, τ, τ, τ, τ, τ, τ, τ, τ, τ, τ, τ, τ, τ, φ, τ, τ, τ, τ, φ, φ, φ, φ, φ, φ, φ, φ, φ] rfl rfl (any_of HT_.out (by kernel_rfl)) (fun _ _ _ h => h) (Or.inl ⟨by rfl, ?_⟩) ?_ ?_
     rotate_left
     ·
      intro w'
      go_simp
      with_reducible rfl
     rotate_left
     ·
      simp only [Act.put, List.setIfInBounds_toArray, List.set_cons_zero, List.set_cons_succ, i64_w, i32_w]
      rfl
     refine one_ (i := 16) (N := some 46) #[τ, τ, τ, τ, τ, τ, τ, τ, τ, τ, τ, τ, τ, τ, τ, τ, τ, τ, τ, τ, τ, φ, φ, φ, φ, φ, φ, φ, φ, φ] rfl rfl (one_of HT_.out (by kernel_rfl)) (by decide) (fun K hK => ?_)
     refine goes_ Try.func17 (by kernel_rfl) rfl #[.slice Ao37 t220.length co37, .int .i64 t215] (by rfl) rfl rfl (by (try simp only [List.map_toArray, List.map_cons, List.map_nil]); first | done | rfl | (simp only [List.length_drop, List.length_take]; rfl)) ?_
     with_reducible refine (seen_Prune.calls _ _ t220 t215 t225 _ ?side1 ?side2 A30.out).mono ?_
     (case side1 => repeat (first | exact (Kd.R_reads' HO222.out).2.2 | (with_reducible refine Kd.C_alloc ?_ _) | (with_reducible refine Kd.C_drewN ?_ _) | (with_reducible refine Kd.C_drew ?_)))
     (case side2 => exact (Kd.R_reads' HO222.out).2.1)
     rintro e w40 ⟨v226, rfl, ho0, hb⟩
     refine ⟨_, rfl, ?_⟩
     have n0_ := Aside0.mk (Kd.R_elder' (by (with_reducible repeat (first | apply Kd.R_alloc | apply Kd.R_drewN | apply Kd.R_drew)); exact HO213.out) (Kd.R_base ho0) hb)
     have n1_ := Aside0.mk (Kd.R_elder' (by (with_reducible repeat (first | apply Kd.R_alloc | apply Kd.R_drewN | apply Kd.R_drew)); exact HO222.out) (Kd.R_base ho0) hb)
     have n2_ := Aside0.mk (Kd.R_lower (Kd.R_newB (Kd.R_new' (Kd.R_new' ho0 (Kd.R_lt (by (with_reducible repeat (first | apply Kd.R_alloc | apply Kd.R_drewN | apply Kd.R_drew)); exact HO213.out))) (Kd.R_lt (by (with_reducible repeat (first | apply Kd.R_alloc | apply Kd.R_drewN | apply Kd.R_drew)); exact HO222.out))) (g := gb219) (o := .cells #[.int .i64 t216, .int .i64 t217, .int .i64 t218] 25 (0, 0)) (by (with_reducible repeat (first | refine blk_drewN ?_ _ | refine blk_drew ?_ | refine blk_alloc ?_ _)); exact BK219.out)) (below_size (by repeat (first | (with_reducible first | exact HB.out | apply below_alloc | apply pw_below_drewN | apply below_drew1 | refine below_set ?_ GE209.out | refine below_set ?_ GE219.out) | exact HB.out))))
     have n3_ := Aside0.mk (blk_below (g := gb209) (o := .cells #[.int .i64 a3_0, .int .i64 a3_1, .int .i64 a3_2] 26 (0, 0)) (by (with_reducible repeat (first | refine blk_drewN ?_ _ | refine blk_drew ?_ | refine blk_alloc ?_ _)); exact BK209.out) hb)
     have n4_ := Aside0.mk (blk_below (g := gb219) (o := .cells #[.int .i64 t216, .int .i64 t217, .int .i64 t218] 25 (0, 0)) (by (with_reducible repeat (first | refine blk_drewN ?_ _ | refine blk_drew ?_ | refine blk_alloc ?_ _)); exact BK219.out) hb)
     have n5_ := Aside0.mk (below_step (by repeat (first | (with_reducible first | exact HB.out | apply below_alloc | apply pw_below_drewN | apply below_drew1 | refine below_set ?_ GE209.out | refine below_set ?_ GE219.out) | exact HB.out)) hb)
     clear HO213
     clear HO222
     clear BK209
     clear BK219
     clear HB
     have HO213 := n0_
     have HO222 := n1_
     have HO227 := n2_
     have BK209 := n3_
     have BK219 := n4_
     have HB := n5_
     clear n0_ n1_ n2_ n3_ n4_ n5_
     (try clear hb)
     (try clear hb2)
     (try clear hk)
     (try clear hi)
     (try clear ho0)
     refine hK.out _ _ ⟨(blk_cell BK219.out 0).trans rfl, (blk_cell BK219.out 1).trans rfl, (blk_cell BK219.out 2).trans rfl⟩ (fun hHeld => ?_)
     clear hK K
     refine norm_ (a' := ?_) ?_ ?_
     rotate_left
     ·
      show Act.put _ (some 46) _ = _
      simp only [Act.put, List.setIfInBounds_toArray, List.set_cons_zero, List.set_cons_succ, i64_w, i32_w]
      rfl
     refine one_ (i := 21) (N := some 51) #[τ, τ, τ, τ, τ, τ, τ, τ, τ, τ, τ, τ, τ, τ, τ, τ, τ, τ, τ, τ, τ, τ, φ, φ, φ, φ, φ, φ, φ, φ] rfl rfl (one_of HT_.out (by kernel_rfl)) (by decide) (fun K hK => ?_)
     refine goes_ Try.func17 (by kernel_rfl) rfl #[.slice Ao20 t211.length co20, .int .i64 ji31] (by rfl) rfl rfl (by (try simp only [List.map_toArray, List.map_cons, List.map_nil]); first | done | (simp only [hji31]; rfl) | rfl | (simp only [List.length_drop, List.length_take]; rfl)) ?_
     with_reducible refine (seen_Prune.calls _ _ t211 ji31 t228 _ ?side1 ?side2 A32.out).mono ?_
     (case side1 => repeat (first | exact (Kd.R_reads' HO213.out).2.2 | (with_reducible refine Kd.C_alloc ?_ _) | (with_reducible refine Kd.C_drewN ?_ _) | (with_reducible refine Kd.C_drew ?_)))
     (case side2 => exact (Kd.R_reads' HO213.out).2.1)
     rintro e w41 ⟨v229, rfl, ho0, hb⟩
     refine ⟨_, rfl, ?_⟩
     have n0_ := Aside0.mk (Kd.R_elder' (by (with_reducible repeat (first | apply Kd.R_alloc | apply Kd.R_drewN | apply Kd.R_drew)); exact HO213.out) (Kd.R_base ho0) hb)
     have n1_ := Aside0.mk (Kd.R_elder' (by (with_reducible repeat (first | apply Kd.R_alloc | apply Kd.R_drewN | apply Kd.R_drew)); exact HO222.out) (Kd.R_base ho0) hb)
     have n2_ := Aside0.mk (Kd.R_elder' (by (with_reducible repeat (first | apply Kd.R_alloc | apply Kd.R_drewN | apply Kd.R_drew)); exact HO227.out) (Kd.R_base ho0) hb)
     have n3_ := Aside0.mk (Kd.R_lower (Kd.R_newB (Kd.R_new' (Kd.R_new' (Kd.R_new' ho0 (Kd.R_lt (by (with_reducible repeat (first | apply Kd.R_alloc | apply Kd.R_drewN | apply Kd.R_drew)); exact HO213.out))) (Kd.R_lt (by (with_reducible repeat (first | apply Kd.R_alloc | apply Kd.R_drewN | apply Kd.R_drew)); exact HO222.out))) (Kd.R_lt (by (with_reducible repeat (first | apply Kd.R_alloc | apply Kd.R_drewN | apply Kd.R_drew)); exact HO227.out))) (g := gb219) (o := .cells #[.int .i64 t216, .int .i64 t217, .int .i64 t218] 25 (0, 0)) (by (with_reducible repeat (first | refine blk_drewN ?_ _ | refine blk_drew ?_ | refine blk_alloc ?_ _)); exact BK219.out)) (below_size (by repeat (first | (with_reducible first | exact HB.out | apply below_alloc | apply pw_below_drewN | apply below_drew1 | refine below_set ?_ GE209.out | refine below_set ?_ GE219.out) | exact HB.out))))
     have n4_ := Aside0.mk (blk_below (g := gb209) (o := .cells #[.int .i64 a3_0, .int .i64 a3_1, .int .i64 a3_2] 26 (0, 0)) (by (with_reducible repeat (first | refine blk_drewN ?_ _ | refine blk_drew ?_ | refine blk_alloc ?_ _)); exact BK209.out) hb)
     have n5_ := Aside0.mk (blk_below (g := gb219) (o := .cells #[.int .i64 t216, .int .i64 t217, .int .i64 t218] 25 (0, 0)) (by (with_reducible repeat (first | refine blk_drewN ?_ _ | refine blk_drew ?_ | refine blk_alloc ?_ _)); exact BK219.out) hb)
     have n6_ := Aside0.mk (below_step (by repeat (first | (with_reducible first | exact HB.out | apply below_alloc | apply pw_below_drewN | apply below_drew1 | refine below_set ?_ GE209.out | refine below_set ?_ GE219.out) | exact HB.out)) hb)
     clear HO213
     clear HO222
     clear HO227
     clear BK209
     clear BK219
     clear HB
     have HO213 := n0_
     have HO222 := n1_
     have HO227 := n2_
     have HO230 := n3_
     have BK209 := n4_
     have BK219 := n5_
     have HB := n6_
     clear n0_ n1_ n2_ n3_ n4_ n5_ n6_
     (try clear hb)
     (try clear hb2)
     (try clear hk)
     (try clear hi)
     (try clear ho0)
     obtain ⟨Ao42, co42, eo42⟩ := Kd.R_slice HO227.out
     (first | subst eo42 | (injection eo42 with f1_ f2_ f3_; have f4_ := f1_.symm; have f5_ := f3_.symm; clear f1_ f2_ f3_; subst f4_; subst f5_))
     obtain ⟨Ao43, co43, eo43⟩ := Kd.R_slice HO230.out
     (first | subst eo43 | (injection eo43 with f1_ f2_ f3_; have f4_ := f1_.symm; have f5_ := f3_.symm; clear f1_ f2_ f3_; subst f4_; subst f5_))
     refine hK.out _ _ ⟨(blk_cell BK219.out 0).trans rfl, (blk_cell BK219.out 1).trans rfl, (blk_cell BK219.out 2).trans rfl⟩ (fun hHeld => ?_)
     clear hK K
     refine norm_ (a' := ?_) ?_ ?_
     rotate_left
     ·
      show Act.put _ (some 51) _ = _
      simp only [Act.put, List.setIfInBounds_toArray, List.set_cons_zero, List.set_cons_succ, i64_w, i32_w]
      rfl
     refine one_ (i := 22) (N := some 52) #[τ, τ, τ, τ, τ, τ, τ, τ, τ, τ, τ, τ, τ, τ, τ, τ, τ, τ, τ, τ, τ, τ, τ, φ, φ, φ, φ, φ, φ, φ] rfl rfl (one_of HT_.out (by kernel_rfl)) (by decide) (fun K hK => ?_)
     refine goes_ Try.func14 (by kernel_rfl) rfl #[.slice Ao42 t225.length co42, .slice Ao43 t228.length co43] (by rfl) rfl rfl (by (try simp only [List.map_toArray, List.map_cons, List.map_nil]); first | done | rfl | (simp only [List.length_drop, List.length_take]; rfl)) ?_
     with_reducible refine (mootbellref13_Same.calls k _ _ t225 _ _ t228 true _ ?side1 ?side2 ?side3 ?side4 A33.out).mono ?_
     (case side1 => repeat (first | exact (Kd.R_reads' HO227.out).2.2 | (with_reducible refine Kd.C_alloc ?_ _) | (with_reducible refine Kd.C_drewN ?_ _) | (with_reducible refine Kd.C_drew ?_)))
     (case side2 => exact (Kd.R_reads' HO227.out).2.1)
     (case side3 => repeat (first | exact (Kd.R_reads' HO230.out).2.2 | (with_reducible refine Kd.C_alloc ?_ _) | (with_reducible refine Kd.C_drewN ?_ _) | (with_reducible refine Kd.C_drew ?_)))
     (case side4 => exact (Kd.R_reads' HO230.out).2.1)
     rintro e w' ⟨rfl, ⟨nd, rfl⟩⟩
     refine ⟨_, rfl, ?_⟩
     refine hK.out _ _ ⟨(blk_cell BK219.out 0).trans rfl, (blk_cell BK219.out 1).trans rfl, (blk_cell BK219.out 2).trans rfl⟩ (fun hHeld => ?_)
     clear hK K
     refine norm_ (a' := ?_) ?_ ?_
     rotate_left
     ·
      show Act.put _ (some 52) _ = _
      simp only [Act.put, List.setIfInBounds_toArray, List.set_cons_zero, List.set_cons_succ, i64_w, i32_w]
      rfl
     refine pure_ (i := 23) (N := some 53) (v := ?_) (a' := ?_) #[τ, τ, τ, τ, τ, τ, τ, τ, τ, τ, τ, τ, τ, τ, τ, τ, τ, τ, τ, τ, τ, τ, τ, τ, φ, φ, φ, φ, φ, φ] rfl rfl (any_of HT_.out (by kernel_rfl)) (fun _ _ _ h => h) (Or.inl ⟨by rfl, ?_⟩) ?_ ?_
     rotate_left
     ·
      intro w'
      go_simp
      with_reducible rfl
     rotate_left
     ·
      simp only [Act.put, List.setIfInBounds_toArray, List.set_cons_zero, List.set_cons_succ, i64_w, i32_w]
      rfl
     refine pure_ (i := 24) (N := some 54) (v := ?_) (a' := ?_) #[τ, τ, τ, τ, τ, τ, τ, τ, τ, τ, τ, τ, τ, τ, τ, τ, τ, τ, τ, τ, τ, τ, τ, τ, τ, φ, φ, φ, φ, φ] rfl rfl (any_of HT_.out (by kernel_rfl)) (fun _ _ _ h => h) (Or.inl ⟨by rfl, ?_⟩) ?_ ?_
     rotate_left
     ·
      intro w'
      go_simp
      with_reducible rfl
     rotate_left
     ·
      simp only [Act.put, List.setIfInBounds_toArray, List.set_cons_zero, List.set_cons_succ, i64_w, i32_w]
      rfl
     refine pure_ (i := 25) (N := some 55) (v := ?_) (a' := ?_) #[τ, τ, τ, τ, τ, τ, τ, τ, τ, τ, τ, τ, τ, τ, τ, τ, τ, τ, τ, τ, τ, τ, τ, τ, τ, τ, φ, φ, φ, φ] rfl rfl (any_of HT_.out (by kernel_rfl)) (fun _ _ _ h => h) (Or.inl ⟨by rfl, ?_⟩) ?_ ?_
     rotate_left
     ·
      intro w'
      go_simp
      with_reducible rfl
     rotate_left
     ·
      simp only [Act.put, List.setIfInBounds_toArray, List.set_cons_zero, List.set_cons_succ, i64_w, i32_w]
      rfl
     refine pure_ (i := 26) (N := some 56) (v := ?_) (a' := ?_) #[τ, τ, τ, τ, τ, τ, τ, τ, τ, τ, τ, τ, τ, τ, τ, τ, τ, τ, τ, τ, τ, τ, τ, τ, τ, τ, τ, φ, φ, φ] rfl rfl (any_of HT_.out (by kernel_rfl)) (fun _ _ _ h => h) (Or.inl ⟨by rfl, ?_⟩) ?_ ?_
     rotate_left
     ·
      intro w'
      go_simp
      with_reducible rfl
     rotate_left
     ·
      simp only [Act.put, List.setIfInBounds_toArray, List.set_cons_zero, List.set_cons_succ, i64_w, i32_w]
      rfl
     refine one_ (i := 27) (N := some 57) #[τ, τ, τ, τ, τ, τ, τ, τ, τ, τ, τ, τ, τ, τ, τ, τ, τ, τ, τ, τ, τ, τ, τ, τ, τ, τ, τ, τ, φ, φ] rfl rfl (one_of HT_.out (by kernel_rfl)) (by decide) (fun K hK => ?_)
     refine goes_ Try.func22 (by kernel_rfl) rfl #[.slice Ao37 t220.length co37] (by rfl) rfl rfl (by (try simp only [List.map_toArray, List.map_cons, List.map_nil]); first | done | rfl | (simp only [List.length_drop, List.length_take]; rfl)) ?_
     with_reducible refine (seen_Right.calls _ _ t220 t232 _ ?side1 ?side2 A35.out).mono ?_
     (case side1 => repeat (first | exact (Kd.R_reads' HO222.out).2.2 | (with_reducible refine Kd.C_alloc ?_ _) | (with_reducible refine Kd.C_drewN ?_ _) | (with_reducible refine Kd.C_drew ?_)))
     (case side2 => exact (Kd.R_reads' HO222.out).2.1)
     rintro e w44 ⟨rfl, hb⟩
     refine ⟨_, rfl, ?_⟩
     have n0_ := Aside0.mk (Kd.R_below (by (with_reducible repeat (first | apply Kd.R_alloc | apply Kd.R_drewN | apply Kd.R_drew)); exact HO213.out) hb)
     have n1_ := Aside0.mk (Kd.R_below (by (with_reducible repeat (first | apply Kd.R_alloc | apply Kd.R_drewN | apply Kd.R_drew)); exact HO222.out) hb)
     have n2_ := Aside0.mk (Kd.R_below (by (with_reducible repeat (first | apply Kd.R_alloc | apply Kd.R_drewN | apply Kd.R_drew)); exact HO227.out) hb)
     have n3_ := Aside0.mk (Kd.R_below (by (with_reducible repeat (first | apply Kd.R_alloc | apply Kd.R_drewN | apply Kd.R_drew)); exact HO230.out) hb)
     have n4_ := Aside0.mk (blk_below (g := gb209) (o := .cells #[.int .i64 a3_0, .int .i64 a3_1, .int .i64 a3_2] 26 (0, 0)) (by (with_reducible repeat (first | refine blk_drewN ?_ _ | refine blk_drew ?_ | refine blk_alloc ?_ _)); exact BK209.out) hb)
     have n5_ := Aside0.mk (blk_below (g := gb219) (o := .cells #[.int .i64 t216, .int .i64 t217, .int .i64 t218] 25 (0, 0)) (by (with_reducible repeat (first | refine blk_drewN ?_ _ | refine blk_drew ?_ | refine blk_alloc ?_ _)); exact BK219.out) hb)
     have n6_ := Aside0.mk (below_step (by repeat (first | (with_reducible first | exact HB.out | apply below_alloc | apply pw_below_drewN | apply below_drew1 | refine below_set ?_ GE209.out | refine below_set ?_ GE219.out) | exact HB.out)) hb)
     clear HO213
     clear HO222
     clear HO227
     clear HO230
     clear BK209
     clear BK219
     clear HB
     have HO213 := n0_
     have HO222 := n1_
     have HO227 := n2_
     have HO230 := n3_
     have BK209 := n4_
     have BK219 := n5_
     have HB := n6_
     clear n0_ n1_ n2_ n3_ n4_ n5_ n6_
     (try clear hb)
     (try clear hb2)
     (try clear hk)
     (try clear hi)
     refine hK.out _ _ ⟨(blk_cell BK219.out 0).trans rfl, (blk_cell BK219.out 1).trans rfl, (blk_cell BK219.out 2).trans rfl⟩ (fun hHeld => ?_)
     clear hK K
     refine norm_ (a' := ?_) ?_ ?_
     rotate_left
     ·
      show Act.put _ (some 57) _ = _
      simp only [Act.put, List.setIfInBounds_toArray, List.set_cons_zero, List.set_cons_succ, i64_w, i32_w]
      rfl
     refine pure_ (i := 28) (N := some 58) (v := ?_) (a' := ?_) #[τ, τ, τ, τ, τ, τ, τ, τ, τ, τ, τ, τ, τ, τ, τ, τ, τ, τ, τ, τ, τ, τ, τ, τ, τ, τ, τ, τ, τ, φ] rfl rfl (any_of HT_.out (by kernel_rfl)) (fun _ _ _ h => h) (Or.inl ⟨by rfl, ?_⟩) ?_ ?_
     rotate_left
     ·
      intro w'
      go_simp
      with_reducible rfl
     rotate_left
     ·
      simp only [Act.put, List.setIfInBounds_toArray, List.set_cons_zero, List.set_cons_succ, i64_w, i32_w]
      rfl
     refine pure_ (i := 29) (N := some 59) (v := ?_) (a' := ?_) #[τ, τ, τ, τ, τ, τ, τ, τ, τ, τ, τ, τ, τ, τ, τ, τ, τ, τ, τ, τ, τ, τ, τ, τ, τ, τ, τ, τ, τ, τ] rfl rfl (any_of HT_.out (by kernel_rfl)) (fun _ _ _ h => h) (Or.inl ⟨by rfl, ?_⟩) ?_ ?_
     rotate_left
     ·
      intro w'
      go_simp
      with_reducible rfl
     rotate_left
     ·
      simp only [Act.put, List.setIfInBounds_toArray, List.set_cons_zero, List.set_cons_succ, i64_w, i32_w]
      rfl
     refine done_ (done_of HT_.out (by kernel_rfl)) ?_
     try go_wp2
     go_meet
     case rel => exact ⟨_, (!t232), (by first | rfl | (simp; done) | (simp [*]; done)), H', ⟨by first | omega | exact Nat.le_refl _⟩, ⟨by (with_reducible repeat (first | apply Kd.R_alloc | apply Kd.R_drewN | apply Kd.R_drew)); exact Kd.R_mono HO213.out (fun _ hk => hk.1.1.1.2)⟩, ⟨by (with_reducible repeat (first | refine blk_drewN ?_ _ | refine blk_drew ?_ | refine blk_alloc ?_ _)); exact BK209.out⟩, ⟨by (with_reducible repeat (first | refine blk_drewN ?_ _ | refine blk_drew ?_ | refine blk_alloc ?_ _)); exact BK219.out⟩, ⟨by repeat (first | (with_reducible first | exact HB.out | apply below_alloc | apply pw_below_drewN | apply below_drew1 | refine below_set ?_ GE209.out | refine below_set ?_ GE219.out) | exact HB.out)⟩⟩
    ·
     rw [if_neg c34] at H; (exfalso; rw [HRT.out] at H; cases k <;> simp [mootbelllaw13_SeenPrune.j0] at H)
  ·
   replace c24 := Bool.eq_false_iff.mpr c24
   subst c24
   have H1 : (if (t223 != false) = true then (mootbelllaw13_SeenPrune.j0 k t210 t211 true t216 t217 t218) else ((seen_Prune.f t220 t215).bind fun t233 => ((seen_Prune.f t211 (mx t214 t215)).bind fun t236 => ((mootbellref13_Same.f k t233 t236).bind fun t239 => (if t239 = true then ((seen_Right.f t220).bind fun t240 => (mootbelllaw13_SeenPrune.j0 k t210 t211 (!t240) t216 t217 t218)) else (mootbelllaw13_SeenPrune.j0 k t210 t211 true t216 t217 t218)))))) = some r := by rw [if_neg (show ¬ (false = true) by decide)] at H; exact H
   clear H
   have H := H1
   clear H1
   by_cases c53 : (t223 != false) = true
   ·
    rw [if_pos c53] at H; (exfalso; rw [HRT.out] at H; cases k <;> simp [mootbelllaw13_SeenPrune.j0] at H)
   ·
    rw [if_neg c53] at H
    have c53b0 : (t223 != false) = false := by simpa using c53
    (try (have c53b1 : decide (t223 = false) = true := by simpa using c53))
    (try (have c53b2 : (t223 == false) = true := by simpa using c53))
    clear c53
    replace H := Option.bind_eq_some_iff.mp H
    obtain ⟨t233, A580, H⟩ := H
    replace H : ((seen_Prune.f t211 (mx t214 t215)).bind fun t236 => ((mootbellref13_Same.f k t233 t236).bind fun t239 => (if t239 = true then ((seen_Right.f t220).bind fun t240 => (mootbelllaw13_SeenPrune.j0 k t210 t211 (!t240) t216 t217 t218)) else (mootbelllaw13_SeenPrune.j0 k t210 t211 true t216 t217 t218)))) = some r := H
    have A58 := Aside0.mk A580
    clear A580
    obtain ⟨ji59, hji59⟩ : ∃ j_ : Int, (mx t214 t215) = j_ := ⟨_, rfl⟩
    replace H : ((seen_Prune.f t211 (ji59)).bind fun t236 => ((mootbellref13_Same.f k t233 t236).bind fun t239 => (if t239 = true then ((seen_Right.f t220).bind fun t240 => (mootbelllaw13_SeenPrune.j0 k t210 t211 (!t240) t216 t217 t218)) else (mootbelllaw13_SeenPrune.j0 k t210 t211 true t216 t217 t218)))) = some r := by first | (rw [hji59] at H; exact H) | (simp only [hji59] at H ⊢; exact H)
    (try rw [hji59] at A22)
    (try rw [hji59] at A23)
    (try rw [hji59] at A58)
    have hji59_ : (if t214 < t215 then t215 else t214) = ji59 := hji59
    replace H := Option.bind_eq_some_iff.mp H
    obtain ⟨t236, A600, H⟩ := H
    replace H : ((mootbellref13_Same.f k t233 t236).bind fun t239 => (if t239 = true then ((seen_Right.f t220).bind fun t240 => (mootbelllaw13_SeenPrune.j0 k t210 t211 (!t240) t216 t217 t218)) else (mootbelllaw13_SeenPrune.j0 k t210 t211 true t216 t217 t218))) = some r := H
    have A60 := Aside0.mk A600
    clear A600
    replace H := Option.bind_eq_some_iff.mp H
    obtain ⟨t239, A610, H⟩ := H
    replace H : (if t239 = true then ((seen_Right.f t220).bind fun t240 => (mootbelllaw13_SeenPrune.j0 k t210 t211 (!t240) t216 t217 t218)) else (mootbelllaw13_SeenPrune.j0 k t210 t211 true t216 t217 t218)) = some r := H
    have A61 := Aside0.mk A610
    clear A610
    by_cases c62 : t239 = true
    ·
     subst c62
     have H1 : ((seen_Right.f t220).bind fun t240 => (mootbelllaw13_SeenPrune.j0 k t210 t211 (!t240) t216 t217 t218)) = some r := by rw [if_pos rfl] at H; exact H
     clear H
     have H := H1
     clear H1
     replace H := Option.bind_eq_some_iff.mp H
     obtain ⟨t240, A630, H⟩ := H
     replace H : (mootbelllaw13_SeenPrune.j0 k t210 t211 (!t240) t216 t217 t218) = some r := H
     have A63 := Aside0.mk A630
     clear A630
     have H' := Aside0.mk H
     clear H
     try go_wp2
     have n0_ := Aside0.mk (Kd.R_drew HO213.out)
     have n1_ := Aside0.mk (Kd.R_drew HO222.out)
     have n2_ := Aside0.mk (blk_drew BK209.out)
     have n3_ := Aside0.mk (blk_drew BK219.out)
     have n4_ := Aside0.mk (below_drew1 HB.out)
     clear HO213
     clear HO222
     clear BK209
     clear BK219
     clear HB
     have HO213 := n0_
     have HO222 := n1_
     have BK209 := n2_
     have BK219 := n3_
     have HB := n4_
     clear n0_ n1_ n2_ n3_ n4_
     obtain ⟨Ao65, co65, eo65⟩ := Kd.R_slice HO222.out
     (first | subst eo65 | (injection eo65 with f1_ f2_ f3_; have f4_ := f1_.symm; have f5_ := f3_.symm; clear f1_ f2_ f3_; subst f4_; subst f5_))
     refine start_ (n := 30) (S := fun w' => w'.cell? ⟨gb219, 0, none⟩ = some (.int .i64 t216) ∧ w'.cell? ⟨gb219, 1, none⟩ = some (.int .i64 t217) ∧ w'.cell? ⟨gb219, 2, none⟩ = some (.int .i64 t218)) (ds := []) #[φ, φ, φ, φ, φ, φ, φ, φ, φ, φ, φ, φ, φ, φ, φ, φ, φ, φ, φ, φ, φ, φ, φ, φ, φ, φ, φ, φ, φ, φ] (by kernel_rfl) rfl rfl ⟨(blk_cell BK219.out 0).trans rfl, (blk_cell BK219.out 1).trans rfl, (blk_cell BK219.out 2).trans rfl⟩ (fun hHeld => ?_); refine with_tabW mootbelllaw13_SeenPrune.tab7 mootbelllaw13_SeenPrune.bits7 (fun HT_ HW_ => ?_)
     generalize w21.drew = w64 at HO213 HO222 BK209 BK219 HB hHeld ⊢
     refine pure_ (i := 0) (N := some 30) (v := ?_) (a' := ?_) #[τ, φ, φ, φ, φ, φ, φ, φ, φ, φ, φ, φ, φ, φ, φ, φ, φ, φ, φ, φ, φ, φ, φ, φ, φ, φ, φ, φ, φ, φ] rfl rfl (any_of HT_.out (by kernel_rfl)) (fun _ _ _ h => h) (Or.inl ⟨by rfl, ?_⟩) ?_ ?_
     rotate_left
     ·
      intro w'
      go_simp
      with_reducible rfl
     rotate_left
     ·
      simp only [Act.put, List.setIfInBounds_toArray, List.set_cons_zero, List.set_cons_succ, i64_w, i32_w]
      rfl
     refine pure_ (i := 3) (N := some 33) (v := ?_) (a' := ?_) #[τ, φ, φ, τ, φ, φ, φ, φ, φ, φ, φ, φ, φ, φ, φ, φ, φ, φ, φ, φ, φ, φ, φ, φ, φ, φ, φ, φ, φ, φ] rfl rfl (any_of HT_.out (by kernel_rfl)) (fun _ _ _ h => h) (Or.inl ⟨by rfl, ?_⟩) ?_ ?_
     rotate_left
     ·
      intro w'
      go_simp
      with_reducible rfl
     rotate_left
     ·
      simp only [Act.put, List.setIfInBounds_toArray, List.set_cons_zero, List.set_cons_succ, i64_w, i32_w]
      rfl
     refine take_ (i := 1) (N := some 31) (v := ?_) (a' := ?_) #[τ, τ, φ, τ, φ, φ, φ, φ, φ, φ, φ, φ, φ, φ, φ, φ, φ, φ, φ, φ, φ, φ, φ, φ, φ, φ, φ, φ, φ, φ] rfl rfl (take_ofW HT_.out HW_.out (by kernel_rfl)) (fun _ _ _ h => h) (Or.inl ⟨by rfl, ?_⟩) hHeld ?_ ?_
     rotate_left
     ·
      rintro w' ⟨s0, s1, s2⟩
      go_simp
      with_reducible rfl
     rotate_left
     ·
      simp only [Act.put, List.setIfInBounds_toArray, List.set_cons_zero, List.set_cons_succ, i64_w, i32_w]
      rfl
     refine take_ (i := 4) (N := some 34) (v := ?_) (a' := ?_) #[τ, τ, φ, τ, τ, φ, φ, φ, φ, φ, φ, φ, φ, φ, φ, φ, φ, φ, φ, φ, φ, φ, φ, φ, φ, φ, φ, φ, φ, φ] rfl rfl (take_ofW HT_.out HW_.out (by kernel_rfl)) (fun _ _ _ h => h) (Or.inl ⟨by rfl, ?_⟩) hHeld ?_ ?_
     rotate_left
     ·
      rintro w' ⟨s0, s1, s2⟩
      go_simp
      with_reducible rfl
     rotate_left
     ·
      simp only [Act.put, List.setIfInBounds_toArray, List.set_cons_zero, List.set_cons_succ, i64_w, i32_w]
      rfl
     refine one_ (i := 2) (N := some 32) #[τ, τ, τ, τ, τ, φ, φ, φ, φ, φ, φ, φ, φ, φ, φ, φ, φ, φ, φ, φ, φ, φ, φ, φ, φ, φ, φ, φ, φ, φ] rfl rfl (one_of HT_.out (by kernel_rfl)) (by decide) (fun K hK => ?_)
     refine goes_ Try.func15 (by kernel_rfl) rfl #[.slice Ao65 t220.length co65, .agg #[.int .i64 t216, .int .i64 t217, .int .i64 t218]] (by rfl) rfl rfl (by (try simp only [List.map_toArray, List.map_cons, List.map_nil]); first | done | rfl | (simp only [List.length_drop, List.length_take]; rfl)) ?_
     with_reducible refine (seen_Has.calls _ _ t220 t216 t217 t218 t223 _ ?side1 ?side2 A22.out).mono ?_
     (case side1 => repeat (first | exact (Kd.R_reads' HO222.out).2.2 | (with_reducible refine Kd.C_alloc ?_ _) | (with_reducible refine Kd.C_drewN ?_ _) | (with_reducible refine Kd.C_drew ?_)))
     (case side2 => exact (Kd.R_reads' HO222.out).2.1)
     rintro e w66 ⟨rfl, hb⟩
     refine ⟨_, rfl, ?_⟩
     have n0_ := Aside0.mk (Kd.R_below (by (with_reducible repeat (first | apply Kd.R_alloc | apply Kd.R_drewN | apply Kd.R_drew)); exact HO213.out) hb)
     have n1_ := Aside0.mk (Kd.R_below (by (with_reducible repeat (first | apply Kd.R_alloc | apply Kd.R_drewN | apply Kd.R_drew)); exact HO222.out) hb)
     have n2_ := Aside0.mk (blk_below (g := gb209) (o := .cells #[.int .i64 a3_0, .int .i64 a3_1, .int .i64 a3_2] 26 (0, 0)) (by (with_reducible repeat (first | refine blk_drewN ?_ _ | refine blk_drew ?_ | refine blk_alloc ?_ _)); exact BK209.out) hb)
     have n3_ := Aside0.mk (blk_below (g := gb219) (o := .cells #[.int .i64 t216, .int .i64 t217, .int .i64 t218] 25 (0, 0)) (by (with_reducible repeat (first | refine blk_drewN ?_ _ | refine blk_drew ?_ | refine blk_alloc ?_ _)); exact BK219.out) hb)
     have n4_ := Aside0.mk (below_step (by repeat (first | (with_reducible first | exact HB.out | apply below_alloc | apply pw_below_drewN | apply below_drew1 | refine below_set ?_ GE209.out | refine below_set ?_ GE219.out) | exact HB.out)) hb)
     clear HO213
     clear HO222
     clear BK209
     clear BK219
     clear HB
     have HO213 := n0_
     have HO222 := n1_
     have BK209 := n2_
     have BK219 := n3_
     have HB := n4_
     clear n0_ n1_ n2_ n3_ n4_
     (try clear hb)
     (try clear hb2)
     (try clear hk)
     (try clear hi)
     refine hK.out _ _ ⟨(blk_cell BK219.out 0).trans rfl, (blk_cell BK219.out 1).trans rfl, (blk_cell BK219.out 2).trans rfl⟩ (fun hHeld => ?_)
     clear hK K
     refine norm_ (a' := ?_) ?_ ?_
     rotate_left
     ·
      show Act.put _ (some 32) _ = _
      simp only [Act.put, List.setIfInBounds_toArray, List.set_cons_zero, List.set_cons_succ, i64_w, i32_w]
      rfl
     refine one_ (i := 5) (N := some 35) #[τ, τ, τ, τ, τ, τ, φ, φ, φ, φ, φ, φ, φ, φ, φ, φ, φ, φ, φ, φ, φ, φ, φ, φ, φ, φ, φ, φ, φ, φ] rfl rfl (one_of HT_.out (by kernel_rfl)) (by decide) (fun K hK => ?_)
     refine goes_ Try.func15 (by kernel_rfl) rfl #[.slice Ao20 t211.length co20, .agg #[.int .i64 t216, .int .i64 t217, .int .i64 t218]] (by rfl) rfl rfl (by (try simp only [List.map_toArray, List.map_cons, List.map_nil]); first | done | rfl | (simp only [List.length_drop, List.length_take]; rfl)) ?_
     with_reducible refine (seen_Has.calls _ _ t211 t216 t217 t218 false _ ?side1 ?side2 A23.out).mono ?_
     (case side1 => repeat (first | exact (Kd.R_reads' HO213.out).2.2 | (with_reducible refine Kd.C_alloc ?_ _) | (with_reducible refine Kd.C_drewN ?_ _) | (with_reducible refine Kd.C_drew ?_)))
     (case side2 => exact (Kd.R_reads' HO213.out).2.1)
     rintro e w67 ⟨rfl, hb⟩
     refine ⟨_, rfl, ?_⟩
     have n0_ := Aside0.mk (Kd.R_below (by (with_reducible repeat (first | apply Kd.R_alloc | apply Kd.R_drewN | apply Kd.R_drew)); exact HO213.out) hb)
     have n1_ := Aside0.mk (Kd.R_below (by (with_reducible repeat (first | apply Kd.R_alloc | apply Kd.R_drewN | apply Kd.R_drew)); exact HO222.out) hb)
     have n2_ := Aside0.mk (blk_below (g := gb209) (o := .cells #[.int .i64 a3_0, .int .i64 a3_1, .int .i64 a3_2] 26 (0, 0)) (by (with_reducible repeat (first | refine blk_drewN ?_ _ | refine blk_drew ?_ | refine blk_alloc ?_ _)); exact BK209.out) hb)
     have n3_ := Aside0.mk (blk_below (g := gb219) (o := .cells #[.int .i64 t216, .int .i64 t217, .int .i64 t218] 25 (0, 0)) (by (with_reducible repeat (first | refine blk_drewN ?_ _ | refine blk_drew ?_ | refine blk_alloc ?_ _)); exact BK219.out) hb)
     have n4_ := Aside0.mk (below_step (by repeat (first | (with_reducible first | exact HB.out | apply below_alloc | apply pw_below_drewN | apply below_drew1 | refine below_set ?_ GE209.out | refine below_set ?_ GE219.out) | exact HB.out)) hb)
     clear HO213
     clear HO222
     clear BK209
     clear BK219
     clear HB
     have HO213 := n0_
     have HO222 := n1_
     have BK209 := n2_
     have BK219 := n3_
     have HB := n4_
     clear n0_ n1_ n2_ n3_ n4_
     (try clear hb)
     (try clear hb2)
     (try clear hk)
     (try clear hi)
     refine hK.out _ _ ⟨(blk_cell BK219.out 0).trans rfl, (blk_cell BK219.out 1).trans rfl, (blk_cell BK219.out 2).trans rfl⟩ (fun hHeld => ?_)
     clear hK K
     refine norm_ (a' := ?_) ?_ ?_
     rotate_left
     ·
      show Act.put _ (some 35) _ = _
      simp only [Act.put, List.setIfInBounds_toArray, List.set_cons_zero, List.set_cons_succ, i64_w, i32_w]
      rfl
     refine pure_ (i := 6) (N := some 36) (v := ?_) (a' := ?_) #[τ, τ, τ, τ, τ, τ, τ, φ, φ, φ, φ, φ, φ, φ, φ, φ, φ, φ, φ, φ, φ, φ, φ, φ, φ, φ, φ, φ, φ, φ] rfl rfl (any_of HT_.out (by kernel_rfl)) (fun _ _ _ h => h) (Or.inl ⟨by rfl, ?_⟩) ?_ ?_
     rotate_left
     ·
      intro w'
      go_simp
      with_reducible rfl
     rotate_left
     ·
      simp only [Act.put, List.setIfInBounds_toArray, List.set_cons_zero, List.set_cons_succ, i64_w, i32_w]
      rfl
     refine pure_ (i := 7) (N := some 37) (v := undef) (a' := ?_) #[τ, τ, τ, τ, τ, τ, τ, τ, φ, φ, φ, φ, φ, φ, φ, φ, φ, φ, φ, φ, φ, φ, φ, φ, φ, φ, φ, φ, φ, φ] rfl rfl (any_of HT_.out (by kernel_rfl)) (fun _ _ _ h => h) (Or.inr ⟨by rfl, rfl⟩) ?_ ?_
     rotate_left
     ·
      simp only [Act.put, List.setIfInBounds_toArray, List.set_cons_zero, List.set_cons_succ, i64_w, i32_w]
      rfl
     refine pure_ (i := 8) (N := some 38) (v := undef) (a' := ?_) #[τ, τ, τ, τ, τ, τ, τ, τ, τ, φ, φ, φ, φ, φ, φ, φ, φ, φ, φ, φ, φ, φ, φ, φ, φ, φ, φ, φ, φ, φ] rfl rfl (any_of HT_.out (by kernel_rfl)) (fun _ _ _ h => h) (Or.inr ⟨by rfl, rfl⟩) ?_ ?_
     rotate_left
     ·
      simp only [Act.put, List.setIfInBounds_toArray, List.set_cons_zero, List.set_cons_succ, i64_w, i32_w]
      rfl
     refine pure_ (i := 9) (N := some 39) (v := undef) (a' := ?_) #[τ, τ, τ, τ, τ, τ, τ, τ, τ, τ, φ, φ, φ, φ, φ, φ, φ, φ, φ, φ, φ, φ, φ, φ, φ, φ, φ, φ, φ, φ] rfl rfl (any_of HT_.out (by kernel_rfl)) (fun _ _ _ h => h) (Or.inr ⟨by rfl, rfl⟩) ?_ ?_
     rotate_left
     ·
      simp only [Act.put, List.setIfInBounds_toArray, List.set_cons_zero, List.set_cons_succ, i64_w, i32_w]
      rfl
     refine pure_ (i := 10) (N := some 40) (v := undef) (a' := ?_) #[τ, τ, τ, τ, τ, τ, τ, τ, τ, τ, τ, φ, φ, φ, φ, φ, φ, φ, φ, φ, φ, φ, φ, φ, φ, φ, φ, φ, φ, φ] rfl rfl (any_of HT_.out (by kernel_rfl)) (fun _ _ _ h => h) (Or.inr ⟨by rfl, rfl⟩) ?_ ?_
     rotate_left
     ·
      simp only [Act.put, List.setIfInBounds_toArray, List.set_cons_zero, List.set_cons_succ, i64_w, i32_w]
      rfl
     refine pure_ (i := 11) (N := some 41) (v := ?_) (a' := ?_) #[τ, τ, τ, τ, τ, τ, τ, τ, τ, τ, τ, τ, φ, φ, φ, φ, φ, φ, φ, φ, φ, φ, φ, φ, φ, φ, φ, φ, φ, φ] rfl rfl (any_of HT_.out (by kernel_rfl)) (fun _ _ _ h => h) (Or.inl ⟨by rfl, ?_⟩) ?_ ?_
     rotate_left
     ·
      intro w'
      go_simp
      with_reducible rfl
     rotate_left
     ·
      simp only [Act.put, List.setIfInBounds_toArray, List.set_cons_zero, List.set_cons_succ, i64_w, i32_w]
      rfl
     refine pure_ (i := 12) (N := some 42) (v := ?_) (a' := ?_) #[τ, τ, τ, τ, τ, τ, τ, τ, τ, τ, τ, τ, τ, φ, φ, φ, φ, φ, φ, φ, φ, φ, φ, φ, φ, φ, φ, φ, φ, φ] rfl rfl (any_of HT_.out (by kernel_rfl)) (fun _ _ _ h => h) (Or.inl ⟨by rfl, ?_⟩) ?_ ?_
     rotate_left
     ·
      intro w'
      go_simp
      with_reducible rfl
     rotate_left
     ·
      simp only [Act.put, List.setIfInBounds_toArray, List.set_cons_zero, List.set_cons_succ, i64_w, i32_w]
      rfl
     refine pure_ (i := 13) (N := some 43) (v := ?_) (a' := ?_) #[τ, τ, τ, τ, τ, τ, τ, τ, τ, τ, τ, τ, τ, τ, φ, φ, φ, φ, φ, φ, φ, φ, φ, φ, φ, φ, φ, φ, φ, φ] rfl rfl (any_of HT_.out (by kernel_rfl)) (fun _ _ _ h => h) (Or.inl ⟨by rfl, ?_⟩) ?_ ?_
     rotate_left
     ·
      intro w'
      go_simp
      with_reducible rfl
     rotate_left
     ·
      simp only [Act.put, List.setIfInBounds_toArray, List.set_cons_zero, List.set_cons_succ, i64_w, i32_w]
      rfl
     refine pure_ (i := 14) (N := some 44) (v := ?_) (a' := ?_) #[τ, τ, τ, τ, τ, τ, τ, τ, τ, τ, τ, τ, τ, τ, τ, φ, φ, φ, φ, φ, φ, φ, φ, φ, φ, φ, φ, φ, φ, φ] rfl rfl (any_of HT_.out (by kernel_rfl)) (fun _ _ _ h => h) (Or.inl ⟨by rfl, ?_⟩) ?_ ?_
     rotate_left
     ·
      intro w'
      go_simp
      with_reducible rfl
     rotate_left
     ·
      simp only [Act.put, List.setIfInBounds_toArray, List.set_cons_zero, List.set_cons_succ, i64_w, i32_w]
      rfl
     refine pure_ (i := 15) (N := some 45) (v := ?_) (a' := ?_) #[τ, τ, τ, τ, τ, τ, τ, τ, τ, τ, τ, τ, τ, τ, τ, τ, φ, φ, φ, φ, φ, φ, φ, φ, φ, φ, φ, φ, φ, φ] rfl rfl (any_of HT_.out (by kernel_rfl)) (fun _ _ _ h => h) (Or.inl ⟨by rfl, ?_⟩) ?_ ?_
     rotate_left
     ·
      intro w'
      go_simp
      with_reducible rfl
     rotate_left
     ·
      simp only [Act.put, List.setIfInBounds_toArray, List.set_cons_zero, List.set_cons_succ, i64_w, i32_w]
      rfl
     refine pure_ (i := 17) (N := some 47) (v := ?_) (a' := ?_) #[τ, τ, τ, τ, τ, τ, τ, τ, τ, τ, τ, τ, τ, τ, τ, τ, φ, τ, φ, φ, φ, φ, φ, φ, φ, φ, φ, φ, φ, φ] rfl rfl (any_of HT_.out (by kernel_rfl)) (fun _ _ _ h => h) (Or.inl ⟨by rfl, ?_⟩) ?_ ?_
     rotate_left
     ·
      intro w'
      go_simp
      with_reducible rfl
     rotate_left
     ·
      simp only [Act.put, List.setIfInBounds_toArray, List.set_cons_zero, List.set_cons_succ, i64_w, i32_w]
      rfl
     refine pure_ (i := 18) (N := some 48) (v := ?_) (a' := ?_) #[τ, τ, τ, τ, τ, τ, τ, τ, τ, τ, τ, τ, τ, τ, τ, τ, φ, τ, τ, φ, φ, φ, φ, φ, φ, φ, φ, φ, φ, φ] rfl rfl (any_of HT_.out (by kernel_rfl)) (fun _ _ _ h => h) (Or.inl ⟨by rfl, ?_⟩) ?_ ?_
     rotate_left
     ·
      intro w'
      go_simp
      with_reducible rfl
     rotate_left
     ·
      simp only [Act.put, List.setIfInBounds_toArray, List.set_cons_zero, List.set_cons_succ, i64_w, i32_w]
      rfl
     refine pure_ (i := 19) (N := some 49) (v := ?_) (a' := ?_) #[τ, τ, τ, τ, τ, τ, τ, τ, τ, τ, τ, τ, τ, τ, τ, τ, φ, τ, τ, τ, φ, φ, φ, φ, φ, φ, φ, φ, φ, φ] rfl rfl (any_of HT_.out (by kernel_rfl)) (fun _ _ _ h => h) (Or.inl ⟨by rfl, ?_⟩) ?_ ?_
     rotate_left
     ·
      intro w'
      go_simp
      with_reducible rfl
     rotate_left
     ·
      simp only [Act.put, List.setIfInBounds_toArray, List.set_cons_zero, List.set_cons_succ, i64_w, i32_w]
      rfl
     refine pure_ (i := 20) (N := some 50) (v := ?_) (a' := ?_) #[τ, τ, τ, τ, τ, τ, τ, τ, τ, τ, τ, τ, τ, τ, τ, τ, φ, τ, τ, τ, τ, φ, φ, φ, φ, φ, φ, φ, φ, φ] rfl rfl (any_of HT_.out (by kernel_rfl)) (fun _ _ _ h => h) (Or.inl ⟨by rfl, ?_⟩) ?_ ?_
     rotate_left
     ·
      intro w'
      go_simp
      with_reducible rfl
     rotate_left
     ·
      simp only [Act.put, List.setIfInBounds_toArray, List.set_cons_zero, List.set_cons_succ, i64_w, i32_w]
      rfl
     refine one_ (i := 16) (N := some 46) #[τ, τ, τ, τ, τ, τ, τ, τ, τ, τ, τ, τ, τ, τ, τ, τ, τ, τ, τ, τ, τ, φ, φ, φ, φ, φ, φ, φ, φ, φ] rfl rfl (one_of HT_.out (by kernel_rfl)) (by decide) (fun K hK => ?_)
     refine goes_ Try.func17 (by kernel_rfl) rfl #[.slice Ao65 t220.length co65, .int .i64 t215] (by rfl) rfl rfl (by (try simp only [List.map_toArray, List.map_cons, List.map_nil]); first | done | rfl | (simp only [List.length_drop, List.length_take]; rfl)) ?_
     with_reducible refine (seen_Prune.calls _ _ t220 t215 t233 _ ?side1 ?side2 A58.out).mono ?_
     (case side1 => repeat (first | exact (Kd.R_reads' HO222.out).2.2 | (with_reducible refine Kd.C_alloc ?_ _) | (with_reducible refine Kd.C_drewN ?_ _) | (with_reducible refine Kd.C_drew ?_)))
     (case side2 => exact (Kd.R_reads' HO222.out).2.1)
     rintro e w68 ⟨v234, rfl, ho0, hb⟩
     refine ⟨_, rfl, ?_⟩
     have n0_ := Aside0.mk (Kd.R_elder' (by (with_reducible repeat (first | apply Kd.R_alloc | apply Kd.R_drewN | apply Kd.R_drew)); exact HO213.out) (Kd.R_base ho0) hb)
     have n1_ := Aside0.mk (Kd.R_elder' (by (with_reducible repeat (first | apply Kd.R_alloc | apply Kd.R_drewN | apply Kd.R_drew)); exact HO222.out) (Kd.R_base ho0) hb)
     have n2_ := Aside0.mk (Kd.R_lower (Kd.R_newB (Kd.R_new' (Kd.R_new' ho0 (Kd.R_lt (by (with_reducible repeat (first | apply Kd.R_alloc | apply Kd.R_drewN | apply Kd.R_drew)); exact HO213.out))) (Kd.R_lt (by (with_reducible repeat (first | apply Kd.R_alloc | apply Kd.R_drewN | apply Kd.R_drew)); exact HO222.out))) (g := gb219) (o := .cells #[.int .i64 t216, .int .i64 t217, .int .i64 t218] 25 (0, 0)) (by (with_reducible repeat (first | refine blk_drewN ?_ _ | refine blk_drew ?_ | refine blk_alloc ?_ _)); exact BK219.out)) (below_size (by repeat (first | (with_reducible first | exact HB.out | apply below_alloc | apply pw_below_drewN | apply below_drew1 | refine below_set ?_ GE209.out | refine below_set ?_ GE219.out) | exact HB.out))))
     have n3_ := Aside0.mk (blk_below (g := gb209) (o := .cells #[.int .i64 a3_0, .int .i64 a3_1, .int .i64 a3_2] 26 (0, 0)) (by (with_reducible repeat (first | refine blk_drewN ?_ _ | refine blk_drew ?_ | refine blk_alloc ?_ _)); exact BK209.out) hb)
     have n4_ := Aside0.mk (blk_below (g := gb219) (o := .cells #[.int .i64 t216, .int .i64 t217, .int .i64 t218] 25 (0, 0)) (by (with_reducible repeat (first | refine blk_drewN ?_ _ | refine blk_drew ?_ | refine blk_alloc ?_ _)); exact BK219.out) hb)
     have n5_ := Aside0.mk (below_step (by repeat (first | (with_reducible first | exact HB.out | apply below_alloc | apply pw_below_drewN | apply below_drew1 | refine below_set ?_ GE209.out | refine below_set ?_ GE219.out) | exact HB.out)) hb)
     clear HO213
     clear HO222
     clear BK209
     clear BK219
     clear HB
     have HO213 := n0_
     have HO222 := n1_
     have HO235 := n2_
     have BK209 := n3_
     have BK219 := n4_
     have HB := n5_
     clear n0_ n1_ n2_ n3_ n4_ n5_
     (try clear hb)
     (try clear hb2)
     (try clear hk)
     (try clear hi)
     (try clear ho0)
     refine hK.out _ _ ⟨(blk_cell BK219.out 0).trans rfl, (blk_cell BK219.out 1).trans rfl, (blk_cell BK219.out 2).trans rfl⟩ (fun hHeld => ?_)
     clear hK K
     refine norm_ (a' := ?_) ?_ ?_
     rotate_left
     ·
      show Act.put _ (some 46) _ = _
      simp only [Act.put, List.setIfInBounds_toArray, List.set_cons_zero, List.set_cons_succ, i64_w, i32_w]
      rfl
     refine one_ (i := 21) (N := some 51) #[τ, τ, τ, τ, τ, τ, τ, τ, τ, τ, τ, τ, τ, τ, τ, τ, τ, τ, τ, τ, τ, τ, φ, φ, φ, φ, φ, φ, φ, φ] rfl rfl (one_of HT_.out (by kernel_rfl)) (by decide) (fun K hK => ?_)
     refine goes_ Try.func17 (by kernel_rfl) rfl #[.slice Ao20 t211.length co20, .int .i64 ji59] (by rfl) rfl rfl (by (try simp only [List.map_toArray, List.map_cons, List.map_nil]); first | done | (simp only [hji59]; rfl) | rfl | (simp only [List.length_drop, List.length_take]; rfl)) ?_
     with_reducible refine (seen_Prune.calls _ _ t211 ji59 t236 _ ?side1 ?side2 A60.out).mono ?_
     (case side1 => repeat (first | exact (Kd.R_reads' HO213.out).2.2 | (with_reducible refine Kd.C_alloc ?_ _) | (with_reducible refine Kd.C_drewN ?_ _) | (with_reducible refine Kd.C_drew ?_)))
     (case side2 => exact (Kd.R_reads' HO213.out).2.1)
     rintro e w69 ⟨v237, rfl, ho0, hb⟩
     refine ⟨_, rfl, ?_⟩
     have n0_ := Aside0.mk (Kd.R_elder' (by (with_reducible repeat (first | apply Kd.R_alloc | apply Kd.R_drewN | apply Kd.R_drew)); exact HO213.out) (Kd.R_base ho0) hb)
     have n1_ := Aside0.mk (Kd.R_elder' (by (with_reducible repeat (first | apply Kd.R_alloc | apply Kd.R_drewN | apply Kd.R_drew)); exact HO222.out) (Kd.R_base ho0) hb)
     have n2_ := Aside0.mk (Kd.R_elder' (by (with_reducible repeat (first | apply Kd.R_alloc | apply Kd.R_drewN | apply Kd.R_drew)); exact HO235.out) (Kd.R_base ho0) hb)
     have n3_ := Aside0.mk (Kd.R_lower (Kd.R_newB (Kd.R_new' (Kd.R_new' (Kd.R_new' ho0 (Kd.R_lt (by (with_reducible repeat (first | apply Kd.R_alloc | apply Kd.R_drewN | apply Kd.R_drew)); exact HO213.out))) (Kd.R_lt (by (with_reducible repeat (first | apply Kd.R_alloc | apply Kd.R_drewN | apply Kd.R_drew)); exact HO222.out))) (Kd.R_lt (by (with_reducible repeat (first | apply Kd.R_alloc | apply Kd.R_drewN | apply Kd.R_drew)); exact HO235.out))) (g := gb219) (o := .cells #[.int .i64 t216, .int .i64 t217, .int .i64 t218] 25 (0, 0)) (by (with_reducible repeat (first | refine blk_drewN ?_ _ | refine blk_drew ?_ | refine blk_alloc ?_ _)); exact BK219.out)) (below_size (by repeat (first | (with_reducible first | exact HB.out | apply below_alloc | apply pw_below_drewN | apply below_drew1 | refine below_set ?_ GE209.out | refine below_set ?_ GE219.out) | exact HB.out))))
     have n4_ := Aside0.mk (blk_below (g := gb209) (o := .cells #[.int .i64 a3_0, .int .i64 a3_1, .int .i64 a3_2] 26 (0, 0)) (by (with_reducible repeat (first | refine blk_drewN ?_ _ | refine blk_drew ?_ | refine blk_alloc ?_ _)); exact BK209.out) hb)
     have n5_ := Aside0.mk (blk_below (g := gb219) (o := .cells #[.int .i64 t216, .int .i64 t217, .int .i64 t218] 25 (0, 0)) (by (with_reducible repeat (first | refine blk_drewN ?_ _ | refine blk_drew ?_ | refine blk_alloc ?_ _)); exact BK219.out) hb)
     have n6_ := Aside0.mk (below_step (by repeat (first | (with_reducible first | exact HB.out | apply below_alloc | apply pw_below_drewN | apply below_drew1 | refine below_set ?_ GE209.out | refine below_set ?_ GE219.out) | exact HB.out)) hb)
     clear HO213
     clear HO222
     clear HO235
     clear BK209
     clear BK219
     clear HB
     have HO213 := n0_
     have HO222 := n1_
     have HO235 := n2_
     have HO238 := n3_
     have BK209 := n4_
     have BK219 := n5_
     have HB := n6_
     clear n0_ n1_ n2_ n3_ n4_ n5_ n6_
     (try clear hb)
     (try clear hb2)
     (try clear hk)
     (try clear hi)
     (try clear ho0)
     obtain ⟨Ao70, co70, eo70⟩ := Kd.R_slice HO235.out
     (first | subst eo70 | (injection eo70 with f1_ f2_ f3_; have f4_ := f1_.symm; have f5_ := f3_.symm; clear f1_ f2_ f3_; subst f4_; subst f5_))
     obtain ⟨Ao71, co71, eo71⟩ := Kd.R_slice HO238.out
     (first | subst eo71 | (injection eo71 with f1_ f2_ f3_; have f4_ := f1_.symm; have f5_ := f3_.symm; clear f1_ f2_ f3_; subst f4_; subst f5_))
     refine hK.out _ _ ⟨(blk_cell BK219.out 0).trans rfl, (blk_cell BK219.out 1).trans rfl, (blk_cell BK219.out 2).trans rfl⟩ (fun hHeld => ?_)
     clear hK K
     refine norm_ (a' := ?_) ?_ ?_
     rotate_left
     ·
      show Act.put _ (some 51) _ = _
      simp only [Act.put, List.setIfInBounds_toArray, List.set_cons_zero, List.set_cons_succ, i64_w, i32_w]
      rfl
     refine one_ (i := 22) (N := some 52) #[τ, τ, τ, τ, τ, τ, τ, τ, τ, τ, τ, τ, τ, τ, τ, τ, τ, τ, τ, τ, τ, τ, τ, φ, φ, φ, φ, φ, φ, φ] rfl rfl (one_of HT_.out (by kernel_rfl)) (by decide) (fun K hK => ?_)
     refine goes_ Try.func14 (by kernel_rfl) rfl #[.slice Ao70 t233.length co70, .slice Ao71 t236.length co71] (by rfl) rfl rfl (by (try simp only [List.map_toArray, List.map_cons, List.map_nil]); first | done | rfl | (simp only [List.length_drop, List.length_take]; rfl)) ?_
     with_reducible refine (mootbellref13_Same.calls k _ _ t233 _ _ t236 true _ ?side1 ?side2 ?side3 ?side4 A61.out).mono ?_
     (case side1 => repeat (first | exact (Kd.R_reads' HO235.out).2.2 | (with_reducible refine Kd.C_alloc ?_ _) | (with_reducible refine Kd.C_drewN ?_ _) | (with_reducible refine Kd.C_drew ?_)))
     (case side2 => exact (Kd.R_reads' HO235.out).2.1)
     (case side3 => repeat (first | exact (Kd.R_reads' HO238.out).2.2 | (with_reducible refine Kd.C_alloc ?_ _) | (with_reducible refine Kd.C_drewN ?_ _) | (with_reducible refine Kd.C_drew ?_)))
     (case side4 => exact (Kd.R_reads' HO238.out).2.1)
     rintro e w' ⟨rfl, ⟨nd, rfl⟩⟩
     refine ⟨_, rfl, ?_⟩
     refine hK.out _ _ ⟨(blk_cell BK219.out 0).trans rfl, (blk_cell BK219.out 1).trans rfl, (blk_cell BK219.out 2).trans rfl⟩ (fun hHeld => ?_)
     clear hK K
     refine norm_ (a' := ?_) ?_ ?_
     rotate_left
     ·
      show Act.put _ (some 52) _ = _
      simp only [Act.put, List.setIfInBounds_toArray, List.set_cons_zero, List.set_cons_succ, i64_w, i32_w]
      rfl
     refine pure_ (i := 23) (N := some 53) (v := ?_) (a' := ?_) #[τ, τ, τ, τ, τ, τ, τ, τ, τ, τ, τ, τ, τ, τ, τ, τ, τ, τ, τ, τ, τ, τ, τ, τ, φ, φ, φ, φ, φ, φ] rfl rfl (any_of HT_.out (by kernel_rfl)) (fun _ _ _ h => h) (Or.inl ⟨by rfl, ?_⟩) ?_ ?_
     rotate_left
     ·
      intro w'
      go_simp
      with_reducible rfl
     rotate_left
     ·
      simp only [Act.put, List.setIfInBounds_toArray, List.set_cons_zero, List.set_cons_succ, i64_w, i32_w]
      rfl
     refine pure_ (i := 24) (N := some 54) (v := ?_) (a' := ?_) #[τ, τ, τ, τ, τ, τ, τ, τ, τ, τ, τ, τ, τ, τ, τ, τ, τ, τ, τ, τ, τ, τ, τ, τ, τ, φ, φ, φ, φ, φ] rfl rfl (any_of HT_.out (by kernel_rfl)) (fun _ _ _ h => h) (Or.inl ⟨by rfl, ?_⟩) ?_ ?_
     rotate_left
     ·
      intro w'
      go_simp
      with_reducible rfl
     rotate_left
     ·
      simp only [Act.put, List.setIfInBounds_toArray, List.set_cons_zero, List.set_cons_succ, i64_w, i32_w]
      rfl
     refine pure_ (i := 25) (N := some 55) (v := ?_) (a' := ?_) #[τ, τ, τ, τ, τ, τ, τ, τ, τ, τ, τ, τ, τ, τ, τ, τ, τ, τ, τ, τ, τ, τ, τ, τ, τ, τ, φ, φ, φ, φ] rfl rfl (any_of HT_.out (by kernel_rfl)) (fun _ _ _ h => h) (Or.inl ⟨by rfl, ?_⟩) ?_ ?_
     rotate_left
     ·
      intro w'
      go_simp
      with_reducible rfl
     rotate_left
     ·
      simp only [Act.put, List.setIfInBounds_toArray, List.set_cons_zero, List.set_cons_succ, i64_w, i32_w]
      rfl
     refine pure_ (i := 26) (N := some 56) (v := ?_) (a' := ?_) #[τ, τ, τ, τ, τ, τ, τ, τ, τ, τ, τ, τ, τ, τ, τ, τ, τ, τ, τ, τ, τ, τ, τ, τ, τ, τ, τ, φ, φ, φ] rfl rfl (any_of HT_.out (by kernel_rfl)) (fun _ _ _ h => h) (Or.inl ⟨by rfl, ?_⟩) ?_ ?_
     rotate_left
     ·
      intro w'
      go_simp
      with_reducible rfl
     rotate_left
     ·
      simp only [Act.put, List.setIfInBounds_toArray, List.set_cons_zero, List.set_cons_succ, i64_w, i32_w]
      rfl
     refine one_ (i := 27) (N := some 57) #[τ, τ, τ, τ, τ, τ, τ, τ, τ, τ, τ, τ, τ, τ, τ, τ, τ, τ, τ, τ, τ, τ, τ, τ, τ, τ, τ, τ, φ, φ] rfl rfl (one_of HT_.out (by kernel_rfl)) (by decide) (fun K hK => ?_)
     refine goes_ Try.func22 (by kernel_rfl) rfl #[.slice Ao65 t220.length co65] (by rfl) rfl rfl (by (try simp only [List.map_toArray, List.map_cons, List.map_nil]); first | done | rfl | (simp only [List.length_drop, List.length_take]; rfl)) ?_
     with_reducible refine (seen_Right.calls _ _ t220 t240 _ ?side1 ?side2 A63.out).mono ?_
     (case side1 => repeat (first | exact (Kd.R_reads' HO222.out).2.2 | (with_reducible refine Kd.C_alloc ?_ _) | (with_reducible refine Kd.C_drewN ?_ _) | (with_reducible refine Kd.C_drew ?_)))
     (case side2 => exact (Kd.R_reads' HO222.out).2.1)
     rintro e w72 ⟨rfl, hb⟩
     refine ⟨_, rfl, ?_⟩
     have n0_ := Aside0.mk (Kd.R_below (by (with_reducible repeat (first | apply Kd.R_alloc | apply Kd.R_drewN | apply Kd.R_drew)); exact HO213.out) hb)
     have n1_ := Aside0.mk (Kd.R_below (by (with_reducible repeat (first | apply Kd.R_alloc | apply Kd.R_drewN | apply Kd.R_drew)); exact HO222.out) hb)
     have n2_ := Aside0.mk (Kd.R_below (by (with_reducible repeat (first | apply Kd.R_alloc | apply Kd.R_drewN | apply Kd.R_drew)); exact HO235.out) hb)
     have n3_ := Aside0.mk (Kd.R_below (by (with_reducible repeat (first | apply Kd.R_alloc | apply Kd.R_drewN | apply Kd.R_drew)); exact HO238.out) hb)
     have n4_ := Aside0.mk (blk_below (g := gb209) (o := .cells #[.int .i64 a3_0, .int .i64 a3_1, .int .i64 a3_2] 26 (0, 0)) (by (with_reducible repeat (first | refine blk_drewN ?_ _ | refine blk_drew ?_ | refine blk_alloc ?_ _)); exact BK209.out) hb)
     have n5_ := Aside0.mk (blk_below (g := gb219) (o := .cells #[.int .i64 t216, .int .i64 t217, .int .i64 t218] 25 (0, 0)) (by (with_reducible repeat (first | refine blk_drewN ?_ _ | refine blk_drew ?_ | refine blk_alloc ?_ _)); exact BK219.out) hb)
     have n6_ := Aside0.mk (below_step (by repeat (first | (with_reducible first | exact HB.out | apply below_alloc | apply pw_below_drewN | apply below_drew1 | refine below_set ?_ GE209.out | refine below_set ?_ GE219.out) | exact HB.out)) hb)
     clear HO213
     clear HO222
     clear HO235
     clear HO238
     clear BK209
     clear BK219
     clear HB
     have HO213 := n0_
     have HO222 := n1_
     have HO235 := n2_
     have HO238 := n3_
     have BK209 := n4_
     have BK219 := n5_
     have HB := n6_
     clear n0_ n1_ n2_ n3_ n4_ n5_ n6_
     (try clear hb)
     (try clear hb2)
     (try clear hk)
     (try clear hi)
     refine hK.out _ _ ⟨(blk_cell BK219.out 0).trans rfl, (blk_cell BK219.out 1).trans rfl, (blk_cell BK219.out 2).trans rfl⟩ (fun hHeld => ?_)
     clear hK K
     refine norm_ (a' := ?_) ?_ ?_
     rotate_left
     ·
      show Act.put _ (some 57) _ = _
      simp only [Act.put, List.setIfInBounds_toArray, List.set_cons_zero, List.set_cons_succ, i64_w, i32_w]
      rfl
     refine pure_ (i := 28) (N := some 58) (v := ?_) (a' := ?_) #[τ, τ, τ, τ, τ, τ, τ, τ, τ, τ, τ, τ, τ, τ, τ, τ, τ, τ, τ, τ, τ, τ, τ, τ, τ, τ, τ, τ, τ, φ] rfl rfl (any_of HT_.out (by kernel_rfl)) (fun _ _ _ h => h) (Or.inl ⟨by rfl, ?_⟩) ?_ ?_
     rotate_left
     ·
      intro w'
      go_simp
      with_reducible rfl
     rotate_left
     ·
      simp only [Act.put, List.setIfInBounds_toArray, List.set_cons_zero, List.set_cons_succ, i64_w, i32_w]
      rfl
     refine pure_ (i := 29) (N := some 59) (v := ?_) (a' := ?_) #[τ, τ, τ, τ, τ, τ, τ, τ, τ, τ, τ, τ, τ, τ, τ, τ, τ, τ, τ, τ, τ, τ, τ, τ, τ, τ, τ, τ, τ, τ] rfl rfl (any_of HT_.out (by kernel_rfl)) (fun _ _ _ h => h) (Or.inl ⟨by rfl, ?_⟩) ?_ ?_
     rotate_left
     ·
      intro w'
      go_simp
      with_reducible rfl
     rotate_left
     ·
      simp only [Act.put, List.setIfInBounds_toArray, List.set_cons_zero, List.set_cons_succ, i64_w, i32_w]
      rfl
     refine done_ (done_of HT_.out (by kernel_rfl)) ?_
     try go_wp2
     go_meet
     case rel => exact ⟨_, (!t240), (by first | rfl | (simp; done) | (simp [*]; done)), H', ⟨by first | omega | exact Nat.le_refl _⟩, ⟨by (with_reducible repeat (first | apply Kd.R_alloc | apply Kd.R_drewN | apply Kd.R_drew)); exact Kd.R_mono HO213.out (fun _ hk => hk.1.1.1.2)⟩, ⟨by (with_reducible repeat (first | refine blk_drewN ?_ _ | refine blk_drew ?_ | refine blk_alloc ?_ _)); exact BK209.out⟩, ⟨by (with_reducible repeat (first | refine blk_drewN ?_ _ | refine blk_drew ?_ | refine blk_alloc ?_ _)); exact BK219.out⟩, ⟨by repeat (first | (with_reducible first | exact HB.out | apply below_alloc | apply pw_below_drewN | apply below_drew1 | refine below_set ?_ GE209.out | refine below_set ?_ GE219.out) | exact HB.out)⟩⟩
    ·
     rw [if_neg c62] at H; (exfalso; rw [HRT.out] at H; cases k <;> simp [mootbelllaw13_SeenPrune.j0] at H)
 case rest =>
  clear HC11
  try clear c1
  try clear c2
  try clear p2
  try clear c6
  try clear c14
  try clear c15
  try clear c17
  try clear c22
  try clear c62
  obtain ⟨kq, x59_10, rfl, HA, HJ10, HO_10, BK209, BK219, HB⟩ := hcut
  cases kq with
  | zero => exact absurd HA.out (by simp [mootbelllaw13_SeenPrune.j0])
  | succ kj10 =>
   have H := HA.out
   clear HA
   simp only [mootbelllaw13_SeenPrune.j0] at H
   by_cases c81 : x59_10 = true
   ·
    rw [if_pos c81] at H; (have hz_ := Option.some.inj H; rw [HRT.out] at hz_; cases hz_)
   ·
    replace c81 := Bool.eq_false_iff.mpr c81
    subst c81
    have H1 : ((seen_Of.f t211 t216 t217).bind fun t241 => (mootbelllaw13_SeenPrune.l0 kj10 t210 t211 t241 false 0 t216 t217 t218)) = some r := by rw [if_neg (show ¬ (false = true) by decide)] at H; exact H
    clear H
    have H := H1
    clear H1
    replace H := Option.bind_eq_some_iff.mp H
    obtain ⟨t241, A820, H⟩ := H
    replace H : (mootbelllaw13_SeenPrune.l0 kj10 t210 t211 t241 false 0 t216 t217 t218) = some r := H
    have A82 := Aside0.mk A820
    clear A820
    have H' := Aside0.mk H
    clear H
    have hnb83 := NB219_209.out
    have hnc83 := NB209_219.out
    have hcz84_0 : wc.cell? ⟨gb219, 0, none⟩ = some (.int .i64 t216) := (blk_cell BK219.out 0).trans rfl
    have hcz84_1 : wc.cell? ⟨gb219, 1, none⟩ = some (.int .i64 t217) := (blk_cell BK219.out 1).trans rfl
    have hcz84_2 : wc.cell? ⟨gb219, 2, none⟩ = some (.int .i64 t218) := (blk_cell BK219.out 2).trans rfl
    have hfz84_0 := blk_frozen BK219.out 0
    have hfz84_1 := blk_frozen BK219.out 1
    have hfz84_2 := blk_frozen BK219.out 2
    go_wp2_with (first | ((with_reducible refine gate_callee (f := 20) rfl ?_); refine goesL_ (some 65) rfl rfl Try.func20 (by kernel_rfl) rfl #[.slice Ao20 t211.length co20, .int .i64 t216, .int .i64 t217] rfl (by (try simp only [List.map_toArray, List.map_cons, List.map_nil]); first | done | rfl | (simp only [List.length_drop, List.length_take]; rfl)) ?_; (with_reducible refine (seen_Of.calls _ _ t211 t216 t217 t241 _ ?side1 ?side2 A82.out).mono ?_); (case side1 => repeat (first | exact (Kd.R_reads' HO_10.out).2.2 | (with_reducible refine Kd.C_alloc ?_ _) | (with_reducible refine Kd.C_drewN ?_ _) | (with_reducible refine Kd.C_drew ?_))); (case side2 => exact (Kd.R_reads' HO_10.out).2.1); rintro e w85 ⟨v242, rfl, ho0, hb⟩; refine ⟨_, rfl, ?_⟩; have n0_ := Aside0.mk (Kd.R_below (by (with_reducible repeat (first | apply Kd.R_alloc | apply Kd.R_drewN | apply Kd.R_drew)); exact HO_10.out) hb); have n1_ := Aside0.mk (Kd.R_lower ho0 (below_size (by repeat (first | (with_reducible first | exact HB.out | apply below_alloc | apply pw_below_drewN | apply below_drew1 | refine below_set ?_ GE209.out | refine below_set ?_ GE219.out) | exact HB.out)))); have n2_ := Aside0.mk (blk_below (g := gb209) (o := .cells #[.int .i64 a3_0, .int .i64 a3_1, .int .i64 a3_2] 26 (0, 0)) (by (with_reducible repeat (first | refine blk_drewN ?_ _ | refine blk_drew ?_ | refine blk_alloc ?_ _)); exact BK209.out) hb); have n3_ := Aside0.mk (blk_below (g := gb219) (o := .cells #[.int .i64 t216, .int .i64 t217, .int .i64 t218] 25 (0, 0)) (by (with_reducible repeat (first | refine blk_drewN ?_ _ | refine blk_drew ?_ | refine blk_alloc ?_ _)); exact BK219.out) hb); have n4_ := Aside0.mk (below_step (by repeat (first | (with_reducible first | exact HB.out | apply below_alloc | apply pw_below_drewN | apply below_drew1 | refine below_set ?_ GE209.out | refine below_set ?_ GE219.out) | exact HB.out)) hb); clear HO_10; clear BK209; clear BK219; clear HB; have HO_10 := n0_; have HO243 := n1_; have BK209 := n2_; have BK219 := n3_; have HB := n4_; clear n0_ n1_ n2_ n3_ n4_; (try clear hb); (try clear hb2); (try clear hk); (try clear hi); (try clear ho0)))
    go_loopg [16, 17] kj10 (fun kq v16 v17 w' => ∃ (x16_2 : Bool) (x17_2 : Int), v16 = .bool x16_2 ∧ v17 = .int .i64 x17_2 ∧ Aside0 (mootbelllaw13_SeenPrune.l0 kq t210 t211 t241 x16_2 x17_2 t216 t217 t218 = some r) ∧ Aside0 (kq ≤ kj10) ∧ Aside0 (Kd.R k25 25 w' w.heap.size (fun k_ => k_ ≠ gb219) (.slice Ao20 t211.length co20) t211) ∧ Aside0 (Kd.R (Kd.int .i64) 3 w' w.heap.size (fun _ => True) v242 t241) ∧ Aside0 (w'.heap[gb209]? = some (.cells #[.int .i64 a3_0, .int .i64 a3_1, .int .i64 a3_2] 26 (0, 0))) ∧ Aside0 (w'.heap[gb219]? = some (.cells #[.int .i64 t216, .int .i64 t217, .int .i64 t218] 25 (0, 0))) ∧ Aside0 (Below w.heap.size w w'))
    case atStart => exact ⟨(false), (0), (by first | rfl | (simp; done) | (simp [*]; done)), (by first | rfl | (simp; done) | (simp [*]; done)), H', ⟨Nat.le_refl _⟩, ⟨by (with_reducible repeat (first | apply Kd.R_alloc | apply Kd.R_drewN | apply Kd.R_drew)); exact HO_10.out⟩, ⟨by (with_reducible repeat (first | apply Kd.R_alloc | apply Kd.R_drewN | apply Kd.R_drew)); exact HO243.out⟩, ⟨by (with_reducible repeat (first | refine blk_drewN ?_ _ | refine blk_drew ?_ | refine blk_alloc ?_ _)); exact BK209.out⟩, ⟨by (with_reducible repeat (first | refine blk_drewN ?_ _ | refine blk_drew ?_ | refine blk_alloc ?_ _)); exact BK219.out⟩, ⟨by repeat (first | (with_reducible first | exact HB.out | apply below_alloc | apply pw_below_drewN | apply below_drew1 | refine below_set ?_ GE209.out | refine below_set ?_ GE219.out) | exact HB.out)⟩⟩
    case round =>
     clear H'
     try clear c1
     try clear c2
     try clear p2
     try clear c6
     try clear c8
     try clear c14
     try clear c15
     try clear c17
     try clear c20
     try clear c22
     try clear c62
     try clear c81
     try clear c83
     try clear hcz84_0
     try clear hcz84_1
     try clear hcz84_2
     try clear hfz84_0
     try clear hfz84_1
     try clear hfz84_2
     try clear p2
     obtain ⟨x16_2, x17_2, rfl, rfl, HA, HK2, HO_10, HO_15, BK209, BK219, HB⟩ := hrel
     cases gk with
     | zero => exact absurd HA.out (by simp [mootbelllaw13_SeenPrune.l0])
     | succ k2 =>
      have H := HA.out
      clear HA
      simp only [mootbelllaw13_SeenPrune.l0] at H
      by_cases c86 : x17_2 < (t241.length : Int)
      ·
       rw [if_pos c86] at H
       have c86b0 : decide (x17_2 < (t241.length : Int)) = true := decide_eq_true c86
       clear c86
       by_cases c87 : x17_2 > 0
       ·
        rw [if_pos c87] at H
        have c87b0 : decide (0 < x17_2) = true := decide_eq_true c87
        clear c87
        obtain ⟨ji88, hji88⟩ : ∃ j_ : Int, (wrap64 (x17_2 - 1)) = j_ := ⟨_, rfl⟩
        replace H : (if 0 ≤ (ji88) then (if (ji88) < (t241.length : Int) then (if 0 ≤ x17_2 then (if (rd t241 (ji88)) ≥ (rd t241 x17_2) then (some false) else ((seen_Has.f t211 t216 t217 (rd t241 x17_2)).bind fun t247 => (if t247 = true then (if x16_2 = true then (mootbelllaw13_SeenPrune.l0 k2 t210 t211 t241 true (wrap64 (x17_2 + 1)) t216 t217 t218) else (mootbelllaw13_SeenPrune.l0 k2 t210 t211 t241 ((rd t241 x17_2) == t218) (wrap64 (x17_2 + 1)) t216 t217 t218)) else (some false)))) else (none)) else (none)) else (none)) = some r := by first | (rw [hji88] at H; exact H) | (simp only [hji88] at H ⊢; exact H)
        have hji88w : (IntKind.i64.wrap (x17_2 - 1)) = ji88 := (i64_w _).trans hji88
        by_cases c89 : 0 ≤ (ji88)
        ·
         rw [if_pos c89] at H
         have c89b0 : decide (0 ≤ (ji88)) = true := decide_eq_true c89
         clear c89
         by_cases c90 : (ji88) < (t241.length : Int)
         ·
          rw [if_pos c90] at H
          have c90b0 : decide ((ji88) < (t241.length : Int)) = true := decide_eq_true c90
          clear c90
          by_cases c91 : 0 ≤ x17_2
          ·
           rw [if_pos c91] at H
           have c91b0 : decide (0 ≤ x17_2) = true := decide_eq_true c91
           clear c91
           by_cases c92 : (rd t241 (ji88)) ≥ (rd t241 x17_2)
           ·
            rw [if_pos c92] at H; (have hz_ := Option.some.inj H; rw [HRT.out] at hz_; cases hz_)
           ·
            rw [if_neg c92] at H
            have c92b0 : decide ((rd t241 x17_2) ≤ (rd t241 (ji88))) = false := decide_eq_false c92
            clear c92
            replace H := Option.bind_eq_some_iff.mp H
            obtain ⟨t247, A950, H⟩ := H
            replace H : (if t247 = true then (if x16_2 = true then (mootbelllaw13_SeenPrune.l0 k2 t210 t211 t241 true (wrap64 (x17_2 + 1)) t216 t217 t218) else (mootbelllaw13_SeenPrune.l0 k2 t210 t211 t241 ((rd t241 x17_2) == t218) (wrap64 (x17_2 + 1)) t216 t217 t218)) else (some false)) = some r := H
            have A95 := Aside0.mk A950
            clear A950
            by_cases c96 : t247 = true
            ·
             subst c96
             have H1 : (if x16_2 = true then (mootbelllaw13_SeenPrune.l0 k2 t210 t211 t241 true (wrap64 (x17_2 + 1)) t216 t217 t218) else (mootbelllaw13_SeenPrune.l0 k2 t210 t211 t241 ((rd t241 x17_2) == t218) (wrap64 (x17_2 + 1)) t216 t217 t218)) = some r := by rw [if_pos rfl] at H; exact H
             clear H
             have H := H1
             clear H1
             by_cases c97 : x16_2 = true
             ·
              subst c97
              have H1 : (mootbelllaw13_SeenPrune.l0 k2 t210 t211 t241 true (wrap64 (x17_2 + 1)) t216 t217 t218) = some r := by rw [if_pos rfl] at H; exact H
              clear H
              have H := H1
              clear H1
              have H' := Aside0.mk H
              clear H
              obtain ⟨Ao98, co98, eo98⟩ := Kd.R_slice HO_15.out
              subst eo98
              try go_wp2
              have n0_ := Aside0.mk (Kd.R_drew HO_10.out)
              have n1_ := Aside0.mk (Kd.R_drew HO_15.out)
              have n2_ := Aside0.mk (blk_drew BK209.out)
              have n3_ := Aside0.mk (blk_drew BK219.out)
              have n4_ := Aside0.mk (below_drew1 HB.out)
              clear HO_10
              clear HO_15
              clear BK209
              clear BK219
              clear HB
              have HO_10 := n0_
              have HO_15 := n1_
              have BK209 := n2_
              have BK219 := n3_
              have HB := n4_
              clear n0_ n1_ n2_ n3_ n4_
              have p244 : 0 ≤ ((ji88) : Int) := of_decide_eq_true (by first | (with_reducible assumption) | assumption)
              have q244 : (ji88) < (t241.length : Int) := of_decide_eq_true (by first | (with_reducible assumption) | assumption)
              obtain ⟨ad244, e244, hx244_0⟩ := Kd.at_int (Kd.R_reads' HO_15.out).2.2 (ji88) p244 q244
              cases e244
              replace p244 := eq_true p244
              replace q244 := eq_true q244
              have p245 : 0 ≤ (x17_2 : Int) := of_decide_eq_true (by first | (with_reducible assumption) | assumption)
              have q245 : x17_2 < (t241.length : Int) := of_decide_eq_true (by first | (with_reducible assumption) | assumption)
              obtain ⟨ad245, e245, hx245_0⟩ := Kd.at_int (Kd.R_reads' HO_15.out).2.2 x17_2 p245 q245
              obtain rfl : ad244 = ad245 := (by injection e245)
              replace p245 := eq_true p245
              replace q245 := eq_true q245
              have p246 : 0 ≤ (x17_2 : Int) := of_decide_eq_true (by first | (with_reducible assumption) | assumption)
              have q246 : x17_2 < (t241.length : Int) := of_decide_eq_true (by first | (with_reducible assumption) | assumption)
              obtain ⟨ad246, e246, hx246_0⟩ := Kd.at_int (Kd.R_reads' HO_15.out).2.2 x17_2 p246 q246
              obtain rfl : ad244 = ad246 := (by injection e246)
              replace p246 := eq_true p246
              replace q246 := eq_true q246
              refine start_ (n := 28) (S := fun w' => w'.cell? ⟨gb219, 0, none⟩ = some (.int .i64 t216) ∧ w'.cell? ⟨gb219, 1, none⟩ = some (.int .i64 t217) ∧ w'.cell? ⟨gb219, 2, none⟩ = some (.int .i64 t218) ∧ w'.cell? (ad244.add ((ji88)).toNat) = some (.int .i64 (rd t241 (ji88))) ∧ w'.cell? (ad244.add (x17_2).toNat) = some (.int .i64 (rd t241 x17_2)) ∧ w'.cell? (ad244.add (x17_2).toNat) = some (.int .i64 (rd t241 x17_2))) (ds := []) #[φ, φ, φ, φ, φ, φ, φ, φ, φ, φ, φ, φ, φ, φ, φ, φ, φ, φ, φ, φ, φ, φ, φ, φ, φ, φ, φ, φ] (by kernel_rfl) rfl rfl ⟨(blk_cell BK219.out 0).trans rfl, (blk_cell BK219.out 1).trans rfl, (blk_cell BK219.out 2).trans rfl, hx244_0, hx245_0, hx246_0⟩ (fun hHeld => ?_); refine with_tabW mootbelllaw13_SeenPrune.tab14 mootbelllaw13_SeenPrune.bits14 (fun HT_ HW_ => ?_)
              generalize wr.drew = w99 at HO_10 HO_15 BK209 BK219 HB hx244_0 hx245_0 hx246_0 hHeld ⊢
              refine pure_ (i := 0) (N := some 72) (v := ?_) (a' := ?_) #[τ, φ, φ, φ, φ, φ, φ, φ, φ, φ, φ, φ, φ, φ, φ, φ, φ, φ, φ, φ, φ, φ, φ, φ, φ, φ, φ, φ] rfl rfl (any_of HT_.out (by kernel_rfl)) (fun _ _ _ h => h) (Or.inl ⟨by rfl, ?_⟩) ?_ ?_
              rotate_left
              ·
               intro w'
               go_simp
               with_reducible rfl
              rotate_left
              ·
               simp only [Act.put, List.setIfInBounds_toArray, List.set_cons_zero, List.set_cons_succ, i64_w, i32_w]
               rfl
              refine pure_ (i := 1) (N := some 73) (v := ?_) (a' := ?_) #[τ, τ, φ, φ, φ, φ, φ, φ, φ, φ, φ, φ, φ, φ, φ, φ, φ, φ, φ, φ, φ, φ, φ, φ, φ, φ, φ, φ] rfl rfl (any_of HT_.out (by kernel_rfl)) (fun _ _ _ h => h) (Or.inl ⟨by rfl, ?_⟩) ?_ ?_
              rotate_left
              ·
               intro w'
               go_simp
               with_reducible rfl
              rotate_left
              ·
               simp only [Act.put, List.setIfInBounds_toArray, List.set_cons_zero, List.set_cons_succ, i64_w, i32_w]
               rfl
              refine pure_ (i := 2) (N := some 74) (v := ?_) (a' := ?_) #[τ, τ, τ, φ, φ, φ, φ, φ, φ, φ, φ, φ, φ, φ, φ, φ, φ, φ, φ, φ, φ, φ, φ, φ, φ, φ, φ, φ] rfl rfl (any_of HT_.out (by kernel_rfl)) (fun _ _ _ h => h) (Or.inl ⟨by rfl, ?_⟩) ?_ ?_
              rotate_left
              ·
               intro w'
               go_simp
               with_reducible rfl
              rotate_left
              ·
               simp only [Act.put, List.setIfInBounds_toArray, List.set_cons_zero, List.set_cons_succ, i64_w, i32_w]
               rfl
              refine pure_ (i := 3) (N := some 75) (v := ?_) (a' := ?_) #[τ, τ, τ, τ, φ, φ, φ, φ, φ, φ, φ, φ, φ, φ, φ, φ, φ, φ, φ, φ, φ, φ, φ, φ, φ, φ, φ, φ] rfl rfl (any_of HT_.out (by kernel_rfl)) (fun _ _ _ h => h) (Or.inl ⟨by rfl, ?_⟩) ?_ ?_
              rotate_left
              ·
               intro w'
               go_simp
               with_reducible rfl
              rotate_left
              ·
               simp only [Act.put, List.setIfInBounds_toArray, List.set_cons_zero, List.set_cons_succ, i64_w, i32_w]
               rfl
              refine pure_ (i := 4) (N := some 76) (v := ?_) (a' := ?_) #[τ, τ, τ, τ, τ, φ, φ, φ, φ, φ, φ, φ, φ, φ, φ, φ, φ, φ, φ, φ, φ, φ, φ, φ, φ, φ, φ, φ] rfl rfl (any_of HT_.out (by kernel_rfl)) (fun _ _ _ h => h) (Or.inl ⟨by rfl, ?_⟩) ?_ ?_
              rotate_left
              ·
               intro w'
               go_simp
               with_reducible rfl
              rotate_left
              ·
               simp only [Act.put, List.setIfInBounds_toArray, List.set_cons_zero, List.set_cons_succ, i64_w, i32_w]
               rfl
              refine pure_ (i := 5) (N := some 77) (v := ?_) (a' := ?_) #[τ, τ, τ, τ, τ, τ, φ, φ, φ, φ, φ, φ, φ, φ, φ, φ, φ, φ, φ, φ, φ, φ, φ, φ, φ, φ, φ, φ] rfl rfl (any_of HT_.out (by kernel_rfl)) (fun _ _ _ h => h) (Or.inl ⟨by rfl, ?_⟩) ?_ ?_
              rotate_left
              ·
               intro w'
               go_simp
               with_reducible rfl
              rotate_left
              ·
               simp only [Act.put, List.setIfInBounds_toArray, List.set_cons_zero, List.set_cons_succ, i64_w, i32_w]
               rfl
              refine pure_ (i := 6) (N := some 78) (v := ?_) (a' := ?_) #[τ, τ, τ, τ, τ, τ, τ, φ, φ, φ, φ, φ, φ, φ, φ, φ, φ, φ, φ, φ, φ, φ, φ, φ, φ, φ, φ, φ] rfl rfl (any_of HT_.out (by kernel_rfl)) (fun _ _ _ h => h) (Or.inl ⟨by rfl, ?_⟩) ?_ ?_
              rotate_left
              ·
               intro w'
               go_simp
               with_reducible rfl
              rotate_left
              ·
               simp only [Act.put, List.setIfInBounds_toArray, List.set_cons_zero, List.set_cons_succ, i64_w, i32_w]
               rfl
              refine pure_ (i := 8) (N := some 80) (v := ?_) (a' := ?_) #[τ, τ, τ, τ, τ, τ, τ, φ, τ, φ, φ, φ, φ, φ, φ, φ, φ, φ, φ, φ, φ, φ, φ, φ, φ, φ, φ, φ] rfl rfl (any_of HT_.out (by kernel_rfl)) (fun _ _ _ h => h) (Or.inl ⟨by rfl, ?_⟩) ?_ ?_
              rotate_left
              ·
               intro w'
               go_simp
               with_reducible rfl
              rotate_left
              ·
               simp only [Act.put, List.setIfInBounds_toArray, List.set_cons_zero, List.set_cons_succ, i64_w, i32_w]
               rfl
              refine pure_ (i := 9) (N := some 81) (v := ?_) (a' := ?_) #[τ, τ, τ, τ, τ, τ, τ, φ, τ, τ, φ, φ, φ, φ, φ, φ, φ, φ, φ, φ, φ, φ, φ, φ, φ, φ, φ, φ] rfl rfl (any_of HT_.out (by kernel_rfl)) (fun _ _ _ h => h) (Or.inl ⟨by rfl, ?_⟩) ?_ ?_
              rotate_left
              ·
               intro w'
               go_simp
               with_reducible rfl
              rotate_left
              ·
               simp only [Act.put, List.setIfInBounds_toArray, List.set_cons_zero, List.set_cons_succ, i64_w, i32_w]
               rfl
              refine pure_ (i := 10) (N := some 82) (v := ?_) (a' := ?_) #[τ, τ, τ, τ, τ, τ, τ, φ, τ, τ, τ, φ, φ, φ, φ, φ, φ, φ, φ, φ, φ, φ, φ, φ, φ, φ, φ, φ] rfl rfl (any_of HT_.out (by kernel_rfl)) (fun _ _ _ h => h) (Or.inl ⟨by rfl, ?_⟩) ?_ ?_
              rotate_left
              ·
               intro w'
               go_simp
               with_reducible rfl
              rotate_left
              ·
               simp only [Act.put, List.setIfInBounds_toArray, List.set_cons_zero, List.set_cons_succ, i64_w, i32_w]
               rfl
              refine take_ (i := 7) (N := some 79) (v := ?_) (a' := ?_) #[τ, τ, τ, τ, τ, τ, τ, τ, τ, τ, τ, φ, φ, φ, φ, φ, φ, φ, φ, φ, φ, φ, φ, φ, φ, φ, φ, φ] rfl rfl (take_ofW HT_.out HW_.out (by kernel_rfl)) (fun _ _ _ h => h) (Or.inl ⟨by rfl, ?_⟩) hHeld ?_ ?_
              rotate_left
              ·
               rintro w' ⟨s0, s1, s2, s3, s4, s5⟩
               go_simp
               with_reducible rfl
              rotate_left
              ·
               simp only [Act.put, List.setIfInBounds_toArray, List.set_cons_zero, List.set_cons_succ, i64_w, i32_w]
               rfl
              refine take_ (i := 11) (N := some 83) (v := ?_) (a' := ?_) #[τ, τ, τ, τ, τ, τ, τ, τ, τ, τ, τ, τ, φ, φ, φ, φ, φ, φ, φ, φ, φ, φ, φ, φ, φ, φ, φ, φ] rfl rfl (take_ofW HT_.out HW_.out (by kernel_rfl)) (fun _ _ _ h => h) (Or.inl ⟨by rfl, ?_⟩) hHeld ?_ ?_
              rotate_left
              ·
               rintro w' ⟨s0, s1, s2, s3, s4, s5⟩
               go_simp
               with_reducible rfl
              rotate_left
              ·
               simp only [Act.put, List.setIfInBounds_toArray, List.set_cons_zero, List.set_cons_succ, i64_w, i32_w]
               rfl
              refine pure_ (i := 12) (N := some 84) (v := ?_) (a' := ?_) #[τ, τ, τ, τ, τ, τ, τ, τ, τ, τ, τ, τ, τ, φ, φ, φ, φ, φ, φ, φ, φ, φ, φ, φ, φ, φ, φ, φ] rfl rfl (any_of HT_.out (by kernel_rfl)) (fun _ _ _ h => h) (Or.inl ⟨by rfl, ?_⟩) ?_ ?_
              rotate_left
              ·
               intro w'
               go_simp
               with_reducible rfl
              rotate_left
              ·
               simp only [Act.put, List.setIfInBounds_toArray, List.set_cons_zero, List.set_cons_succ, i64_w, i32_w]
               rfl
              refine pure_ (i := 13) (N := some 85) (v := ?_) (a' := ?_) #[τ, τ, τ, τ, τ, τ, τ, τ, τ, τ, τ, τ, τ, τ, φ, φ, φ, φ, φ, φ, φ, φ, φ, φ, φ, φ, φ, φ] rfl rfl (any_of HT_.out (by kernel_rfl)) (fun _ _ _ h => h) (Or.inl ⟨by rfl, ?_⟩) ?_ ?_
              rotate_left
              ·
               intro w'
               go_simp
               with_reducible rfl
              rotate_left
              ·
               simp only [Act.put, List.setIfInBounds_toArray, List.set_cons_zero, List.set_cons_succ, i64_w, i32_w]
               rfl
              refine pure_ (i := 14) (N := some 86) (v := ?_) (a' := ?_) #[τ, τ, τ, τ, τ, τ, τ, τ, τ, τ, τ, τ, τ, τ, τ, φ, φ, φ, φ, φ, φ, φ, φ, φ, φ, φ, φ, φ] rfl rfl (any_of HT_.out (by kernel_rfl)) (fun _ _ _ h => h) (Or.inl ⟨by rfl, ?_⟩) ?_ ?_
              rotate_left
              ·
               intro w'
               go_simp
               with_reducible rfl
              rotate_left
              ·
               simp only [Act.put, List.setIfInBounds_toArray, List.set_cons_zero, List.set_cons_succ, i64_w, i32_w]
               rfl
              refine pure_ (i := 15) (N := some 87) (v := ?_) (a' := ?_) #[τ, τ, τ, τ, τ, τ, τ, τ, τ, τ, τ, τ, τ, τ, τ, τ, φ, φ, φ, φ, φ, φ, φ, φ, φ, φ, φ, φ] rfl rfl (any_of HT_.out (by kernel_rfl)) (fun _ _ _ h => h) (Or.inl ⟨by rfl, ?_⟩) ?_ ?_
              rotate_left
              ·
               intro w'
               go_simp
               with_reducible rfl
              rotate_left
              ·
               simp only [Act.put, List.setIfInBounds_toArray, List.set_cons_zero, List.set_cons_succ, i64_w, i32_w]
               rfl
              refine pure_ (i := 16) (N := some 88) (v := ?_) (a' := ?_) #[τ, τ, τ, τ, τ, τ, τ, τ, τ, τ, τ, τ, τ, τ, τ, τ, τ, φ, φ, φ, φ, φ, φ, φ, φ, φ, φ, φ] rfl rfl (any_of HT_.out (by kernel_rfl)) (fun _ _ _ h => h) (Or.inl ⟨by rfl, ?_⟩) ?_ ?_
              rotate_left
              ·
               intro w'
               go_simp
               with_reducible rfl
              rotate_left
              ·
               simp only [Act.put, List.setIfInBounds_toArray, List.set_cons_zero, List.set_cons_succ, i64_w, i32_w]
               rfl
              refine pure_ (i := 18) (N := some 90) (v := ?_) (a' := ?_) #[τ, τ, τ, τ, τ, τ, τ, τ, τ, τ, τ, τ, τ, τ, τ, τ, τ, φ, τ, φ, φ, φ, φ, φ, φ, φ, φ, φ] rfl rfl (any_of HT_.out (by kernel_rfl)) (fun _ _ _ h => h) (Or.inl ⟨by rfl, ?_⟩) ?_ ?_
              rotate_left
              ·
               intro w'
               go_simp
               with_reducible rfl
              rotate_left
              ·
               simp only [Act.put, List.setIfInBounds_toArray, List.set_cons_zero, List.set_cons_succ, i64_w, i32_w]
               rfl
              refine pure_ (i := 20) (N := some 92) (v := ?_) (a' := ?_) #[τ, τ, τ, τ, τ, τ, τ, τ, τ, τ, τ, τ, τ, τ, τ, τ, τ, φ, τ, φ, τ, φ, φ, φ, φ, φ, φ, φ] rfl rfl (any_of HT_.out (by kernel_rfl)) (fun _ _ _ h => h) (Or.inl ⟨by rfl, ?_⟩) ?_ ?_
              rotate_left
              ·
               intro w'
               go_simp
               with_reducible rfl
              rotate_left
              ·
               simp only [Act.put, List.setIfInBounds_toArray, List.set_cons_zero, List.set_cons_succ, i64_w, i32_w]
               rfl
              refine pure_ (i := 21) (N := some 93) (v := ?_) (a' := ?_) #[τ, τ, τ, τ, τ, τ, τ, τ, τ, τ, τ, τ, τ, τ, τ, τ, τ, φ, τ, φ, τ, τ, φ, φ, φ, φ, φ, φ] rfl rfl (any_of HT_.out (by kernel_rfl)) (fun _ _ _ h => h) (Or.inl ⟨by rfl, ?_⟩) ?_ ?_
              rotate_left
              ·
               intro w'
               go_simp
               with_reducible rfl
              rotate_left
              ·
               simp only [Act.put, List.setIfInBounds_toArray, List.set_cons_zero, List.set_cons_succ, i64_w, i32_w]
               rfl
              refine pure_ (i := 22) (N := some 94) (v := ?_) (a' := ?_) #[τ, τ, τ, τ, τ, τ, τ, τ, τ, τ, τ, τ, τ, τ, τ, τ, τ, φ, τ, φ, τ, τ, τ, φ, φ, φ, φ, φ] rfl rfl (any_of HT_.out (by kernel_rfl)) (fun _ _ _ h => h) (Or.inl ⟨by rfl, ?_⟩) ?_ ?_
              rotate_left
              ·
               intro w'
               go_simp
               with_reducible rfl
              rotate_left
              ·
               simp only [Act.put, List.setIfInBounds_toArray, List.set_cons_zero, List.set_cons_succ, i64_w, i32_w]
               rfl
              refine take_ (i := 17) (N := some 89) (v := ?_) (a' := ?_) #[τ, τ, τ, τ, τ, τ, τ, τ, τ, τ, τ, τ, τ, τ, τ, τ, τ, τ, τ, φ, τ, τ, τ, φ, φ, φ, φ, φ] rfl rfl (take_ofW HT_.out HW_.out (by kernel_rfl)) (fun _ _ _ h => h) (Or.inl ⟨by rfl, ?_⟩) hHeld ?_ ?_
              rotate_left
              ·
               rintro w' ⟨s0, s1, s2, s3, s4, s5⟩
               go_simp
               with_reducible rfl
              rotate_left
              ·
               simp only [Act.put, List.setIfInBounds_toArray, List.set_cons_zero, List.set_cons_succ, i64_w, i32_w]
               rfl
              refine take_ (i := 19) (N := some 91) (v := ?_) (a' := ?_) #[τ, τ, τ, τ, τ, τ, τ, τ, τ, τ, τ, τ, τ, τ, τ, τ, τ, τ, τ, τ, τ, τ, τ, φ, φ, φ, φ, φ] rfl rfl (take_ofW HT_.out HW_.out (by kernel_rfl)) (fun _ _ _ h => h) (Or.inl ⟨by rfl, ?_⟩) hHeld ?_ ?_
              rotate_left
              ·
               rintro w' ⟨s0, s1, s2, s3, s4, s5⟩
               go_simp
               with_reducible rfl
              rotate_left
              ·
               simp only [Act.put, List.setIfInBounds_toArray, List.set_cons_zero, List.set_cons_succ, i64_w, i32_w]
               rfl
              refine take_ (i := 23) (N := some 95) (v := ?_) (a' := ?_) #[τ, τ, τ, τ, τ, τ, τ, τ, τ, τ, τ, τ, τ, τ, τ, τ, τ, τ, τ, τ, τ, τ, τ, τ, φ, φ, φ, φ] rfl rfl (take_ofW HT_.out HW_.out (by kernel_rfl)) (fun _ _ _ h => h) (Or.inl ⟨by rfl, ?_⟩) hHeld ?_ ?_
              rotate_left
              ·
               rintro w' ⟨s0, s1, s2, s3, s4, s5⟩
               go_simp
               with_reducible rfl
              rotate_left
              ·
               simp only [Act.put, List.setIfInBounds_toArray, List.set_cons_zero, List.set_cons_succ, i64_w, i32_w]
               rfl
              refine pure_ (i := 24) (N := some 96) (v := ?_) (a' := ?_) #[τ, τ, τ, τ, τ, τ, τ, τ, τ, τ, τ, τ, τ, τ, τ, τ, τ, τ, τ, τ, τ, τ, τ, τ, τ, φ, φ, φ] rfl rfl (any_of HT_.out (by kernel_rfl)) (fun _ _ _ h => h) (Or.inl ⟨by rfl, ?_⟩) ?_ ?_
              rotate_left
              ·
               intro w'
               go_simp
               with_reducible rfl
              rotate_left
              ·
               simp only [Act.put, List.setIfInBounds_toArray, List.set_cons_zero, List.set_cons_succ, i64_w, i32_w]
               rfl
              refine one_ (i := 25) (N := some 97) #[τ, τ, τ, τ, τ, τ, τ, τ, τ, τ, τ, τ, τ, τ, τ, τ, τ, τ, τ, τ, τ, τ, τ, τ, τ, τ, φ, φ] rfl rfl (one_of HT_.out (by kernel_rfl)) (by decide) (fun K hK => ?_)
              refine goes_ Try.func15 (by kernel_rfl) rfl #[.slice Ao20 t211.length co20, .agg #[.int .i64 t216, .int .i64 t217, .int .i64 (rd t241 x17_2)]] (by rfl) rfl rfl (by (try simp only [List.map_toArray, List.map_cons, List.map_nil]); first | done | rfl | (simp only [List.length_drop, List.length_take]; rfl)) ?_
              with_reducible refine (seen_Has.calls _ _ t211 t216 t217 (rd t241 x17_2) true _ ?side1 ?side2 A95.out).mono ?_
              (case side1 => repeat (first | exact (Kd.R_reads' HO_10.out).2.2 | (with_reducible refine Kd.C_alloc ?_ _) | (with_reducible refine Kd.C_drewN ?_ _) | (with_reducible refine Kd.C_drew ?_)))
              (case side2 => exact (Kd.R_reads' HO_10.out).2.1)
              rintro e w100 ⟨rfl, hb⟩
              have HS3_ := (hb.cell (World.block_lt_of_cell? _ _ (hHeld.2.2.2.1))).trans (hHeld.2.2.2.1)
              have HS4_ := (hb.cell (World.block_lt_of_cell? _ _ (hHeld.2.2.2.2.1))).trans (hHeld.2.2.2.2.1)
              have HS5_ := (hb.cell (World.block_lt_of_cell? _ _ (hHeld.2.2.2.2.2))).trans (hHeld.2.2.2.2.2)
              refine ⟨_, rfl, ?_⟩
              have n0_ := Aside0.mk (Kd.R_below (by (with_reducible repeat (first | apply Kd.R_alloc | apply Kd.R_drewN | apply Kd.R_drew)); exact HO_10.out) hb)
              have n1_ := Aside0.mk (Kd.R_below (by (with_reducible repeat (first | apply Kd.R_alloc | apply Kd.R_drewN | apply Kd.R_drew)); exact HO_15.out) hb)
              have n2_ := Aside0.mk (blk_below (g := gb209) (o := .cells #[.int .i64 a3_0, .int .i64 a3_1, .int .i64 a3_2] 26 (0, 0)) (by (with_reducible repeat (first | refine blk_drewN ?_ _ | refine blk_drew ?_ | refine blk_alloc ?_ _)); exact BK209.out) hb)
              have n3_ := Aside0.mk (blk_below (g := gb219) (o := .cells #[.int .i64 t216, .int .i64 t217, .int .i64 t218] 25 (0, 0)) (by (with_reducible repeat (first | refine blk_drewN ?_ _ | refine blk_drew ?_ | refine blk_alloc ?_ _)); exact BK219.out) hb)
              have n4_ := Aside0.mk (below_step (by repeat (first | (with_reducible first | exact HB.out | apply below_alloc | apply pw_below_drewN | apply below_drew1 | refine below_set ?_ GE209.out | refine below_set ?_ GE219.out) | exact HB.out)) hb)
              clear HO_10
              clear HO_15
              clear BK209
              clear BK219
              clear HB
              have HO_10 := n0_
              have HO_15 := n1_
              have BK209 := n2_
              have BK219 := n3_
              have HB := n4_
              clear n0_ n1_ n2_ n3_ n4_
              (try clear hb)
              (try clear hb2)
              (try clear hk)
              (try clear hi)
              refine hK.out _ _ ⟨(blk_cell BK219.out 0).trans rfl, (blk_cell BK219.out 1).trans rfl, (blk_cell BK219.out 2).trans rfl, HS3_, HS4_, HS5_⟩ (fun hHeld => ?_)
              clear hK K
              refine norm_ (a' := ?_) ?_ ?_
              rotate_left
              ·
               show Act.put _ (some 97) _ = _
               simp only [Act.put, List.setIfInBounds_toArray, List.set_cons_zero, List.set_cons_succ, i64_w, i32_w]
               rfl
              refine pure_ (i := 26) (N := some 98) (v := ?_) (a' := ?_) #[τ, τ, τ, τ, τ, τ, τ, τ, τ, τ, τ, τ, τ, τ, τ, τ, τ, τ, τ, τ, τ, τ, τ, τ, τ, τ, τ, φ] rfl rfl (any_of HT_.out (by kernel_rfl)) (fun _ _ _ h => h) (Or.inl ⟨by rfl, ?_⟩) ?_ ?_
              rotate_left
              ·
               intro w'
               go_simp
               with_reducible rfl
              rotate_left
              ·
               simp only [Act.put, List.setIfInBounds_toArray, List.set_cons_zero, List.set_cons_succ, i64_w, i32_w]
               rfl
              refine pure_ (i := 27) (N := some 99) (v := ?_) (a' := ?_) #[τ, τ, τ, τ, τ, τ, τ, τ, τ, τ, τ, τ, τ, τ, τ, τ, τ, τ, τ, τ, τ, τ, τ, τ, τ, τ, τ, τ] rfl rfl (any_of HT_.out (by kernel_rfl)) (fun _ _ _ h => h) (Or.inl ⟨by rfl, ?_⟩) ?_ ?_
              rotate_left
              ·
               intro w'
               go_simp
               with_reducible rfl
              rotate_left
              ·
               simp only [Act.put, List.setIfInBounds_toArray, List.set_cons_zero, List.set_cons_succ, i64_w, i32_w]
               rfl
              refine done_ (done_of HT_.out (by kernel_rfl)) ?_
              try go_wp2
              have n0_ := Aside0.mk (Kd.R_drew HO_10.out)
              have n1_ := Aside0.mk (Kd.R_drew HO_15.out)
              have n2_ := Aside0.mk (blk_drew BK209.out)
              have n3_ := Aside0.mk (blk_drew BK219.out)
              have n4_ := Aside0.mk (below_drew1 HB.out)
              clear HO_10
              clear HO_15
              clear BK209
              clear BK219
              clear HB
              have HO_10 := n0_
              have HO_15 := n1_
              have BK209 := n2_
              have BK219 := n3_
              have HB := n4_
              clear n0_ n1_ n2_ n3_ n4_
              refine start_ (n := 11) (S := fun w' => True) (ds := []) #[φ, φ, φ, φ, φ, φ, φ, φ, φ, φ, φ] (by kernel_rfl) rfl rfl trivial (fun hHeld => ?_); refine with_tabW mootbelllaw13_SeenPrune.tab16 mootbelllaw13_SeenPrune.bits16 (fun HT_ HW_ => ?_)
              generalize w100.drew = w101 at HO_10 HO_15 BK209 BK219 HB hHeld ⊢
              refine pure_ (i := 0) (N := some 100) (v := ?_) (a' := ?_) #[τ, φ, φ, φ, φ, φ, φ, φ, φ, φ, φ] rfl rfl (any_of HT_.out (by kernel_rfl)) (fun _ _ _ h => h) (Or.inl ⟨by rfl, ?_⟩) ?_ ?_
              rotate_left
              ·
               intro w'
               go_simp
               with_reducible rfl
              rotate_left
              ·
               simp only [Act.put, List.setIfInBounds_toArray, List.set_cons_zero, List.set_cons_succ, i64_w, i32_w]
               rfl
              refine pure_ (i := 1) (N := some 101) (v := ?_) (a' := ?_) #[τ, τ, φ, φ, φ, φ, φ, φ, φ, φ, φ] rfl rfl (any_of HT_.out (by kernel_rfl)) (fun _ _ _ h => h) (Or.inl ⟨by rfl, ?_⟩) ?_ ?_
              rotate_left
              ·
               intro w'
               go_simp
               with_reducible rfl
              rotate_left
              ·
               simp only [Act.put, List.setIfInBounds_toArray, List.set_cons_zero, List.set_cons_succ, i64_w, i32_w]
               rfl
              refine pure_ (i := 2) (N := some 102) (v := undef) (a' := ?_) #[τ, τ, τ, φ, φ, φ, φ, φ, φ, φ, φ] rfl rfl (any_of HT_.out (by kernel_rfl)) (fun _ _ _ h => h) (Or.inr ⟨by rfl, rfl⟩) ?_ ?_
              rotate_left
              ·
               simp only [Act.put, List.setIfInBounds_toArray, List.set_cons_zero, List.set_cons_succ, i64_w, i32_w]
               rfl
              refine pure_ (i := 3) (N := some 103) (v := undef) (a' := ?_) #[τ, τ, τ, τ, φ, φ, φ, φ, φ, φ, φ] rfl rfl (any_of HT_.out (by kernel_rfl)) (fun _ _ _ h => h) (Or.inr ⟨by rfl, rfl⟩) ?_ ?_
              rotate_left
              ·
               simp only [Act.put, List.setIfInBounds_toArray, List.set_cons_zero, List.set_cons_succ, i64_w, i32_w]
               rfl
              refine pure_ (i := 4) (N := some 104) (v := undef) (a' := ?_) #[τ, τ, τ, τ, τ, φ, φ, φ, φ, φ, φ] rfl rfl (any_of HT_.out (by kernel_rfl)) (fun _ _ _ h => h) (Or.inr ⟨by rfl, rfl⟩) ?_ ?_
              rotate_left
              ·
               simp only [Act.put, List.setIfInBounds_toArray, List.set_cons_zero, List.set_cons_succ, i64_w, i32_w]
               rfl
              refine pure_ (i := 5) (N := some 105) (v := undef) (a' := ?_) #[τ, τ, τ, τ, τ, τ, φ, φ, φ, φ, φ] rfl rfl (any_of HT_.out (by kernel_rfl)) (fun _ _ _ h => h) (Or.inr ⟨by rfl, rfl⟩) ?_ ?_
              rotate_left
              ·
               simp only [Act.put, List.setIfInBounds_toArray, List.set_cons_zero, List.set_cons_succ, i64_w, i32_w]
               rfl
              refine pure_ (i := 6) (N := some 106) (v := undef) (a' := ?_) #[τ, τ, τ, τ, τ, τ, τ, φ, φ, φ, φ] rfl rfl (any_of HT_.out (by kernel_rfl)) (fun _ _ _ h => h) (Or.inr ⟨by rfl, rfl⟩) ?_ ?_
              rotate_left
              ·
               simp only [Act.put, List.setIfInBounds_toArray, List.set_cons_zero, List.set_cons_succ, i64_w, i32_w]
               rfl
              refine pure_ (i := 7) (N := some 107) (v := undef) (a' := ?_) #[τ, τ, τ, τ, τ, τ, τ, τ, φ, φ, φ] rfl rfl (any_of HT_.out (by kernel_rfl)) (fun _ _ _ h => h) (Or.inr ⟨by rfl, rfl⟩) ?_ ?_
              rotate_left
              ·
               simp only [Act.put, List.setIfInBounds_toArray, List.set_cons_zero, List.set_cons_succ, i64_w, i32_w]
               rfl
              refine pure_ (i := 8) (N := some 108) (v := undef) (a' := ?_) #[τ, τ, τ, τ, τ, τ, τ, τ, τ, φ, φ] rfl rfl (any_of HT_.out (by kernel_rfl)) (fun _ _ _ h => h) (Or.inr ⟨by rfl, rfl⟩) ?_ ?_
              rotate_left
              ·
               simp only [Act.put, List.setIfInBounds_toArray, List.set_cons_zero, List.set_cons_succ, i64_w, i32_w]
               rfl
              refine pure_ (i := 9) (N := some 109) (v := ?_) (a' := ?_) #[τ, τ, τ, τ, τ, τ, τ, τ, τ, τ, φ] rfl rfl (any_of HT_.out (by kernel_rfl)) (fun _ _ _ h => h) (Or.inl ⟨by rfl, ?_⟩) ?_ ?_
              rotate_left
              ·
               intro w'
               go_simp
               with_reducible rfl
              rotate_left
              ·
               simp only [Act.put, List.setIfInBounds_toArray, List.set_cons_zero, List.set_cons_succ, i64_w, i32_w]
               rfl
              refine pure_ (i := 10) (N := some 16) (v := ?_) (a' := ?_) #[τ, τ, τ, τ, τ, τ, τ, τ, τ, τ, τ] rfl rfl (any_of HT_.out (by kernel_rfl)) (fun _ _ _ h => h) (Or.inl ⟨by rfl, ?_⟩) ?_ ?_
              rotate_left
              ·
               intro w'
               go_simp
               with_reducible rfl
              rotate_left
              ·
               simp only [Act.put, List.setIfInBounds_toArray, List.set_cons_zero, List.set_cons_succ, i64_w, i32_w]
               rfl
              refine done_ (done_of HT_.out (by kernel_rfl)) ?_
              try go_wp2
              go_roundg k2
              case measure => have := HJ10.out; have := HK2.out; omega
              case rel => exact ⟨(true), (wrap64 (x17_2 + 1)), (by first | rfl | (simp; done) | (simp [*]; done)), (by first | rfl | (simp; done) | (simp [*]; done)), H', ⟨by have := HJ10.out; have := HK2.out; omega⟩, ⟨by (with_reducible repeat (first | apply Kd.R_alloc | apply Kd.R_drewN | apply Kd.R_drew)); exact HO_10.out⟩, ⟨by (with_reducible repeat (first | apply Kd.R_alloc | apply Kd.R_drewN | apply Kd.R_drew)); exact HO_15.out⟩, ⟨by (with_reducible repeat (first | refine blk_drewN ?_ _ | refine blk_drew ?_ | refine blk_alloc ?_ _)); exact BK209.out⟩, ⟨by (with_reducible repeat (first | refine blk_drewN ?_ _ | refine blk_drew ?_ | refine blk_alloc ?_ _)); exact BK219.out⟩, ⟨by repeat (first | (with_reducible first | exact HB.out | apply below_alloc | apply pw_below_drewN | apply below_drew1 | refine below_set ?_ GE209.out | refine below_set ?_ GE219.out) | exact HB.out)⟩⟩
             ·
              replace c97 := Bool.eq_false_iff.mpr c97
              subst c97
              have H1 : (mootbelllaw13_SeenPrune.l0 k2 t210 t211 t241 ((rd t241 x17_2) == t218) (wrap64 (x17_2 + 1)) t216 t217 t218) = some r := by rw [if_neg (show ¬ (false = true) by decide)] at H; exact H
              clear H
              have H := H1
              clear H1
              have H' := Aside0.mk H
              clear H
              obtain ⟨Ao102, co102, eo102⟩ := Kd.R_slice HO_15.out
              subst eo102
              try go_wp2
              have n0_ := Aside0.mk (Kd.R_drew HO_10.out)
              have n1_ := Aside0.mk (Kd.R_drew HO_15.out)
              have n2_ := Aside0.mk (blk_drew BK209.out)
              have n3_ := Aside0.mk (blk_drew BK219.out)
              have n4_ := Aside0.mk (below_drew1 HB.out)
              clear HO_10
              clear HO_15
              clear BK209
              clear BK219
              clear HB
              have HO_10 := n0_
              have HO_15 := n1_
              have BK209 := n2_
              have BK219 := n3_
              have HB := n4_
              clear n0_ n1_ n2_ n3_ n4_
              have p244 : 0 ≤ ((ji88) : Int) := of_decide_eq_true (by first | (with_reducible assumption) | assumption)
              have q244 : (ji88) < (t241.length : Int) := of_decide_eq_true (by first | (with_reducible assumption) | assumption)
              obtain ⟨ad244, e244, hx244_0⟩ := Kd.at_int (Kd.R_reads' HO_15.out).2.2 (ji88) p244 q244
              cases e244
              replace p244 := eq_true p244
              replace q244 := eq_true q244
              have p245 : 0 ≤ (x17_2 : Int) := of_decide_eq_true (by first | (with_reducible assumption) | assumption)
              have q245 : x17_2 < (t241.length : Int) := of_decide_eq_true (by first | (with_reducible assumption) | assumption)
              obtain ⟨ad245, e245, hx245_0⟩ := Kd.at_int (Kd.R_reads' HO_15.out).2.2 x17_2 p245 q245
              obtain rfl : ad244 = ad245 := (by injection e245)
              replace p245 := eq_true p245
              replace q245 := eq_true q245
              have p246 : 0 ≤ (x17_2 : Int) := of_decide_eq_true (by first | (with_reducible assumption) | assumption)
              have q246 : x17_2 < (t241.length : Int) := of_decide_eq_true (by first | (with_reducible assumption) | assumption)
              obtain ⟨ad246, e246, hx246_0⟩ := Kd.at_int (Kd.R_reads' HO_15.out).2.2 x17_2 p246 q246
              obtain rfl : ad244 = ad246 := (by injection e246)
              replace p246 := eq_true p246
              replace q246 := eq_true q246
              refine start_ (n := 28) (S := fun w' => w'.cell? ⟨gb219, 0, none⟩ = some (.int .i64 t216) ∧ w'.cell? ⟨gb219, 1, none⟩ = some (.int .i64 t217) ∧ w'.cell? ⟨gb219, 2, none⟩ = some (.int .i64 t218) ∧ w'.cell? (ad244.add ((ji88)).toNat) = some (.int .i64 (rd t241 (ji88))) ∧ w'.cell? (ad244.add (x17_2).toNat) = some (.int .i64 (rd t241 x17_2)) ∧ w'.cell? (ad244.add (x17_2).toNat) = some (.int .i64 (rd t241 x17_2))) (ds := []) #[φ, φ, φ, φ, φ, φ, φ, φ, φ, φ, φ, φ, φ, φ, φ, φ, φ, φ, φ, φ, φ, φ, φ, φ, φ, φ, φ, φ] (by kernel_rfl) rfl rfl ⟨(blk_cell BK219.out 0).trans rfl, (blk_cell BK219.out 1).trans rfl, (blk_cell BK219.out 2).trans rfl, hx244_0, hx245_0, hx246_0⟩ (fun hHeld => ?_); refine with_tabW mootbelllaw13_SeenPrune.tab14 mootbelllaw13_SeenPrune.bits14 (fun HT_ HW_ => ?_)
              generalize wr.drew = w103 at HO_10 HO_15 BK209 BK219 HB hx244_0 hx245_0 hx246_0 hHeld ⊢
              refine pure_ (i := 0) (N := some 72) (v := ?_) (a' := ?_) #[τ, φ, φ, φ, φ, φ, φ, φ, φ, φ, φ, φ, φ, φ, φ, φ, φ, φ, φ, φ, φ, φ, φ, φ, φ, φ, φ, φ] rfl rfl (any_of HT_.out (by kernel_rfl)) (fun _ _ _ h => h) (Or.inl ⟨by rfl, ?_⟩) ?_ ?_
              rotate_left
              ·
               intro w'
               go_simp
               with_reducible rfl
              rotate_left
              ·
               simp only [Act.put, List.setIfInBounds_toArray, List.set_cons_zero, List.set_cons_succ, i64_w, i32_w]
               rfl
              refine pure_ (i := 1) (N := some 73) (v := ?_) (a' := ?_) #[τ, τ, φ, φ, φ, φ, φ, φ, φ, φ, φ, φ, φ, φ, φ, φ, φ, φ, φ, φ, φ, φ, φ, φ, φ, φ, φ, φ] rfl rfl (any_of HT_.out (by kernel_rfl)) (fun _ _ _ h => h) (Or.inl ⟨by rfl, ?_⟩) ?_ ?_
              rotate_left
              ·
               intro w'
               go_simp
               with_reducible rfl
              rotate_left
              ·
               simp only [Act.put, List.setIfInBounds_toArray, List.set_cons_zero, List.set_cons_succ, i64_w, i32_w]
               rfl
              refine pure_ (i := 2) (N := some 74) (v := ?_) (a' := ?_) #[τ, τ, τ, φ, φ, φ, φ, φ, φ, φ, φ, φ, φ, φ, φ, φ, φ, φ, φ, φ, φ, φ, φ, φ, φ, φ, φ, φ] rfl rfl (any_of HT_.out (by kernel_rfl)) (fun _ _ _ h => h) (Or.inl ⟨by rfl, ?_⟩) ?_ ?_
              rotate_left
              ·
               intro w'
               go_simp
               with_reducible rfl
              rotate_left
              ·
               simp only [Act.put, List.setIfInBounds_toArray, List.set_cons_zero, List.set_cons_succ, i64_w, i32_w]
               rfl
              refine pure_ (i := 3) (N := some 75) (v := ?_) (a' := ?_) #[τ, τ, τ, τ, φ, φ, φ, φ, φ, φ, φ, φ, φ, φ, φ, φ, φ, φ, φ, φ, φ, φ, φ, φ, φ, φ, φ, φ] rfl rfl (any_of HT_.out (by kernel_rfl)) (fun _ _ _ h => h) (Or.inl ⟨by rfl, ?_⟩) ?_ ?_
              rotate_left
              ·
               intro w'
               go_simp
               with_reducible rfl
              rotate_left
              ·
               simp only [Act.put, List.setIfInBounds_toArray, List.set_cons_zero, List.set_cons_succ, i64_w, i32_w]
               rfl
              refine pure_ (i := 4) (N := some 76) (v := ?_) (a' := ?_) #[τ, τ, τ, τ, τ, φ, φ, φ, φ, φ, φ, φ, φ, φ, φ, φ, φ, φ, φ, φ, φ, φ, φ, φ, φ, φ, φ, φ] rfl rfl (any_of HT_.out (by kernel_rfl)) (fun _ _ _ h => h) (Or.inl ⟨by rfl, ?_⟩) ?_ ?_
              rotate_left
              ·
               intro w'
               go_simp
               with_reducible rfl
              rotate_left
              ·
               simp only [Act.put, List.setIfInBounds_toArray, List.set_cons_zero, List.set_cons_succ, i64_w, i32_w]
               rfl
              refine pure_ (i := 5) (N := some 77) (v := ?_) (a' := ?_) #[τ, τ, τ, τ, τ, τ, φ, φ, φ, φ, φ, φ, φ, φ, φ, φ, φ, φ, φ, φ, φ, φ, φ, φ, φ, φ, φ, φ] rfl rfl (any_of HT_.out (by kernel_rfl)) (fun _ _ _ h => h) (Or.inl ⟨by rfl, ?_⟩) ?_ ?_
              rotate_left
              ·
               intro w'
               go_simp
               with_reducible rfl
              rotate_left
              ·
               simp only [Act.put, List.setIfInBounds_toArray, List.set_cons_zero, List.set_cons_succ, i64_w, i32_w]
               rfl
              refine pure_ (i := 6) (N := some 78) (v := ?_) (a' := ?_) #[τ, τ, τ, τ, τ, τ, τ, φ, φ, φ, φ, φ, φ, φ, φ, φ, φ, φ, φ, φ, φ, φ, φ, φ, φ, φ, φ, φ] rfl rfl (any_of HT_.out (by kernel_rfl)) (fun _ _ _ h => h) (Or.inl ⟨by rfl, ?_⟩) ?_ ?_
              rotate_left
              ·
               intro w'
               go_simp
               with_reducible rfl
              rotate_left
              ·
               simp only [Act.put, List.setIfInBounds_toArray, List.set_cons_zero, List.set_cons_succ, i64_w, i32_w]
               rfl
              refine pure_ (i := 8) (N := some 80) (v := ?_) (a' := ?_) #[τ, τ, τ, τ, τ, τ, τ, φ, τ, φ, φ, φ, φ, φ, φ, φ, φ, φ, φ, φ, φ, φ, φ, φ, φ, φ, φ, φ] rfl rfl (any_of HT_.out (by kernel_rfl)) (fun _ _ _ h => h) (Or.inl ⟨by rfl, ?_⟩) ?_ ?_
              rotate_left
              ·
               intro w'
               go_simp
               with_reducible rfl
              rotate_left
              ·
               simp only [Act.put, List.setIfInBounds_toArray, List.set_cons_zero, List.set_cons_succ, i64_w, i32_w]
               rfl
              refine pure_ (i := 9) (N := some 81) (v := ?_) (a' := ?_) #[τ, τ, τ, τ, τ, τ, τ, φ, τ, τ, φ, φ, φ, φ, φ, φ, φ, φ, φ, φ, φ, φ, φ, φ, φ, φ, φ, φ] rfl rfl (any_of HT_.out (by kernel_rfl)) (fun _ _ _ h => h) (Or.inl ⟨by rfl, ?_⟩) ?_ ?_
              rotate_left
              ·
               intro w'
               go_simp
               with_reducible rfl
              rotate_left
              ·
               simp only [Act.put, List.setIfInBounds_toArray, List.set_cons_zero, List.set_cons_succ, i64_w, i32_w]
               rfl
              refine pure_ (i := 10) (N := some 82) (v := ?_) (a' := ?_) #[τ, τ, τ, τ, τ, τ, τ, φ, τ, τ, τ, φ, φ, φ, φ, φ, φ, φ, φ, φ, φ, φ, φ, φ, φ, φ, φ, φ] rfl rfl (any_of HT_.out (by kernel_rfl)) (fun _ _ _ h => h) (Or.inl ⟨by rfl, ?_⟩) ?_ ?_
              rotate_left
              ·
               intro w'
               go_simp
               with_reducible rfl
              rotate_left
              ·
               simp only [Act.put, List.setIfInBounds_toArray, List.set_cons_zero, List.set_cons_succ, i64_w, i32_w]
               rfl
              refine take_ (i := 7) (N := some 79) (v := ?_) (a' := ?_) #[τ, τ, τ, τ, τ, τ, τ, τ, τ, τ, τ, φ, φ, φ, φ, φ, φ, φ, φ, φ, φ, φ, φ, φ, φ, φ, φ, φ] rfl rfl (take_ofW HT_.out HW_.out (by kernel_rfl)) (fun _ _ _ h => h) (Or.inl ⟨by rfl, ?_⟩) hHeld ?_ ?_
              rotate_left
              ·
               rintro w' ⟨s0, s1, s2, s3, s4, s5⟩
               go_simp
               with_reducible rfl
              rotate_left
              ·
               simp only [Act.put, List.setIfInBounds_toArray, List.set_cons_zero, List.set_cons_succ, i64_w, i32_w]
               rfl
              refine take_ (i := 11) (N := some 83) (v := ?_) (a' := ?_) #[τ, τ, τ, τ, τ, τ, τ, τ, τ, τ, τ, τ, φ, φ, φ, φ, φ, φ, φ, φ, φ, φ, φ, φ, φ, φ, φ, φ] rfl rfl (take_ofW HT_.out HW_.out (by kernel_rfl)) (fun _ _ _ h => h) (Or.inl ⟨by rfl, ?_⟩) hHeld ?_ ?_
              rotate_left
              ·
               rintro w' ⟨s0, s1, s2, s3, s4, s5⟩
               go_simp
               with_reducible rfl
              rotate_left
              ·
               simp only [Act.put, List.setIfInBounds_toArray, List.set_cons_zero, List.set_cons_succ, i64_w, i32_w]
               rfl
              refine pure_ (i := 12) (N := some 84) (v := ?_) (a' := ?_) #[τ, τ, τ, τ, τ, τ, τ, τ, τ, τ, τ, τ, τ, φ, φ, φ, φ, φ, φ, φ, φ, φ, φ, φ, φ, φ, φ, φ] rfl rfl (any_of HT_.out (by kernel_rfl)) (fun _ _ _ h => h) (Or.inl ⟨by rfl, ?_⟩) ?_ ?_
              rotate_left
              ·
               intro w'
               go_simp
               with_reducible rfl
              rotate_left
              ·
               simp only [Act.put, List.setIfInBounds_toArray, List.set_cons_zero, List.set_cons_succ, i64_w, i32_w]
               rfl
              refine pure_ (i := 13) (N := some 85) (v := ?_) (a' := ?_) #[τ, τ, τ, τ, τ, τ, τ, τ, τ, τ, τ, τ, τ, τ, φ, φ, φ, φ, φ, φ, φ, φ, φ, φ, φ, φ, φ, φ] rfl rfl (any_of HT_.out (by kernel_rfl)) (fun _ _ _ h => h) (Or.inl ⟨by rfl, ?_⟩) ?_ ?_
              rotate_left
              ·
               intro w'
               go_simp
               with_reducible rfl
              rotate_left
              ·
               simp only [Act.put, List.setIfInBounds_toArray, List.set_cons_zero, List.set_cons_succ, i64_w, i32_w]
               rfl
              refine pure_ (i := 14) (N := some 86) (v := ?_) (a' := ?_) #[τ, τ, τ, τ, τ, τ, τ, τ, τ, τ, τ, τ, τ, τ, τ, φ, φ, φ, φ, φ, φ, φ, φ, φ, φ, φ, φ, φ] rfl rfl (any_of HT_.out (by kernel_rfl)) (fun _ _ _ h => h) (Or.inl ⟨by rfl, ?_⟩) ?_ ?_
              rotate_left
              ·
               intro w'
               go_simp
               with_reducible rfl
              rotate_left
              ·
               simp only [Act.put, List.setIfInBounds_toArray, List.set_cons_zero, List.set_cons_succ, i64_w, i32_w]
               rfl
              refine pure_ (i := 15) (N := some 87) (v := ?_) (a' := ?_) #[τ, τ, τ, τ, τ, τ, τ, τ, τ, τ, τ, τ, τ, τ, τ, τ, φ, φ, φ, φ, φ, φ, φ, φ, φ, φ, φ, φ] rfl rfl (any_of HT_.out (by kernel_rfl)) (fun _ _ _ h => h) (Or.inl ⟨by rfl, ?_⟩) ?_ ?_
              rotate_left
              ·
               intro w'
               go_simp
               with_reducible rfl
              rotate_left
              ·
               simp only [Act.put, List.setIfInBounds_toArray, List.set_cons_zero, List.set_cons_succ, i64_w, i32_w]
               rfl
              refine pure_ (i := 16) (N := some 88) (v := ?_) (a' := ?_) #[τ, τ, τ, τ, τ, τ, τ, τ, τ, τ, τ, τ, τ, τ, τ, τ, τ, φ, φ, φ, φ, φ, φ, φ, φ, φ, φ, φ] rfl rfl (any_of HT_.out (by kernel_rfl)) (fun _ _ _ h => h) (Or.inl ⟨by rfl, ?_⟩) ?_ ?_
              rotate_left
              ·
               intro w'
               go_simp
               with_reducible rfl
              rotate_left
              ·
               simp only [Act.put, List.setIfInBounds_toArray, List.set_cons_zero, List.set_cons_succ, i64_w, i32_w]
               rfl
              refine pure_ (i := 18) (N := some 90) (v := ?_) (a' := ?_) #[τ, τ, τ, τ, τ, τ, τ, τ, τ, τ, τ, τ, τ, τ, τ, τ, τ, φ, τ, φ, φ, φ, φ, φ, φ, φ, φ, φ] rfl rfl (any_of HT_.out (by kernel_rfl)) (fun _ _ _ h => h) (Or.inl ⟨by rfl, ?_⟩) ?_ ?_
              rotate_left
              ·
               intro w'
               go_simp
               with_reducible rfl
              rotate_left
              ·
               simp only [Act.put, List.setIfInBounds_toArray, List.set_cons_zero, List.set_cons_succ, i64_w, i32_w]
               rfl
              refine pure_ (i := 20) (N := some 92) (v := ?_) (a' := ?_) #[τ, τ, τ, τ, τ, τ, τ, τ, τ, τ, τ, τ, τ, τ, τ, τ, τ, φ, τ, φ, τ, φ, φ, φ, φ, φ, φ, φ] rfl rfl (any_of HT_.out (by kernel_rfl)) (fun _ _ _ h => h) (Or.inl ⟨by rfl, ?_⟩) ?_ ?_
              rotate_left
              ·
               intro w'
               go_simp
               with_reducible rfl
              rotate_left
              ·
               simp only [Act.put, List.setIfInBounds_toArray, List.set_cons_zero, List.set_cons_succ, i64_w, i32_w]
               rfl
              refine pure_ (i := 21) (N := some 93) (v := ?_) (a' := ?_) #[τ, τ, τ, τ, τ, τ, τ, τ, τ, τ, τ, τ, τ, τ, τ, τ, τ, φ, τ, φ, τ, τ, φ, φ, φ, φ, φ, φ] rfl rfl (any_of HT_.out (by kernel_rfl)) (fun _ _ _ h => h) (Or.inl ⟨by rfl, ?_⟩) ?_ ?_
              rotate_left
              ·
               intro w'
               go_simp
               with_reducible rfl
              rotate_left
              ·
               simp only [Act.put, List.setIfInBounds_toArray, List.set_cons_zero, List.set_cons_succ, i64_w, i32_w]
               rfl
              refine pure_ (i := 22) (N := some 94) (v := ?_) (a' := ?_) #[τ, τ, τ, τ, τ, τ, τ, τ, τ, τ, τ, τ, τ, τ, τ, τ, τ, φ, τ, φ, τ, τ, τ, φ, φ, φ, φ, φ] rfl rfl (any_of HT_.out (by kernel_rfl)) (fun _ _ _ h => h) (Or.inl ⟨by rfl, ?_⟩) ?_ ?_
              rotate_left
              ·
               intro w'
               go_simp
               with_reducible rfl
              rotate_left
              ·
               simp only [Act.put, List.setIfInBounds_toArray, List.set_cons_zero, List.set_cons_succ, i64_w, i32_w]
               rfl
              refine take_ (i := 17) (N := some 89) (v := ?_) (a' := ?_) #[τ, τ, τ, τ, τ, τ, τ, τ, τ, τ, τ, τ, τ, τ, τ, τ, τ, τ, τ, φ, τ, τ, τ, φ, φ, φ, φ, φ] rfl rfl (take_ofW HT_.out HW_.out (by kernel_rfl)) (fun _ _ _ h => h) (Or.inl ⟨by rfl, ?_⟩) hHeld ?_ ?_
              rotate_left
              ·
               rintro w' ⟨s0, s1, s2, s3, s4, s5⟩
               go_simp
               with_reducible rfl
              rotate_left
              ·
               simp only [Act.put, List.setIfInBounds_toArray, List.set_cons_zero, List.set_cons_succ, i64_w, i32_w]
               rfl
              refine take_ (i := 19) (N := some 91) (v := ?_) (a' := ?_) #[τ, τ, τ, τ, τ, τ, τ, τ, τ, τ, τ, τ, τ, τ, τ, τ, τ, τ, τ, τ, τ, τ, τ, φ, φ, φ, φ, φ] rfl rfl (take_ofW HT_.out HW_.out (by kernel_rfl)) (fun _ _ _ h => h) (Or.inl ⟨by rfl, ?_⟩) hHeld ?_ ?_
              rotate_left
              ·
               rintro w' ⟨s0, s1, s2, s3, s4, s5⟩
               go_simp
               with_reducible rfl
              rotate_left
              ·
               simp only [Act.put, List.setIfInBounds_toArray, List.set_cons_zero, List.set_cons_succ, i64_w, i32_w]
               rfl
              refine take_ (i := 23) (N := some 95) (v := ?_) (a' := ?_) #[τ, τ, τ, τ, τ, τ, τ, τ, τ, τ, τ, τ, τ, τ, τ, τ, τ, τ, τ, τ, τ, τ, τ, τ, φ, φ, φ, φ] rfl rfl (take_ofW HT_.out HW_.out (by kernel_rfl)) (fun _ _ _ h => h) (Or.inl ⟨by rfl, ?_⟩) hHeld ?_ ?_
              rotate_left
              ·
               rintro w' ⟨s0, s1, s2, s3, s4, s5⟩
               go_simp
               with_reducible rfl
              rotate_left
              ·
               simp only [Act.put, List.setIfInBounds_toArray, List.set_cons_zero, List.set_cons_succ, i64_w, i32_w]
               rfl
              refine pure_ (i := 24) (N := some 96) (v := ?_) (a' := ?_) #[τ, τ, τ, τ, τ, τ, τ, τ, τ, τ, τ, τ, τ, τ, τ, τ, τ, τ, τ, τ, τ, τ, τ, τ, τ, φ, φ, φ] rfl rfl (any_of HT_.out (by kernel_rfl)) (fun _ _ _ h => h) (Or.inl ⟨by rfl, ?_⟩) ?_ ?_
              rotate_left
              ·
               intro w'
               go_simp
               with_reducible rfl
              rotate_left
              ·
               simp only [Act.put, List.setIfInBounds_toArray, List.set_cons_zero, List.set_cons_succ, i64_w, i32_w]
               rfl
              refine one_ (i := 25) (N := some 97) #[τ, τ, τ, τ, τ, τ, τ, τ, τ, τ, τ, τ, τ, τ, τ, τ, τ, τ, τ, τ, τ, τ, τ, τ, τ, τ, φ, φ] rfl rfl (one_of HT_.out (by kernel_rfl)) (by decide) (fun K hK => ?_)
              refine goes_ Try.func15 (by kernel_rfl) rfl #[.slice Ao20 t211.length co20, .agg #[.int .i64 t216, .int .i64 t217, .int .i64 (rd t241 x17_2)]] (by rfl) rfl rfl (by (try simp only [List.map_toArray, List.map_cons, List.map_nil]); first | done | rfl | (simp only [List.length_drop, List.length_take]; rfl)) ?_
              with_reducible refine (seen_Has.calls _ _ t211 t216 t217 (rd t241 x17_2) true _ ?side1 ?side2 A95.out).mono ?_
              (case side1 => repeat (first | exact (Kd.R_reads' HO_10.out).2.2 | (with_reducible refine Kd.C_alloc ?_ _) | (with_reducible refine Kd.C_drewN ?_ _) | (with_reducible refine Kd.C_drew ?_)))
              (case side2 => exact (Kd.R_reads' HO_10.out).2.1)
              rintro e w104 ⟨rfl, hb⟩
              have HS3_ := (hb.cell (World.block_lt_of_cell? _ _ (hHeld.2.2.2.1))).trans (hHeld.2.2.2.1)
              have HS4_ := (hb.cell (World.block_lt_of_cell? _ _ (hHeld.2.2.2.2.1))).trans (hHeld.2.2.2.2.1)
              have HS5_ := (hb.cell (World.block_lt_of_cell? _ _ (hHeld.2.2.2.2.2))).trans (hHeld.2.2.2.2.2)
              refine ⟨_, rfl, ?_⟩
              have n0_ := Aside0.mk (Kd.R_below (by (with_reducible repeat (first | apply Kd.R_alloc | apply Kd.R_drewN | apply Kd.R_drew)); exact HO_10.out) hb)
              have n1_ := Aside0.mk (Kd.R_below (by (with_reducible repeat (first | apply Kd.R_alloc | apply Kd.R_drewN | apply Kd.R_drew)); exact HO_15.out) hb)
              have n2_ := Aside0.mk (blk_below (g := gb209) (o := .cells #[.int .i64 a3_0, .int .i64 a3_1, .int .i64 a3_2] 26 (0, 0)) (by (with_reducible repeat (first | refine blk_drewN ?_ _ | refine blk_drew ?_ | refine blk_alloc ?_ _)); exact BK209.out) hb)
              have n3_ := Aside0.mk (blk_below (g := gb219) (o := .cells #[.int .i64 t216, .int .i64 t217, .int .i64 t218] 25 (0, 0)) (by (with_reducible repeat (first | refine blk_drewN ?_ _ | refine blk_drew ?_ | refine blk_alloc ?_ _)); exact BK219.out) hb)
              have n4_ := Aside0.mk (below_step (by repeat (first | (with_reducible first | exact HB.out | apply below_alloc | apply pw_below_drewN | apply below_drew1 | refine below_set ?_ GE209.out | refine below_set ?_ GE219.out) | exact HB.out)) hb)
              clear HO_10
              clear HO_15
              clear BK209
              clear BK219
              clear HB
              have HO_10 := n0_
              have HO_15 := n1_
              have BK209 := n2_
              have BK219 := n3_
              have HB := n4_
              clear n0_ n1_ n2_ n3_ n4_
              (try clear hb)
              (try clear hb2)
              (try clear hk)
              (try clear hi)
              refine hK.out _ _ ⟨(blk_cell BK219.out 0).trans rfl, (blk_cell BK219.out 1).trans rfl, (blk_cell BK219.out 2).trans rfl, HS3_, HS4_, HS5_⟩ (fun hHeld => ?_)
              clear hK K
              refine norm_ (a' := ?_) ?_ ?_
              rotate_left
              ·
               show Act.put _ (some 97) _ = _
               simp only [Act.put, List.setIfInBounds_toArray, List.set_cons_zero, List.set_cons_succ, i64_w, i32_w]
               rfl
              refine pure_ (i := 26) (N := some 98) (v := ?_) (a' := ?_) #[τ, τ, τ, τ, τ, τ, τ, τ, τ, τ, τ, τ, τ, τ, τ, τ, τ, τ, τ, τ, τ, τ, τ, τ, τ, τ, τ, φ] rfl rfl (any_of HT_.out (by kernel_rfl)) (fun _ _ _ h => h) (Or.inl ⟨by rfl, ?_⟩) ?_ ?_
              rotate_left
              ·
               intro w'
               go_simp
               with_reducible rfl
              rotate_left
              ·
               simp only [Act.put, List.setIfInBounds_toArray, List.set_cons_zero, List.set_cons_succ, i64_w, i32_w]
               rfl
              refine pure_ (i := 27) (N := some 99) (v := ?_) (a' := ?_) #[τ, τ, τ, τ, τ, τ, τ, τ, τ, τ, τ, τ, τ, τ, τ, τ, τ, τ, τ, τ, τ, τ, τ, τ, τ, τ, τ, τ] rfl rfl (any_of HT_.out (by kernel_rfl)) (fun _ _ _ h => h) (Or.inl ⟨by rfl, ?_⟩) ?_ ?_
              rotate_left
              ·
               intro w'
               go_simp
               with_reducible rfl
              rotate_left
              ·
               simp only [Act.put, List.setIfInBounds_toArray, List.set_cons_zero, List.set_cons_succ, i64_w, i32_w]
               rfl
              refine done_ (done_of HT_.out (by kernel_rfl)) ?_
              try go_wp2
              have n0_ := Aside0.mk (Kd.R_drew HO_10.out)
              have n1_ := Aside0.mk (Kd.R_drew HO_15.out)
              have n2_ := Aside0.mk (blk_drew BK209.out)
              have n3_ := Aside0.mk (blk_drew BK219.out)
              have n4_ := Aside0.mk (below_drew1 HB.out)
              clear HO_10
              clear HO_15
              clear BK209
              clear BK219
              clear HB
              have HO_10 := n0_
              have HO_15 := n1_
              have BK209 := n2_
              have BK219 := n3_
              have HB := n4_
              clear n0_ n1_ n2_ n3_ n4_
              have p248 : 0 ≤ (x17_2 : Int) := of_decide_eq_true (by first | (with_reducible assumption) | assumption)
              have q248 : x17_2 < (t241.length : Int) := of_decide_eq_true (by first | (with_reducible assumption) | assumption)
              obtain ⟨ad248, e248, hx248_0⟩ := Kd.at_int (Kd.R_reads' HO_15.out).2.2 x17_2 p248 q248
              obtain rfl : ad244 = ad248 := (by injection e248)
              replace p248 := eq_true p248
              replace q248 := eq_true q248
              refine start_ (n := 11) (S := fun w' => w'.cell? ⟨gb219, 0, none⟩ = some (.int .i64 t216) ∧ w'.cell? ⟨gb219, 1, none⟩ = some (.int .i64 t217) ∧ w'.cell? ⟨gb219, 2, none⟩ = some (.int .i64 t218) ∧ w'.cell? (ad244.add (x17_2).toNat) = some (.int .i64 (rd t241 x17_2))) (ds := []) #[φ, φ, φ, φ, φ, φ, φ, φ, φ, φ, φ] (by kernel_rfl) rfl rfl ⟨(blk_cell BK219.out 0).trans rfl, (blk_cell BK219.out 1).trans rfl, (blk_cell BK219.out 2).trans rfl, hx248_0⟩ (fun hHeld => ?_); refine with_tabW mootbelllaw13_SeenPrune.tab16 mootbelllaw13_SeenPrune.bits16 (fun HT_ HW_ => ?_)
              generalize w104.drew = w105 at HO_10 HO_15 BK209 BK219 HB hx248_0 hHeld ⊢
              refine pure_ (i := 0) (N := some 100) (v := ?_) (a' := ?_) #[τ, φ, φ, φ, φ, φ, φ, φ, φ, φ, φ] rfl rfl (any_of HT_.out (by kernel_rfl)) (fun _ _ _ h => h) (Or.inl ⟨by rfl, ?_⟩) ?_ ?_
              rotate_left
              ·
               intro w'
               go_simp
               with_reducible rfl
              rotate_left
              ·
               simp only [Act.put, List.setIfInBounds_toArray, List.set_cons_zero, List.set_cons_succ, i64_w, i32_w]
               rfl
              refine pure_ (i := 1) (N := some 101) (v := ?_) (a' := ?_) #[τ, τ, φ, φ, φ, φ, φ, φ, φ, φ, φ] rfl rfl (any_of HT_.out (by kernel_rfl)) (fun _ _ _ h => h) (Or.inl ⟨by rfl, ?_⟩) ?_ ?_
              rotate_left
              ·
               intro w'
               go_simp
               with_reducible rfl
              rotate_left
              ·
               simp only [Act.put, List.setIfInBounds_toArray, List.set_cons_zero, List.set_cons_succ, i64_w, i32_w]
               rfl
              refine pure_ (i := 2) (N := some 102) (v := ?_) (a' := ?_) #[τ, τ, τ, φ, φ, φ, φ, φ, φ, φ, φ] rfl rfl (any_of HT_.out (by kernel_rfl)) (fun _ _ _ h => h) (Or.inl ⟨by rfl, ?_⟩) ?_ ?_
              rotate_left
              ·
               intro w'
               go_simp
               with_reducible rfl
              rotate_left
              ·
               simp only [Act.put, List.setIfInBounds_toArray, List.set_cons_zero, List.set_cons_succ, i64_w, i32_w]
               rfl
              refine pure_ (i := 3) (N := some 103) (v := ?_) (a' := ?_) #[τ, τ, τ, τ, φ, φ, φ, φ, φ, φ, φ] rfl rfl (any_of HT_.out (by kernel_rfl)) (fun _ _ _ h => h) (Or.inl ⟨by rfl, ?_⟩) ?_ ?_
              rotate_left
              ·
               intro w'
               go_simp
               with_reducible rfl
              rotate_left
              ·
               simp only [Act.put, List.setIfInBounds_toArray, List.set_cons_zero, List.set_cons_succ, i64_w, i32_w]
               rfl
              refine pure_ (i := 4) (N := some 104) (v := ?_) (a' := ?_) #[τ, τ, τ, τ, τ, φ, φ, φ, φ, φ, φ] rfl rfl (any_of HT_.out (by kernel_rfl)) (fun _ _ _ h => h) (Or.inl ⟨by rfl, ?_⟩) ?_ ?_
              rotate_left
              ·
               intro w'
               go_simp
               with_reducible rfl
              rotate_left
              ·
               simp only [Act.put, List.setIfInBounds_toArray, List.set_cons_zero, List.set_cons_succ, i64_w, i32_w]
               rfl
              refine pure_ (i := 6) (N := some 106) (v := ?_) (a' := ?_) #[τ, τ, τ, τ, τ, φ, τ, φ, φ, φ, φ] rfl rfl (any_of HT_.out (by kernel_rfl)) (fun _ _ _ h => h) (Or.inl ⟨by rfl, ?_⟩) ?_ ?_
              rotate_left
              ·
               intro w'
               go_simp
               with_reducible rfl
              rotate_left
              ·
               simp only [Act.put, List.setIfInBounds_toArray, List.set_cons_zero, List.set_cons_succ, i64_w, i32_w]
               rfl
              refine take_ (i := 5) (N := some 105) (v := ?_) (a' := ?_) #[τ, τ, τ, τ, τ, τ, τ, φ, φ, φ, φ] rfl rfl (take_ofW HT_.out HW_.out (by kernel_rfl)) (fun _ _ _ h => h) (Or.inl ⟨by rfl, ?_⟩) hHeld ?_ ?_
              rotate_left
              ·
               rintro w' ⟨s0, s1, s2, s3⟩
               go_simp
               with_reducible rfl
              rotate_left
              ·
               simp only [Act.put, List.setIfInBounds_toArray, List.set_cons_zero, List.set_cons_succ, i64_w, i32_w]
               rfl
              refine take_ (i := 7) (N := some 107) (v := ?_) (a' := ?_) #[τ, τ, τ, τ, τ, τ, τ, τ, φ, φ, φ] rfl rfl (take_ofW HT_.out HW_.out (by kernel_rfl)) (fun _ _ _ h => h) (Or.inl ⟨by rfl, ?_⟩) hHeld ?_ ?_
              rotate_left
              ·
               rintro w' ⟨s0, s1, s2, s3⟩
               go_simp
               with_reducible rfl
              rotate_left
              ·
               simp only [Act.put, List.setIfInBounds_toArray, List.set_cons_zero, List.set_cons_succ, i64_w, i32_w]
               rfl
              refine pure_ (i := 8) (N := some 108) (v := ?_) (a' := ?_) #[τ, τ, τ, τ, τ, τ, τ, τ, τ, φ, φ] rfl rfl (any_of HT_.out (by kernel_rfl)) (fun _ _ _ h => h) (Or.inl ⟨by rfl, ?_⟩) ?_ ?_
              rotate_left
              ·
               intro w'
               go_simp
               with_reducible rfl
              rotate_left
              ·
               simp only [Act.put, List.setIfInBounds_toArray, List.set_cons_zero, List.set_cons_succ, i64_w, i32_w]
               rfl
              refine pure_ (i := 9) (N := some 109) (v := ?_) (a' := ?_) #[τ, τ, τ, τ, τ, τ, τ, τ, τ, τ, φ] rfl rfl (any_of HT_.out (by kernel_rfl)) (fun _ _ _ h => h) (Or.inl ⟨by rfl, ?_⟩) ?_ ?_
              rotate_left
              ·
               intro w'
               go_simp
               with_reducible rfl
              rotate_left
              ·
               simp only [Act.put, List.setIfInBounds_toArray, List.set_cons_zero, List.set_cons_succ, i64_w, i32_w]
               rfl
              refine pure_ (i := 10) (N := some 16) (v := ?_) (a' := ?_) #[τ, τ, τ, τ, τ, τ, τ, τ, τ, τ, τ] rfl rfl (any_of HT_.out (by kernel_rfl)) (fun _ _ _ h => h) (Or.inl ⟨by rfl, ?_⟩) ?_ ?_
              rotate_left
              ·
               intro w'
               go_simp
               with_reducible rfl
              rotate_left
              ·
               simp only [Act.put, List.setIfInBounds_toArray, List.set_cons_zero, List.set_cons_succ, i64_w, i32_w]
               rfl
              refine done_ (done_of HT_.out (by kernel_rfl)) ?_
              try go_wp2
              go_roundg k2
              case measure => have := HJ10.out; have := HK2.out; omega
              case rel => exact ⟨(((rd t241 x17_2) == t218)), (wrap64 (x17_2 + 1)), (by first | rfl | (simp; done) | (simp [*]; done)), (by first | rfl | (simp; done) | (simp [*]; done)), H', ⟨by have := HJ10.out; have := HK2.out; omega⟩, ⟨by (with_reducible repeat (first | apply Kd.R_alloc | apply Kd.R_drewN | apply Kd.R_drew)); exact HO_10.out⟩, ⟨by (with_reducible repeat (first | apply Kd.R_alloc | apply Kd.R_drewN | apply Kd.R_drew)); exact HO_15.out⟩, ⟨by (with_reducible repeat (first | refine blk_drewN ?_ _ | refine blk_drew ?_ | refine blk_alloc ?_ _)); exact BK209.out⟩, ⟨by (with_reducible repeat (first | refine blk_drewN ?_ _ | refine blk_drew ?_ | refine blk_alloc ?_ _)); exact BK219.out⟩, ⟨by repeat (first | (with_reducible first | exact HB.out | apply below_alloc | apply pw_below_drewN | apply below_drew1 | refine below_set ?_ GE209.out | refine below_set ?_ GE219.out) | exact HB.out)⟩⟩
            ·
             rw [if_neg c96] at H; (have hz_ := Option.some.inj H; rw [HRT.out] at hz_; cases hz_)
          ·
           rw [if_neg c91] at H
           exact absurd H (by simp)
         ·
          rw [if_neg c90] at H
          exact absurd H (by simp)
        ·
         rw [if_neg c89] at H
         exact absurd H (by simp)
       ·
        rw [if_neg c87] at H
        have c87b0 : decide (0 < x17_2) = false := decide_eq_false c87
        clear c87
        by_cases c109 : 0 ≤ x17_2
        ·
         rw [if_pos c109] at H
         have c109b0 : decide (0 ≤ x17_2) = true := decide_eq_true c109
         clear c109
         replace H := Option.bind_eq_some_iff.mp H
         obtain ⟨t250, A1100, H⟩ := H
         replace H : (if t250 = true then (if x16_2 = true then (mootbelllaw13_SeenPrune.l0 k2 t210 t211 t241 true (wrap64 (x17_2 + 1)) t216 t217 t218) else (mootbelllaw13_SeenPrune.l0 k2 t210 t211 t241 ((rd t241 x17_2) == t218) (wrap64 (x17_2 + 1)) t216 t217 t218)) else (some false)) = some r := H
         have A110 := Aside0.mk A1100
         clear A1100
         by_cases c111 : t250 = true
         ·
          subst c111
          have H1 : (if x16_2 = true then (mootbelllaw13_SeenPrune.l0 k2 t210 t211 t241 true (wrap64 (x17_2 + 1)) t216 t217 t218) else (mootbelllaw13_SeenPrune.l0 k2 t210 t211 t241 ((rd t241 x17_2) == t218) (wrap64 (x17_2 + 1)) t216 t217 t218)) = some r := by rw [if_pos rfl] at H; exact H
          clear H
          have H := H1
          clear H1
          by_cases c112 : x16_2 = true
          ·
           subst c112
           have H1 : (mootbelllaw13_SeenPrune.l0 k2 t210 t211 t241 true (wrap64 (x17_2 + 1)) t216 t217 t218) = some r := by rw [if_pos rfl] at H; exact H
           clear H
           have H := H1
           clear H1
           have H' := Aside0.mk H
           clear H
           obtain ⟨Ao113, co113, eo113⟩ := Kd.R_slice HO_15.out
           subst eo113
           try go_wp2
           have n0_ := Aside0.mk (Kd.R_drew HO_10.out)
           have n1_ := Aside0.mk (Kd.R_drew HO_15.out)
           have n2_ := Aside0.mk (blk_drew BK209.out)
           have n3_ := Aside0.mk (blk_drew BK219.out)
           have n4_ := Aside0.mk (below_drew1 HB.out)
           clear HO_10
           clear HO_15
           clear BK209
           clear BK219
           clear HB
           have HO_10 := n0_
           have HO_15 := n1_
           have BK209 := n2_
           have BK219 := n3_
           have HB := n4_
           clear n0_ n1_ n2_ n3_ n4_
           have p249 : 0 ≤ (x17_2 : Int) := of_decide_eq_true (by first | (with_reducible assumption) | assumption)
           have q249 : x17_2 < (t241.length : Int) := of_decide_eq_true (by first | (with_reducible assumption) | assumption)
           obtain ⟨ad249, e249, hx249_0⟩ := Kd.at_int (Kd.R_reads' HO_15.out).2.2 x17_2 p249 q249
           cases e249
           replace p249 := eq_true p249
           replace q249 := eq_true q249
           refine start_ (n := 28) (S := fun w' => w'.cell? ⟨gb219, 0, none⟩ = some (.int .i64 t216) ∧ w'.cell? ⟨gb219, 1, none⟩ = some (.int .i64 t217) ∧ w'.cell? ⟨gb219, 2, none⟩ = some (.int .i64 t218) ∧ w'.cell? (ad249.add (x17_2).toNat) = some (.int .i64 (rd t241 x17_2))) (ds := []) #[φ, φ, φ, φ, φ, φ, φ, φ, φ, φ, φ, φ, φ, φ, φ, φ, φ, φ, φ, φ, φ, φ, φ, φ, φ, φ, φ, φ] (by kernel_rfl) rfl rfl ⟨(blk_cell BK219.out 0).trans rfl, (blk_cell BK219.out 1).trans rfl, (blk_cell BK219.out 2).trans rfl, hx249_0⟩ (fun hHeld => ?_); refine with_tabW mootbelllaw13_SeenPrune.tab14 mootbelllaw13_SeenPrune.bits14 (fun HT_ HW_ => ?_)
           generalize wr.drew = w114 at HO_10 HO_15 BK209 BK219 HB hx249_0 hHeld ⊢
           refine pure_ (i := 0) (N := some 72) (v := ?_) (a' := ?_) #[τ, φ, φ, φ, φ, φ, φ, φ, φ, φ, φ, φ, φ, φ, φ, φ, φ, φ, φ, φ, φ, φ, φ, φ, φ, φ, φ, φ] rfl rfl (any_of HT_.out (by kernel_rfl)) (fun _ _ _ h => h) (Or.inl ⟨by rfl, ?_⟩) ?_ ?_
           rotate_left
           ·
            intro w'
            go_simp
            with_reducible rfl
           rotate_left
           ·
            simp only [Act.put, List.setIfInBounds_toArray, List.set_cons_zero, List.set_cons_succ, i64_w, i32_w]
            rfl
           refine pure_ (i := 1) (N := some 73) (v := ?_) (a' := ?_) #[τ, τ, φ, φ, φ, φ, φ, φ, φ, φ, φ, φ, φ, φ, φ, φ, φ, φ, φ, φ, φ, φ, φ, φ, φ, φ, φ, φ] rfl rfl (any_of HT_.out (by kernel_rfl)) (fun _ _ _ h => h) (Or.inl ⟨by rfl, ?_⟩) ?_ ?_
           rotate_left
           ·
            intro w'
            go_simp
            with_reducible rfl
           rotate_left
           ·
            simp only [Act.put, List.setIfInBounds_toArray, List.set_cons_zero, List.set_cons_succ, i64_w, i32_w]
            rfl
           refine pure_ (i := 2) (N := some 74) (v := ?_) (a' := ?_) #[τ, τ, τ, φ, φ, φ, φ, φ, φ, φ, φ, φ, φ, φ, φ, φ, φ, φ, φ, φ, φ, φ, φ, φ, φ, φ, φ, φ] rfl rfl (any_of HT_.out (by kernel_rfl)) (fun _ _ _ h => h) (Or.inl ⟨by rfl, ?_⟩) ?_ ?_
           rotate_left
           ·
            intro w'
            go_simp
            with_reducible rfl
           rotate_left
           ·
            simp only [Act.put, List.setIfInBounds_toArray, List.set_cons_zero, List.set_cons_succ, i64_w, i32_w]
            rfl
           refine pure_ (i := 3) (N := some 75) (v := undef) (a' := ?_) #[τ, τ, τ, τ, φ, φ, φ, φ, φ, φ, φ, φ, φ, φ, φ, φ, φ, φ, φ, φ, φ, φ, φ, φ, φ, φ, φ, φ] rfl rfl (any_of HT_.out (by kernel_rfl)) (fun _ _ _ h => h) (Or.inr ⟨by rfl, rfl⟩) ?_ ?_
           rotate_left
           ·
            simp only [Act.put, List.setIfInBounds_toArray, List.set_cons_zero, List.set_cons_succ, i64_w, i32_w]
            rfl
           refine pure_ (i := 4) (N := some 76) (v := undef) (a' := ?_) #[τ, τ, τ, τ, τ, φ, φ, φ, φ, φ, φ, φ, φ, φ, φ, φ, φ, φ, φ, φ, φ, φ, φ, φ, φ, φ, φ, φ] rfl rfl (any_of HT_.out (by kernel_rfl)) (fun _ _ _ h => h) (Or.inr ⟨by rfl, rfl⟩) ?_ ?_
           rotate_left
           ·
            simp only [Act.put, List.setIfInBounds_toArray, List.set_cons_zero, List.set_cons_succ, i64_w, i32_w]
            rfl
           refine pure_ (i := 5) (N := some 77) (v := undef) (a' := ?_) #[τ, τ, τ, τ, τ, τ, φ, φ, φ, φ, φ, φ, φ, φ, φ, φ, φ, φ, φ, φ, φ, φ, φ, φ, φ, φ, φ, φ] rfl rfl (any_of HT_.out (by kernel_rfl)) (fun _ _ _ h => h) (Or.inr ⟨by rfl, rfl⟩) ?_ ?_
           rotate_left
           ·
            simp only [Act.put, List.setIfInBounds_toArray, List.set_cons_zero, List.set_cons_succ, i64_w, i32_w]
            rfl
           refine pure_ (i := 6) (N := some 78) (v := undef) (a' := ?_) #[τ, τ, τ, τ, τ, τ, τ, φ, φ, φ, φ, φ, φ, φ, φ, φ, φ, φ, φ, φ, φ, φ, φ, φ, φ, φ, φ, φ] rfl rfl (any_of HT_.out (by kernel_rfl)) (fun _ _ _ h => h) (Or.inr ⟨by rfl, rfl⟩) ?_ ?_
           rotate_left
           ·
            simp only [Act.put, List.setIfInBounds_toArray, List.set_cons_zero, List.set_cons_succ, i64_w, i32_w]
            rfl
           refine pure_ (i := 7) (N := some 79) (v := undef) (a' := ?_) #[τ, τ, τ, τ, τ, τ, τ, τ, φ, φ, φ, φ, φ, φ, φ, φ, φ, φ, φ, φ, φ, φ, φ, φ, φ, φ, φ, φ] rfl rfl (any_of HT_.out (by kernel_rfl)) (fun _ _ _ h => h) (Or.inr ⟨by rfl, rfl⟩) ?_ ?_
           rotate_left
           ·
            simp only [Act.put, List.setIfInBounds_toArray, List.set_cons_zero, List.set_cons_succ, i64_w, i32_w]
            rfl
           refine pure_ (i := 8) (N := some 80) (v := undef) (a' := ?_) #[τ, τ, τ, τ, τ, τ, τ, τ, τ, φ, φ, φ, φ, φ, φ, φ, φ, φ, φ, φ, φ, φ, φ, φ, φ, φ, φ, φ] rfl rfl (any_of HT_.out (by kernel_rfl)) (fun _ _ _ h => h) (Or.inr ⟨by rfl, rfl⟩) ?_ ?_
           rotate_left
           ·
            simp only [Act.put, List.setIfInBounds_toArray, List.set_cons_zero, List.set_cons_succ, i64_w, i32_w]
            rfl
           refine pure_ (i := 9) (N := some 81) (v := undef) (a' := ?_) #[τ, τ, τ, τ, τ, τ, τ, τ, τ, τ, φ, φ, φ, φ, φ, φ, φ, φ, φ, φ, φ, φ, φ, φ, φ, φ, φ, φ] rfl rfl (any_of HT_.out (by kernel_rfl)) (fun _ _ _ h => h) (Or.inr ⟨by rfl, rfl⟩) ?_ ?_
           rotate_left
           ·
            simp only [Act.put, List.setIfInBounds_toArray, List.set_cons_zero, List.set_cons_succ, i64_w, i32_w]
            rfl
           refine pure_ (i := 10) (N := some 82) (v := undef) (a' := ?_) #[τ, τ, τ, τ, τ, τ, τ, τ, τ, τ, τ, φ, φ, φ, φ, φ, φ, φ, φ, φ, φ, φ, φ, φ, φ, φ, φ, φ] rfl rfl (any_of HT_.out (by kernel_rfl)) (fun _ _ _ h => h) (Or.inr ⟨by rfl, rfl⟩) ?_ ?_
           rotate_left
           ·
            simp only [Act.put, List.setIfInBounds_toArray, List.set_cons_zero, List.set_cons_succ, i64_w, i32_w]
            rfl
           refine pure_ (i := 11) (N := some 83) (v := undef) (a' := ?_) #[τ, τ, τ, τ, τ, τ, τ, τ, τ, τ, τ, τ, φ, φ, φ, φ, φ, φ, φ, φ, φ, φ, φ, φ, φ, φ, φ, φ] rfl rfl (any_of HT_.out (by kernel_rfl)) (fun _ _ _ h => h) (Or.inr ⟨by rfl, rfl⟩) ?_ ?_
           rotate_left
           ·
            simp only [Act.put, List.setIfInBounds_toArray, List.set_cons_zero, List.set_cons_succ, i64_w, i32_w]
            rfl
           refine pure_ (i := 12) (N := some 84) (v := undef) (a' := ?_) #[τ, τ, τ, τ, τ, τ, τ, τ, τ, τ, τ, τ, τ, φ, φ, φ, φ, φ, φ, φ, φ, φ, φ, φ, φ, φ, φ, φ] rfl rfl (any_of HT_.out (by kernel_rfl)) (fun _ _ _ h => h) (Or.inr ⟨by rfl, rfl⟩) ?_ ?_
           rotate_left
           ·
            simp only [Act.put, List.setIfInBounds_toArray, List.set_cons_zero, List.set_cons_succ, i64_w, i32_w]
            rfl
           refine pure_ (i := 13) (N := some 85) (v := ?_) (a' := ?_) #[τ, τ, τ, τ, τ, τ, τ, τ, τ, τ, τ, τ, τ, τ, φ, φ, φ, φ, φ, φ, φ, φ, φ, φ, φ, φ, φ, φ] rfl rfl (any_of HT_.out (by kernel_rfl)) (fun _ _ _ h => h) (Or.inl ⟨by rfl, ?_⟩) ?_ ?_
           rotate_left
           ·
            intro w'
            go_simp
            with_reducible rfl
           rotate_left
           ·
            simp only [Act.put, List.setIfInBounds_toArray, List.set_cons_zero, List.set_cons_succ, i64_w, i32_w]
            rfl
           refine pure_ (i := 14) (N := some 86) (v := ?_) (a' := ?_) #[τ, τ, τ, τ, τ, τ, τ, τ, τ, τ, τ, τ, τ, τ, τ, φ, φ, φ, φ, φ, φ, φ, φ, φ, φ, φ, φ, φ] rfl rfl (any_of HT_.out (by kernel_rfl)) (fun _ _ _ h => h) (Or.inl ⟨by rfl, ?_⟩) ?_ ?_
           rotate_left
           ·
            intro w'
            go_simp
            with_reducible rfl
           rotate_left
           ·
            simp only [Act.put, List.setIfInBounds_toArray, List.set_cons_zero, List.set_cons_succ, i64_w, i32_w]
            rfl
           refine pure_ (i := 15) (N := some 87) (v := ?_) (a' := ?_) #[τ, τ, τ, τ, τ, τ, τ, τ, τ, τ, τ, τ, τ, τ, τ, τ, φ, φ, φ, φ, φ, φ, φ, φ, φ, φ, φ, φ] rfl rfl (any_of HT_.out (by kernel_rfl)) (fun _ _ _ h => h) (Or.inl ⟨by rfl, ?_⟩) ?_ ?_
           rotate_left
           ·
            intro w'
            go_simp
            with_reducible rfl
           rotate_left
           ·
            simp only [Act.put, List.setIfInBounds_toArray, List.set_cons_zero, List.set_cons_succ, i64_w, i32_w]
            rfl
           refine pure_ (i := 16) (N := some 88) (v := ?_) (a' := ?_) #[τ, τ, τ, τ, τ, τ, τ, τ, τ, τ, τ, τ, τ, τ, τ, τ, τ, φ, φ, φ, φ, φ, φ, φ, φ, φ, φ, φ] rfl rfl (any_of HT_.out (by kernel_rfl)) (fun _ _ _ h => h) (Or.inl ⟨by rfl, ?_⟩) ?_ ?_
           rotate_left
           ·
            intro w'
            go_simp
            with_reducible rfl
           rotate_left
           ·
            simp only [Act.put, List.setIfInBounds_toArray, List.set_cons_zero, List.set_cons_succ, i64_w, i32_w]
            rfl
           refine pure_ (i := 18) (N := some 90) (v := ?_) (a' := ?_) #[τ, τ, τ, τ, τ, τ, τ, τ, τ, τ, τ, τ, τ, τ, τ, τ, τ, φ, τ, φ, φ, φ, φ, φ, φ, φ, φ, φ] rfl rfl (any_of HT_.out (by kernel_rfl)) (fun _ _ _ h => h) (Or.inl ⟨by rfl, ?_⟩) ?_ ?_
           rotate_left
           ·
            intro w'
            go_simp
            with_reducible rfl
           rotate_left
           ·
            simp only [Act.put, List.setIfInBounds_toArray, List.set_cons_zero, List.set_cons_succ, i64_w, i32_w]
            rfl
           refine pure_ (i := 20) (N := some 92) (v := ?_) (a' := ?_) #[τ, τ, τ, τ, τ, τ, τ, τ, τ, τ, τ, τ, τ, τ, τ, τ, τ, φ, τ, φ, τ, φ, φ, φ, φ, φ, φ, φ] rfl rfl (any_of HT_.out (by kernel_rfl)) (fun _ _ _ h => h) (Or.inl ⟨by rfl, ?_⟩) ?_ ?_
           rotate_left
           ·
            intro w'
            go_simp
            with_reducible rfl
           rotate_left
           ·
            simp only [Act.put, List.setIfInBounds_toArray, List.set_cons_zero, List.set_cons_succ, i64_w, i32_w]
            rfl
           refine pure_ (i := 21) (N := some 93) (v := ?_) (a' := ?_) #[τ, τ, τ, τ, τ, τ, τ, τ, τ, τ, τ, τ, τ, τ, τ, τ, τ, φ, τ, φ, τ, τ, φ, φ, φ, φ, φ, φ] rfl rfl (any_of HT_.out (by kernel_rfl)) (fun _ _ _ h => h) (Or.inl ⟨by rfl, ?_⟩) ?_ ?_
           rotate_left
           ·
            intro w'
            go_simp
            with_reducible rfl
           rotate_left
           ·
            simp only [Act.put, List.setIfInBounds_toArray, List.set_cons_zero, List.set_cons_succ, i64_w, i32_w]
            rfl
           refine pure_ (i := 22) (N := some 94) (v := ?_) (a' := ?_) #[τ, τ, τ, τ, τ, τ, τ, τ, τ, τ, τ, τ, τ, τ, τ, τ, τ, φ, τ, φ, τ, τ, τ, φ, φ, φ, φ, φ] rfl rfl (any_of HT_.out (by kernel_rfl)) (fun _ _ _ h => h) (Or.inl ⟨by rfl, ?_⟩) ?_ ?_
           rotate_left
           ·
            intro w'
            go_simp
            with_reducible rfl
           rotate_left
           ·
            simp only [Act.put, List.setIfInBounds_toArray, List.set_cons_zero, List.set_cons_succ, i64_w, i32_w]
            rfl
           refine take_ (i := 17) (N := some 89) (v := ?_) (a' := ?_) #[τ, τ, τ, τ, τ, τ, τ, τ, τ, τ, τ, τ, τ, τ, τ, τ, τ, τ, τ, φ, τ, τ, τ, φ, φ, φ, φ, φ] rfl rfl (take_ofW HT_.out HW_.out (by kernel_rfl)) (fun _ _ _ h => h) (Or.inl ⟨by rfl, ?_⟩) hHeld ?_ ?_
           rotate_left
           ·
            rintro w' ⟨s0, s1, s2, s3⟩
            go_simp
            with_reducible rfl
           rotate_left
           ·
            simp only [Act.put, List.setIfInBounds_toArray, List.set_cons_zero, List.set_cons_succ, i64_w, i32_w]
            rfl
           refine take_ (i := 19) (N := some 91) (v := ?_) (a' := ?_) #[τ, τ, τ, τ, τ, τ, τ, τ, τ, τ, τ, τ, τ, τ, τ, τ, τ, τ, τ, τ, τ, τ, τ, φ, φ, φ, φ, φ] rfl rfl (take_ofW HT_.out HW_.out (by kernel_rfl)) (fun _ _ _ h => h) (Or.inl ⟨by rfl, ?_⟩) hHeld ?_ ?_
           rotate_left
           ·
            rintro w' ⟨s0, s1, s2, s3⟩
            go_simp
            with_reducible rfl
           rotate_left
           ·
            simp only [Act.put, List.setIfInBounds_toArray, List.set_cons_zero, List.set_cons_succ, i64_w, i32_w]
            rfl
           refine take_ (i := 23) (N := some 95) (v := ?_) (a' := ?_) #[τ, τ, τ, τ, τ, τ, τ, τ, τ, τ, τ, τ, τ, τ, τ, τ, τ, τ, τ, τ, τ, τ, τ, τ, φ, φ, φ, φ] rfl rfl (take_ofW HT_.out HW_.out (by kernel_rfl)) (fun _ _ _ h => h) (Or.inl ⟨by rfl, ?_⟩) hHeld ?_ ?_
           rotate_left
           ·
            rintro w' ⟨s0, s1, s2, s3⟩
            go_simp
            with_reducible rfl
           rotate_left
           ·
            simp only [Act.put, List.setIfInBounds_toArray, List.set_cons_zero, List.set_cons_succ, i64_w, i32_w]
            rfl
           refine pure_ (i := 24) (N := some 96) (v := ?_) (a' := ?_) #[τ, τ, τ, τ, τ, τ, τ, τ, τ, τ, τ, τ, τ, τ, τ, τ, τ, τ, τ, τ, τ, τ, τ, τ, τ, φ, φ, φ] rfl rfl (any_of HT_.out (by kernel_rfl)) (fun _ _ _ h => h) (Or.inl ⟨by rfl, ?_⟩) ?_ ?_
           rotate_left
           ·
            intro w'
            go_simp
            with_reducible rfl
           rotate_left
           ·
            simp only [Act.put, List.setIfInBounds_toArray, List.set_cons_zero, List.set_cons_succ, i64_w, i32_w]
            rfl
           refine one_ (i := 25) (N := some 97) #[τ, τ, τ, τ, τ, τ, τ, τ, τ, τ, τ, τ, τ, τ, τ, τ, τ, τ, τ, τ, τ, τ, τ, τ, τ, τ, φ, φ] rfl rfl (one_of HT_.out (by kernel_rfl)) (by decide) (fun K hK => ?_)
           refine goes_ Try.func15 (by kernel_rfl) rfl #[.slice Ao20 t211.length co20, .agg #[.int .i64 t216, .int .i64 t217, .int .i64 (rd t241 x17_2)]] (by rfl) rfl rfl (by (try simp only [List.map_toArray, List.map_cons, List.map_nil]); first | done | rfl | (simp only [List.length_drop, List.length_take]; rfl)) ?_
           with_reducible refine (seen_Has.calls _ _ t211 t216 t217 (rd t241 x17_2) true _ ?side1 ?side2 A110.out).mono ?_
           (case side1 => repeat (first | exact (Kd.R_reads' HO_10.out).2.2 | (with_reducible refine Kd.C_alloc ?_ _) | (with_reducible refine Kd.C_drewN ?_ _) | (with_reducible refine Kd.C_drew ?_)))
           (case side2 => exact (Kd.R_reads' HO_10.out).2.1)
           rintro e w115 ⟨rfl, hb⟩
           have HS3_ := (hb.cell (World.block_lt_of_cell? _ _ (hHeld.2.2.2))).trans (hHeld.2.2.2)
           refine ⟨_, rfl, ?_⟩
           have n0_ := Aside0.mk (Kd.R_below (by (with_reducible repeat (first | apply Kd.R_alloc | apply Kd.R_drewN | apply Kd.R_drew)); exact HO_10.out) hb)
           have n1_ := Aside0.mk (Kd.R_below (by (with_reducible repeat (first | apply Kd.R_alloc | apply Kd.R_drewN | apply Kd.R_drew)); exact HO_15.out) hb)
           have n2_ := Aside0.mk (blk_below (g := gb209) (o := .cells #[.int .i64 a3_0, .int .i64 a3_1, .int .i64 a3_2] 26 (0, 0)) (by (with_reducible repeat (first | refine blk_drewN ?_ _ | refine blk_drew ?_ | refine blk_alloc ?_ _)); exact BK209.out) hb)
           have n3_ := Aside0.mk (blk_below (g := gb219) (o := .cells #[.int .i64 t216, .int .i64 t217, .int .i64 t218] 25 (0, 0)) (by (with_reducible repeat (first | refine blk_drewN ?_ _ | refine blk_drew ?_ | refine blk_alloc ?_ _)); exact BK219.out) hb)
           have n4_ := Aside0.mk (below_step (by repeat (first | (with_reducible first | exact HB.out | apply below_alloc | apply pw_below_drewN | apply below_drew1 | refine below_set ?_ GE209.out | refine below_set ?_ GE219.out) | exact HB.out)) hb)
           clear HO_10
           clear HO_15
           clear BK209
           clear BK219
           clear HB
           have HO_10 := n0_
           have HO_15 := n1_
           have BK209 := n2_
           have BK219 := n3_
           have HB := n4_
           clear n0_ n1_ n2_ n3_ n4_
           (try clear hb)
           (try clear hb2)
           (try clear hk)
           (try clear hi)
           refine hK.out _ _ ⟨(blk_cell BK219.out 0).trans rfl, (blk_cell BK219.out 1).trans rfl, (blk_cell BK219.out 2).trans rfl, HS3_⟩ (fun hHeld => ?_)
           clear hK K
           refine norm_ (a' := ?_) ?_ ?_
           rotate_left
           ·
            show Act.put _ (some 97) _ = _
            simp only [Act.put, List.setIfInBounds_toArray, List.set_cons_zero, List.set_cons_succ, i64_w, i32_w]
            rfl
           refine pure_ (i := 26) (N := some 98) (v := ?_) (a' := ?_) #[τ, τ, τ, τ, τ, τ, τ, τ, τ, τ, τ, τ, τ, τ, τ, τ, τ, τ, τ, τ, τ, τ, τ, τ, τ, τ, τ, φ] rfl rfl (any_of HT_.out (by kernel_rfl)) (fun _ _ _ h => h) (Or.inl ⟨by rfl, ?_⟩) ?_ ?_
           rotate_left
           ·
            intro w'
            go_simp
            with_reducible rfl
           rotate_left
           ·
            simp only [Act.put, List.setIfInBounds_toArray, List.set_cons_zero, List.set_cons_succ, i64_w, i32_w]
            rfl
           refine pure_ (i := 27) (N := some 99) (v := ?_) (a' := ?_) #[τ, τ, τ, τ, τ, τ, τ, τ, τ, τ, τ, τ, τ, τ, τ, τ, τ, τ, τ, τ, τ, τ, τ, τ, τ, τ, τ, τ] rfl rfl (any_of HT_.out (by kernel_rfl)) (fun _ _ _ h => h) (Or.inl ⟨by rfl, ?_⟩) ?_ ?_
           rotate_left
           ·
            intro w'
            go_simp
            with_reducible rfl
           rotate_left
           ·
            simp only [Act.put, List.setIfInBounds_toArray, List.set_cons_zero, List.set_cons_succ, i64_w, i32_w]
            rfl
           refine done_ (done_of HT_.out (by kernel_rfl)) ?_
           try go_wp2
           have n0_ := Aside0.mk (Kd.R_drew HO_10.out)
           have n1_ := Aside0.mk (Kd.R_drew HO_15.out)
           have n2_ := Aside0.mk (blk_drew BK209.out)
           have n3_ := Aside0.mk (blk_drew BK219.out)
           have n4_ := Aside0.mk (below_drew1 HB.out)
           clear HO_10
           clear HO_15
           clear BK209
           clear BK219
           clear HB
           have HO_10 := n0_
           have HO_15 := n1_
           have BK209 := n2_
           have BK219 := n3_
           have HB := n4_
           clear n0_ n1_ n2_ n3_ n4_
           refine start_ (n := 11) (S := fun w' => True) (ds := []) #[φ, φ, φ, φ, φ, φ, φ, φ, φ, φ, φ] (by kernel_rfl) rfl rfl trivial (fun hHeld => ?_); refine with_tabW mootbelllaw13_SeenPrune.tab16 mootbelllaw13_SeenPrune.bits16 (fun HT_ HW_ => ?_)
           generalize w115.drew = w116 at HO_10 HO_15 BK209 BK219 HB hHeld ⊢
           refine pure_ (i := 0) (N := some 100) (v := ?_) (a' := ?_) #[τ, φ, φ, φ, φ, φ, φ, φ, φ, φ, φ] rfl rfl (any_of HT_.out (by kernel_rfl)) (fun _ _ _ h => h) (Or.inl ⟨by rfl, ?_⟩) ?_ ?_
           rotate_left
           ·
            intro w'
            go_simp
            with_reducible rfl
           rotate_left
           ·
            simp only [Act.put, List.setIfInBounds_toArray, List.set_cons_zero, List.set_cons_succ, i64_w, i32_w]
            rfl
           refine pure_ (i := 1) (N := some 101) (v := ?_) (a' := ?_) #[τ, τ, φ, φ, φ, φ, φ, φ, φ, φ, φ] rfl rfl (any_of HT_.out (by kernel_rfl)) (fun _ _ _ h => h) (Or.inl ⟨by rfl, ?_⟩) ?_ ?_
           rotate_left
           ·
            intro w'
            go_simp
            with_reducible rfl
           rotate_left
           ·
            simp only [Act.put, List.setIfInBounds_toArray, List.set_cons_zero, List.set_cons_succ, i64_w, i32_w]
            rfl
           refine pure_ (i := 2) (N := some 102) (v := undef) (a' := ?_) #[τ, τ, τ, φ, φ, φ, φ, φ, φ, φ, φ] rfl rfl (any_of HT_.out (by kernel_rfl)) (fun _ _ _ h => h) (Or.inr ⟨by rfl, rfl⟩) ?_ ?_
           rotate_left
           ·
            simp only [Act.put, List.setIfInBounds_toArray, List.set_cons_zero, List.set_cons_succ, i64_w, i32_w]
            rfl
           refine pure_ (i := 3) (N := some 103) (v := undef) (a' := ?_) #[τ, τ, τ, τ, φ, φ, φ, φ, φ, φ, φ] rfl rfl (any_of HT_.out (by kernel_rfl)) (fun _ _ _ h => h) (Or.inr ⟨by rfl, rfl⟩) ?_ ?_
           rotate_left
           ·
            simp only [Act.put, List.setIfInBounds_toArray, List.set_cons_zero, List.set_cons_succ, i64_w, i32_w]
            rfl
           refine pure_ (i := 4) (N := some 104) (v := undef) (a' := ?_) #[τ, τ, τ, τ, τ, φ, φ, φ, φ, φ, φ] rfl rfl (any_of HT_.out (by kernel_rfl)) (fun _ _ _ h => h) (Or.inr ⟨by rfl, rfl⟩) ?_ ?_
           rotate_left
           ·
            simp only [Act.put, List.setIfInBounds_toArray, List.set_cons_zero, List.set_cons_succ, i64_w, i32_w]
            rfl
           refine pure_ (i := 5) (N := some 105) (v := undef) (a' := ?_) #[τ, τ, τ, τ, τ, τ, φ, φ, φ, φ, φ] rfl rfl (any_of HT_.out (by kernel_rfl)) (fun _ _ _ h => h) (Or.inr ⟨by rfl, rfl⟩) ?_ ?_
           rotate_left
           ·
            simp only [Act.put, List.setIfInBounds_toArray, List.set_cons_zero, List.set_cons_succ, i64_w, i32_w]
            rfl
           refine pure_ (i := 6) (N := some 106) (v := undef) (a' := ?_) #[τ, τ, τ, τ, τ, τ, τ, φ, φ, φ, φ] rfl rfl (any_of HT_.out (by kernel_rfl)) (fun _ _ _ h => h) (Or.inr ⟨by rfl, rfl⟩) ?_ ?_
           rotate_left
           ·
            simp only [Act.put, List.setIfInBounds_toArray, List.set_cons_zero, List.set_cons_succ, i64_w, i32_w]
            rfl
           refine pure_ (i := 7) (N := some 107) (v := undef) (a' := ?_) #[τ, τ, τ, τ, τ, τ, τ, τ, φ, φ, φ] rfl rfl (any_of HT_.out (by kernel_rfl)) (fun _ _ _ h => h) (Or.inr ⟨by rfl, rfl⟩) ?_ ?_
           rotate_left
           ·
            simp only [Act.put, List.setIfInBounds_toArray, List.set_cons_zero, List.set_cons_succ, i64_w, i32_w]
            rfl
           refine pure_ (i := 8) (N := some 108) (v := undef) (a' := ?_) #[τ, τ, τ, τ, τ, τ, τ, τ, τ, φ, φ] rfl rfl (any_of HT_.out (by kernel_rfl)) (fun _ _ _ h => h) (Or.inr ⟨by rfl, rfl⟩) ?_ ?_
           rotate_left
           ·
            simp only [Act.put, List.setIfInBounds_toArray, List.set_cons_zero, List.set_cons_succ, i64_w, i32_w]
            rfl
           refine pure_ (i := 9) (N := some 109) (v := ?_) (a' := ?_) #[τ, τ, τ, τ, τ, τ, τ, τ, τ, τ, φ] rfl rfl (any_of HT_.out (by kernel_rfl)) (fun _ _ _ h => h) (Or.inl ⟨by rfl, ?_⟩) ?_ ?_
           rotate_left
           ·
            intro w'
            go_simp
            with_reducible rfl
           rotate_left
           ·
            simp only [Act.put, List.setIfInBounds_toArray, List.set_cons_zero, List.set_cons_succ, i64_w, i32_w]
            rfl
           refine pure_ (i := 10) (N := some 16) (v := ?_) (a' := ?_) #[τ, τ, τ, τ, τ, τ, τ, τ, τ, τ, τ] rfl rfl (any_of HT_.out (by kernel_rfl)) (fun _ _ _ h => h) (Or.inl ⟨by rfl, ?_⟩) ?_ ?_
           rotate_left
           ·
            intro w'
            go_simp
            with_reducible rfl
           rotate_left
           ·
            simp only [Act.put, List.setIfInBounds_toArray, List.set_cons_zero, List.set_cons_succ, i64_w, i32_w]
            rfl
           refine done_ (done_of HT_.out (by kernel_rfl)) ?_
           try go_wp2
           go_roundg k2
           case measure => have := HJ10.out; have := HK2.out; omega
           case rel => exact ⟨(true), (wrap64 (x17_2 + 1)), (by first | rfl | (simp; done) | (simp [*]; done)), (by first | rfl | (simp; done) | (simp [*]; done)), H', ⟨by have := HJ10.out; have := HK2.out; omega⟩, ⟨by (with_reducible repeat (first | apply Kd.R_alloc | apply Kd.R_drewN | apply Kd.R_drew)); exact HO_10.out⟩, ⟨by (with_reducible repeat (first | apply Kd.R_alloc | apply Kd.R_drewN | apply Kd.R_drew)); exact HO_15.out⟩, ⟨by (with_reducible repeat (first | refine blk_drewN ?_ _ | refine blk_drew ?_ | refine blk_alloc ?_ _)); exact BK209.out⟩, ⟨by (with_reducible repeat (first | refine blk_drewN ?_ _ | refine blk_drew ?_ | refine blk_alloc ?_ _)); exact BK219.out⟩, ⟨by repeat (first | (with_reducible first | exact HB.out | apply below_alloc | apply pw_below_drewN | apply below_drew1 | refine below_set ?_ GE209.out | refine below_set ?_ GE219.out) | exact HB.out)⟩⟩
          ·
           replace c112 := Bool.eq_false_iff.mpr c112
           subst c112
           have H1 : (mootbelllaw13_SeenPrune.l0 k2 t210 t211 t241 ((rd t241 x17_2) == t218) (wrap64 (x17_2 + 1)) t216 t217 t218) = some r := by rw [if_neg (show ¬ (false = true) by decide)] at H; exact H
           clear H
           have H := H1
           clear H1
           have H' := Aside0.mk H
           clear H
           obtain ⟨Ao117, co117, eo117⟩ := Kd.R_slice HO_15.out
           subst eo117
           try go_wp2
           have n0_ := Aside0.mk (Kd.R_drew HO_10.out)
           have n1_ := Aside0.mk (Kd.R_drew HO_15.out)
           have n2_ := Aside0.mk (blk_drew BK209.out)
           have n3_ := Aside0.mk (blk_drew BK219.out)
           have n4_ := Aside0.mk (below_drew1 HB.out)
           clear HO_10
           clear HO_15
           clear BK209
           clear BK219
           clear HB
           have HO_10 := n0_
           have HO_15 := n1_
           have BK209 := n2_
           have BK219 := n3_
           have HB := n4_
           clear n0_ n1_ n2_ n3_ n4_
           have p249 : 0 ≤ (x17_2 : Int) := of_decide_eq_true (by first | (with_reducible assumption) | assumption)
           have q249 : x17_2 < (t241.length : Int) := of_decide_eq_true (by first | (with_reducible assumption) | assumption)
           obtain ⟨ad249, e249, hx249_0⟩ := Kd.at_int (Kd.R_reads' HO_15.out).2.2 x17_2 p249 q249
           cases e249
           replace p249 := eq_true p249
           replace q249 := eq_true q249
           refine start_ (n := 28) (S := fun w' => w'.cell? ⟨gb219, 0, none⟩ = some (.int .i64 t216) ∧ w'.cell? ⟨gb219, 1, none⟩ = some (.int .i64 t217) ∧ w'.cell? ⟨gb219, 2, none⟩ = some (.int .i64 t218) ∧ w'.cell? (ad249.add (x17_2).toNat) = some (.int .i64 (rd t241 x17_2))) (ds := []) #[φ, φ, φ, φ, φ, φ, φ, φ, φ, φ, φ, φ, φ, φ, φ, φ, φ, φ, φ, φ, φ, φ, φ, φ, φ, φ, φ, φ] (by kernel_rfl) rfl rfl ⟨(blk_cell BK219.out 0).trans rfl, (blk_cell BK219.out 1).trans rfl, (blk_cell BK219.out 2).trans rfl, hx249_0⟩ (fun hHeld => ?_); refine with_tabW mootbelllaw13_SeenPrune.tab14 mootbelllaw13_SeenPrune.bits14 (fun HT_ HW_ => ?_)
           generalize wr.drew = w118 at HO_10 HO_15 BK209 BK219 HB hx249_0 hHeld ⊢
           refine pure_ (i := 0) (N := some 72) (v := ?_) (a' := ?_) #[τ, φ, φ, φ, φ, φ, φ, φ, φ, φ, φ, φ, φ, φ, φ, φ, φ, φ, φ, φ, φ, φ, φ, φ, φ, φ, φ, φ] rfl rfl (any_of HT_.out (by kernel_rfl)) (fun _ _ _ h => h) (Or.inl ⟨by rfl, ?_⟩) ?_ ?_
           rotate_left
           ·
            intro w'
            go_simp
            with_reducible rfl
           rotate_left
           ·
            simp only [Act.put, List.setIfInBounds_toArray, List.set_cons_zero, List.set_cons_succ, i64_w, i32_w]
            rfl
           refine pure_ (i := 1) (N := some 73) (v := ?_) (a' := ?_) #[τ, τ, φ, φ, φ, φ, φ, φ, φ, φ, φ, φ, φ, φ, φ, φ, φ, φ, φ, φ, φ, φ, φ, φ, φ, φ, φ, φ] rfl rfl (any_of HT_.out (by kernel_rfl)) (fun _ _ _ h => h) (Or.inl ⟨by rfl, ?_⟩) ?_ ?_
           rotate_left
           ·
            intro w'
            go_simp
            with_reducible rfl
           rotate_left
           ·
            simp only [Act.put, List.setIfInBounds_toArray, List.set_cons_zero, List.set_cons_succ, i64_w, i32_w]
            rfl
           refine pure_ (i := 2) (N := some 74) (v := ?_) (a' := ?_) #[τ, τ, τ, φ, φ, φ, φ, φ, φ, φ, φ, φ, φ, φ, φ, φ, φ, φ, φ, φ, φ, φ, φ, φ, φ, φ, φ, φ] rfl rfl (any_of HT_.out (by kernel_rfl)) (fun _ _ _ h => h) (Or.inl ⟨by rfl, ?_⟩) ?_ ?_
           rotate_left
           ·
            intro w'
            go_simp
            with_reducible rfl
           rotate_left
           ·
            simp only [Act.put, List.setIfInBounds_toArray, List.set_cons_zero, List.set_cons_succ, i64_w, i32_w]
            rfl
           refine pure_ (i := 3) (N := some 75) (v := undef) (a' := ?_) #[τ, τ, τ, τ, φ, φ, φ, φ, φ, φ, φ, φ, φ, φ, φ, φ, φ, φ, φ, φ, φ, φ, φ, φ, φ, φ, φ, φ] rfl rfl (any_of HT_.out (by kernel_rfl)) (fun _ _ _ h => h) (Or.inr ⟨by rfl, rfl⟩) ?_ ?_
           rotate_left
           ·
            simp only [Act.put, List.setIfInBounds_toArray, List.set_cons_zero, List.set_cons_succ, i64_w, i32_w]
            rfl
           refine pure_ (i := 4) (N := some 76) (v := undef) (a' := ?_) #[τ, τ, τ, τ, τ, φ, φ, φ, φ, φ, φ, φ, φ, φ, φ, φ, φ, φ, φ, φ, φ, φ, φ, φ, φ, φ, φ, φ] rfl rfl (any_of HT_.out (by kernel_rfl)) (fun _ _ _ h => h) (Or.inr ⟨by rfl, rfl⟩) ?_ ?_
           rotate_left
           ·
            simp only [Act.put, List.setIfInBounds_toArray, List.set_cons_zero, List.set_cons_succ, i64_w, i32_w]
            rfl
           refine pure_ (i := 5) (N := some 77) (v := undef) (a' := ?_) #[τ, τ, τ, τ, τ, τ, φ, φ, φ, φ, φ, φ, φ, φ, φ, φ, φ, φ, φ, φ, φ, φ, φ, φ, φ, φ, φ, φ] rfl rfl (any_of HT_.out (by kernel_rfl)) (fun _ _ _ h => h) (Or.inr ⟨by rfl, rfl⟩) ?_ ?_
           rotate_left
           ·
            simp only [Act.put, List.setIfInBounds_toArray, List.set_cons_zero, List.set_cons_succ, i64_w, i32_w]
            rfl
           refine pure_ (i := 6) (N := some 78) (v := undef) (a' := ?_) #[τ, τ, τ, τ, τ, τ, τ, φ, φ, φ, φ, φ, φ, φ, φ, φ, φ, φ, φ, φ, φ, φ, φ, φ, φ, φ, φ, φ] rfl rfl (any_of HT_.out (by kernel_rfl)) (fun _ _ _ h => h) (Or.inr ⟨by rfl, rfl⟩) ?_ ?_
           rotate_left
           ·
            simp only [Act.put, List.setIfInBounds_toArray, List.set_cons_zero, List.set_cons_succ, i64_w, i32_w]
            rfl
           refine pure_ (i := 7) (N := some 79) (v := undef) (a' := ?_) #[τ, τ, τ, τ, τ, τ, τ, τ, φ, φ, φ, φ, φ, φ, φ, φ, φ, φ, φ, φ, φ, φ, φ, φ, φ, φ, φ, φ] rfl rfl (any_of HT_.out (by kernel_rfl)) (fun _ _ _ h => h) (Or.inr ⟨by rfl, rfl⟩) ?_ ?_
           rotate_left
           ·
            simp only [Act.put, List.setIfInBounds_toArray, List.set_cons_zero, List.set_cons_succ, i64_w, i32_w]
            rfl
           refine pure_ (i := 8) (N := some 80) (v := undef) (a' := ?_) #[τ, τ, τ, τ, τ, τ, τ, τ, τ, φ, φ, φ, φ, φ, φ, φ, φ, φ, φ, φ, φ, φ, φ, φ, φ, φ, φ, φ] rfl rfl (any_of HT_.out (by kernel_rfl)) (fun _ _ _ h => h) (Or.inr ⟨by rfl, rfl⟩) ?_ ?_
           rotate_left
           ·
            simp only [Act.put, List.setIfInBounds_toArray, List.set_cons_zero, List.set_cons_succ, i64_w, i32_w]
            rfl
           refine pure_ (i := 9) (N := some 81) (v := undef) (a' := ?_) #[τ, τ, τ, τ, τ, τ, τ, τ, τ, τ, φ, φ, φ, φ, φ, φ, φ, φ, φ, φ, φ, φ, φ, φ, φ, φ, φ, φ] rfl rfl (any_of HT_.out (by kernel_rfl)) (fun _ _ _ h => h) (Or.inr ⟨by rfl, rfl⟩) ?_ ?_
           rotate_left
           ·
            simp only [Act.put, List.setIfInBounds_toArray, List.set_cons_zero, List.set_cons_succ, i64_w, i32_w]
            rfl
           refine pure_ (i := 10) (N := some 82) (v := undef) (a' := ?_) #[τ, τ, τ, τ, τ, τ, τ, τ, τ, τ, τ, φ, φ, φ, φ, φ, φ, φ, φ, φ, φ, φ, φ, φ, φ, φ, φ, φ] rfl rfl (any_of HT_.out (by kernel_rfl)) (fun _ _ _ h => h) (Or.inr ⟨by rfl, rfl⟩) ?_ ?_
           rotate_left
           ·
            simp only [Act.put, List.setIfInBounds_toArray, List.set_cons_zero, List.set_cons_succ, i64_w, i32_w]
            rfl
           refine pure_ (i := 11) (N := some 83) (v := undef) (a' := ?_) #[τ, τ, τ, τ, τ, τ, τ, τ, τ, τ, τ, τ, φ, φ, φ, φ, φ, φ, φ, φ, φ, φ, φ, φ, φ, φ, φ, φ] rfl rfl (any_of HT_.out (by kernel_rfl)) (fun _ _ _ h => h) (Or.inr ⟨by rfl, rfl⟩) ?_ ?_
           rotate_left
           ·
            simp only [Act.put, List.setIfInBounds_toArray, List.set_cons_zero, List.set_cons_succ, i64_w, i32_w]
            rfl
           refine pure_ (i := 12) (N := some 84) (v := undef) (a' := ?_) #[τ, τ, τ, τ, τ, τ, τ, τ, τ, τ, τ, τ, τ, φ, φ, φ, φ, φ, φ, φ, φ, φ, φ, φ, φ, φ, φ, φ] rfl rfl (any_of HT_.out (by kernel_rfl)) (fun _ _ _ h => h) (Or.inr ⟨by rfl, rfl⟩) ?_ ?_
           rotate_left
           ·
            simp only [Act.put, List.setIfInBounds_toArray, List.set_cons_zero, List.set_cons_succ, i64_w, i32_w]
            rfl
           refine pure_ (i := 13) (N := some 85) (v := ?_) (a' := ?_) #[τ, τ, τ, τ, τ, τ, τ, τ, τ, τ, τ, τ, τ, τ, φ, φ, φ, φ, φ, φ, φ, φ, φ, φ, φ, φ, φ, φ] rfl rfl (any_of HT_.out (by kernel_rfl)) (fun _ _ _ h => h) (Or.inl ⟨by rfl, ?_⟩) ?_ ?_
           rotate_left
           ·
            intro w'
            go_simp
            with_reducible rfl
           rotate_left
           ·
            simp only [Act.put, List.setIfInBounds_toArray, List.set_cons_zero, List.set_cons_succ, i64_w, i32_w]
            rfl
           refine pure_ (i := 14) (N := some 86) (v := ?_) (a' := ?_) #[τ, τ, τ, τ, τ, τ, τ, τ, τ, τ, τ, τ, τ, τ, τ, φ, φ, φ, φ, φ, φ, φ, φ, φ, φ, φ, φ, φ] rfl rfl (any_of HT_.out (by kernel_rfl)) (fun _ _ _ h => h) (Or.inl ⟨by rfl, ?_⟩) ?_ ?_
           rotate_left
           ·
            intro w'
            go_simp
            with_reducible rfl
           rotate_left
           ·
            simp only [Act.put, List.setIfInBounds_toArray, List.set_cons_zero, List.set_cons_succ, i64_w, i32_w]
            rfl
           refine pure_ (i := 15) (N := some 87) (v := ?_) (a' := ?_) #[τ, τ, τ, τ, τ, τ, τ, τ, τ, τ, τ, τ, τ, τ, τ, τ, φ, φ, φ, φ, φ, φ, φ, φ, φ, φ, φ, φ] rfl rfl (any_of HT_.out (by kernel_rfl)) (fun _ _ _ h => h) (Or.inl ⟨by rfl, ?_⟩) ?_ ?_
           rotate_left
           ·
            intro w'
            go_simp
            with_reducible rfl
           rotate_left
           ·
            simp only [Act.put, List.setIfInBounds_toArray, List.set_cons_zero, List.set_cons_succ, i64_w, i32_w]
            rfl
           refine pure_ (i := 16) (N := some 88) (v := ?_) (a' := ?_) #[τ, τ, τ, τ, τ, τ, τ, τ, τ, τ, τ, τ, τ, τ, τ, τ, τ, φ, φ, φ, φ, φ, φ, φ, φ, φ, φ, φ] rfl rfl (any_of HT_.out (by kernel_rfl)) (fun _ _ _ h => h) (Or.inl ⟨by rfl, ?_⟩) ?_ ?_
           rotate_left
           ·
            intro w'
            go_simp
            with_reducible rfl
           rotate_left
           ·
            simp only [Act.put, List.setIfInBounds_toArray, List.set_cons_zero, List.set_cons_succ, i64_w, i32_w]
            rfl
           refine pure_ (i := 18) (N := some 90) (v := ?_) (a' := ?_) #[τ, τ, τ, τ, τ, τ, τ, τ, τ, τ, τ, τ, τ, τ, τ, τ, τ, φ, τ, φ, φ, φ, φ, φ, φ, φ, φ, φ] rfl rfl (any_of HT_.out (by kernel_rfl)) (fun _ _ _ h => h) (Or.inl ⟨by rfl, ?_⟩) ?_ ?_
           rotate_left
           ·
            intro w'
            go_simp
            with_reducible rfl
           rotate_left
           ·
            simp only [Act.put, List.setIfInBounds_toArray, List.set_cons_zero, List.set_cons_succ, i64_w, i32_w]
            rfl
           refine pure_ (i := 20) (N := some 92) (v := ?_) (a' := ?_) #[τ, τ, τ, τ, τ, τ, τ, τ, τ, τ, τ, τ, τ, τ, τ, τ, τ, φ, τ, φ, τ, φ, φ, φ, φ, φ, φ, φ] rfl rfl (any_of HT_.out (by kernel_rfl)) (fun _ _ _ h => h) (Or.inl ⟨by rfl, ?_⟩) ?_ ?_
           rotate_left
           ·
            intro w'
            go_simp
            with_reducible rfl
           rotate_left
           ·
            simp only [Act.put, List.setIfInBounds_toArray, List.set_cons_zero, List.set_cons_succ, i64_w, i32_w]
            rfl
           refine pure_ (i := 21) (N := some 93) (v := ?_) (a' := ?_) #[τ, τ, τ, τ, τ, τ, τ, τ, τ, τ, τ, τ, τ, τ, τ, τ, τ, φ, τ, φ, τ, τ, φ, φ, φ, φ, φ, φ] rfl rfl (any_of HT_.out (by kernel_rfl)) (fun _ _ _ h => h) (Or.inl ⟨by rfl, ?_⟩) ?_ ?_
           rotate_left
           ·
            intro w'
            go_simp
            with_reducible rfl
           rotate_left
           ·
            simp only [Act.put, List.setIfInBounds_toArray, List.set_cons_zero, List.set_cons_succ, i64_w, i32_w]
            rfl
           refine pure_ (i := 22) (N := some 94) (v := ?_) (a' := ?_) #[τ, τ, τ, τ, τ, τ, τ, τ, τ, τ, τ, τ, τ, τ, τ, τ, τ, φ, τ, φ, τ, τ, τ, φ, φ, φ, φ, φ] rfl rfl (any_of HT_.out (by kernel_rfl)) (fun _ _ _ h => h) (Or.inl ⟨by rfl, ?_⟩) ?_ ?_
           rotate_left
           ·
            intro w'
            go_simp
            with_reducible rfl
           rotate_left
           ·
            simp only [Act.put, List.setIfInBounds_toArray, List.set_cons_zero, List.set_cons_succ, i64_w, i32_w]
            rfl
           refine take_ (i := 17) (N := some 89) (v := ?_) (a' := ?_) #[τ, τ, τ, τ, τ, τ, τ, τ, τ, τ, τ, τ, τ, τ, τ, τ, τ, τ, τ, φ, τ, τ, τ, φ, φ, φ, φ, φ] rfl rfl (take_ofW HT_.out HW_.out (by kernel_rfl)) (fun _ _ _ h => h) (Or.inl ⟨by rfl, ?_⟩) hHeld ?_ ?_
           rotate_left
           ·
            rintro w' ⟨s0, s1, s2, s3⟩
            go_simp
            with_reducible rfl
           rotate_left
           ·
            simp only [Act.put, List.setIfInBounds_toArray, List.set_cons_zero, List.set_cons_succ, i64_w, i32_w]
            rfl
           refine take_ (i := 19) (N := some 91) (v := ?_) (a' := ?_) #[τ, τ, τ, τ, τ, τ, τ, τ, τ, τ, τ, τ, τ, τ, τ, τ, τ, τ, τ, τ, τ, τ, τ, φ, φ, φ, φ, φ] rfl rfl (take_ofW HT_.out HW_.out (by kernel_rfl)) (fun _ _ _ h => h) (Or.inl ⟨by rfl, ?_⟩) hHeld ?_ ?_
           rotate_left
           ·
            rintro w' ⟨s0, s1, s2, s3⟩
            go_simp
            with_reducible rfl
           rotate_left
           ·
            simp only [Act.put, List.setIfInBounds_toArray, List.set_cons_zero, List.set_cons_succ, i64_w, i32_w]
            rfl
           refine take_ (i := 23) (N := some 95) (v := ?_) (a' := ?_) #[τ, τ, τ, τ, τ, τ, τ, τ, τ, τ, τ, τ, τ, τ, τ, τ, τ, τ, τ, τ, τ, τ, τ, τ, φ, φ, φ, φ] rfl rfl (take_ofW HT_.out HW_.out (by kernel_rfl)) (fun _ _ _ h => h) (Or.inl ⟨by rfl, ?_⟩) hHeld ?_ ?_
           rotate_left
           ·
            rintro w' ⟨s0, s1, s2, s3⟩
            go_simp
            with_reducible rfl
           rotate_left
           ·
            simp only [Act.put, List.setIfInBounds_toArray, List.set_cons_zero, List.set_cons_succ, i64_w, i32_w]
            rfl
           refine pure_ (i := 24) (N := some 96) (v := ?_) (a' := ?_) #[τ, τ, τ, τ, τ, τ, τ, τ, τ, τ, τ, τ, τ, τ, τ, τ, τ, τ, τ, τ, τ, τ, τ, τ, τ, φ, φ, φ] rfl rfl (any_of HT_.out (by kernel_rfl)) (fun _ _ _ h => h) (Or.inl ⟨by rfl, ?_⟩) ?_ ?_
           rotate_left
           ·
            intro w'
            go_simp
            with_reducible rfl
           rotate_left
           ·
            simp only [Act.put, List.setIfInBounds_toArray, List.set_cons_zero, List.set_cons_succ, i64_w, i32_w]
            rfl
           refine one_ (i := 25) (N := some 97) #[τ, τ, τ, τ, τ, τ, τ, τ, τ, τ, τ, τ, τ, τ, τ, τ, τ, τ, τ, τ, τ, τ, τ, τ, τ, τ, φ, φ] rfl rfl (one_of HT_.out (by kernel_rfl)) (by decide) (fun K hK => ?_)
           refine goes_ Try.func15 (by kernel_rfl) rfl #[.slice Ao20 t211.length co20, .agg #[.int .i64 t216, .int .i64 t217, .int .i64 (rd t241 x17_2)]] (by rfl) rfl rfl (by (try simp only [List.map_toArray, List.map_cons, List.map_nil]); first | done | rfl | (simp only [List.length_drop, List.length_take]; rfl)) ?_
           with_reducible refine (seen_Has.calls _ _ t211 t216 t217 (rd t241 x17_2) true _ ?side1 ?side2 A110.out).mono ?_
           (case side1 => repeat (first | exact (Kd.R_reads' HO_10.out).2.2 | (with_reducible refine Kd.C_alloc ?_ _) | (with_reducible refine Kd.C_drewN ?_ _) | (with_reducible refine Kd.C_drew ?_)))
           (case side2 => exact (Kd.R_reads' HO_10.out).2.1)
           rintro e w119 ⟨rfl, hb⟩
           have HS3_ := (hb.cell (World.block_lt_of_cell? _ _ (hHeld.2.2.2))).trans (hHeld.2.2.2)
           refine ⟨_, rfl, ?_⟩
           have n0_ := Aside0.mk (Kd.R_below (by (with_reducible repeat (first | apply Kd.R_alloc | apply Kd.R_drewN | apply Kd.R_drew)); exact HO_10.out) hb)
           have n1_ := Aside0.mk (Kd.R_below (by (with_reducible repeat (first | apply Kd.R_alloc | apply Kd.R_drewN | apply Kd.R_drew)); exact HO_15.out) hb)
           have n2_ := Aside0.mk (blk_below (g := gb209) (o := .cells #[.int .i64 a3_0, .int .i64 a3_1, .int .i64 a3_2] 26 (0, 0)) (by (with_reducible repeat (first | refine blk_drewN ?_ _ | refine blk_drew ?_ | refine blk_alloc ?_ _)); exact BK209.out) hb)
           have n3_ := Aside0.mk (blk_below (g := gb219) (o := .cells #[.int .i64 t216, .int .i64 t217, .int .i64 t218] 25 (0, 0)) (by (with_reducible repeat (first | refine blk_drewN ?_ _ | refine blk_drew ?_ | refine blk_alloc ?_ _)); exact BK219.out) hb)
           have n4_ := Aside0.mk (below_step (by repeat (first | (with_reducible first | exact HB.out | apply below_alloc | apply pw_below_drewN | apply below_drew1 | refine below_set ?_ GE209.out | refine below_set ?_ GE219.out) | exact HB.out)) hb)
           clear HO_10
           clear HO_15
           clear BK209
           clear BK219
           clear HB
           have HO_10 := n0_
           have HO_15 := n1_
           have BK209 := n2_
           have BK219 := n3_
           have HB := n4_
           clear n0_ n1_ n2_ n3_ n4_
           (try clear hb)
           (try clear hb2)
           (try clear hk)
           (try clear hi)
           refine hK.out _ _ ⟨(blk_cell BK219.out 0).trans rfl, (blk_cell BK219.out 1).trans rfl, (blk_cell BK219.out 2).trans rfl, HS3_⟩ (fun hHeld => ?_)
           clear hK K
           refine norm_ (a' := ?_) ?_ ?_
           rotate_left
           ·
            show Act.put _ (some 97) _ = _
            simp only [Act.put, List.setIfInBounds_toArray, List.set_cons_zero, List.set_cons_succ, i64_w, i32_w]
            rfl
           refine pure_ (i := 26) (N := some 98) (v := ?_) (a' := ?_) #[τ, τ, τ, τ, τ, τ, τ, τ, τ, τ, τ, τ, τ, τ, τ, τ, τ, τ, τ, τ, τ, τ, τ, τ, τ, τ, τ, φ] rfl rfl (any_of HT_.out (by kernel_rfl)) (fun _ _ _ h => h) (Or.inl ⟨by rfl, ?_⟩) ?_ ?_
           rotate_left
           ·
            intro w'
            go_simp
            with_reducible rfl
           rotate_left
           ·
            simp only [Act.put, List.setIfInBounds_toArray, List.set_cons_zero, List.set_cons_succ, i64_w, i32_w]
            rfl
           refine pure_ (i := 27) (N := some 99) (v := ?_) (a' := ?_) #[τ, τ, τ, τ, τ, τ, τ, τ, τ, τ, τ, τ, τ, τ, τ, τ, τ, τ, τ, τ, τ, τ, τ, τ, τ, τ, τ, τ] rfl rfl (any_of HT_.out (by kernel_rfl)) (fun _ _ _ h => h) (Or.inl ⟨by rfl, ?_⟩) ?_ ?_
           rotate_left
           ·
            intro w'
            go_simp
            with_reducible rfl
           rotate_left
           ·
            simp only [Act.put, List.setIfInBounds_toArray, List.set_cons_zero, List.set_cons_succ, i64_w, i32_w]
            rfl
           refine done_ (done_of HT_.out (by kernel_rfl)) ?_
           try go_wp2
           have n0_ := Aside0.mk (Kd.R_drew HO_10.out)
           have n1_ := Aside0.mk (Kd.R_drew HO_15.out)
           have n2_ := Aside0.mk (blk_drew BK209.out)
           have n3_ := Aside0.mk (blk_drew BK219.out)
           have n4_ := Aside0.mk (below_drew1 HB.out)
           clear HO_10
           clear HO_15
           clear BK209
           clear BK219
           clear HB
           have HO_10 := n0_
           have HO_15 := n1_
           have BK209 := n2_
           have BK219 := n3_
           have HB := n4_
           clear n0_ n1_ n2_ n3_ n4_
           have p251 : 0 ≤ (x17_2 : Int) := of_decide_eq_true (by first | (with_reducible assumption) | assumption)
           have q251 : x17_2 < (t241.length : Int) := of_decide_eq_true (by first | (with_reducible assumption) | assumption)
           obtain ⟨ad251, e251, hx251_0⟩ := Kd.at_int (Kd.R_reads' HO_15.out).2.2 x17_2 p251 q251
           obtain rfl : ad249 = ad251 := (by injection e251)
           replace p251 := eq_true p251
           replace q251 := eq_true q251
           refine start_ (n := 11) (S := fun w' => w'.cell? ⟨gb219, 0, none⟩ = some (.int .i64 t216) ∧ w'.cell? ⟨gb219, 1, none⟩ = some (.int .i64 t217) ∧ w'.cell? ⟨gb219, 2, none⟩ = some (.int .i64 t218) ∧ w'.cell? (ad249.add (x17_2).toNat) = some (.int .i64 (rd t241 x17_2))) (ds := []) #[φ, φ, φ, φ, φ, φ, φ, φ, φ, φ, φ] (by kernel_rfl) rfl rfl ⟨(blk_cell BK219.out 0).trans rfl, (blk_cell BK219.out 1).trans rfl, (blk_cell BK219.out 2).trans rfl, hx251_0⟩ (fun hHeld => ?_); refine with_tabW mootbelllaw13_SeenPrune.tab16 mootbelllaw13_SeenPrune.bits16 (fun HT_ HW_ => ?_)
           generalize w119.drew = w120 at HO_10 HO_15 BK209 BK219 HB hx251_0 hHeld ⊢
           refine pure_ (i := 0) (N := some 100) (v := ?_) (a' := ?_) #[τ, φ, φ, φ, φ, φ, φ, φ, φ, φ, φ] rfl rfl (any_of HT_.out (by kernel_rfl)) (fun _ _ _ h => h) (Or.inl ⟨by rfl, ?_⟩) ?_ ?_
           rotate_left
           ·
            intro w'
            go_simp
            with_reducible rfl
           rotate_left
           ·
            simp only [Act.put, List.setIfInBounds_toArray, List.set_cons_zero, List.set_cons_succ, i64_w, i32_w]
            rfl
           refine pure_ (i := 1) (N := some 101) (v := ?_) (a' := ?_) #[τ, τ, φ, φ, φ, φ, φ, φ, φ, φ, φ] rfl rfl (any_of HT_.out (by kernel_rfl)) (fun _ _ _ h => h) (Or.inl ⟨by rfl, ?_⟩) ?_ ?_
           rotate_left
           ·
            intro w'
            go_simp
            with_reducible rfl
           rotate_left
           ·
            simp only [Act.put, List.setIfInBounds_toArray, List.set_cons_zero, List.set_cons_succ, i64_w, i32_w]
            rfl
           refine pure_ (i := 2) (N := some 102) (v := ?_) (a' := ?_) #[τ, τ, τ, φ, φ, φ, φ, φ, φ, φ, φ] rfl rfl (any_of HT_.out (by kernel_rfl)) (fun _ _ _ h => h) (Or.inl ⟨by rfl, ?_⟩) ?_ ?_
           rotate_left
           ·
            intro w'
            go_simp
            with_reducible rfl
           rotate_left
           ·
            simp only [Act.put, List.setIfInBounds_toArray, List.set_cons_zero, List.set_cons_succ, i64_w, i32_w]
            rfl
           refine pure_ (i := 3) (N := some 103) (v := ?_) (a' := ?_) #[τ, τ, τ, τ, φ, φ, φ, φ, φ, φ, φ] rfl rfl (any_of HT_.out (by kernel_rfl)) (fun _ _ _ h => h) (Or.inl ⟨by rfl, ?_⟩) ?_ ?_
           rotate_left
           ·
            intro w'
            go_simp
            with_reducible rfl
           rotate_left
           ·
            simp only [Act.put, List.setIfInBounds_toArray, List.set_cons_zero, List.set_cons_succ, i64_w, i32_w]
            rfl
           refine pure_ (i := 4) (N := some 104) (v := ?_) (a' := ?_) #[τ, τ, τ, τ, τ, φ, φ, φ, φ, φ, φ] rfl rfl (any_of HT_.out (by kernel_rfl)) (fun _ _ _ h => h) (Or.inl ⟨by rfl, ?_⟩) ?_ ?_
           rotate_left
           ·
            intro w'
            go_simp
            with_reducible rfl
           rotate_left
           ·
            simp only [Act.put, List.setIfInBounds_toArray, List.set_cons_zero, List.set_cons_succ, i64_w, i32_w]
            rfl
           refine pure_ (i := 6) (N := some 106) (v := ?_) (a' := ?_) #[τ, τ, τ, τ, τ, φ, τ, φ, φ, φ, φ] rfl rfl (any_of HT_.out (by kernel_rfl)) (fun _ _ _ h => h) (Or.inl ⟨by rfl, ?_⟩) ?_ ?_
           rotate_left
           ·
            intro w'
            go_simp
            with_reducible rfl
           rotate_left
           ·
            simp only [Act.put, List.setIfInBounds_toArray, List.set_cons_zero, List.set_cons_succ, i64_w, i32_w]
            rfl
           refine take_ (i := 5) (N := some 105) (v := ?_) (a' := ?_) #[τ, τ, τ, τ, τ, τ, τ, φ, φ, φ, φ] rfl rfl (take_ofW HT_.out HW_.out (by kernel_rfl)) (fun _ _ _ h => h) (Or.inl ⟨by rfl, ?_⟩) hHeld ?_ ?_
           rotate_left
           ·
            rintro w' ⟨s0, s1, s2, s3⟩
            go_simp
            with_reducible rfl
           rotate_left
           ·
            simp only [Act.put, List.setIfInBounds_toArray, List.set_cons_zero, List.set_cons_succ, i64_w, i32_w]
            rfl
           refine take_ (i := 7) (N := some 107) (v := ?_) (a' := ?_) #[τ, τ, τ, τ, τ, τ, τ, τ, φ, φ, φ] rfl rfl (take_ofW HT_.out HW_.out (by kernel_rfl)) (fun _ _ _ h => h) (Or.inl ⟨by rfl, ?_⟩) hHeld ?_ ?_
           rotate_left
           ·
            rintro w' ⟨s0, s1, s2, s3⟩
            go_simp
            with_reducible rfl
           rotate_left
           ·
            simp only [Act.put, List.setIfInBounds_toArray, List.set_cons_zero, List.set_cons_succ, i64_w, i32_w]
            rfl
           refine pure_ (i := 8) (N := some 108) (v := ?_) (a' := ?_) #[τ, τ, τ, τ, τ, τ, τ, τ, τ, φ, φ] rfl rfl (any_of HT_.out (by kernel_rfl)) (fun _ _ _ h => h) (Or.inl ⟨by rfl, ?_⟩) ?_ ?_
           rotate_left
           ·
            intro w'
            go_simp
            with_reducible rfl
           rotate_left
           ·
            simp only [Act.put, List.setIfInBounds_toArray, List.set_cons_zero, List.set_cons_succ, i64_w, i32_w]
            rfl
           refine pure_ (i := 9) (N := some 109) (v := ?_) (a' := ?_) #[τ, τ, τ, τ, τ, τ, τ, τ, τ, τ, φ] rfl rfl (any_of HT_.out (by kernel_rfl)) (fun _ _ _ h => h) (Or.inl ⟨by rfl, ?_⟩) ?_ ?_
           rotate_left
           ·
            intro w'
            go_simp
            with_reducible rfl
           rotate_left
           ·
            simp only [Act.put, List.setIfInBounds_toArray, List.set_cons_zero, List.set_cons_succ, i64_w, i32_w]
            rfl
           refine pure_ (i := 10) (N := some 16) (v := ?_) (a' := ?_) #[τ, τ, τ, τ, τ, τ, τ, τ, τ, τ, τ] rfl rfl (any_of HT_.out (by kernel_rfl)) (fun _ _ _ h => h) (Or.inl ⟨by rfl, ?_⟩) ?_ ?_
           rotate_left
           ·
            intro w'
            go_simp
            with_reducible rfl
           rotate_left
           ·
            simp only [Act.put, List.setIfInBounds_toArray, List.set_cons_zero, List.set_cons_succ, i64_w, i32_w]
            rfl
           refine done_ (done_of HT_.out (by kernel_rfl)) ?_
           try go_wp2
           go_roundg k2
           case measure => have := HJ10.out; have := HK2.out; omega
           case rel => exact ⟨(((rd t241 x17_2) == t218)), (wrap64 (x17_2 + 1)), (by first | rfl | (simp; done) | (simp [*]; done)), (by first | rfl | (simp; done) | (simp [*]; done)), H', ⟨by have := HJ10.out; have := HK2.out; omega⟩, ⟨by (with_reducible repeat (first | apply Kd.R_alloc | apply Kd.R_drewN | apply Kd.R_drew)); exact HO_10.out⟩, ⟨by (with_reducible repeat (first | apply Kd.R_alloc | apply Kd.R_drewN | apply Kd.R_drew)); exact HO_15.out⟩, ⟨by (with_reducible repeat (first | refine blk_drewN ?_ _ | refine blk_drew ?_ | refine blk_alloc ?_ _)); exact BK209.out⟩, ⟨by (with_reducible repeat (first | refine blk_drewN ?_ _ | refine blk_drew ?_ | refine blk_alloc ?_ _)); exact BK219.out⟩, ⟨by repeat (first | (with_reducible first | exact HB.out | apply below_alloc | apply pw_below_drewN | apply below_drew1 | refine below_set ?_ GE209.out | refine below_set ?_ GE219.out) | exact HB.out)⟩⟩
         ·
          rw [if_neg c111] at H; (have hz_ := Option.some.inj H; rw [HRT.out] at hz_; cases hz_)
        ·
         rw [if_neg c109] at H
         exact absurd H (by simp)
      ·
       rw [if_neg c86] at H
       have c86b0 : decide (x17_2 < (t241.length : Int)) = false := decide_eq_false c86
       clear c86
       by_cases c124 : t210 = true
       ·
        subst c124
        have H1 : ((seen_Has.f t211 t216 t217 t218).bind fun t252 => (some (x16_2 == t252))) = some r := by rw [if_pos rfl] at H; exact H
        clear H
        have H := H1
        clear H1
        replace H := Option.bind_eq_some_iff.mp H
        obtain ⟨t252, A1250, H⟩ := H
        replace H : (some (x16_2 == t252)) = some r := H
        have A125 := Aside0.mk A1250
        clear A1250
        obtain rfl := Option.some.inj H
        obtain ⟨Ao126, co126, eo126⟩ := Kd.R_slice HO_15.out
        subst eo126
        have hnb127 := NB219_209.out
        have hnc127 := NB209_219.out
        have hcz128_0 : wr.cell? ⟨gb219, 0, none⟩ = some (.int .i64 t216) := (blk_cell BK219.out 0).trans rfl
        have hcz128_1 : wr.cell? ⟨gb219, 1, none⟩ = some (.int .i64 t217) := (blk_cell BK219.out 1).trans rfl
        have hcz128_2 : wr.cell? ⟨gb219, 2, none⟩ = some (.int .i64 t218) := (blk_cell BK219.out 2).trans rfl
        have hfz128_0 := blk_frozen BK219.out 0
        have hfz128_1 := blk_frozen BK219.out 1
        have hfz128_2 := blk_frozen BK219.out 2
        go_wp2_with (first | (go_at_call 15; (with_reducible refine (seen_Has.calls _ _ t211 t216 t217 t218 t252 _ ?side1 ?side2 A125.out).mono ?_); (case side1 => repeat (first | exact (Kd.R_reads' HO_10.out).2.2 | (with_reducible refine Kd.C_alloc ?_ _) | (with_reducible refine Kd.C_drewN ?_ _) | (with_reducible refine Kd.C_drew ?_))); (case side2 => exact (Kd.R_reads' HO_10.out).2.1); rintro e w129 ⟨rfl, hb⟩; have n0_ := Aside0.mk (Kd.R_below (by (with_reducible repeat (first | apply Kd.R_alloc | apply Kd.R_drewN | apply Kd.R_drew)); exact HO_10.out) hb); have n1_ := Aside0.mk (Kd.R_below (by (with_reducible repeat (first | apply Kd.R_alloc | apply Kd.R_drewN | apply Kd.R_drew)); exact HO_15.out) hb); have n2_ := Aside0.mk (blk_below (g := gb209) (o := .cells #[.int .i64 a3_0, .int .i64 a3_1, .int .i64 a3_2] 26 (0, 0)) (by (with_reducible repeat (first | refine blk_drewN ?_ _ | refine blk_drew ?_ | refine blk_alloc ?_ _)); exact BK209.out) hb); have n3_ := Aside0.mk (blk_below (g := gb219) (o := .cells #[.int .i64 t216, .int .i64 t217, .int .i64 t218] 25 (0, 0)) (by (with_reducible repeat (first | refine blk_drewN ?_ _ | refine blk_drew ?_ | refine blk_alloc ?_ _)); exact BK219.out) hb); have n4_ := Aside0.mk (below_step (by repeat (first | (with_reducible first | exact HB.out | apply below_alloc | apply pw_below_drewN | apply below_drew1 | refine below_set ?_ GE209.out | refine below_set ?_ GE219.out) | exact HB.out)) hb); clear HO_10; clear HO_15; clear BK209; clear BK219; clear HB; have HO_10 := n0_; have HO_15 := n1_; have BK209 := n2_; have BK219 := n3_; have HB := n4_; clear n0_ n1_ n2_ n3_ n4_; (try clear hb); (try clear hb2); (try clear hk); (try clear hi)))
        go_ret
        exact ⟨by first | rfl | (simp [errW_none, errW_some] <;> rfl) | (simp [*, errW_none, errW_some] <;> rfl), by repeat (first | (with_reducible first | exact HB.out | apply below_alloc | apply pw_below_drewN | apply below_drew1 | refine below_set ?_ GE209.out | refine below_set ?_ GE219.out) | exact HB.out)⟩
       ·
        rw [if_neg c124] at H; (have hz_ := Option.some.inj H; rw [HRT.out] at hz_; cases hz_)end Go.Proofs.Ytppcojfgpjnagaa.PQ
