import Derived.Deep.RegionHeld3
import Derived.Test.YtnfglkgkdechlaaF1
import Derived.Laws.IdiomArrays
import Derived.Deep.Slices
import Derived.Test.YtnfglkgkdechlaaShellG
import Derived.Maps.OwnSet
import Derived.Maps.AppendAt
import Derived.Test.YtnfglkgkdechlaaF0
import Derived.Laws.EntriesVeiled
import Derived.WalkMore
import Derived.ScopeJumps
import Derived.Test.YtnfglkgkdechlaaQx0
import Derived.Test.YtnfglkgkdechlaaQx1

/- Raw items (chapter 15's statements). -/
set_option linter.unusedVariables false
set_option linter.unusedSimpArgs false
namespace Go.Proofs.Ytnfglkgkdechlaa
open Go.RowKit Go.Proofs.YtnfglkgkdechlaaW.PrintWords Go.Proofs.YtnfglkgkdechlaaW.PrintLast Go.Proofs.YtnfglkgkdechlaaW.PrintMore

open Go.Proofs.Ytnfglkgkdechlaa.PQ Go.Proofs.YtnfglkgkdechlaaW.PrintLast

abbrev Rw := S48
abbrev kR : Kd Rw := k48
def OkR (x : Rw) : Prop := (∀ y ∈ x.f0, In64 y) ∧ In64 x.f1 ∧ (∀ y ∈ x.f2, In64 y) ∧ In64 x.f3
def signR (root : Int) (ks : List Int) : List Pr := ks.foldl (fun l k => withP l ⟨k, root⟩) []
theorem signR_len (root : Int) : ∀ (ks : List Int) (l : List Pr), (ks.foldl (fun l k => withP l ⟨k, root⟩) l).length = l.length + ks.length
  | [], l => by simp
  | k :: r, l => by
    rw [List.foldl_cons, signR_len root r, withP_len]
    simp
    omega
theorem sign_l (root : Int) (ks : List Int) (hk : ks.length ≤ 100000) (r i k : Nat) (l : List Pr) (hl : l.length = i) (hr : i + r = ks.length) (hkk : r < k) :
    mootbellref07_Sign.l0 k root ks (i : Int) false l = some (false, (ks.drop i).foldl (fun l k => withP l ⟨k, root⟩) l, 0) := by
  induction r generalizing i k l with
  | zero =>
    obtain ⟨k, rfl⟩ : ∃ q, k = q + 1 := ⟨k - 1, by omega⟩
    rw [mootbellref07_Sign.l0, if_neg (by omega), List.drop_of_length_le (by omega)]
    rfl
  | succ r ih =>
    obtain ⟨k, rfl⟩ : ∃ q, k = q + 1 := ⟨k - 1, by omega⟩
    have hi : i < ks.length := by omega
    have hrd : rd ks (i : Int) = ks[i] := by
      unfold rd
      rw [Int.toNat_natCast, List.getD_eq_getElem?_getD, List.getElem?_eq_getElem hi]
      rfl
    have hw : wrap64 ((i : Int) + 1) = ((i + 1 : Nat) : Int) := In64_nat (by omega)
    rw [mootbellref07_Sign.l0, if_pos (by omega), if_pos (by omega), hrd, mootbellref07_with.f, if_pos (by omega), Option.bind_some, hw, ih (i + 1) k _ (by rw [withP_len, hl]) (by omega) (by omega), List.drop_eq_getElem_cons hi]
    rfl
theorem sign_f (root : Int) (ks : List Int) (hk : ks.length ≤ 2048) : mootbellref07_Sign.f (ks.length + 1) root ks = some (false, signR root ks, 0) := by
  unfold mootbellref07_Sign.f
  rw [if_neg (by omega)]
  have := sign_l root ks (by omega) ks.length 0 (ks.length + 1) [] rfl (by omega) (by omega)
  rw [List.drop_zero] at this
  exact this
theorem rSignE (root : Int) (A : Option Addr) (n c : Nat) (ks : List Int) (w : World) (hA : (Kd.int .u64).C w A n ks) (hc : n ≤ c) (hn : n ≤ 2048) : Calls Try.prog 29 #[.int .u64 root, .slice A n c] w
    fun e w' => ∃ v, e = .returned (.tuple #[.agg #[.bool false, v], .int .i64 0]) ∧ kP.R 52 w' w.heap.size (fun _ => True) v (signR root ks) ∧ Below w.heap.size w w' := by
  obtain rfl := Kd.C_len hA
  exact mootbellref07_Sign.calls (ks.length + 1) root A c ks false (signR root ks) 0 w hA hc (sign_f root ks hn)
theorem keysR_len (raw : List Int) : ∀ (xs acc : List Int), (xs.foldl (fun acc x => addK acc (pickK x 12)) acc).length ≤ acc.length + xs.length
  | [], acc => by simp
  | x :: r, acc => by
    rw [List.foldl_cons]
    have h1 := keysR_len raw r (addK acc (pickK x 12))
    have h2 := addK_len acc (pickK x 12)
    simp
    omega
theorem keysR_12 (raw : List Int) : (keysR raw).length ≤ 12 := by
  have := keysR_len raw (raw.take 12) []
  unfold keysR
  rw [List.length_take] at this
  simp at this
  omega
/-- The item of raw numbers. -/
def itemR (x : Rw) : It := ⟨keysR x.f0, pickZ x.f1 3, ⟨decide (pickZ x.f3 5 = 1), if 0 < pickZ x.f3 5 then signR (pickZ x.f1 3) (keysR x.f0) else tokR x.f2⟩⟩
theorem pick15E (c n r : Int) (hc : In64 c) (hn : 0 < n) (w : World) (h : pickZ c n = r) : Calls Try.prog 14 #[.int .i64 c, .int .i64 n] w fun e w' => e = .returned (.int .i64 r) ∧ Below w.heap.size w w' :=
  (mootbelllaw15_pick.calls c n r w (by rw [pick15_f c n hc hn, h])).mono fun e w' hh => ⟨hh.1, hh.2.below⟩
theorem Box.four {w : World} {b : Nat} {T : TypeId} {x y z u a c d e : Value} (h : Box w b #[x, y, z, u] T) : Box ((((w.setCell ⟨b, 0, none⟩ a).setCell ⟨b, 1, none⟩ c).setCell ⟨b, 2, none⟩ d).setCell ⟨b, 3, none⟩ e) b #[a, c, d, e] T := by
  have := Box.put (j := 3) (v := e) (Box.put (j := 2) (v := d) (Box.put (j := 1) (v := c) (Box.put (j := 0) (v := a) h)))
  simpa using this
theorem R_far4 {α : Type} {d : Kd α} {e base b : Nat} {w : World} {ok : Nat → Prop} {v a0 a1 a2 a3 : Value} {xs : List α} (h : d.R e w base ok v xs) (hok : ∀ k, ok k → k ≠ b) :
    d.R e ((((w.setCell ⟨b, 0, none⟩ a0).setCell ⟨b, 1, none⟩ a1).setCell ⟨b, 2, none⟩ a2).setCell ⟨b, 3, none⟩ a3) base ok v xs :=
  Kd.R_far (p := ⟨b, 3, none⟩) (Kd.R_far (p := ⟨b, 2, none⟩) (Kd.R_far (p := ⟨b, 1, none⟩) (Kd.R_far (p := ⟨b, 0, none⟩) h hok _) hok _) hok _) hok _
theorem R_off {α : Type} {d : Kd α} {e base b : Nat} {w : World} {v : Value} {xs : List α} (h : d.R e w base (fun _ => True) v xs) (hb : b < base ∨ w.heap.size ≤ b) : d.R e w base (fun k => k ≠ b) v xs :=
  Kd.R_mono (Kd.R_bound h) (fun k hk => by have := hk.2.1; have := hk.2.2.1; omega)
theorem lKeysE (A : Option Addr) (n c : Nat) (raw ks : List Int) (w : World) (hA : (Kd.int .i64).C w A n raw) (hc : n ≤ c) (hi : ∀ x ∈ raw, In64 x) (h : keysR raw = ks) : Calls Try.prog 27 #[.slice A n c] w
    fun r w' => ∃ v, r = .returned v ∧ (Kd.int .u64).R 28 w' w.heap.size (fun _ => True) v ks ∧ Below w.heap.size w w' := h ▸ lKeys A n c raw w hA hc hi
theorem lTokenE (A : Option Addr) (n c : Nat) (raw : List Int) (f : Bool) (l : List Pr) (w : World) (hA : (Kd.int .i64).C w A n raw) (hc : n ≤ c) (hi : ∀ x ∈ raw, In64 x) (h : tokR raw = l) : Calls Try.prog 28 #[.slice A n c, .bool f] w
    fun r w' => ∃ v, r = .returned (.agg #[.bool f, v]) ∧ kP.R 52 w' w.heap.size (fun _ => True) v l ∧ Below w.heap.size w w' := h ▸ lToken A n c raw f w hA hc hi
set_option maxRecDepth 100000 in
set_option maxHeartbeats 8000000 in
theorem lItem (KA : Option Addr) (nk ck : Nat) (P : Option Addr) (np cp : Nat) (x : Rw) (w : World) (hK : (Kd.int .i64).C w KA nk x.f0) (hck : nk ≤ ck) (hP : (Kd.int .i64).C w P np x.f2) (hcp : np ≤ cp) (ho : OkR x) :
    Calls Try.prog 18 #[.agg #[.slice KA nk ck, .int .i64 x.f1, .slice P np cp, .int .i64 x.f3]] w
      fun r w' => ∃ v0 v3, r = .returned (.agg #[v0, .int .u64 (itemR x).f1, .bool (itemR x).f2.f0, v3]) ∧ (Kd.int .u64).R 28 w' w.heap.size (fun _ => True) v0 (itemR x).f0 ∧ kP.R 52 w' w.heap.size (fun _ => True) v3 (itemR x).f2.f1 ∧ Below w.heap.size w w' := by
  have HK := Aside0.mk hK
  have HP := Aside0.mk hP
  have HOK := Aside0.mk (show (∀ y ∈ x.f0, In64 y) ∧ In64 x.f1 ∧ (∀ y ∈ x.f2, In64 y) ∧ In64 x.f3 from ho)
  clear hK hP ho
  go_enter Try.func18, Try.ntmps18
  go_upto_region 1 with (fail)
  obtain ⟨W0, hW0⟩ : ∃ W, w.alloc (.cells #[.slice KA nk ck, .int .i64 x.f1, .slice P np cp, .int .i64 x.f3] 48) = W := ⟨_, rfl⟩
  rw [hW0]
  obtain ⟨W, hW⟩ : ∃ W, W0.alloc (.cells #[.slice none 0 0, .int .u64 0, .bool false, .slice none 0 0] 32) = W := ⟨_, rfl⟩
  rw [hW]
  obtain ⟨s, hs⟩ : ∃ s, w.heap.size = s := ⟨_, rfl⟩
  have hs0 : W0.heap.size = s + 1 := by rw [← hW0, size_alloc, hs]
  have hs1 : W.heap.size = s + 2 := by rw [← hW, size_alloc, hs0]
  have b0 : Box W0 s #[.slice KA nk ck, .int .i64 x.f1, .slice P np cp, .int .i64 x.f3] 48 := hs ▸ hW0 ▸ Box.new
  have bX := Aside0.mk (hW ▸ b0.alloc : Box W s _ _)
  have bZ := Aside0.mk (hs0 ▸ hW ▸ Box.new : Box W (s + 1) #[.slice none 0 0, .int .u64 0, .bool false, .slice none 0 0] 32)
  have HB := Aside0.mk (hW ▸ below_alloc (hW0 ▸ below_alloc (Below.refl _ _) _) _ : Below w.heap.size w W)
  rw [hs]
  have HS := Aside0.mk (And.intro hs hs1)
  clear hW0 hW b0 hs0 hs hs1
  have HKW := Aside0.mk (Kd.C_below HK.out HB.out)
  have HPW := Aside0.mk (Kd.C_below HP.out HB.out)
  clear HK HP
  obtain ⟨ks, hks⟩ : ∃ l, keysR x.f0 = l := ⟨_, rfl⟩
  obtain ⟨tk, htk⟩ : ∃ l, tokR x.f2 = l := ⟨_, rfl⟩
  obtain ⟨p1, hp1⟩ : ∃ p, pickZ x.f1 3 = p := ⟨_, rfl⟩
  obtain ⟨q, hq⟩ : ∃ p, pickZ x.f3 5 = p := ⟨_, rfl⟩
  have hk12 : ks.length ≤ 12 := by rw [← hks]; exact keysR_12 _
  have HE := Aside0.mk (show itemR x = ⟨ks, p1, ⟨decide (q = 1), if 0 < q then signR p1 ks else tk⟩⟩ by unfold itemR; rw [hks, htk, hp1, hq])
  have HH := Aside0.mk (And.intro hks (And.intro htk (And.intro hp1 hq)))
  have hp1b : 0 ≤ p1 ∧ p1 < 3 := by rw [← hp1]; exact pickZ_lt _ _ (by omega)
  have hc1 : IntKind.u64.wrap p1 = p1 := by rw [IntKind.wrap_u64]; omega
  clear hks htk hp1 hq
  have rX := bX.out.cell
  have kX := bX.out.lt
  go_cut [3] (fun v3 wd => ∃ B A5 c5, v3 = .pointer (some ⟨B, 0, none⟩) ∧ W.heap.size ≤ B ∧ Box wd B #[.slice A5 ks.length c5, .int .u64 p1, .bool false, .slice none 0 0] 32 ∧ (Kd.int .u64).R 28 wd W.heap.size (fun k => k ≠ B) (.slice A5 ks.length c5) ks ∧ Below W.heap.size W wd)
  case first =>
    refine wp_region_last_drew (S := (fun w' => Below W.heap.size W w' ∧ (∀ j, w'.cell? ⟨s, j, none⟩ = (#[.slice KA nk ck, .int .i64 x.f1, .slice P np cp, .int .i64 x.f3] : Array Value)[j]?))) (ds := [9]) (by kernel_rfl) ?hS16x0 (fun hHeld => ?hR16x0)
    case hS16x0 => ((try dsimp only); (first | exact ⟨below_drew1 (Below.refl _ _), rX⟩ | exact ⟨below_drew1 b0_, rX⟩ | exact ⟨j0, jX⟩ | exact ⟨below_alloc j0 _, fun j => (cell_alloc_old (Nat.lt_of_lt_of_le kX j0.size)).trans (jX j)⟩ | exact ⟨below_alloc (below_drew1 (Below.refl _ _)) _, fun j => (cell_alloc_old kX).trans (rX j)⟩ | assumption))
    refine wpAnyLast_take (i := 0) (oi := ⟨some 6, _, _, _, _, _⟩) (v := ?_) rfl (by kernel_rfl) (by kernel_rfl) (by kernel_rfl) (by kernel_rfl) (by kernel_rfl) (fun _ _ _ h => h) (Or.inl ⟨by rfl, ?hY16x2⟩) (by assumption) ?hR16x2
    case hY16x2 => (intro w hSw; (try dsimp only at hSw); go_simp; try with_reducible rfl)
    (try simp only [Act.put, List.setIfInBounds_toArray, List.set_cons_zero, List.set_cons_succ])
    refine wpAnyLast_take (i := 1) (oi := ⟨some 7, _, _, _, _, _⟩) (v := ?_) rfl (by kernel_rfl) (by kernel_rfl) (by kernel_rfl) (by kernel_rfl) (by kernel_rfl) (fun _ _ _ h => h) (Or.inl ⟨by rfl, ?hY16x3⟩) (by assumption) ?hR16x3
    case hY16x3 => (intro w hSw; (try dsimp only at hSw); go_simp; try with_reducible rfl)
    (try simp only [Act.put, List.setIfInBounds_toArray, List.set_cons_zero, List.set_cons_succ])
    refine wpAnyLast_take (i := 3) (oi := ⟨some 9, _, _, _, _, _⟩) (v := ?_) rfl (by kernel_rfl) (by kernel_rfl) (by kernel_rfl) (by kernel_rfl) (by kernel_rfl) (fun _ _ _ h => h) (Or.inl ⟨by rfl, ?hY16x4⟩) (by assumption) ?hR16x4
    case hY16x4 => (intro w hSw; (try dsimp only at hSw); go_simp; try with_reducible rfl)
    (try simp only [Act.put, List.setIfInBounds_toArray, List.set_cons_zero, List.set_cons_succ])
    refine wpAnyLast_take (i := 4) (oi := ⟨some 10, _, _, _, _, _⟩) (v := ?_) rfl (by kernel_rfl) (by kernel_rfl) (by kernel_rfl) (by kernel_rfl) (by kernel_rfl) (fun _ _ _ h => h) (Or.inl ⟨by rfl, ?hY16x5⟩) (by assumption) ?hR16x5
    case hY16x5 => (intro w hSw; (try dsimp only at hSw); go_simp; try with_reducible rfl)
    (try simp only [Act.put, List.setIfInBounds_toArray, List.set_cons_zero, List.set_cons_succ])
    refine wpAnyLast_ready (rs := [2, 8]) (by kernel_rfl) (by simp) ?_
    refine AllReadyL.cons (o := ⟨some 8, _, _, _, _, _⟩) rfl (by decide) (fun K hK => ?hT16x60) (AllReadyL.cons (o := ⟨some 3, _, _, _, _, _⟩) rfl (by decide) (fun K hK => ?hT16x61) (AllReadyL.nil))
    case hT16x60 =>
      go_simp
      (first | (go_at_call 27; obtain ⟨g0, gX⟩ := ‹Below W.heap.size W _ ∧ _›; ((with_reducible refine (lKeysE KA nk ck x.f0 ks _ (Kd.C_below HKW.out g0) hck HOK.out.1 HH.out.1).mono ?_));  rintro e w5 ⟨v5, rfl, hR_, hb_⟩; have j0 := below_step g0 hb_; have s5 := j0.size; have jX := fun j => (j0.cell (p := ⟨s, j, none⟩) kX).trans (rX j); (obtain ⟨A5, c5, rfl⟩ := Kd.R_slice hR_); (try first | have bq5 := Box.below Box.new hb_ | have bq5 := Box.below (Box.drew Box.new) hb_); (try have rq5 := bq5.cell); (try have fq5 := bq5.frozen)) | (go_at_call 14; obtain ⟨g0, gX⟩ := ‹Below W.heap.size W _ ∧ _›; ((with_reducible refine (pick15E x.f1 3 p1 HOK.out.2.1 (by omega) _ HH.out.2.2.1).mono ?_));  rintro e w6 ⟨rfl, hb_⟩; have j0 := below_step g0 hb_; have s6 := j0.size; have jX := fun j => (j0.cell (p := ⟨s, j, none⟩) kX).trans (rX j); (first | have ro6 := Kd.R_below hR_ hb_ | have ro6 := Kd.R_below (Kd.R_alloc hR_ _) hb_); (try first | have bq6 := Box.below Box.new hb_ | have bq6 := Box.below (Box.drew Box.new) hb_ | have bq6 := Box.below bq5 hb_); (try have rq6 := bq6.cell); (try have fq6 := bq6.frozen)))
      (try go_wp2_with fail)
      refine hK.out _ _ ?hS16x7 (fun hHeld => ?hR16x7)
      case hS16x7 => ((try dsimp only); (first | exact ⟨below_drew1 (Below.refl _ _), rX⟩ | exact ⟨below_drew1 b0_, rX⟩ | exact ⟨j0, jX⟩ | exact ⟨below_alloc j0 _, fun j => (cell_alloc_old (Nat.lt_of_lt_of_le kX j0.size)).trans (jX j)⟩ | exact ⟨below_alloc (below_drew1 (Below.refl _ _)) _, fun j => (cell_alloc_old kX).trans (rX j)⟩ | assumption))
      clear hK K
      (try simp only [Act.put, List.setIfInBounds_toArray, List.set_cons_zero, List.set_cons_succ])
      refine wpAnyLast_ready (rs := [5, 8]) (by kernel_rfl) (by simp) ?_
      refine AllReadyL.cons (o := ⟨some 11, _, _, _, _, _⟩) rfl (by decide) (fun K hK => ?hT16x80) (AllReadyL.cons (o := ⟨some 3, _, _, _, _, _⟩) rfl (by decide) (fun K hK => ?hT16x81) (AllReadyL.nil))
      case hT16x80 =>
        go_simp
        (first | (go_at_call 27; obtain ⟨g0, gX⟩ := ‹Below W.heap.size W _ ∧ _›; ((with_reducible refine (lKeysE KA nk ck x.f0 ks _ (Kd.C_below HKW.out g0) hck HOK.out.1 HH.out.1).mono ?_));  rintro e w5 ⟨v5, rfl, hR_, hb_⟩; have j0 := below_step g0 hb_; have s5 := j0.size; have jX := fun j => (j0.cell (p := ⟨s, j, none⟩) kX).trans (rX j); (obtain ⟨A5, c5, rfl⟩ := Kd.R_slice hR_); (try first | have bq5 := Box.below Box.new hb_ | have bq5 := Box.below (Box.drew Box.new) hb_); (try have rq5 := bq5.cell); (try have fq5 := bq5.frozen)) | (go_at_call 14; obtain ⟨g0, gX⟩ := ‹Below W.heap.size W _ ∧ _›; ((with_reducible refine (pick15E x.f1 3 p1 HOK.out.2.1 (by omega) _ HH.out.2.2.1).mono ?_));  rintro e w6 ⟨rfl, hb_⟩; have j0 := below_step g0 hb_; have s6 := j0.size; have jX := fun j => (j0.cell (p := ⟨s, j, none⟩) kX).trans (rX j); (first | have ro6 := Kd.R_below hR_ hb_ | have ro6 := Kd.R_below (Kd.R_alloc hR_ _) hb_); (try first | have bq6 := Box.below Box.new hb_ | have bq6 := Box.below (Box.drew Box.new) hb_ | have bq6 := Box.below bq5 hb_); (try have rq6 := bq6.cell); (try have fq6 := bq6.frozen)))
        (try go_wp2_with fail)
        refine hK.out _ _ ?hS16x9 (fun hHeld => ?hR16x9)
        case hS16x9 => ((try dsimp only); (first | exact ⟨below_drew1 (Below.refl _ _), rX⟩ | exact ⟨below_drew1 b0_, rX⟩ | exact ⟨j0, jX⟩ | exact ⟨below_alloc j0 _, fun j => (cell_alloc_old (Nat.lt_of_lt_of_le kX j0.size)).trans (jX j)⟩ | exact ⟨below_alloc (below_drew1 (Below.refl _ _)) _, fun j => (cell_alloc_old kX).trans (rX j)⟩ | assumption))
        clear hK K
        (try simp only [Act.put, List.setIfInBounds_toArray, List.set_cons_zero, List.set_cons_succ])
        refine wpAnyLast_take (i := 6) (oi := ⟨some 12, _, _, _, _, _⟩) (v := ?_) rfl (by kernel_rfl) (by kernel_rfl) (by kernel_rfl) (by kernel_rfl) (by kernel_rfl) (fun _ _ _ h => h) (Or.inl ⟨by rfl, ?hY16x10⟩) (by assumption) ?hR16x10
        case hY16x10 => (intro w hSw; (try dsimp only at hSw); go_simp; try with_reducible rfl)
        (try simp only [Act.put, List.setIfInBounds_toArray, List.set_cons_zero, List.set_cons_succ])
        refine wpAnyLast_take (i := 7) (oi := ⟨some 13, _, _, _, _, _⟩) (v := ?_) rfl (by kernel_rfl) (by kernel_rfl) (by kernel_rfl) (by kernel_rfl) (by kernel_rfl) (fun _ _ _ h => h) (Or.inl ⟨by rfl, ?hY16x11⟩) (by assumption) ?hR16x11
        case hY16x11 => (intro w hSw; (try dsimp only at hSw); go_simp; try with_reducible rfl)
        (try simp only [Act.put, List.setIfInBounds_toArray, List.set_cons_zero, List.set_cons_succ])
        refine wpAnyLast_ready (rs := [8]) (by kernel_rfl) (by simp) ?_
        refine AllReadyL.cons (o := ⟨some 3, _, _, _, _, _⟩) rfl (by decide) (fun K hK => ?hT16x12) ?hM16x12
        case hM16x12 => exact AllReadyL.nil
        go_simp
        (try go_wp2_with fail)
        refine hK.out _ _ ?hS16x12 (fun hHeld => ?hR16x12)
        case hS16x12 => ((try dsimp only); (first | exact ⟨below_drew1 (Below.refl _ _), rX⟩ | exact ⟨below_drew1 b0_, rX⟩ | exact ⟨j0, jX⟩ | exact ⟨below_alloc j0 _, fun j => (cell_alloc_old (Nat.lt_of_lt_of_le kX j0.size)).trans (jX j)⟩ | exact ⟨below_alloc (below_drew1 (Below.refl _ _)) _, fun j => (cell_alloc_old kX).trans (rX j)⟩ | assumption))
        clear hK K
        (try simp only [Act.put, List.setIfInBounds_toArray, List.set_cons_zero, List.set_cons_succ])
        refine wpAnyLast_ready (rs := [9]) (by kernel_rfl) (by simp) ?_
        refine AllReadyL.cons_last (o := ⟨none, _, _, _, _, _⟩) rfl (by decide) (fun K hK => ?hT16x13) ?hM16x13
        case hM16x13 => exact AllReadyL.nil
        go_simp
        (try go_wp2_with fail)
        refine hK.out _ _ ?hR16x13
        clear hK K
        (try simp only [Act.put, List.setIfInBounds_toArray, List.set_cons_zero, List.set_cons_succ])
        refine wpAnyLast_done (by kernel_rfl) ?_ _
        go_wp2
        go_meet
        case rel =>
          first
            | (have _t := bq5; exact ⟨W.heap.size, A5, c5, rfl, Nat.le_refl _, Box.four bq6, R_far4 (Kd.R_lower (Kd.R_below (R_off hR_ (Or.inl (Nat.lt_of_lt_of_eq (Nat.lt_succ_self _) (size_alloc (W := W)).symm))) hb_) (Nat.le_of_lt (Nat.lt_of_lt_of_eq (Nat.lt_succ_self _) (size_alloc (W := W)).symm))) (fun k hk => hk), below_set (below_set (below_set (below_set j0 (by first | omega | (simp only; omega))) (by first | omega | (simp only; omega))) (by first | omega | (simp only; omega))) (by first | omega | (simp only; omega))⟩)
            | (have _t := bq6; exact ⟨w5.heap.size, A5, c5, rfl, s5, Box.four bq6, R_far4 (Kd.R_below (Kd.R_alloc (R_off (Kd.R_lower hR_ (Nat.le_refl _)) (Or.inr (Nat.le_refl _))) _) hb_) (fun k hk => hk), below_set (below_set (below_set (below_set j0 (by first | omega | (simp only; omega))) (by first | omega | (simp only; omega))) (by first | omega | (simp only; omega))) (by first | omega | (simp only; omega))⟩)
            | exact ⟨w6.heap.size, A5, c5, rfl, s6, Box.new, Kd.R_alloc (R_off (Kd.R_lower ro6 (Nat.le_refl _)) (Or.inr (Nat.le_refl _))) _, below_alloc j0 _⟩
      case hT16x81 =>
        go_simp
        (try go_wp2_with fail)
        refine hK.out _ _ ?hS16x14 (fun hHeld => ?hR16x14)
        case hS16x14 => ((try dsimp only); (first | exact ⟨below_drew1 (Below.refl _ _), rX⟩ | exact ⟨below_drew1 b0_, rX⟩ | exact ⟨j0, jX⟩ | exact ⟨below_alloc j0 _, fun j => (cell_alloc_old (Nat.lt_of_lt_of_le kX j0.size)).trans (jX j)⟩ | exact ⟨below_alloc (below_drew1 (Below.refl _ _)) _, fun j => (cell_alloc_old kX).trans (rX j)⟩ | assumption))
        clear hK K
        (try simp only [Act.put, List.setIfInBounds_toArray, List.set_cons_zero, List.set_cons_succ])
        refine wpAnyLast_ready (rs := [5]) (by kernel_rfl) (by simp) ?_
        refine AllReadyL.cons (o := ⟨some 11, _, _, _, _, _⟩) rfl (by decide) (fun K hK => ?hT16x15) ?hM16x15
        case hM16x15 => exact AllReadyL.nil
        go_simp
        (first | (go_at_call 27; obtain ⟨g0, gX⟩ := ‹Below W.heap.size W _ ∧ _›; ((with_reducible refine (lKeysE KA nk ck x.f0 ks _ (Kd.C_below HKW.out g0) hck HOK.out.1 HH.out.1).mono ?_));  rintro e w5 ⟨v5, rfl, hR_, hb_⟩; have j0 := below_step g0 hb_; have s5 := j0.size; have jX := fun j => (j0.cell (p := ⟨s, j, none⟩) kX).trans (rX j); (obtain ⟨A5, c5, rfl⟩ := Kd.R_slice hR_); (try first | have bq5 := Box.below Box.new hb_ | have bq5 := Box.below (Box.drew Box.new) hb_); (try have rq5 := bq5.cell); (try have fq5 := bq5.frozen)) | (go_at_call 14; obtain ⟨g0, gX⟩ := ‹Below W.heap.size W _ ∧ _›; ((with_reducible refine (pick15E x.f1 3 p1 HOK.out.2.1 (by omega) _ HH.out.2.2.1).mono ?_));  rintro e w6 ⟨rfl, hb_⟩; have j0 := below_step g0 hb_; have s6 := j0.size; have jX := fun j => (j0.cell (p := ⟨s, j, none⟩) kX).trans (rX j); (first | have ro6 := Kd.R_below hR_ hb_ | have ro6 := Kd.R_below (Kd.R_alloc hR_ _) hb_); (try first | have bq6 := Box.below Box.new hb_ | have bq6 := Box.below (Box.drew Box.new) hb_ | have bq6 := Box.below bq5 hb_); (try have rq6 := bq6.cell); (try have fq6 := bq6.frozen)))
        (try go_wp2_with fail)
        refine hK.out _ _ ?hS16x15 (fun hHeld => ?hR16x15)
        case hS16x15 => ((try dsimp only); (first | exact ⟨below_drew1 (Below.refl _ _), rX⟩ | exact ⟨below_drew1 b0_, rX⟩ | exact ⟨j0, jX⟩ | exact ⟨below_alloc j0 _, fun j => (cell_alloc_old (Nat.lt_of_lt_of_le kX j0.size)).trans (jX j)⟩ | exact ⟨below_alloc (below_drew1 (Below.refl _ _)) _, fun j => (cell_alloc_old kX).trans (rX j)⟩ | assumption))
        clear hK K
        (try simp only [Act.put, List.setIfInBounds_toArray, List.set_cons_zero, List.set_cons_succ])
        refine wpAnyLast_take (i := 6) (oi := ⟨some 12, _, _, _, _, _⟩) (v := ?_) rfl (by kernel_rfl) (by kernel_rfl) (by kernel_rfl) (by kernel_rfl) (by kernel_rfl) (fun _ _ _ h => h) (Or.inl ⟨by rfl, ?hY16x16⟩) (by assumption) ?hR16x16
        case hY16x16 => (intro w hSw; (try dsimp only at hSw); go_simp; try with_reducible rfl)
        (try simp only [Act.put, List.setIfInBounds_toArray, List.set_cons_zero, List.set_cons_succ])
        refine wpAnyLast_take (i := 7) (oi := ⟨some 13, _, _, _, _, _⟩) (v := ?_) rfl (by kernel_rfl) (by kernel_rfl) (by kernel_rfl) (by kernel_rfl) (by kernel_rfl) (fun _ _ _ h => h) (Or.inl ⟨by rfl, ?hY16x17⟩) (by assumption) ?hR16x17
        case hY16x17 => (intro w hSw; (try dsimp only at hSw); go_simp; try with_reducible rfl)
        (try simp only [Act.put, List.setIfInBounds_toArray, List.set_cons_zero, List.set_cons_succ])
        refine wpAnyLast_ready (rs := [9]) (by kernel_rfl) (by simp) ?_
        refine AllReadyL.cons_last (o := ⟨none, _, _, _, _, _⟩) rfl (by decide) (fun K hK => ?hT16x18) ?hM16x18
        case hM16x18 => exact AllReadyL.nil
        go_simp
        (try go_wp2_with fail)
        refine hK.out _ _ ?hR16x18
        clear hK K
        (try simp only [Act.put, List.setIfInBounds_toArray, List.set_cons_zero, List.set_cons_succ])
        refine wpAnyLast_done (by kernel_rfl) ?_ _
        go_wp2
        go_meet
        case rel =>
          first
            | (have _t := bq5; exact ⟨W.heap.size, A5, c5, rfl, Nat.le_refl _, Box.four bq6, R_far4 (Kd.R_lower (Kd.R_below (R_off hR_ (Or.inl (Nat.lt_of_lt_of_eq (Nat.lt_succ_self _) (size_alloc (W := W)).symm))) hb_) (Nat.le_of_lt (Nat.lt_of_lt_of_eq (Nat.lt_succ_self _) (size_alloc (W := W)).symm))) (fun k hk => hk), below_set (below_set (below_set (below_set j0 (by first | omega | (simp only; omega))) (by first | omega | (simp only; omega))) (by first | omega | (simp only; omega))) (by first | omega | (simp only; omega))⟩)
            | (have _t := bq6; exact ⟨w5.heap.size, A5, c5, rfl, s5, Box.four bq6, R_far4 (Kd.R_below (Kd.R_alloc (R_off (Kd.R_lower hR_ (Nat.le_refl _)) (Or.inr (Nat.le_refl _))) _) hb_) (fun k hk => hk), below_set (below_set (below_set (below_set j0 (by first | omega | (simp only; omega))) (by first | omega | (simp only; omega))) (by first | omega | (simp only; omega))) (by first | omega | (simp only; omega))⟩)
            | exact ⟨w6.heap.size, A5, c5, rfl, s6, Box.new, Kd.R_alloc (R_off (Kd.R_lower ro6 (Nat.le_refl _)) (Or.inr (Nat.le_refl _))) _, below_alloc j0 _⟩
    case hT16x61 =>
      go_simp
      (try go_wp2_with fail)
      refine hK.out _ _ ?hS16x19 (fun hHeld => ?hR16x19)
      case hS16x19 => ((try dsimp only); (first | exact ⟨below_drew1 (Below.refl _ _), rX⟩ | exact ⟨below_drew1 b0_, rX⟩ | exact ⟨j0, jX⟩ | exact ⟨below_alloc j0 _, fun j => (cell_alloc_old (Nat.lt_of_lt_of_le kX j0.size)).trans (jX j)⟩ | exact ⟨below_alloc (below_drew1 (Below.refl _ _)) _, fun j => (cell_alloc_old kX).trans (rX j)⟩ | assumption))
      clear hK K
      (try simp only [Act.put, List.setIfInBounds_toArray, List.set_cons_zero, List.set_cons_succ])
      refine wpAnyLast_ready (rs := [2]) (by kernel_rfl) (by simp) ?_
      refine AllReadyL.cons (o := ⟨some 8, _, _, _, _, _⟩) rfl (by decide) (fun K hK => ?hT16x20) ?hM16x20
      case hM16x20 => exact AllReadyL.nil
      go_simp
      (first | (go_at_call 27; obtain ⟨g0, gX⟩ := ‹Below W.heap.size W _ ∧ _›; ((with_reducible refine (lKeysE KA nk ck x.f0 ks _ (Kd.C_below HKW.out g0) hck HOK.out.1 HH.out.1).mono ?_));  rintro e w5 ⟨v5, rfl, hR_, hb_⟩; have j0 := below_step g0 hb_; have s5 := j0.size; have jX := fun j => (j0.cell (p := ⟨s, j, none⟩) kX).trans (rX j); (obtain ⟨A5, c5, rfl⟩ := Kd.R_slice hR_); (try first | have bq5 := Box.below Box.new hb_ | have bq5 := Box.below (Box.drew Box.new) hb_); (try have rq5 := bq5.cell); (try have fq5 := bq5.frozen)) | (go_at_call 14; obtain ⟨g0, gX⟩ := ‹Below W.heap.size W _ ∧ _›; ((with_reducible refine (pick15E x.f1 3 p1 HOK.out.2.1 (by omega) _ HH.out.2.2.1).mono ?_));  rintro e w6 ⟨rfl, hb_⟩; have j0 := below_step g0 hb_; have s6 := j0.size; have jX := fun j => (j0.cell (p := ⟨s, j, none⟩) kX).trans (rX j); (first | have ro6 := Kd.R_below hR_ hb_ | have ro6 := Kd.R_below (Kd.R_alloc hR_ _) hb_); (try first | have bq6 := Box.below Box.new hb_ | have bq6 := Box.below (Box.drew Box.new) hb_ | have bq6 := Box.below bq5 hb_); (try have rq6 := bq6.cell); (try have fq6 := bq6.frozen)))
      (try go_wp2_with fail)
      refine hK.out _ _ ?hS16x20 (fun hHeld => ?hR16x20)
      case hS16x20 => ((try dsimp only); (first | exact ⟨below_drew1 (Below.refl _ _), rX⟩ | exact ⟨below_drew1 b0_, rX⟩ | exact ⟨j0, jX⟩ | exact ⟨below_alloc j0 _, fun j => (cell_alloc_old (Nat.lt_of_lt_of_le kX j0.size)).trans (jX j)⟩ | exact ⟨below_alloc (below_drew1 (Below.refl _ _)) _, fun j => (cell_alloc_old kX).trans (rX j)⟩ | assumption))
      clear hK K
      (try simp only [Act.put, List.setIfInBounds_toArray, List.set_cons_zero, List.set_cons_succ])
      refine wpAnyLast_ready (rs := [5]) (by kernel_rfl) (by simp) ?_
      refine AllReadyL.cons (o := ⟨some 11, _, _, _, _, _⟩) rfl (by decide) (fun K hK => ?hT16x21) ?hM16x21
      case hM16x21 => exact AllReadyL.nil
      go_simp
      (first | (go_at_call 27; obtain ⟨g0, gX⟩ := ‹Below W.heap.size W _ ∧ _›; ((with_reducible refine (lKeysE KA nk ck x.f0 ks _ (Kd.C_below HKW.out g0) hck HOK.out.1 HH.out.1).mono ?_));  rintro e w5 ⟨v5, rfl, hR_, hb_⟩; have j0 := below_step g0 hb_; have s5 := j0.size; have jX := fun j => (j0.cell (p := ⟨s, j, none⟩) kX).trans (rX j); (obtain ⟨A5, c5, rfl⟩ := Kd.R_slice hR_); (try first | have bq5 := Box.below Box.new hb_ | have bq5 := Box.below (Box.drew Box.new) hb_); (try have rq5 := bq5.cell); (try have fq5 := bq5.frozen)) | (go_at_call 14; obtain ⟨g0, gX⟩ := ‹Below W.heap.size W _ ∧ _›; ((with_reducible refine (pick15E x.f1 3 p1 HOK.out.2.1 (by omega) _ HH.out.2.2.1).mono ?_));  rintro e w6 ⟨rfl, hb_⟩; have j0 := below_step g0 hb_; have s6 := j0.size; have jX := fun j => (j0.cell (p := ⟨s, j, none⟩) kX).trans (rX j); (first | have ro6 := Kd.R_below hR_ hb_ | have ro6 := Kd.R_below (Kd.R_alloc hR_ _) hb_); (try first | have bq6 := Box.below Box.new hb_ | have bq6 := Box.below (Box.drew Box.new) hb_ | have bq6 := Box.below bq5 hb_); (try have rq6 := bq6.cell); (try have fq6 := bq6.frozen)))
      (try go_wp2_with fail)
      refine hK.out _ _ ?hS16x21 (fun hHeld => ?hR16x21)
      case hS16x21 => ((try dsimp only); (first | exact ⟨below_drew1 (Below.refl _ _), rX⟩ | exact ⟨below_drew1 b0_, rX⟩ | exact ⟨j0, jX⟩ | exact ⟨below_alloc j0 _, fun j => (cell_alloc_old (Nat.lt_of_lt_of_le kX j0.size)).trans (jX j)⟩ | exact ⟨below_alloc (below_drew1 (Below.refl _ _)) _, fun j => (cell_alloc_old kX).trans (rX j)⟩ | assumption))
      clear hK K
      (try simp only [Act.put, List.setIfInBounds_toArray, List.set_cons_zero, List.set_cons_succ])
      refine wpAnyLast_take (i := 6) (oi := ⟨some 12, _, _, _, _, _⟩) (v := ?_) rfl (by kernel_rfl) (by kernel_rfl) (by kernel_rfl) (by kernel_rfl) (by kernel_rfl) (fun _ _ _ h => h) (Or.inl ⟨by rfl, ?hY16x22⟩) (by assumption) ?hR16x22
      case hY16x22 => (intro w hSw; (try dsimp only at hSw); go_simp; try with_reducible rfl)
      (try simp only [Act.put, List.setIfInBounds_toArray, List.set_cons_zero, List.set_cons_succ])
      refine wpAnyLast_take (i := 7) (oi := ⟨some 13, _, _, _, _, _⟩) (v := ?_) rfl (by kernel_rfl) (by kernel_rfl) (by kernel_rfl) (by kernel_rfl) (by kernel_rfl) (fun _ _ _ h => h) (Or.inl ⟨by rfl, ?hY16x23⟩) (by assumption) ?hR16x23
      case hY16x23 => (intro w hSw; (try dsimp only at hSw); go_simp; try with_reducible rfl)
      (try simp only [Act.put, List.setIfInBounds_toArray, List.set_cons_zero, List.set_cons_succ])
      refine wpAnyLast_ready (rs := [9]) (by kernel_rfl) (by simp) ?_
      refine AllReadyL.cons_last (o := ⟨none, _, _, _, _, _⟩) rfl (by decide) (fun K hK => ?hT16x24) ?hM16x24
      case hM16x24 => exact AllReadyL.nil
      go_simp
      (try go_wp2_with fail)
      refine hK.out _ _ ?hR16x24
      clear hK K
      (try simp only [Act.put, List.setIfInBounds_toArray, List.set_cons_zero, List.set_cons_succ])
      refine wpAnyLast_done (by kernel_rfl) ?_ _
      go_wp2
      go_meet
      case rel =>
        first
          | (have _t := bq5; exact ⟨W.heap.size, A5, c5, rfl, Nat.le_refl _, Box.four bq6, R_far4 (Kd.R_lower (Kd.R_below (R_off hR_ (Or.inl (Nat.lt_of_lt_of_eq (Nat.lt_succ_self _) (size_alloc (W := W)).symm))) hb_) (Nat.le_of_lt (Nat.lt_of_lt_of_eq (Nat.lt_succ_self _) (size_alloc (W := W)).symm))) (fun k hk => hk), below_set (below_set (below_set (below_set j0 (by first | omega | (simp only; omega))) (by first | omega | (simp only; omega))) (by first | omega | (simp only; omega))) (by first | omega | (simp only; omega))⟩)
          | (have _t := bq6; exact ⟨w5.heap.size, A5, c5, rfl, s5, Box.four bq6, R_far4 (Kd.R_below (Kd.R_alloc (R_off (Kd.R_lower hR_ (Nat.le_refl _)) (Or.inr (Nat.le_refl _))) _) hb_) (fun k hk => hk), below_set (below_set (below_set (below_set j0 (by first | omega | (simp only; omega))) (by first | omega | (simp only; omega))) (by first | omega | (simp only; omega))) (by first | omega | (simp only; omega))⟩)
          | exact ⟨w6.heap.size, A5, c5, rfl, s6, Box.new, Kd.R_alloc (R_off (Kd.R_lower ro6 (Nat.le_refl _)) (Or.inr (Nat.le_refl _))) _, below_alloc j0 _⟩
  case rest =>
    obtain ⟨B, A5, c5, rfl, hB, bB, hR, hbc⟩ := hcut
    have HR := Aside0.mk hR
    have HBC := Aside0.mk (below_step HB.out hbc)
    have XX := Aside0.mk (bX.out.below hbc)
    have XZ := Aside0.mk (bZ.out.below hbc)
    have XB := Aside0.mk bB
    have HPC := Aside0.mk (Kd.C_below HPW.out hbc)
    have hs2 : s + 2 ≤ B := by have := HS.out.2; omega
    clear rX kX HB bX bZ hR hbc bB HKW HPW hB
    have x0 : wc.cell? ⟨s, 2, none⟩ = some (.slice P np cp) := XX.out.cell 2
    go_wp2_with fail
    refine (lTokenE P np cp x.f2 false tk _ HPC.out hcp HOK.out.2.2.1 HH.out.2.1).mono ?_
    rintro e w7 ⟨v7, rfl, hT, hb_⟩
    obtain ⟨A7, c7, rfl⟩ := Kd.R_slice hT
    have HT := Aside0.mk (R_off (b := B) hT (Or.inl XB.out.lt))
    have HR7 := Aside0.mk (Kd.R_below HR.out hb_)
    have XX7 := Aside0.mk (XX.out.below hb_)
    have XZ7 := Aside0.mk (XZ.out.below hb_)
    have XB7 := Aside0.mk (XB.out.below hb_)
    have HB7 := Aside0.mk (below_step HBC.out hb_)
    have hszc := hb_.size
    have kB := XB.out.lt
    clear x0 HR XX XZ XB HBC HPC hT hb_
    have rB := XB7.out.cell
    have fB := XB7.out.frozen
    go_upto_region 3 with (fail)
    obtain ⟨V, hV⟩ : ∃ V, (w7.setCell ⟨B, 2, none⟩ (.bool false)).setCell ⟨B, 3, none⟩ (.slice A7 tk.length c7) = V := ⟨_, rfl⟩
    rw [hV]
    have XBV := Aside0.mk (show Box V B #[.slice A5 ks.length c5, .int .u64 p1, .bool false, .slice A7 tk.length c7] 32 from by
      have e := Box.put (j := 3) (v := .slice A7 tk.length c7) (Box.put (j := 2) (v := .bool false) XB7.out)
      rw [hV] at e
      simpa using e)
    have HTV := Aside0.mk (show kP.R 52 V wc.heap.size (fun k => k ≠ B) (.slice A7 tk.length c7) tk from hV ▸ Kd.R_far (p := ⟨B, 3, none⟩) (Kd.R_far (p := ⟨B, 2, none⟩) HT.out (fun k hk => hk) _) (fun k hk => hk) _)
    have HRV := Aside0.mk (show (Kd.int .u64).R 28 V W.heap.size (fun k => k ≠ B) (.slice A5 ks.length c5) ks from hV ▸ Kd.R_far (p := ⟨B, 3, none⟩) (Kd.R_far (p := ⟨B, 2, none⟩) HR7.out (fun k hk => hk) _) (fun k hk => hk) _)
    have XXV := Aside0.mk (hV ▸ (XX7.out.far (by simp; omega)).far (by simp; omega) : Box V s _ _)
    have XZV := Aside0.mk (hV ▸ (XZ7.out.far (by simp; omega)).far (by simp; omega) : Box V (s + 1) _ _)
    have HBV := Aside0.mk (show Below w.heap.size w V from hV ▸ below_set (below_set HB7.out (by have := HS.out.1; show _ ≤ B; omega)) (by have := HS.out.1; show _ ≤ B; omega))
    clear hV rB fB HT HR7 XX7 XZ7 XB7 HB7
    have x0 : V.cell? ⟨s, 3, none⟩ = some (.int .i64 x.f3) := XXV.out.cell 3
    go_wp2_with fail
    refine (pick15E x.f3 5 q HOK.out.2.2.2 (by omega) _ HH.out.2.2.2).mono ?_
    rintro e w8 ⟨rfl, hb_⟩
    have XB8 := Aside0.mk (XBV.out.below hb_)
    have HT8 := Aside0.mk (Kd.R_below HTV.out hb_)
    have HR8 := Aside0.mk (Kd.R_below HRV.out hb_)
    have XX8 := Aside0.mk (XXV.out.below hb_)
    have XZ8 := Aside0.mk (XZV.out.below hb_)
    have HB8 := Aside0.mk (below_step HBV.out hb_)
    clear x0 XBV HTV HRV XXV XZV HBV hb_
    have rB := XB8.out.cell
    have fB := XB8.out.frozen
    have kB8 := XB8.out.lt
    by_cases hq : 0 < q
    · have hdq : decide (0 < q) = true := decide_eq_true hq
      obtain ⟨sg, hsg⟩ : ∃ l, signR p1 ks = l := ⟨_, rfl⟩
      have HSG := Aside0.mk hsg
      have HC8 := Aside0.mk ((Kd.R_reads' HR8.out).2.2)
      have hc5 := (Kd.R_reads' HR8.out).2.1
      clear hsg
      go_wp2_with fail
      refine (rSignE p1 A5 ks.length c5 ks _ HC8.out hc5 (by omega)).mono ?_
      rintro e w9 ⟨v9, rfl, hS, hb_⟩
      rw [HSG.out] at hS
      obtain ⟨A9, c9, rfl⟩ := Kd.R_slice hS
      have XB9 := Aside0.mk (XB8.out.below hb_)
      have HS9 := Aside0.mk (R_off (b := B) hS (Or.inl XB8.out.lt))
      have HR9 := Aside0.mk (Kd.R_below HR8.out hb_)
      have XX9 := Aside0.mk (XX8.out.below hb_)
      have XZ9 := Aside0.mk (XZ8.out.below hb_)
      have HB9 := Aside0.mk (below_step HB8.out hb_)
      clear rB fB XB8 HT8 HR8 XX8 XZ8 HB8 hb_ hS HC8
      have rB := XB9.out.cell
      have fB := XB9.out.frozen
      have kB9 := XB9.out.lt
      go_upto_region 6 with (fail)
      obtain ⟨V2, hV2⟩ : ∃ V, ((w9.setCell ⟨B, 2, none⟩ (.bool false)).setCell ⟨B, 3, none⟩ (.slice A9 sg.length c9)).alloc (.cells #[.bool false, .slice A9 sg.length c9] 30) = V := ⟨_, rfl⟩
      rw [hV2]
      have XBV := Aside0.mk (show Box V2 B #[.slice A5 ks.length c5, .int .u64 p1, .bool false, .slice A9 sg.length c9] 32 from by
        have e := (Box.put (j := 3) (v := .slice A9 sg.length c9) (Box.put (j := 2) (v := .bool false) XB9.out)).alloc (o := .cells #[.bool false, .slice A9 sg.length c9] 30)
        rw [hV2] at e
        simpa using e)
      have HLV := Aside0.mk (show kP.R 52 V2 w8.heap.size (fun k => k ≠ B) (.slice A9 sg.length c9) sg from hV2 ▸ Kd.R_alloc (Kd.R_far (p := ⟨B, 3, none⟩) (Kd.R_far (p := ⟨B, 2, none⟩) HS9.out (fun k hk => hk) _) (fun k hk => hk) _) _)
      have HRV := Aside0.mk (show (Kd.int .u64).R 28 V2 W.heap.size (fun k => k ≠ B) (.slice A5 ks.length c5) ks from hV2 ▸ Kd.R_alloc (Kd.R_far (p := ⟨B, 3, none⟩) (Kd.R_far (p := ⟨B, 2, none⟩) HR9.out (fun k hk => hk) _) (fun k hk => hk) _) _)
      have XXV := Aside0.mk (show Box V2 s #[.slice KA nk ck, .int .i64 x.f1, .slice P np cp, .int .i64 x.f3] 48 from hV2 ▸ ((XX9.out.far (by simp; omega)).far (by simp; omega)).alloc)
      have XZV := Aside0.mk (show Box V2 (s + 1) #[.slice none 0 0, .int .u64 0, .bool false, .slice none 0 0] 32 from hV2 ▸ ((XZ9.out.far (by simp; omega)).far (by simp; omega)).alloc)
      have HBV := Aside0.mk (show Below w.heap.size w V2 from hV2 ▸ below_alloc (below_set (below_set HB9.out (by have := HS.out.1; show _ ≤ B; omega)) (by have := HS.out.1; show _ ≤ B; omega)) _)
      have hbase : s + 2 ≤ w8.heap.size := by omega
      clear hV2 rB fB XB9 HS9 HR9 XX9 XZ9 HB9
      have x0 : V2.cell? ⟨s, 3, none⟩ = some (.int .i64 x.f3) := XXV.out.cell 3
      go_wp2_with fail
      refine (pick15E x.f3 5 q HOK.out.2.2.2 (by omega) _ HH.out.2.2.2).mono ?_
      rintro e w12 ⟨rfl, hb_⟩
      have XB12 := Aside0.mk (XBV.out.below hb_)
      have HL12 := Aside0.mk (Kd.R_below HLV.out hb_)
      have HR12 := Aside0.mk (Kd.R_below HRV.out hb_)
      have XZ12 := Aside0.mk (XZV.out.below hb_)
      have HB12 := Aside0.mk (below_step HBV.out hb_)
      clear x0 XBV HLV HRV XXV XZV HBV hb_
      have rB := XB12.out.cell
      have fB := XB12.out.frozen
      have kB12 := XB12.out.lt
      have rZ := XZ12.out.cell
      have fZ := XZ12.out.frozen
      have kZ12 := XZ12.out.lt
      have hBZ : s + 1 ≠ B := by omega
      have hZB : B ≠ s + 1 := by omega
      obtain ⟨b, hb⟩ : ∃ b, decide (q = 1) = b := ⟨_, rfl⟩
      have hqb : (q == 1) = b := by rw [← hb]; rfl
      have HQB := Aside0.mk hb
      clear hb
      go_wp2
      refine bodyPost_ret (v := .agg #[.slice A5 ks.length c5, .int .u64 p1, .bool b, .slice A9 sg.length c9]) (by simp [results, Try.results18, go_sem, rB, fB, rZ, fZ, hBZ, hZB]) rfl ?_
      rw [HE.out]
      dsimp only
      rw [HQB.out, if_pos hq, HSG.out]
      have ok1 : ∀ k, (k ≠ B ∧ k ≠ s + 1) → k ≠ B := fun k hk => hk.1
      have ok2 : ∀ k, (k ≠ B ∧ k ≠ s + 1) → k ≠ s + 1 := fun k hk => hk.2
      refine ⟨_, _, rfl, ?_, ?_, ?_⟩
      · have h0 : (Kd.int .u64).R 28 w12 W.heap.size (fun k => k ≠ B ∧ k ≠ s + 1) (.slice A5 ks.length c5) ks := Kd.R_mono (Kd.R_bound HR12.out) (fun k hk => ⟨hk.1, by have := hk.2.1; have := HS.out.2; omega⟩)
        exact Kd.R_mono (Kd.R_lower (R_far4 (Kd.R_far (p := ⟨B, 2, none⟩) h0 ok1 _) ok2) (by have := HS.out; omega)) (fun _ _ => trivial)
      · have h0 : kP.R 52 w12 w8.heap.size (fun k => k ≠ B ∧ k ≠ s + 1) (.slice A9 sg.length c9) sg := Kd.R_mono (Kd.R_bound HL12.out) (fun k hk => ⟨hk.1, by have := hk.2.1; omega⟩)
        exact Kd.R_mono (Kd.R_lower (R_far4 (Kd.R_far (p := ⟨B, 2, none⟩) h0 ok1 _) ok2) (by have := HS.out; omega)) (fun _ _ => trivial)
      · have hs9 := HS.out.1
        exact below_set (below_set (below_set (below_set (below_set HB12.out (by show _ ≤ B; omega)) (by show _ ≤ s + 1; omega)) (by show _ ≤ s + 1; omega)) (by show _ ≤ s + 1; omega)) (by show _ ≤ s + 1; omega)
    · have hdq : decide (0 < q) = false := decide_eq_false hq
      go_upto_region 6 with (fail)
      obtain ⟨V2, hV2⟩ : ∃ V, w8 = V := ⟨_, rfl⟩
      rw [hV2]
      have XBV := Aside0.mk (show Box V2 B #[.slice A5 ks.length c5, .int .u64 p1, .bool false, .slice A7 tk.length c7] 32 from hV2 ▸ XB8.out)
      have HLV := Aside0.mk (show kP.R 52 V2 wc.heap.size (fun k => k ≠ B) (.slice A7 tk.length c7) tk from hV2 ▸ HT8.out)
      have HRV := Aside0.mk (show (Kd.int .u64).R 28 V2 W.heap.size (fun k => k ≠ B) (.slice A5 ks.length c5) ks from hV2 ▸ HR8.out)
      have XXV := Aside0.mk (show Box V2 s #[.slice KA nk ck, .int .i64 x.f1, .slice P np cp, .int .i64 x.f3] 48 from hV2 ▸ XX8.out)
      have XZV := Aside0.mk (show Box V2 (s + 1) #[.slice none 0 0, .int .u64 0, .bool false, .slice none 0 0] 32 from hV2 ▸ XZ8.out)
      have HBV := Aside0.mk (show Below w.heap.size w V2 from hV2 ▸ HB8.out)
      have hbase : s + 2 ≤ wc.heap.size := by omega
      clear hV2 rB fB XB8 HT8 HR8 XX8 XZ8 HB8
      have x0 : V2.cell? ⟨s, 3, none⟩ = some (.int .i64 x.f3) := XXV.out.cell 3
      go_wp2_with fail
      refine (pick15E x.f3 5 q HOK.out.2.2.2 (by omega) _ HH.out.2.2.2).mono ?_
      rintro e w12 ⟨rfl, hb_⟩
      have XB12 := Aside0.mk (XBV.out.below hb_)
      have HL12 := Aside0.mk (Kd.R_below HLV.out hb_)
      have HR12 := Aside0.mk (Kd.R_below HRV.out hb_)
      have XZ12 := Aside0.mk (XZV.out.below hb_)
      have HB12 := Aside0.mk (below_step HBV.out hb_)
      clear x0 XBV HLV HRV XXV XZV HBV hb_
      have rB := XB12.out.cell
      have fB := XB12.out.frozen
      have kB12 := XB12.out.lt
      have rZ := XZ12.out.cell
      have fZ := XZ12.out.frozen
      have kZ12 := XZ12.out.lt
      have hBZ : s + 1 ≠ B := by omega
      have hZB : B ≠ s + 1 := by omega
      obtain ⟨b, hb⟩ : ∃ b, decide (q = 1) = b := ⟨_, rfl⟩
      have hqb : (q == 1) = b := by rw [← hb]; rfl
      have HQB := Aside0.mk hb
      clear hb
      go_wp2
      refine bodyPost_ret (v := .agg #[.slice A5 ks.length c5, .int .u64 p1, .bool b, .slice A7 tk.length c7]) (by simp [results, Try.results18, go_sem, rB, fB, rZ, fZ, hBZ, hZB]) rfl ?_
      rw [HE.out]
      dsimp only
      rw [HQB.out, if_neg (show ¬ 0 < q by omega)]
      have ok1 : ∀ k, (k ≠ B ∧ k ≠ s + 1) → k ≠ B := fun k hk => hk.1
      have ok2 : ∀ k, (k ≠ B ∧ k ≠ s + 1) → k ≠ s + 1 := fun k hk => hk.2
      refine ⟨_, _, rfl, ?_, ?_, ?_⟩
      · have h0 : (Kd.int .u64).R 28 w12 W.heap.size (fun k => k ≠ B ∧ k ≠ s + 1) (.slice A5 ks.length c5) ks := Kd.R_mono (Kd.R_bound HR12.out) (fun k hk => ⟨hk.1, by have := hk.2.1; have := HS.out.2; omega⟩)
        exact Kd.R_mono (Kd.R_lower (R_far4 (Kd.R_far (p := ⟨B, 2, none⟩) h0 ok1 _) ok2) (by have := HS.out; omega)) (fun _ _ => trivial)
      · have h0 : kP.R 52 w12 wc.heap.size (fun k => k ≠ B ∧ k ≠ s + 1) (.slice A7 tk.length c7) tk := Kd.R_mono (Kd.R_bound HL12.out) (fun k hk => ⟨hk.1, by have := hk.2.1; omega⟩)
        exact Kd.R_mono (Kd.R_lower (R_far4 (Kd.R_far (p := ⟨B, 2, none⟩) h0 ok1 _) ok2) (by have := HS.out; omega)) (fun _ _ => trivial)
      · have hs9 := HS.out.1
        exact below_set (below_set (below_set (below_set (below_set HB12.out (by show _ ≤ B; omega)) (by show _ ≤ s + 1; omega)) (by show _ ≤ s + 1; omega)) (by show _ ≤ s + 1; omega)) (by show _ ≤ s + 1; omega)
end Go.Proofs.Ytnfglkgkdechlaa


/- Raw items, all of them (chapter 15's statements). -/
set_option linter.unusedVariables false
set_option linter.unusedSimpArgs false
namespace Go.Proofs.Ytnfglkgkdechlaa
open Go.RowKit Go.Proofs.YtnfglkgkdechlaaW.PrintWords Go.Proofs.YtnfglkgkdechlaaW.PrintLast Go.Proofs.YtnfglkgkdechlaaW.PrintMore

open Go.Proofs.Ytnfglkgkdechlaa.PQ

abbrev rdR (l : List Rw) (i : Int) : Rw := rd_T48 l i
theorem rdR_eq {l : List Rw} {i : Nat} (h : i < l.length) : rdR l (i : Int) = l[i] := by
  unfold rdR rd_T48
  rw [Int.toNat_natCast, List.getD_eq_getElem?_getD, List.getElem?_eq_getElem h]
  rfl
theorem at_R {w : World} {A : Option Addr} {n : Nat} {xs : List Rw} (h : kR.C w A n xs) (i : Int) (h0 : 0 ≤ i) (h1 : i < n) : ∃ ad A0 c0 A2 c2, A = some ad ∧ w.cell? (ad.add (i.toNat * 4)) = some (.slice A0 (rdR xs i).f0.length c0) ∧ w.cell? ⟨(ad.add (i.toNat * 4)).block, (ad.add (i.toNat * 4)).off + 1, none⟩ = some (.int .i64 (rdR xs i).f1) ∧ w.cell? ⟨(ad.add (i.toNat * 4)).block, (ad.add (i.toNat * 4)).off + 2, none⟩ = some (.slice A2 (rdR xs i).f2.length c2) ∧ w.cell? ⟨(ad.add (i.toNat * 4)).block, (ad.add (i.toNat * 4)).off + 3, none⟩ = some (.int .i64 (rdR xs i).f3) ∧ (rdR xs i).f0.length ≤ c0 ∧ (Kd.int .i64).C w A0 (rdR xs i).f0.length (rdR xs i).f0 ∧ (rdR xs i).f2.length ≤ c2 ∧ (Kd.int .i64).C w A2 (rdR xs i).f2.length (rdR xs i).f2 := at_T48 h i h0 h1
def itemsR (raw : List Rw) : List It := (raw.take 20).map itemR
theorem lItemE (K : Option Addr) (nk ck : Nat) (P : Option Addr) (np cp : Nat) (x : Rw) (it : It) (w : World) (hK : (Kd.int .i64).C w K nk x.f0) (hck : nk ≤ ck) (hP : (Kd.int .i64).C w P np x.f2) (hcp : np ≤ cp) (ho : OkR x) (h : itemR x = it) :
    Calls Try.prog 18 #[.agg #[.slice K nk ck, .int .i64 x.f1, .slice P np cp, .int .i64 x.f3]] w
      fun r w' => ∃ v0 v3, r = .returned (.agg #[v0, .int .u64 it.f1, .bool it.f2.f0, v3]) ∧ (Kd.int .u64).R 28 w' w.heap.size (fun _ => True) v0 it.f0 ∧ kP.R 52 w' w.heap.size (fun _ => True) v3 it.f2.f1 ∧ Below w.heap.size w w' := h ▸ lItem K nk ck P np cp x w hK hck hP hcp ho
set_option maxRecDepth 100000 in
set_option maxHeartbeats 8000000 in
theorem lItems (A : Option Addr) (n c : Nat) (raw : List Rw) (w : World) (hA : kR.C w A n raw) (hc : n ≤ c) (ho : ∀ x ∈ raw, OkR x) : Calls Try.prog 10 #[.slice A n c] w
    fun r w' => ∃ v, r = .returned v ∧ Kd.S kI 32 w' w.heap.size (fun _ => True) v (itemsR raw) ∧ Below w.heap.size w w' := by
  have HN := Aside0.mk (show n = raw.length from (Kd.C_len hA).symm)
  have hn63 : n ≤ 9223372036854775807 := by rw [HN.out]; exact Kd.C_len hA ▸ Kd.C_max hA
  have HX := Aside0.mk hA
  have HOK := Aside0.mk ho
  clear hA ho
  go_enter Try.func10, Try.ntmps10
  go_wp2
  go_loopw [3, 4] (fun v3 v4 wx => ∃ (i : Nat), i ≤ n ∧ i ≤ 20 ∧ v4 = .int .i64 i ∧ Kd.S kI 32 wx w.heap.size (fun _ => True) v3 ((raw.take i).map itemR) ∧ Below w.heap.size w wx) (fun _ v4 _ => 20 - (intOf v4).toNat)
  case atStart => exact ⟨0, by omega, by omega, rfl, Kd.S_nil _ _ _ _ _, Below.refl _ _⟩
  case round =>
    obtain ⟨i, hi, hi20, rfl, hO, hb⟩ := hrel
    by_cases hlt : i < n ∧ i < 20
    · obtain ⟨z, hz⟩ : ∃ z : Int, (i : Int) = z := ⟨_, rfl⟩
      have hil : i < raw.length := by rw [← HN.out]; exact hlt.1
      obtain ⟨x, hx⟩ : ∃ x, rdR raw z = x := ⟨_, rfl⟩
      have hxe : raw[i] = x := by rw [← hx, ← hz, rdR_eq hil]
      obtain ⟨it, hit⟩ : ∃ it, itemR x = it := ⟨_, rfl⟩
      have HF := Aside0.mk (show (raw.take (i + 1)).map itemR = (raw.take i).map itemR ++ [it] by rw [List.take_succ_eq_append_getElem hil, List.map_append, hxe, ← hit]; rfl)
      have HXI := Aside0.mk (HOK.out x (by rw [← hxe]; exact List.getElem_mem hil))
      have HLN := Aside0.mk (show ((raw.take i).map itemR).length ≤ 20 by rw [List.length_map, List.length_take]; omega)
      generalize ((raw.take i).map itemR) = l at *
      rw [hz]
      have hz0 : 0 ≤ z := by omega
      have hz1 : z < (n : Int) := by omega
      have hz2 : z < 20 := by omega
      have hd1 : decide (z < (n : Int)) = true := decide_eq_true hz1
      have hd2 : decide (z < 20) = true := decide_eq_true hz2
      obtain ⟨ad, K, ck, P, cp, rfl, c0, c1, c2, c3, hck, hK, hcp, hP⟩ := at_R (Kd.C_below HX.out hb) z hz0 hz1
      rw [hx] at c0 c1 c2 c3 hck hK hcp hP
      have HZ := Aside0.mk hz
      have HIT := Aside0.mk hit
      have HO := Aside0.mk hO
      have HB := Aside0.mk hb
      have HK := Aside0.mk hK
      have HP := Aside0.mk hP
      clear hz hx hxe hit hO hb hil hlt hK hP
      go_wp2_with fail
      refine (lItemE K x.f0.length ck P x.f2.length cp x it _ HK.out hck HP.out hcp HXI.out HIT.out).mono ?_
      rintro e w5 ⟨v0, v3, rfl, hR0, hR3, hb_⟩
      obtain ⟨A0, c0', rfl⟩ := Kd.R_slice hR0
      obtain ⟨A3, c3', rfl⟩ := Kd.R_slice hR3
      have HM := Aside0.mk (k32_mkM w5 w.heap.size (fun k => wr.heap.size ≤ k) it (Kd.R_lower (Kd.R_mono (Kd.R_bound hR0) (fun k hk => hk.2.1)) HB.out.size) (Kd.R_lower (Kd.R_mono (Kd.R_bound hR3) (fun k hk => hk.2.1)) HB.out.size))
      have HO5 := Aside0.mk (show Kd.S kI 32 w5 w.heap.size (fun k => True ∧ ¬ wr.heap.size ≤ k) u3 l from Kd.S_below (Kd.S_mono (Kd.S_bound HO.out) (fun k hk => ⟨trivial, by have := hk.2.2.1; omega⟩)) hb_)
      have HLT := Aside0.mk (Kd.S_lt HO.out)
      have HB5 := Aside0.mk (below_step HB.out hb_)
      have hl := HLN.out
      clear hR0 hR3 HO HB hb_ c0 c1 c2 c3
      go_wp2_with (first | ((with_reducible refine gate_builtin (b := .append) (xs := #[.tmp 15, .tmp 21]) rfl ?_); at_builtin; go_must (refine Kd.S_append kI (w0 := w) w.heap.size rfl (.tmp 15) (.tmp 21) 25 32 (.agg #[.slice none 0 0, .int .u64 0, .bool false, .slice none 0 0]) 64 rfl Try.underlying25 info32 rfl (by decide) (by omega) u3 l it [.slice A0 it.f0.length c0', .int .u64 it.f1, .bool it.f2.f0, .slice A3 it.f2.f1.length c3'] (fun _ => True) (fun k => wr.heap.size ≤ k) rfl rfl HM.out (fun k hk => ⟨trivial, fun he => by have := HLT.out k he.symm; omega⟩) (fun _ _ => trivial) HO5.out HB5.out HB5.out.size (by omega) ?_; (intro v1 w6 ho_ hb_ hg_ hat_; have HO6 := Aside0.mk ho_; have HB6 := Aside0.mk hb_; clear ho_ hb_ hg_ hat_))))
      go_roundw
      case rel => exact ⟨i + 1, by have := HZ.out; omega, by have := HZ.out; omega, by have := HZ.out; subst this; go_num, by rw [HF.out]; exact HO6.out, HB6.out⟩
      case measure =>
        have := HZ.out
        simp [intOf]
        omega
    · have hd : (decide ((i : Int) < (n : Int)) = false ∧ decide (i < n) = false) ∨ ((decide ((i : Int) < (n : Int)) = true ∧ decide (i < n) = true) ∧ decide ((i : Int) < 20) = false ∧ decide (i < 20) = false) := by
        by_cases h1 : i < n
        · exact Or.inr ⟨⟨decide_eq_true (by omega), decide_eq_true h1⟩, decide_eq_false (by omega), decide_eq_false (by omega)⟩
        · exact Or.inl ⟨decide_eq_false (by omega), decide_eq_false h1⟩
      have HE := Aside0.mk (show raw.take i = raw.take 20 by
        by_cases h1 : i < n
        · rw [show i = 20 by omega]
        · rw [List.take_of_length_le (by rw [← HN.out]; omega), List.take_of_length_le (by rw [← HN.out]; omega)])
      have HO := Aside0.mk hO
      have HB := Aside0.mk hb
      clear hO hb
      rcases hd with ⟨hd, hd1⟩ | ⟨⟨hd, hd1⟩, hd2, hd3⟩
      · go_wp2
        go_ret
        refine ⟨_, rfl, ?_, HB.out⟩
        have e := HO.out
        rw [HE.out] at e
        exact e
      · go_wp2
        go_ret
        refine ⟨_, rfl, ?_, HB.out⟩
        have e := HO.out
        rw [HE.out] at e
        exact e
theorem itemsR_len (raw : List Rw) : (itemsR raw).length ≤ 20 := by
  unfold itemsR
  rw [List.length_map, List.length_take]
  omega
end Go.Proofs.Ytnfglkgkdechlaa


/- Arguments of the statements of chapter 15, opened. -/
set_option linter.unusedVariables false
set_option linter.unusedSimpArgs false
namespace Go.Proofs.Ytnfglkgkdechlaa
open Go.RowKit Go.Proofs.YtnfglkgkdechlaaW.PrintWords Go.Proofs.YtnfglkgkdechlaaW.PrintLast Go.Proofs.YtnfglkgkdechlaaW.PrintMore
open Go.ChangeShapes Go.WideShapes Go.ChangeAt
open Go.ChangeMaps (open_string shut_string)
open Go.Proofs.Ytnfglkgkdechlaa.PQ Go.Deep

theorem in64_wf {n : Int} (h : (Lit.int .i64 n).wf = true) : In64 n := bounds_i64 h
theorem ints_in {H : Type} {enc : TypeId × Value → H} {W : World} {fuel : Nat} {c0 : Value} {y : DataW H × List MemPlace} (h : DataW.trod enc Try.prog W 0 (fun _ => true) true fuel 23 [c0] = some y) :
    ∃ (A : Option Addr) (k : Nat) (l : List Int), c0 = .slice A l.length k ∧ l.length ≤ k ∧ (Kd.int .i64).C W A l.length l ∧ ∀ x ∈ l, In64 x := by
  rcases open_ints Try.underlying23 Try.underlying3 (by kernel_rfl) h with ⟨hcs, hx⟩ | ⟨a, len, cap, zs, hcs, _, hl, hm, hz, hx, hcell, hwz⟩
  · simp at hcs
    exact ⟨none, 0, [], by simpa using hcs, Nat.le_refl _, Kd.C_nil _ _, fun x hx => by cases hx⟩
  · simp at hcs
    have hz' : zs.length = cap := by simpa using hz
    have hlen : (zs.take len).length = len := by rw [List.length_take]; omega
    refine ⟨some a, cap, zs.take len, by rw [hlen]; exact hcs, by omega, ?_, fun x hx => in64_wf (hwz x (List.mem_of_mem_take hx))⟩
    rw [hlen]
    refine Kd.C_of_reads (enc := Value.int .i64) (d := (0 : Int)) (h1 := fun _ => rfl) ⟨hlen, by unfold maxLen at hm; omega, fun _ => ⟨_, rfl, fun j hj => ?_⟩⟩
    have := hcell j (by omega)
    rw [this]
    simp [List.getD_eq_getElem?_getD, List.getElem?_take, hj]
theorem raw_in {H : Type} {enc : TypeId × Value → H} {W : World} {fuel : Nat} {c0 c1 c2 c3 : Value} {y : DataW H × List MemPlace} (ht : DataW.trod enc Try.prog W 0 (fun _ => true) true fuel 48 [c0, c1, c2, c3] = some y) :
    ∃ (x : Rw) (A0 : Option Addr) (k0 : Nat) (A2 : Option Addr) (k2 : Nat), [c0, c1, c2, c3] = [.slice A0 x.f0.length k0, .int .i64 x.f1, .slice A2 x.f2.length k2, .int .i64 x.f3] ∧ x.f0.length ≤ k0 ∧ (Kd.int .i64).C W A0 x.f0.length x.f0 ∧ x.f2.length ≤ k2 ∧ (Kd.int .i64).C W A2 x.f2.length x.f2 ∧ OkR x := by
  obtain ⟨xs, fu, _, _, _, hxl, hg⟩ := DataW.trod_struct Try.underlying48 ht
  have s0 : DataW.trod enc Try.prog W 0 (fun _ => true) true fu 23 ((([c0, c1, c2, c3] : List Value).drop 0).take (Try.prog.cellsOf 23)) = xs[0]? := hg 0 _ rfl
  have s1 : DataW.trod enc Try.prog W 0 (fun _ => true) true fu 3 ((([c0, c1, c2, c3] : List Value).drop 1).take (Try.prog.cellsOf 3)) = xs[1]? := hg 1 _ rfl
  have s2 : DataW.trod enc Try.prog W 0 (fun _ => true) true fu 23 ((([c0, c1, c2, c3] : List Value).drop 2).take (Try.prog.cellsOf 23)) = xs[2]? := hg 2 _ rfl
  have s3 : DataW.trod enc Try.prog W 0 (fun _ => true) true fu 3 ((([c0, c1, c2, c3] : List Value).drop 3).take (Try.prog.cellsOf 3)) = xs[3]? := hg 3 _ rfl
  have hc1 : Try.prog.cellsOf 3 = 1 := by kernel_rfl
  have hc2 : Try.prog.cellsOf 23 = 1 := by kernel_rfl
  rw [hc1] at s1 s3
  rw [hc2] at s0 s2
  obtain ⟨y0, hy0⟩ : ∃ y, xs[0]? = some y := ⟨_, List.getElem?_eq_getElem (by rw [hxl]; decide)⟩
  obtain ⟨y1, hy1⟩ : ∃ y, xs[1]? = some y := ⟨_, List.getElem?_eq_getElem (by rw [hxl]; decide)⟩
  obtain ⟨y2, hy2⟩ : ∃ y, xs[2]? = some y := ⟨_, List.getElem?_eq_getElem (by rw [hxl]; decide)⟩
  obtain ⟨y3, hy3⟩ : ∃ y, xs[3]? = some y := ⟨_, List.getElem?_eq_getElem (by rw [hxl]; decide)⟩
  have t0 := s0.trans hy0
  have t1 := s1.trans hy1
  have t2 := s2.trans hy2
  have t3 := s3.trans hy3
  obtain ⟨A0, k0, l0, e0, hl0, hC0, ho0⟩ := ints_in t0
  obtain ⟨n1, e1, _, w1⟩ := DataW.trod_int Try.underlying3 t1
  obtain ⟨A2, k2, l2, e2, hl2, hC2, ho2⟩ := ints_in t2
  obtain ⟨n3, e3, _, w3⟩ := DataW.trod_int Try.underlying3 t3
  obtain rfl : c1 = .int .i64 n1 := by simpa using e1
  obtain rfl : c3 = .int .i64 n3 := by simpa using e3
  subst e0 e2
  exact ⟨⟨l0, n1, l2, n3⟩, A0, k0, A2, k2, rfl, hl0, hC0, hl2, hC2, ⟨ho0, in64_wf w1, ho2, in64_wf w3⟩⟩
theorem rawsS_came {H : Type} {enc : TypeId × Value → H} {W : World} {b0 : Nat} {v : Value} {d : DataW H} {ps : List MemPlace} (hval : Value.okWide Try.prog W .any b0 24 v) (hd : DataW.Trod enc Try.prog W 0 (fun _ => true) true 24 v d ps) :
    ∃ A n c l, v = .slice A n c ∧ n ≤ c ∧ Kd.C kR W A n l ∧ ∀ x ∈ l, OkR x := by
  obtain ⟨A, n, c, rfl⟩ := okWide_slice Try.underlying24 hval
  obtain ⟨fuel, hf⟩ := hd
  rcases open_slice Try.underlying24 hf with ⟨hcs, hx⟩ | ⟨a, len, cap, m, k, D, Pl, hcs, _, hl, hm, hmm, hx, hi⟩
  · simp [Value.cells] at hcs
    obtain ⟨rfl, rfl, rfl⟩ := hcs
    exact ⟨none, 0, 0, [], rfl, Nat.le_refl _, Kd.C_nil _ _, fun x hx => by cases hx⟩
  · simp [Value.cells] at hcs
    obtain ⟨rfl, rfl, rfl⟩ := hcs
    have hC : Try.prog.cellsOf 48 = 4 := by kernel_rfl
    have hrow : ∀ i, i < n → ∃ x : Rw, OkR x ∧ ∃ row : List Value, row.length = kR.sz ∧ k48.K W x row ∧ ∀ j u, row[j]? = some u → W.cell? (a.add (i * 4 + j)) = some u := by
      intro i hin
      obtain ⟨cs, hc, ht⟩ := hi i (by rw [hmm]; simp; omega)
      rw [hC] at hc
      obtain ⟨_, hcl, hat⟩ := World.cells?_some hc
      match cs, hcl with
      | [c0, c1, c2, c3], _ =>
        obtain ⟨x, A0, k0, A2, k2, e, hl0, hC0, hl2, hC2, ho⟩ := raw_in ht
        refine ⟨x, ho, _, rfl, k48_mk W x hl0 hC0 hl2 hC2, fun j u hu => ?_⟩
        rw [← e] at hu
        have hj : j < 4 := by
          rcases Nat.lt_or_ge j 4 with h | h
          · exact h
          · rw [List.getElem?_eq_none (by simpa using h)] at hu
            cases hu
        have := hat j hj
        rw [hu] at this
        rw [← this]
        congr 1
        exact (Go.Deep.add_add _ _ _).symm
    refine ⟨_, _, _, (List.range n).map (fun i => if h : i < n then (hrow i h).choose else z48), rfl, hl, ⟨by simp, by unfold maxLen at hm; omega, fun _ => ⟨a, rfl, fun j p hj => ?_⟩⟩, fun x hx => ?_⟩
    · rw [List.getElem?_map] at hj
      obtain ⟨i, hi1, rfl⟩ := Option.map_eq_some_iff.1 hj
      have hi2 : i = j ∧ j < n := by
        rw [List.getElem?_eq_some_iff] at hi1
        obtain ⟨h1, h2⟩ := hi1
        rw [List.getElem_range] at h2
        rw [List.length_range] at h1
        exact ⟨h2.symm, h1⟩
      obtain ⟨rfl, hjn⟩ := hi2
      rw [dif_pos hjn]
      obtain ⟨_, row, hrl, hk, hc⟩ := (hrow i hjn).choose_spec
      exact ⟨row, hrl, hk, fun q u hu => hc q u hu⟩
    · obtain ⟨i, hi1, rfl⟩ := List.mem_map.1 hx
      have hin := List.mem_range.1 hi1
      rw [dif_pos hin]
      exact (hrow i hin).choose_spec.1
theorem allOk_len {P : Program} {W : World} {b : Nat} : ∀ {ts : List TypeId} {cs : List Value}, AllOk P W b ts cs → cs.length = ts.length := by
  intro ts
  induction ts with
  | nil =>
    intro cs h
    rw [allOk_nil h]
    rfl
  | cons t ts ih =>
    intro cs h
    obtain ⟨v, vs, rfl, _, h2⟩ := allOk_cons h
    simp [ih h2]
/-- One raw item by value. -/
theorem raw_came {H : Type} {enc : TypeId × Value → H} {W : World} {b0 : Nat} {v : Value} {d : DataW H} {ps : List MemPlace} (hval : Value.okWide Try.prog W .any b0 48 v) (hd : DataW.Trod enc Try.prog W 0 (fun _ => true) true 48 v d ps) :
    ∃ (x : Rw) (A0 : Option Addr) (k0 : Nat) (A2 : Option Addr) (k2 : Nat), v = .agg #[.slice A0 x.f0.length k0, .int .i64 x.f1, .slice A2 x.f2.length k2, .int .i64 x.f3] ∧ x.f0.length ≤ k0 ∧ (Kd.int .i64).C W A0 x.f0.length x.f0 ∧ x.f2.length ≤ k2 ∧ (Kd.int .i64).C W A2 x.f2.length x.f2 ∧ OkR x := by
  obtain ⟨cs, rfl, h⟩ := open_agg (t := 48) (by kernel_rfl) (show Try.prog.cellTypes Try.prog.depth 48 = some [23, 3, 23, 3] by kernel_rfl) (by kernel_rfl) hval
  have hl := allOk_len h
  obtain ⟨fuel, hf⟩ := hd
  match cs, hl with
  | [c0, c1, c2, c3], _ =>
    obtain ⟨x, A0, k0, A2, k2, e, h1, h2, h3, h4, h5⟩ := raw_in (c0 := c0) (c1 := c1) (c2 := c2) (c3 := c3) hf
    exact ⟨x, A0, k0, A2, k2, by rw [e], h1, h2, h3, h4, h5⟩
end Go.Proofs.Ytnfglkgkdechlaa


/- Whether an item is right (chapter 7): oracle.Check. -/
set_option linter.unusedVariables false
set_option linter.unusedSimpArgs false
namespace Go.Proofs.Ytnfglkgkdechlaa
open Go.RowKit Go.Proofs.YtnfglkgkdechlaaW.PrintWords Go.Proofs.YtnfglkgkdechlaaW.PrintLast Go.Proofs.YtnfglkgkdechlaaW.PrintMore

open Go.Proofs.Ytnfglkgkdechlaa.PQ Go.Maps

theorem lawU : Keyed Try.prog 28 := int_keyed Try.underlying28
theorem zeroUnit (w : World) : (zeroValue 63).run Try.prog w = .ok (.agg #[]) w := by kernel_rfl
theorem keyU {x : Int} (h : (Lit.int .u64 x).wf = true) : keyOf Try.prog 28 (.int .u64 x) = some (.int .u64 x) := keyOf_int_mk Try.underlying28 h
theorem tKeysNo (f : Bool) (A : Option Addr) (n c : Nat) (l : List Pr) (root : Int) (w : World) (hA : kP.C w A n l) (hc : n ≤ c) (h : keysF l root = none) : Calls Try.prog 24 #[.agg #[.bool f, .slice A n c], .int .u64 root] w
    fun e w' => (∃ A' m c', e = .returned (.tuple #[.slice A' m c', .bool false])) ∧ Below w.heap.size w w' := by
  refine (tKeys f A n c l root w hA hc).mono fun e w' hh => ?_
  obtain ⟨A', m, c', he, _, _, _, hb⟩ := hh
  rw [h] at he
  exact ⟨⟨A', m, c', he⟩, hb⟩
theorem tKeysYes (f : Bool) (A : Option Addr) (n c : Nat) (l : List Pr) (root : Int) (w : World) (hA : kP.C w A n l) (hc : n ≤ c) (h : keysF l root ≠ none) : Calls Try.prog 24 #[.agg #[.bool f, .slice A n c], .int .u64 root] w
    fun e w' => (∃ A' c', e = .returned (.tuple #[.slice A' n c', .bool true])) ∧ Below w.heap.size w w' := by
  refine (tKeys f A n c l root w hA hc).mono fun e w' hh => ?_
  obtain ⟨A', m, c', he, hm, _, _, hb⟩ := hh
  obtain ⟨ks, hk⟩ := Option.ne_none_iff_exists'.1 h
  rw [hk] at he hm
  have : m = n := by
    rw [hm, ← Kd.C_len hA]
    exact keysF_len hk
  subst this
  exact ⟨⟨A', c', he⟩, hb⟩
set_option maxRecDepth 100000 in
set_option maxHeartbeats 8000000 in
theorem oCheck (A : Option Addr) (n c : Nat) (l : List Pr) (K : Option Addr) (nk ck : Nat) (P : Option Addr) (np cp : Nat) (it : It) (w : World) (hA : kP.C w A n l) (hc : n ≤ c) (hK : (Kd.int .u64).C w K nk it.f0) (hck : nk ≤ ck) (hP : kP.C w P np it.f2.f1) (hcp : np ≤ cp) (ho : okI it) :
    Calls Try.prog 17 #[.slice A n c, .agg #[.slice K nk ck, .int .u64 it.f1, .bool it.f2.f0, .slice P np cp]] w fun e w' => e = .returned (.bool (chk l it)) ∧ Below w.heap.size w w' := by
  have HN := Aside0.mk (show n = l.length from (Kd.C_len hA).symm)
  have HNK := Aside0.mk (show nk = it.f0.length from (Kd.C_len hK).symm)
  have HNP := Aside0.mk (show np = it.f2.f1.length from (Kd.C_len hP).symm)
  have hnk63 : nk ≤ 9223372036854775807 := by rw [HNK.out]; exact Kd.C_len hK ▸ Kd.C_max hK
  have hnp63 : np ≤ 9223372036854775807 := by rw [HNP.out]; exact Kd.C_len hP ▸ Kd.C_max hP
  have HX := Aside0.mk hA
  have HK := Aside0.mk hK
  have HP := Aside0.mk hP
  have HO := Aside0.mk ho
  clear hA hK hP ho
  have HB := Aside0.mk (Below.refl w.heap.size w)
  obtain ⟨r, hr⟩ : ∃ r, chk l it = r := ⟨_, rfl⟩
  rw [hr]
  have hr0 := hr
  unfold chk at hr
  by_cases h1 : keysF it.f2.f1 it.f1 = none
  · rw [if_pos h1] at hr
    subst hr
    have H1 := Aside0.mk h1
    clear h1 hr0
    go_enter Try.func17, Try.ntmps17
    go_wp2_with fail
    refine (tKeysNo it.f2.f0 P np cp it.f2.f1 it.f1 _ ?hX hcp H1.out).mono ?_
    case hX => (repeat (with_reducible first | exact HP.out | apply C_alloc))
    rintro e w3 ⟨⟨A', m, c', rfl⟩, hb_⟩
    have YT : Box w3 (w.heap.size) _ _ := Box.below (by repeat (with_reducible first | exact XT.out | exact Box.new | exact Box.new1 | exact Box.new2 | exact Box.new3 | apply Box.alloc | apply Box.drew | apply Box.drewN | apply Box.set)) hb_
    (try clear XT rT kT fT); have XT := Aside0.mk YT; have rT := YT.cell; have fT := YT.frozen; have kT := YT.lt; clear YT
    have n_ := Aside0.mk (below_step (by repeat (first | exact HB.out | apply below_alloc | apply pw_below_drewN | apply below_drew1 | refine below_set ?_ (by first | omega | (simp; omega)))) hb_); clear HB hb_; have HB := n_; clear n_
    go_wp2
    go_ret
    exact ⟨rfl, HB.out⟩
  rw [if_neg h1] at hr
  have H1 := Aside0.mk h1
  clear h1
  have hmm := @run_makeMap Try.prog
  obtain ⟨f, hf⟩ : ∃ f, it.f2.f0 = f := ⟨_, rfl⟩
  by_cases h2 : it.f2.f0 = true ∨ it.f0.length = 0 ∨ it.f2.f1.length ≠ it.f0.length
  · rw [if_pos h2] at hr
    subst hr
    rw [← HNK.out, ← HNP.out] at h2
    clear hr0
    rw [hf] at h2 ⊢
    have hcase : f = true ∨ (f = false ∧ nk = 0) ∨ (f = false ∧ nk ≠ 0 ∧ np ≠ nk) := by
      cases f <;> simp at h2 ⊢ <;> omega
    clear h2 hf
    rcases hcase with rfl | ⟨rfl, rfl⟩ | ⟨rfl, h3, h4⟩
    · go_enter Try.func17, Try.ntmps17
      go_wp2_with fail
      refine (tKeysYes true P np cp it.f2.f1 it.f1 _ ?hX hcp H1.out).mono ?_
      case hX => (repeat (with_reducible first | exact HP.out | apply C_alloc))
      rintro e w3 ⟨⟨A', c', rfl⟩, hb_⟩
      have YT : Box w3 (w.heap.size) _ _ := Box.below (by repeat (with_reducible first | exact XT.out | exact Box.new | exact Box.new1 | exact Box.new2 | exact Box.new3 | apply Box.alloc | apply Box.drew | apply Box.drewN | apply Box.set)) hb_
      (try clear XT rT kT fT); have XT := Aside0.mk YT; have rT := YT.cell; have fT := YT.frozen; have kT := YT.lt; clear YT
      have n_ := Aside0.mk (below_step (by repeat (first | exact HB.out | apply below_alloc | apply pw_below_drewN | apply below_drew1 | refine below_set ?_ (by first | omega | (simp; omega)))) hb_); clear HB hb_; have HB := n_; clear n_
      go_wp2
      go_ret
      exact ⟨rfl, HB.out⟩
    · go_enter Try.func17, Try.ntmps17
      go_wp2_with fail
      refine (tKeysYes false P np cp it.f2.f1 it.f1 _ ?hX hcp H1.out).mono ?_
      case hX => (repeat (with_reducible first | exact HP.out | apply C_alloc))
      rintro e w3 ⟨⟨A', c', rfl⟩, hb_⟩
      have YT : Box w3 (w.heap.size) _ _ := Box.below (by repeat (with_reducible first | exact XT.out | exact Box.new | exact Box.new1 | exact Box.new2 | exact Box.new3 | apply Box.alloc | apply Box.drew | apply Box.drewN | apply Box.set)) hb_
      (try clear XT rT kT fT); have XT := Aside0.mk YT; have rT := YT.cell; have fT := YT.frozen; have kT := YT.lt; clear YT
      have n_ := Aside0.mk (below_step (by repeat (first | exact HB.out | apply below_alloc | apply pw_below_drewN | apply below_drew1 | refine below_set ?_ (by first | omega | (simp; omega)))) hb_); clear HB hb_; have HB := n_; clear n_
      go_wp2
      go_ret
      exact ⟨rfl, HB.out⟩
    · have d1 : ((nk : Int) == 0) = false := beq_eq_false_iff_ne.mpr (by omega)
      have d2 : ((np : Int) != (nk : Int)) = true := bne_iff_ne.mpr (by omega)
      have d1n : (nk == 0) = false := beq_eq_false_iff_ne.mpr h3
      have d2n : (np != nk) = true := bne_iff_ne.mpr h4
      have d1d : decide (nk = 0) = false := decide_eq_false h3
      have d2d : decide (np = nk) = false := decide_eq_false h4
      go_enter Try.func17, Try.ntmps17
      go_wp2_with fail
      refine (tKeysYes false P np cp it.f2.f1 it.f1 _ ?hX hcp H1.out).mono ?_
      case hX => (repeat (with_reducible first | exact HP.out | apply C_alloc))
      rintro e w3 ⟨⟨A', c', rfl⟩, hb_⟩
      have YT : Box w3 (w.heap.size) _ _ := Box.below (by repeat (with_reducible first | exact XT.out | exact Box.new | exact Box.new1 | exact Box.new2 | exact Box.new3 | apply Box.alloc | apply Box.drew | apply Box.drewN | apply Box.set)) hb_
      (try clear XT rT kT fT); have XT := Aside0.mk YT; have rT := YT.cell; have fT := YT.frozen; have kT := YT.lt; clear YT
      have n_ := Aside0.mk (below_step (by repeat (first | exact HB.out | apply below_alloc | apply pw_below_drewN | apply below_drew1 | refine below_set ?_ (by first | omega | (simp; omega)))) hb_); clear HB hb_; have HB := n_; clear n_
      go_wp2
      go_ret
      exact ⟨rfl, HB.out⟩
  rw [if_neg h2] at hr
  obtain ⟨rfl, h3, h4⟩ : f = false ∧ nk ≠ 0 ∧ np = nk := by
    rw [← HNK.out, ← HNP.out, hf] at h2
    cases f <;> simp at h2 ⊢
    exact h2
  subst h4
  rw [hf]
  clear h2 hf hr0
  rw [← HNP.out] at hr
  have HRR := Aside0.mk hr
  clear hr
  have d1 : ((np : Int) == 0) = false := beq_eq_false_iff_ne.mpr (by omega)
  have d1n : (np == 0) = false := beq_eq_false_iff_ne.mpr h3
  have d1d : decide (np = 0) = false := decide_eq_false h3
  go_enter Try.func17, Try.ntmps17
  go_wp2_with fail
  refine (tKeysYes false P np cp it.f2.f1 it.f1 _ ?hX hcp H1.out).mono ?_
  case hX => (repeat (with_reducible first | exact HP.out | apply C_alloc))
  rintro e w3 ⟨⟨A', c', rfl⟩, hb_⟩
  have YT : Box w3 (w.heap.size) _ _ := Box.below (by repeat (with_reducible first | exact XT.out | exact Box.new | exact Box.new1 | exact Box.new2 | exact Box.new3 | apply Box.alloc | apply Box.drew | apply Box.drewN | apply Box.set)) hb_
  (try clear XT rT kT fT); have XT := Aside0.mk YT; have rT := YT.cell; have fT := YT.frozen; have kT := YT.lt; clear YT
  have ZHX := Aside0.mk (Kd.C_below (by repeat (with_reducible first | exact HX.out | apply C_alloc | apply C_drew)) hb_); clear HX; have HX := ZHX; clear ZHX
  have ZHK := Aside0.mk (Kd.C_below (by repeat (with_reducible first | exact HK.out | apply C_alloc | apply C_drew)) hb_); clear HK; have HK := ZHK; clear ZHK
  have ZHP := Aside0.mk (Kd.C_below (by repeat (with_reducible first | exact HP.out | apply C_alloc | apply C_drew)) hb_); clear HP; have HP := ZHP; clear ZHP
  have n_ := Aside0.mk (below_step (by repeat (first | exact HB.out | apply below_alloc | apply pw_below_drewN | apply below_drew1 | refine below_set ?_ (by first | omega | (simp; omega)))) hb_); clear HB hb_; have HB := n_; clear n_
  go_wp2
  have bT := XT
  have HB3 := HB
  clear XT rT kT fT HB hmm
  go_loopw [47] (fun v47 wx => ∃ i : Nat, i ≤ np ∧ v47 = .int .i64 i ∧ wx.ownsMap Try.prog 28 (unitElem (H := Unit)) w3.heap.size i (setOf (.agg []) ((it.f0.take i).map (Lit.int .u64))) ∧ Below w3.heap.size w3 wx) (fun v47 _ => np - (intOf v47).toNat)
  case atStart => exact ⟨0, by omega, rfl, World.ownsMap_made _ _ _ _, below_alloc (Below.refl _ _) _⟩
  case round =>
    obtain ⟨i, hi, rfl, hown, hb⟩ := hrel
    rcases Nat.lt_or_ge i np with hlt | hge
    · obtain ⟨z, hz⟩ : ∃ z : Int, (i : Int) = z := ⟨_, rfl⟩
      rw [hz]
      have hz0 : 0 ≤ z := by omega
      have hz1 : z < (np : Int) := by omega
      have hdz : decide (z < (np : Int)) = true := decide_eq_true hz1
      have HZ := Aside0.mk hz
      obtain ⟨kd, rfl, k0⟩ := Kd.at_int (Kd.C_below HK.out hb) z hz0 hz1
      obtain ⟨x, hx⟩ : ∃ x, rd it.f0 z = x := ⟨_, rfl⟩
      rw [hx] at k0
      have hxe : it.f0[i]'(by rw [← HNK.out]; exact hlt) = x := by
        have hi2 : i < it.f0.length := by rw [← HNK.out]; exact hlt
        rw [← hx, ← hz]
        unfold rd
        rw [Int.toNat_natCast, List.getD_eq_getElem?_getD, List.getElem?_eq_getElem hi2]
        rfl
      have HT := Aside0.mk (show it.f0.take (i + 1) = it.f0.take i ++ [x] by rw [List.take_succ_eq_append_getElem (by rw [← HNK.out]; exact hlt), hxe])
      have hkey := keyU (HO.out.1 x (by rw [← hxe]; exact List.getElem_mem _))
      clear hx hz hxe
      have h3c := ((bT.out.below hb).cell 0)
      go_wp2_with (first | (at_mapUpdate; refine wpList_mapUpdate_own _ rfl _ _ _ 62 rfl 28 63 lawU Try.underlying62 (unitElem (H := Unit)) w3.heap.size i _ rfl hown (by unfold maxLen; omega) _ _ _ rfl rfl hkey _ [] unitElem_mk ?_; intro w4 hown1 hgrow1; (simp only [Act.put, List.setIfInBounds_toArray, List.set_cons_succ, List.set_cons_zero])) | fail)
      go_roundw
      case rel => exact ⟨i + 1, by omega, by have := HZ.out; subst this; go_num, by rw [HT.out, set_u]; exact hown1, hb.grown hgrow1 hb.size (fun j hj => by cases hj; exact Nat.le_refl _)⟩
      case measure =>
        have := HZ.out
        simp [intOf]
        omega
    · obtain rfl : i = np := by omega
      have e1 : it.f0.take i = it.f0 := by rw [HNK.out, List.take_length]
      rw [e1] at hown
      have HOW := Aside0.mk hown
      have HB := Aside0.mk (below_step HB3.out hb)
      have HBL := Aside0.mk hb
      have HXL := Aside0.mk (Kd.C_below HX.out hb)
      have HPL := Aside0.mk (Kd.C_below HP.out hb)
      have XT := Aside0.mk (bT.out.below hb)
      clear hown hb
      obtain ⟨q, hq⟩ : ∃ q, tabB l = q := ⟨_, rfl⟩
      have HTB := Aside0.mk hq
      clear hq
      cases q with
      | false =>
        obtain rfl : false = r := by
          have := HRR.out
          rw [if_pos (Or.inl HTB.out)] at this
          exact this
        go_wp2_with fail
        refine (oRightE A n c l false _ (by repeat (with_reducible first | exact HXL.out | apply C_alloc)) hc HTB.out).mono ?_
        rintro e w5 ⟨rfl, hb_⟩
        have n_ := Aside0.mk (below_step (by repeat (first | exact HB.out | apply below_alloc | apply pw_below_drewN | apply below_drew1 | refine below_set ?_ (by first | omega | (simp; omega)))) hb_); clear HB hb_; have HB := n_; clear n_
        go_wp2
        go_ret
        exact ⟨rfl, HB.out⟩
      | true =>
        go_wp2_with fail
        refine (oRightE A n c l true _ (by repeat (with_reducible first | exact HXL.out | apply C_alloc)) hc HTB.out).mono ?_
        rintro e w5 ⟨rfl, hb_⟩
        have HOW5 := Aside0.mk (ownsMap_below HOW.out hb_)
        have hlen := HOW5.out.len (t := 62) Try.underlying62 3
        rw [size_u] at hlen
        have HB5 := Aside0.mk (below_step HBL.out hb_)
        have HX5 := Aside0.mk (Kd.C_below HXL.out hb_)
        have HP5 := Aside0.mk (Kd.C_below HPL.out hb_)
        have XT5 := Aside0.mk (XT.out.below hb_)
        have rT := XT5.out.cell
        have t3 : w5.cell? ⟨w.heap.size, 3, none⟩ = some (.slice P i cp) := rT 3
        clear HB XT HXL HPL HOW hb_ rT
        by_cases hu : (uniq it.f0).length = i
        · have hd3 : (((uniq it.f0).length : Int) != (i : Int)) = false := bne_eq_false_iff_eq.mpr (by omega)
          rw [hu] at hlen hd3
          have HALL := Aside0.mk (show (it.f2.f1.all fun p => it.f0.contains p.f0 && decide (p ∈ l)) = r by
            have := HRR.out
            rw [if_neg (by rw [HTB.out, hu]; simp)] at this
            exact this)
          clear hu
          go_wp2
          clear hlen
          go_loopw [69] (fun v69 wx => ∃ j : Nat, j ≤ i ∧ v69 = .int .i64 j ∧ ((it.f2.f1.take j).all fun p => it.f0.contains p.f0 && decide (p ∈ l)) = true ∧ Below w5.heap.size w5 wx) (fun v69 _ => i - (intOf v69).toNat)
          case atStart => exact ⟨0, by omega, rfl, by simp, Below.refl _ _⟩
          case round =>
            obtain ⟨j, hj, rfl, hall, hb⟩ := hrel
            rcases Nat.lt_or_ge j i with hlt | hge2
            · obtain ⟨z, hz⟩ : ∃ z : Int, (j : Int) = z := ⟨_, rfl⟩
              rw [hz]
              have hz0 : 0 ≤ z := by omega
              have hz1 : z < (i : Int) := by omega
              have hdz : decide (z < (i : Int)) = true := decide_eq_true hz1
              have HZ := Aside0.mk hz
              obtain ⟨pd, rfl, p0, p1⟩ := at_P (Kd.C_below HP5.out hb) z hz0 hz1
              obtain ⟨x, hx⟩ : ∃ x, rdP it.f2.f1 z = x := ⟨_, rfl⟩
              rw [hx] at p0 p1
              have hjl : j < it.f2.f1.length := by rw [← HNP.out]; exact hlt
              have hxe : it.f2.f1[j] = x := by rw [← hx, ← hz]; exact (rdP_eq hjl).symm
              have HT := Aside0.mk (show it.f2.f1.take (j + 1) = it.f2.f1.take j ++ [x] by rw [List.take_succ_eq_append_getElem hjl, hxe])
              have HM := Aside0.mk (show x ∈ it.f2.f1 by rw [← hxe]; exact List.getElem_mem hjl)
              have hkey := keyU (HO.out.2 x HM.out)
              have HB := Aside0.mk hb
              have HA := Aside0.mk hall
              clear hx hz hxe hb hall hjl
              go_upto_region 15 with (fail)
              obtain ⟨V, hV⟩ : ∃ V, wr.alloc (.cells #[.int .u64 x.f0, .int .u64 x.f1] 52) = V := ⟨_, rfl⟩
              rw [hV]
              have XN := Aside0.mk (hV ▸ Box.new : Box V wr.heap.size #[.int .u64 x.f0, .int .u64 x.f1] 52)
              have HBV := Aside0.mk (hV ▸ below_alloc HB.out _ : Below w5.heap.size w5 V)
              have HB := HBV
              have hownV := ownsMap_below HOW5.out HBV.out
              have rN := XN.out.cell
              have kN := XN.out.lt
              have fN := XN.out.frozen
              clear hV p0 p1
              generalize wr.heap.size = nb at *
              obtain ⟨c1, hc1⟩ : ∃ b, it.f0.contains x.f0 = b := ⟨_, rfl⟩
              have hhas := has_u it.f0 x.f0
              rw [hc1] at hhas
              obtain ⟨c2, hc2⟩ : ∃ b, decide (x ∈ l) = b := ⟨_, rfl⟩
              have HC1 := Aside0.mk hc1
              have HC2 := Aside0.mk hc2
              clear hc1 hc2
              cases c1 with
              | false =>
                obtain rfl : false = r := by
                  rw [← HALL.out, Eq.comm, Bool.eq_false_iff]
                  intro h
                  have := List.all_eq_true.1 h x HM.out
                  rw [HC1.out] at this
                  cases this
                go_wp2_with (first | (at_lookup; refine wpList_lookup_own_unit _ rfl _ _ 62 rfl 28 63 lawU Try.underlying62 (zeroUnit _) w3.heap.size i _ rfl hownV _ _ rfl hkey ?_; rw [hhas]) | fail)
                go_ret
                exact ⟨rfl, below_step HB3.out (below_step HB5.out (by repeat (first | exact HB.out | apply below_alloc | apply pw_below_drewN | apply below_drew1 | refine below_set ?_ (by first | omega | (simp; omega)))))⟩
              | true =>
                go_wp2_with (first | (at_lookup; refine wpList_lookup_own_unit _ rfl _ _ 62 rfl 28 63 lawU Try.underlying62 (zeroUnit _) w3.heap.size i _ rfl hownV _ _ rfl hkey ?_; rw [hhas]) | fail)
                refine (oHasE A n c l x c2 _ (Kd.C_below HX5.out (by repeat (first | exact HB.out | apply below_alloc | apply pw_below_drewN | apply below_drew1 | refine below_set ?_ (by first | omega | (simp; omega))))) hc HTB.out HC2.out).mono ?_
                rintro e w7 ⟨rfl, hb_⟩
                have HB7 := Aside0.mk (below_step (by repeat (first | exact HB.out | apply below_alloc | apply pw_below_drewN | apply below_drew1 | refine below_set ?_ (by first | omega | (simp; omega)))) hb_ : Below w5.heap.size w5 w7)
                clear HB hb_
                cases c2 with
                | false =>
                  obtain rfl : false = r := by
                    rw [← HALL.out, Eq.comm, Bool.eq_false_iff]
                    intro h
                    have := List.all_eq_true.1 h x HM.out
                    rw [HC2.out, Bool.and_false] at this
                    cases this
                  go_wp2
                  go_ret
                  exact ⟨rfl, below_step HB3.out (below_step HB5.out HB7.out)⟩
                | true =>
                  go_wp2
                  go_roundw
                  case rel => exact ⟨j + 1, by omega, by have := HZ.out; subst this; go_num, by rw [HT.out, List.all_append, HA.out]; simp only [List.all_cons, List.all_nil, HC1.out, HC2.out]; rfl, HB7.out⟩
                  case measure =>
                    have := HZ.out
                    simp [intOf]
                    omega
            · obtain rfl : j = i := by omega
              rw [HNP.out, List.take_length] at hall
              obtain rfl : true = r := hall.symm.trans HALL.out
              go_wp2
              go_ret
              exact ⟨rfl, below_step HB3.out (below_step HB5.out hb)⟩
        · have hd3 : (((uniq it.f0).length : Int) != (i : Int)) = true := bne_iff_ne.mpr (by omega)
          obtain rfl : false = r := by
            have := HRR.out
            rw [if_pos (Or.inr hu)] at this
            exact this
          go_wp2
          go_ret
          exact ⟨rfl, below_step HB3.out HB5.out⟩
end Go.Proofs.Ytnfglkgkdechlaa


/- Whether items are right, all of them (chapter 7): oracle.All. -/
set_option linter.unusedVariables false
set_option linter.unusedSimpArgs false
namespace Go.Proofs.Ytnfglkgkdechlaa
open Go.RowKit Go.Proofs.YtnfglkgkdechlaaW.PrintWords Go.Proofs.YtnfglkgkdechlaaW.PrintLast Go.Proofs.YtnfglkgkdechlaaW.PrintMore

open Go.Proofs.Ytnfglkgkdechlaa.PQ

theorem oCheckE (A : Option Addr) (n c : Nat) (l : List Pr) (K : Option Addr) (nk ck : Nat) (P : Option Addr) (np cp : Nat) (it : It) (r : Bool) (w : World) (hA : kP.C w A n l) (hc : n ≤ c) (hK : (Kd.int .u64).C w K nk it.f0) (hck : nk ≤ ck) (hP : kP.C w P np it.f2.f1) (hcp : np ≤ cp) (ho : okI it) (h : chk l it = r) :
    Calls Try.prog 17 #[.slice A n c, .agg #[.slice K nk ck, .int .u64 it.f1, .bool it.f2.f0, .slice P np cp]] w fun e w' => e = .returned (.bool r) ∧ Below w.heap.size w w' := h ▸ oCheck A n c l K nk ck P np cp it w hA hc hK hck hP hcp ho
set_option maxHeartbeats 1000000 in
theorem all1 (A : Option Addr) (n c b : Nat) (l : List Pr) (K : Option Addr) (nk ck : Nat) (P : Option Addr) (np cp : Nat) (it : It) (r : Bool) (w : World) (hA : kP.C w A n l) (hc : n ≤ c) (hb : Box w b #[.slice A n c] 22) (hK : (Kd.int .u64).C w K nk it.f0) (hck : nk ≤ ck) (hP : kP.C w P np it.f2.f1) (hcp : np ≤ cp) (ho : okI it) (h : chk l it = r) :
    Calls Try.prog 34 #[.agg #[.slice K nk ck, .int .u64 it.f1, .bool it.f2.f0, .slice P np cp], .pointer (some ⟨b, 0, none⟩)] w fun e w' => e = .returned (.bool (!r)) ∧ Below w.heap.size w w' := by
  have HB := Aside0.mk (Below.refl w.heap.size w)
  have HX := Aside0.mk hA
  have HK := Aside0.mk hK
  have HP := Aside0.mk hP
  have HO := Aside0.mk ho
  have HR := Aside0.mk h
  have rb := hb.cell
  have b0 : w.cell? ⟨b, 0, none⟩ = some (.slice A n c) := rb 0
  have kb := hb.lt
  clear hA hK hP ho h hb rb
  go_enter Try.func34, Try.ntmps34
  go_wp2_with fail
  refine (oCheckE A n c l K nk ck P np cp it r _ (by repeat (with_reducible first | exact HX.out | apply C_alloc)) hc (by repeat (with_reducible first | exact HK.out | apply C_alloc)) hck (by repeat (with_reducible first | exact HP.out | apply C_alloc)) hcp HO.out HR.out).mono ?_
  rintro e w1 ⟨rfl, hb_⟩
  have n_ := Aside0.mk (below_step (by repeat (first | exact HB.out | apply below_alloc | apply pw_below_drewN | apply below_drew1 | refine below_set ?_ (by first | omega | (simp; omega)))) hb_); clear HB hb_; have HB := n_; clear n_
  go_wp2
  go_ret
  exact ⟨rfl, HB.out⟩
set_option maxRecDepth 100000 in
set_option maxHeartbeats 2000000 in
theorem idxAll (A : Option Addr) (n c b : Nat) (l : List Pr) (I : Option Addr) (m mc : Nat) (its : List It) (w : World) (hA : kP.C w A n l) (hc : n ≤ c) (hb : Box w b #[.slice A n c] 22) (hI : kI.C w I m its) (ho : ∀ x ∈ its, okI x) :
    Calls Try.prog 40 #[.slice I m mc, .func (.func 34) #[] #[.pointer (some ⟨b, 0, none⟩)]] w fun e w' => ∃ r, e = .returned (.int .i64 r) ∧ (0 ≤ r ↔ ∃ x ∈ its, chk l x = false) ∧ Below w.heap.size w w' := by
  have hmx := Kd.C_max hI
  have HM := Aside0.mk (show m = its.length from (Kd.C_len hI).symm)
  have HX := Aside0.mk hA
  have HI := Aside0.mk hI
  have HO := Aside0.mk ho
  have HBB := Aside0.mk hb
  have HB := Aside0.mk (Below.refl w.heap.size w)
  clear hA hI hb ho
  go_enter Try.func40, Try.ntmps40
  go_wp2
  go_loopw [8] (fun i wr => ∃ k : Nat, k ≤ m ∧ i = .int .i64 k ∧ (∀ j : Nat, j < k → chk l (rdI its (j : Int)) = true) ∧ Below w.heap.size w wr) (fun i _ => m - (intOf i).toNat)
  case atStart => exact ⟨0, by omega, rfl, fun j hj => by omega, HB.out⟩
  case round =>
    clear HB
    obtain ⟨k, hk, rfl, ht, hbl⟩ := hrel
    have HT := Aside0.mk ht
    have HB := Aside0.mk hbl
    clear ht hbl
    by_cases hlt : k < m
    · have hkl : k < its.length := by rw [← HM.out]; exact hlt
      have HXK := Aside0.mk (show rdI its (k : Int) ∈ its by rw [rdI_eq hkl]; exact List.getElem_mem hkl)
      obtain ⟨z, hz⟩ : ∃ z : Int, (k : Int) = z := ⟨_, rfl⟩
      rw [hz] at HXK ⊢
      have hz0 : 0 ≤ z := by omega
      have hz1 : z < (m : Int) := by omega
      have hdz : decide (z < (m : Int)) = true := decide_eq_true hz1
      have HZ := Aside0.mk hz
      obtain ⟨ad, K, ck, P, cp, rfl, c0, c1, c2, c3, hck, hK, hcp, hP⟩ := at_I (Kd.C_below HI.out HB.out) z hz0 hz1
      obtain ⟨it, hit⟩ : ∃ it, rdI its z = it := ⟨_, rfl⟩
      rw [hit] at c0 c1 c2 c3 hck hK hcp hP HXK
      have HIT := Aside0.mk hit
      have HKW := Aside0.mk hK
      have HPW := Aside0.mk hP
      have HXW := Aside0.mk (Kd.C_below HX.out HB.out)
      have HBW := Aside0.mk (HBB.out.below HB.out)
      clear hit hz hK hP hkl
      obtain ⟨r, hr⟩ : ∃ r, chk l it = r := ⟨_, rfl⟩
      have HR := Aside0.mk hr
      clear hr
      go_wp2_with fail
      refine (all1 A n c b l K it.f0.length ck P it.f2.f1.length cp it r _ HXW.out hc HBW.out HKW.out hck HPW.out hcp (HO.out it HXK.out) HR.out).mono ?_
      rintro e w5 ⟨rfl, hb_⟩
      have n_ := Aside0.mk (below_step (by repeat (first | exact HB.out | apply below_alloc | apply pw_below_drewN | apply below_drew1 | refine below_set ?_ (by first | omega | (simp; omega)))) hb_); clear HB hb_; have HB := n_; clear n_
      cases r with
      | true =>
        go_wp2
        go_roundw
        case rel =>
          refine ⟨k + 1, by omega, by have := HZ.out; subst this; go_num, fun j hj => ?_, HB.out⟩
          rcases Nat.lt_or_ge j k with g | g
          · exact HT.out j g
          · obtain rfl : j = k := by omega
            rw [HZ.out, HIT.out]
            exact HR.out
        case measure =>
          have := HZ.out
          simp [intOf]
          omega
      | false =>
        go_wp2
        go_ret
        exact ⟨_, rfl, ⟨fun _ => ⟨it, HXK.out, HR.out⟩, fun _ => hz0⟩, HB.out⟩
    · go_wp2
      go_ret
      refine ⟨_, rfl, ⟨fun hh => absurd hh (by omega), fun ⟨x, hx, hr⟩ => ?_⟩, HB.out⟩
      obtain ⟨i, hi, rfl⟩ := List.getElem_of_mem hx
      rw [← rdI_eq hi, HT.out i (by have := HM.out; omega)] at hr
      cases hr
set_option maxHeartbeats 1000000 in
theorem contAll (A : Option Addr) (n c b : Nat) (l : List Pr) (I : Option Addr) (m mc : Nat) (its : List It) (w : World) (hA : kP.C w A n l) (hc : n ≤ c) (hb : Box w b #[.slice A n c] 22) (hI : kI.C w I m its) (ho : ∀ x ∈ its, okI x) :
    Calls Try.prog 33 #[.slice I m mc, .func (.func 34) #[] #[.pointer (some ⟨b, 0, none⟩)]] w fun e w' => e = .returned (.bool (!its.all (chk l))) ∧ Below w.heap.size w w' := by
  have HB := Aside0.mk (Below.refl w.heap.size w)
  have HX := Aside0.mk hA
  have HI := Aside0.mk hI
  have HO := Aside0.mk ho
  have HBB := Aside0.mk hb
  clear hA hI ho hb
  go_enter Try.func33, Try.ntmps33
  go_wp2_with fail
  refine (idxAll A n c b l I m mc its _ HX.out hc HBB.out HI.out HO.out).mono ?_
  rintro e w5 ⟨r, rfl, hr, hb_⟩
  have n_ := Aside0.mk (below_step (by repeat (first | exact HB.out | apply below_alloc | apply pw_below_drewN | apply below_drew1 | refine below_set ?_ (by first | omega | (simp; omega)))) hb_); clear HB hb_; have HB := n_; clear n_
  go_wp2
  go_ret
  refine ⟨ret_bool ?_, HB.out⟩
  rw [Bool.eq_iff_iff]
  simp only [decide_eq_true_eq, hr, Bool.not_eq_true', List.all_eq_false, Bool.not_eq_true]
set_option maxHeartbeats 1000000 in
theorem oAll (A : Option Addr) (n c : Nat) (l : List Pr) (I : Option Addr) (m mc : Nat) (its : List It) (r : Bool) (w : World) (hA : kP.C w A n l) (hc : n ≤ c) (hI : kI.C w I m its) (ho : ∀ x ∈ its, okI x) (h : its.all (chk l) = r) :
    Calls Try.prog 22 #[.slice A n c, .slice I m mc] w fun e w' => e = .returned (.bool r) ∧ Below w.heap.size w w' := by
  have HB := Aside0.mk (Below.refl w.heap.size w)
  have CX := Aside0.mk hA
  have CY := Aside0.mk hI
  have HO := Aside0.mk ho
  have hmf : ∀ (fn : Fn) (first cap : Array Value) (w : World), (Instr.makeFunc fn first cap).run Try.prog w = .ok (.func fn first cap) w := fun _ _ _ _ => rfl
  have HC := Aside0.mk (fun W h1 h2 h3 => contAll A n c w.heap.size l I m mc its W h1 hc h2 h3 ho)
  rw [h] at HC
  clear hA hI ho h
  go_enter Try.func22, Try.ntmps22
  go_wp2_with fail
  refine (HC.out _ ?h1 ?h2 ?h3).mono ?_
  (case h1 => exact C_alloc CX.out); (case h2 => exact Box.new); (case h3 => exact C_alloc CY.out)
  rintro e w1 ⟨rfl, hb_⟩
  have n_ := Aside0.mk (below_step (by repeat (first | exact HB.out | apply below_alloc | apply pw_below_drewN | apply below_drew1 | refine below_set ?_ (by first | omega | (simp; omega)))) hb_); clear HB hb_; have HB := n_; clear n_
  go_wp2
  go_ret
  exact ⟨ret_bool (by simp), HB.out⟩
end Go.Proofs.Ytnfglkgkdechlaa


/- Which items are right (chapter 15): bisect.Find's own function. -/
set_option linter.unusedVariables false
set_option linter.unusedSimpArgs false
namespace Go.Proofs.Ytnfglkgkdechlaa
open Go.RowKit Go.Proofs.YtnfglkgkdechlaaW.PrintWords Go.Proofs.YtnfglkgkdechlaaW.PrintLast Go.Proofs.YtnfglkgkdechlaaW.PrintMore

open Go.Proofs.Ytnfglkgkdechlaa.PQ

/-- How often All is asked. -/
def cntF (f : It → Bool) : Nat → List It → Nat
  | 0, _ => 0
  | k + 1, s => if s.length = 0 then 0 else if s.all f = true then 1 else if s.length ≤ 1 then 1 else 1 + cntF f k (s.take ((s.length + 1) / 2)) + cntF f k (s.drop ((s.length + 1) / 2))
theorem cntF_succ (f : It → Bool) (k : Nat) (s : List It) : cntF f (k + 1) s = if s.length = 0 then 0 else if s.all f = true then 1 else if s.length ≤ 1 then 1 else 1 + cntF f k (s.take ((s.length + 1) / 2)) + cntF f k (s.drop ((s.length + 1) / 2)) := rfl
theorem cntF_fuel (f : It → Bool) : ∀ (n k q : Nat) (s : List It), s.length ≤ n → s.length ≤ k → s.length ≤ q → cntF f k s = cntF f q s
  | n, 0, 0, s, _, _, _ => rfl
  | n, 0, q + 1, s, h, h1, h2 => by
    have : s.length = 0 := by omega
    simp [cntF, this]
  | n, k + 1, 0, s, h, h1, h2 => by
    have : s.length = 0 := by omega
    simp [cntF, this]
  | 0, k + 1, q + 1, s, h, h1, h2 => by
    have : s.length = 0 := by omega
    simp [cntF, this]
  | n + 1, k + 1, q + 1, s, h, h1, h2 => by
    unfold cntF
    by_cases h0 : s.length = 0
    · rw [if_pos h0, if_pos h0]
    · rw [if_neg h0, if_neg h0]
      split
      · rfl
      · by_cases h3 : s.length ≤ 1
        · rw [if_pos h3, if_pos h3]
        · rw [if_neg h3, if_neg h3, cntF_fuel f n k q (s.take _) (by simp; omega) (by simp; omega) (by simp; omega), cntF_fuel f n k q (s.drop _) (by simp; omega) (by simp; omega) (by simp; omega)]
def cnt (f : It → Bool) (s : List It) : Nat := cntF f s.length s
theorem cnt_eq (f : It → Bool) (s : List It) : cnt f s = if s.length = 0 then 0 else if s.all f = true then 1 else if s.length ≤ 1 then 1 else 1 + cnt f (s.take ((s.length + 1) / 2)) + cnt f (s.drop ((s.length + 1) / 2)) := by
  by_cases h0 : s.length = 0
  · unfold cnt
    rw [h0]
    simp [cntF]
  · obtain ⟨k, hk⟩ : ∃ k, s.length = k + 1 := ⟨s.length - 1, by omega⟩
    have e1 : cnt f s = cntF f (k + 1) s := by unfold cnt; rw [hk]
    rw [e1, cntF_succ, if_neg h0, if_neg h0]
    split
    · rfl
    · by_cases h3 : s.length ≤ 1
      · rw [if_pos h3, if_pos h3]
      · rw [if_neg h3, if_neg h3, cntF_fuel f s.length k (s.take ((s.length + 1) / 2)).length (s.take _) (by simp; omega) (by simp; omega) (Nat.le_refl _), cntF_fuel f s.length k (s.drop ((s.length + 1) / 2)).length (s.drop _) (by simp) (by simp; omega) (Nat.le_refl _)]
        rfl
theorem cnt_le (f : It → Bool) : ∀ (n : Nat) (s : List It), s.length ≤ n → cnt f s ≤ 2 * s.length - 1
  | 0, s, h => by
    rw [cnt_eq, if_pos (by omega)]
    omega
  | n + 1, s, h => by
    rw [cnt_eq]
    split
    · omega
    · split
      · omega
      · split
        · omega
        · have h1 := cnt_le f n (s.take ((s.length + 1) / 2)) (by simp; omega)
          have h2 := cnt_le f n (s.drop ((s.length + 1) / 2)) (by simp; omega)
          rw [List.length_take] at h1
          rw [List.length_drop] at h2
          omega
def seg (s : List It) (fr tu : Nat) : List It := (s.take tu).drop fr
theorem seg_len (s : List It) (fr tu : Nat) (h : fr ≤ tu) (ht : tu ≤ s.length) : (seg s fr tu).length = tu - fr := by
  unfold seg
  rw [List.length_drop, List.length_take]
  omega
theorem seg_take (s : List It) (fr tu q : Nat) (h : fr + q ≤ tu) (ht : tu ≤ s.length) : (seg s fr tu).take q = seg s fr (fr + q) := by
  unfold seg
  rw [List.take_drop, List.take_take, Nat.min_eq_left h]
theorem seg_drop (s : List It) (fr tu q : Nat) : (seg s fr tu).drop q = seg s (fr + q) tu := by
  unfold seg
  rw [List.drop_drop]
theorem seg_all (s : List It) (f : It → Bool) (fr tu : Nat) (ht : tu ≤ s.length) : (seg s fr tu).all f = true ↔ ∀ j : Nat, fr ≤ j → j < tu → f (rdI s (j : Int)) = true := by
  unfold seg
  rw [List.all_eq_true]
  constructor
  · intro h j h1 h2
    rw [rdI_eq (by omega)]
    refine h _ ?_
    have hl : j - fr < ((s.take tu).drop fr).length := by rw [List.length_drop, List.length_take]; omega
    have e : ((s.take tu).drop fr)[j - fr] = s[j] := by
      rw [List.getElem_drop, List.getElem_take]
      congr 1
      omega
    rw [← e]
    exact List.getElem_mem hl
  · intro h x hx
    obtain ⟨i, hi, rfl⟩ := List.getElem_of_mem hx
    rw [List.length_drop, List.length_take] at hi
    rw [List.getElem_drop, List.getElem_take]
    have := h (fr + i) (by omega) (by omega)
    rw [rdI_eq (by omega)] at this
    exact this
def outC (m : Nat) (O : Nat → Bool) : Array Value := ((List.range m).map (fun j => Value.bool (O j))).toArray
theorem outC_get (m : Nat) (O : Nat → Bool) {i : Nat} (h : i < m) : (outC m O)[i]? = some (.bool (O i)) := by simp [outC, h]
theorem outC_put (m : Nat) (O : Nat → Bool) (i : Nat) (b : Bool) : (outC m O).setIfInBounds i (.bool b) = outC m (fun j => if j = i then b else O j) := by
  apply Array.ext
  · simp [outC]
  · intro j h1 h2
    simp only [outC, List.setIfInBounds_toArray, List.getElem_toArray, List.getElem_set, List.getElem_map, List.getElem_range]
    by_cases e : i = j
    · subst e
      simp
    · have e' : ¬ j = i := fun h => e h.symm
      simp [e, e']
theorem outC_made (m : Nat) : madeCells (Value.bool false).cells (m * 1) = outC m (fun _ => false) := by
  apply Array.ext
  · simp [madeCells, outC]
  · intro j h1 h2
    have e : j % 1 = 0 := by omega
    simp [madeCells, outC, Value.cells, e]
/-- What stands while Find asks: s is the first block of its own. -/
def InvF (w0 w : World) (s : Nat) (A : Option Addr) (n c : Nat) (I : Option Addr) (m mc N : Nat) (O : Nat → Bool) : Prop :=
  w0.heap.size = s ∧ Below w0.heap.size w0 w ∧ Box w s #[.slice A n c] 22 ∧ Box w (s + 1) #[.slice I m mc] 25 ∧ Box w (s + 2) (outC m O) 4 ∧ Box w (s + 3) #[.slice (some ⟨s + 2, 0, none⟩) m m] 37 ∧ Box w (s + 4) #[.int .i64 (N : Int)] 3 ∧
    Box w (s + 5) #[.func (.func 21) #[] #[.pointer (some ⟨s + 4, 0, none⟩), .pointer (some ⟨s, 0, none⟩), .pointer (some ⟨s + 1, 0, none⟩), .pointer (some ⟨s + 3, 0, none⟩), .pointer (some ⟨s + 5, 0, none⟩)]] 57
theorem InvF.next {w0 w w' : World} {s : Nat} {A : Option Addr} {n c : Nat} {I : Option Addr} {m mc N : Nat} {O : Nat → Bool} (h : InvF w0 w s A n c I m mc N O) (hb : Below w.heap.size w w') : InvF w0 w' s A n c I m mc N O := by
  obtain ⟨hs, h0, h1, h2, h3, h4, h5, h6⟩ := h
  exact ⟨hs, below_step h0 hb, h1.below hb, h2.below hb, h3.below hb, h4.below hb, h5.below hb, h6.below hb⟩
end Go.Proofs.Ytnfglkgkdechlaa


/- Which items are right (chapter 15): bisect.Find's own function asks of a part of them. -/
set_option linter.unusedVariables false
set_option linter.unusedSimpArgs false
namespace Go.Proofs.Ytnfglkgkdechlaa
open Go.RowKit Go.Proofs.YtnfglkgkdechlaaW.PrintWords Go.Proofs.YtnfglkgkdechlaaW.PrintLast Go.Proofs.YtnfglkgkdechlaaW.PrintMore

open Go.Proofs.Ytnfglkgkdechlaa.PQ

theorem C_seg {A : Option Addr} {l : List It} {w : World} {n c p q : Nat} (h : kI.C w A n l) (hc : n ≤ c) (hpq : p ≤ q) (hq : q ≤ n) : kI.C w (if c = p then A else A.map (·.add (p * 4))) (q - p) (seg l p q) := by
  obtain rfl := Kd.C_len h
  have e := Kd.C_take h hq
  have hp : p ≤ (l.take q).length := by rw [List.length_take]; omega
  have hcq : (l.take q).length ≤ c := by rw [List.length_take]; omega
  have e2 := Kd.C_drop e hp hcq
  have e3 : (seg l p q).length = q - p := seg_len l p q hpq hq
  unfold seg at e3 ⊢
  rw [e3] at e2
  exact e2
set_option maxRecDepth 100000 in
theorem ask_zero (w0 : World) (s : Nat) (A : Option Addr) (n c : Nat) (l : List Pr) (I : Option Addr) (m mc : Nat) (its : List It) (fr : Nat) (w : World) (N : Nat) (O : Nat → Bool) (hv : InvF w0 w s A n c I m mc N O) :
    Calls Try.prog 21 #[.int .i64 (fr : Int), .int .i64 (fr : Int), .pointer (some ⟨s + 4, 0, none⟩), .pointer (some ⟨s, 0, none⟩), .pointer (some ⟨s + 1, 0, none⟩), .pointer (some ⟨s + 3, 0, none⟩), .pointer (some ⟨s + 5, 0, none⟩)] w
      fun e w' => e = .returned (.tuple #[]) ∧ InvF w0 w' s A n c I m mc (N + cnt (chk l) (seg its fr fr)) (fun j => if fr ≤ j ∧ j < fr then chk l (rdI its (j : Int)) else O j) := by
  have HV := Aside0.mk hv
  clear hv
  go_enter Try.func21, Try.ntmps21
  have hd : ((fr : Int) == (fr : Int)) = true := by simp
  go_wp2
  refine bodyPost_ret (results_none rfl _ _ _) rfl ?_
  refine ⟨rfl, ?_⟩
  have e0 : cnt (chk l) (seg its fr fr) = 0 := by rw [cnt_eq, if_pos (by unfold seg; simp)]
  rw [e0]
  have e1 : (fun j : Nat => if fr ≤ j ∧ j < fr then chk l (rdI its (j : Int)) else O j) = O := funext fun j => if_neg (by omega)
  rw [e1]
  exact HV.out
set_option maxRecDepth 100000 in
set_option maxHeartbeats 8000000 in
theorem ask_calls (w0 : World) (s : Nat) (A : Option Addr) (n c : Nat) (l : List Pr) (I : Option Addr) (m mc : Nat) (its : List It) (hA : kP.C w0 A n l) (hc : n ≤ c) (hI : kI.C w0 I m its) (hm : m ≤ mc) (ho : ∀ x ∈ its, okI x) (d : Nat) :
    ∀ (fr tu : Nat), fr ≤ tu → tu - fr ≤ d → tu ≤ m → ∀ (w : World) (N : Nat) (O : Nat → Bool), InvF w0 w s A n c I m mc N O → N + 2 * (tu - fr) ≤ 1000000000000000000 → (∀ j : Nat, fr ≤ j → j < tu → O j = false) →
    Calls Try.prog 21 #[.int .i64 (fr : Int), .int .i64 (tu : Int), .pointer (some ⟨s + 4, 0, none⟩), .pointer (some ⟨s, 0, none⟩), .pointer (some ⟨s + 1, 0, none⟩), .pointer (some ⟨s + 3, 0, none⟩), .pointer (some ⟨s + 5, 0, none⟩)] w
      fun e w' => e = .returned (.tuple #[]) ∧ InvF w0 w' s A n c I m mc (N + cnt (chk l) (seg its fr tu)) (fun j => if fr ≤ j ∧ j < tu then chk l (rdI its (j : Int)) else O j) := by
  induction d with
  | zero =>
    intro fr tu h1 h2 h3 w N O hv hN hO
    obtain rfl : fr = tu := by omega
    exact ask_zero w0 s A n c l I m mc its fr w N O hv
  | succ d ih =>
    intro fr tu h1 h2 h3 w N O hv hN hO
    by_cases heq : fr = tu
    · subst heq
      exact ask_zero w0 s A n c l I m mc its fr w N O hv
    · have HV := Aside0.mk hv
      have HO := Aside0.mk hO
      have HIH := Aside0.mk ih
      have HX := Aside0.mk hA
      have HI := Aside0.mk hI
      have HOK := Aside0.mk ho
      have HML := Aside0.mk (show m = its.length from (Kd.C_len hI).symm)
      have hm63 : m ≤ 9223372036854775807 := by rw [HML.out]; exact Kd.C_len hI ▸ Kd.C_max hI
      obtain ⟨hs, hb0, bA, bI, bR, bO, bN, bF⟩ := hv
      clear hO ih hA hI ho
      have HB := Aside0.mk hb0
      have XR := Aside0.mk bR
      have XO := Aside0.mk bO
      have XN := Aside0.mk bN
      have XF := Aside0.mk bF
      have XA := Aside0.mk bA
      have XI := Aside0.mk bI
      have n0 : w.cell? ⟨s + 4, 0, none⟩ = some (.int .i64 (N : Int)) := bN.cell 0
      have n1 : w.frozen? ⟨s + 4, 0, none⟩ = false := bN.frozen 0
      have hd : ((fr : Int) == (tu : Int)) = false := beq_eq_false_iff_ne.mpr (by omega)
      obtain ⟨N1, hN1⟩ : ∃ N1 : Int, (N : Int) + 1 = N1 := ⟨_, rfl⟩
      have hw1 : IntKind.i64.wrap ((N : Int) + 1) = N1 := by rw [IntKind.wrap_i64]; omega
      have HN2 := Aside0.mk (show N1 = ((N + 1 : Nat) : Int) by omega)
      clear hN1
      clear hb0 bA bI bR bO bN bF
      go_enter Try.func21, Try.ntmps21
      go_upto_region 2 with (fail)
      obtain ⟨W, hW⟩ : ∃ W, w.setCell ⟨s + 4, 0, none⟩ (.int .i64 N1) = W := ⟨_, rfl⟩
      have hWN := Aside0.mk (hW ▸ (Box.put (j := 0) XN.out) : Box W (s + 4) #[.int .i64 N1] 3)
      rw [HN2.out] at hWN
      have HVW := Aside0.mk (show InvF w0 W s A n c I m mc (N + 1) O from ⟨hs, hW ▸ below_set HB.out (by omega), hW ▸ XA.out.far (by simp), hW ▸ XI.out.far (by simp), hW ▸ XR.out.far (by simp), hW ▸ XO.out.far (by simp), hWN.out, hW ▸ XF.out.far (by simp)⟩)
      rw [hW]
      clear HN2 hW HB XR XO XN XF XA XI n0 n1 hWN HV hw1
      obtain ⟨r, hr⟩ : ∃ r, (seg its fr tu).all (chk l) = r := ⟨_, rfl⟩
      have HR := Aside0.mk hr
      clear hr
      have rT := HVW.out.2.2.1.cell
      have kT := HVW.out.2.2.1.lt
      have rS := HVW.out.2.2.2.1.cell
      have kS := HVW.out.2.2.2.1.lt
      have HXW := Aside0.mk (Kd.C_below HX.out HVW.out.2.1)
      have HIW := Aside0.mk (Kd.C_below HI.out HVW.out.2.1)
      have HOS := Aside0.mk (show ∀ x ∈ seg its fr tu, okI x from fun x hx => HOK.out x (List.mem_of_mem_take (List.mem_of_mem_drop hx)))
      have hft : (fr : Int) ≤ (tu : Int) := by omega
      have htm : (tu : Int) ≤ (mc : Int) := by omega
      have hfm : (fr : Int) ≤ (mc : Int) := by omega
      have hf0 : 0 ≤ (fr : Int) := by omega
      have ht0 : 0 ≤ (tu : Int) := by omega
      refine wp_region_held_drew (S := (fun w' => Below W.heap.size W w' ∧ (∀ j, w'.cell? ⟨s, j, none⟩ = (#[.slice A n c] : Array Value)[j]?) ∧ (∀ j, w'.cell? ⟨s + 1, j, none⟩ = (#[.slice I m mc] : Array Value)[j]?))) (by kernel_rfl) ?hS4x0 (fun hHeld => ?hR4x0)
      case hS4x0 => ((try dsimp only); (first | exact ⟨below_drew1 (Below.refl _ _), rT, rS⟩ | exact ⟨below_drew1 b0_, rT, rS⟩ | exact ⟨j0, jT, jS⟩ | exact ⟨below_alloc j0 _, fun j => (cell_alloc_old (Nat.lt_of_lt_of_le kT j0.size)).trans (jT j), fun j => (cell_alloc_old (Nat.lt_of_lt_of_le kS j0.size)).trans (jS j)⟩ | exact ⟨below_alloc (below_drew1 (Below.refl _ _)) _, fun j => (cell_alloc_old kT).trans (rT j), fun j => (cell_alloc_old kS).trans (rS j)⟩ | assumption))
      refine wpAnyH_take (i := 0) (oi := ⟨some 17, _, _, _, _, _⟩) (v := ?_) rfl (by kernel_rfl) (by kernel_rfl) (by kernel_rfl) (fun _ _ _ h => h) (Or.inl ⟨by rfl, ?hY4x2⟩) (by assumption) ?hR4x2
      case hY4x2 => (intro w hSw; (try dsimp only at hSw); go_simp; try with_reducible rfl)
      (try simp only [Act.put, List.setIfInBounds_toArray, List.set_cons_zero, List.set_cons_succ])
      refine wpAnyH_take (i := 1) (oi := ⟨some 18, _, _, _, _, _⟩) (v := ?_) rfl (by kernel_rfl) (by kernel_rfl) (by kernel_rfl) (fun _ _ _ h => h) (Or.inl ⟨by rfl, ?hY4x3⟩) (by assumption) ?hR4x3
      case hY4x3 => (intro w hSw; (try dsimp only at hSw); go_simp; try with_reducible rfl)
      (try simp only [Act.put, List.setIfInBounds_toArray, List.set_cons_zero, List.set_cons_succ])
      refine wpAnyH_take (i := 2) (oi := ⟨some 19, _, _, _, _, _⟩) (v := ?_) rfl (by kernel_rfl) (by kernel_rfl) (by kernel_rfl) (fun _ _ _ h => h) (Or.inl ⟨by rfl, ?hY4x4⟩) (by assumption) ?hR4x4
      case hY4x4 => (intro w hSw; (try dsimp only at hSw); go_simp; try with_reducible rfl)
      (try simp only [Act.put, List.setIfInBounds_toArray, List.set_cons_zero, List.set_cons_succ])
      refine wpAnyH_take (i := 3) (oi := ⟨some 20, _, _, _, _, _⟩) (v := ?_) rfl (by kernel_rfl) (by kernel_rfl) (by kernel_rfl) (fun _ _ _ h => h) (Or.inl ⟨by rfl, ?hY4x5⟩) (by assumption) ?hR4x5
      case hY4x5 => (intro w hSw; (try dsimp only at hSw); go_simp; try with_reducible rfl)
      (try simp only [Act.put, List.setIfInBounds_toArray, List.set_cons_zero, List.set_cons_succ])
      refine wpAnyH_take (i := 4) (oi := ⟨some 21, _, _, _, _, _⟩) (v := ?_) rfl (by kernel_rfl) (by kernel_rfl) (by kernel_rfl) (fun _ _ _ h => h) (Or.inl ⟨by rfl, ?hY4x6⟩) (by assumption) ?hR4x6
      case hY4x6 => (intro w hSw; (try dsimp only at hSw); go_simp; try with_reducible rfl)
      (try simp only [Act.put, List.setIfInBounds_toArray, List.set_cons_zero, List.set_cons_succ])
      refine wpAnyH_ready (rs := [5]) (by kernel_rfl) (by simp) ?_
      refine AllReadyH.cons (o := ⟨some 22, _, _, _, _, _⟩) rfl (fun K hK => ?hT4x7) ?hM4x7
      case hM4x7 => exact AllReadyH.nil
      go_simp
      (first | (go_at_call 22; obtain ⟨g0, gT, gS⟩ := ‹Below W.heap.size W _ ∧ _›; ((with_reducible refine (oAll A n c l _ _ _ (seg its fr tu) r _ (Kd.C_below HXW.out g0) hc ?hseg HOS.out HR.out).mono ?_)); (case hseg => (have e := C_seg (c := mc) (p := fr) (q := tu) (Kd.C_below HIW.out g0) hm h1 h3; first | exact e | (rw [if_neg (by omega)] at e; exact e))); rintro e w5 ⟨rfl, hb_⟩; have j0 := below_step g0 hb_; have s5 := j0.size; have jT := fun j => (j0.cell (p := ⟨s, j, none⟩) kT).trans (rT j); have jS := fun j => (j0.cell (p := ⟨s + 1, j, none⟩) kS).trans (rS j)))
      (try go_wp2_with fail)
      refine hK.out _ _ ?hS4x7 (fun hHeld => ?hR4x7)
      case hS4x7 => ((try dsimp only); (first | exact ⟨below_drew1 (Below.refl _ _), rT, rS⟩ | exact ⟨below_drew1 b0_, rT, rS⟩ | exact ⟨j0, jT, jS⟩ | exact ⟨below_alloc j0 _, fun j => (cell_alloc_old (Nat.lt_of_lt_of_le kT j0.size)).trans (jT j), fun j => (cell_alloc_old (Nat.lt_of_lt_of_le kS j0.size)).trans (jS j)⟩ | exact ⟨below_alloc (below_drew1 (Below.refl _ _)) _, fun j => (cell_alloc_old kT).trans (rT j), fun j => (cell_alloc_old kS).trans (rS j)⟩ | assumption))
      clear hK K
      (try simp only [Act.put, List.setIfInBounds_toArray, List.set_cons_zero, List.set_cons_succ])
      refine wpAnyH_take (i := 6) (oi := ⟨some 9, _, _, _, _, _⟩) (v := ?_) rfl (by kernel_rfl) (by kernel_rfl) (by kernel_rfl) (fun _ _ _ h => h) (Or.inl ⟨by rfl, ?hY4x8⟩) (by assumption) ?hR4x8
      case hY4x8 => (intro w hSw; (try dsimp only at hSw); go_simp; try with_reducible rfl)
      (try simp only [Act.put, List.setIfInBounds_toArray, List.set_cons_zero, List.set_cons_succ])
      refine wpAnyH_done (by kernel_rfl) ?_ _
      have HV5 := Aside0.mk (HVW.out.next j0)
      clear HVW HXW HIW HOS rT kT rS kS j0 jT jS hb_
      try clear hHeld
      try clear hHeld
      cases r with
      | true =>
        go_wp2
        go_loopw [10] (fun v10 wx => ∃ j : Nat, fr ≤ j ∧ j ≤ tu ∧ v10 = .int .i64 (j : Int) ∧ InvF w0 wx s A n c I m mc (N + 1) (fun q => if fr ≤ q ∧ q < j then true else O q)) (fun v10 _ => tu - (intOf v10).toNat)
        case atStart =>
          have e1 : (fun q : Nat => if fr ≤ q ∧ q < fr then true else O q) = O := funext fun j => if_neg (by omega)
          exact ⟨fr, Nat.le_refl _, h1, rfl, by rw [e1]; exact HV5.out⟩
        case round =>
          obtain ⟨j, hj0, hj1, rfl, hv⟩ := hrel
          have HVJ := Aside0.mk hv
          clear hv
          by_cases hjt : j < tu
          · obtain ⟨z, hz⟩ : ∃ z : Int, (j : Int) = z := ⟨_, rfl⟩
            rw [hz]
            have hz0 : 0 ≤ z := by omega
            have hz1 : z < (m : Int) := by omega
            have hz2 : z < (tu : Int) := by omega
            have hdz : decide (z < (tu : Int)) = true := decide_eq_true hz2
            have HZ := Aside0.mk hz
            have HZT := Aside0.mk (show z.toNat = j by omega)
            clear hz
            have o0 : wr.cell? ⟨s + 3, 0, none⟩ = some (.slice (some ⟨s + 2, 0, none⟩) m m) := HVJ.out.2.2.2.2.2.1.cell 0
            have o1 : wr.cell? ⟨s + 2, z.toNat, none⟩ = some (.bool (if fr ≤ z.toNat ∧ z.toNat < j then true else O z.toNat)) := by rw [HVJ.out.2.2.2.2.1.cell, outC_get _ _ (by omega)]
            have o2 : wr.frozen? ⟨s + 2, z.toNat, none⟩ = false := HVJ.out.2.2.2.2.1.frozen _
            go_wp2
            go_roundw
            case rel =>
              obtain ⟨hs', hb0, bA, bI, bR, bO, bN, bF⟩ := HVJ.out
              refine ⟨j + 1, by omega, by omega, by have := HZ.out; subst this; go_num, hs', below_set hb0 (by show _ ≤ s + 2; omega), bA.far (by simp), bI.far (by simp), ?_, bO.far (by simp), bN.far (by simp), bF.far (by simp)⟩
              have hp := Box.put (j := z.toNat) (v := .bool true) bR
              rw [outC_put, HZT.out] at hp
              rw [HZT.out]
              have e1 : (fun q : Nat => if fr ≤ q ∧ q < j + 1 then true else O q) = (fun q => if q = j then true else if fr ≤ q ∧ q < j then true else O q) := funext fun q => by
                by_cases h1 : q = j
                · rw [if_pos h1, if_pos (by omega)]
                · rw [if_neg h1]
                  by_cases h2 : fr ≤ q ∧ q < j
                  · rw [if_pos h2, if_pos (by omega)]
                  · rw [if_neg h2, if_neg (by omega)]
              rw [e1]
              exact hp
            case measure =>
              have := HZ.out
              simp [intOf]
              omega
          · obtain rfl : j = tu := by omega
            have hdz : decide ((j : Int) < (j : Int)) = false := decide_eq_false (by omega)
            go_wp2
            go_end0
            refine ⟨rfl, ?_⟩
            have e0 : cnt (chk l) (seg its fr j) = 1 := by rw [cnt_eq, if_neg (by rw [seg_len its fr j h1 (by rw [← HML.out]; exact h3)]; omega), if_pos HR.out]
            rw [e0]
            have e1 : (fun q : Nat => if fr ≤ q ∧ q < j then chk l (rdI its (q : Int)) else O q) = (fun q => if fr ≤ q ∧ q < j then true else O q) := funext fun q => by
              by_cases h2 : fr ≤ q ∧ q < j
              · rw [if_pos h2, if_pos h2]
                exact (seg_all its (chk l) fr j (by rw [← HML.out]; exact h3)).1 HR.out q h2.1 h2.2
              · rw [if_neg h2, if_neg h2]
            rw [e1]
            exact HVJ.out
      | false =>
        have hlen := seg_len its fr tu h1 (by rw [← HML.out]; exact h3)
        have hw2 : IntKind.i64.wrap ((tu : Int) - (fr : Int)) = (tu : Int) - (fr : Int) := by rw [IntKind.wrap_i64]; omega
        by_cases h4 : tu - fr ≤ 1
        · have hd2 : decide (1 < (tu : Int) - (fr : Int)) = false := decide_eq_false (by omega)
          go_wp2
          go_end0
          refine ⟨rfl, ?_⟩
          have e0 : cnt (chk l) (seg its fr tu) = 1 := by rw [cnt_eq, if_neg (by omega), if_neg (by rw [HR.out]; simp), if_pos (by omega)]
          rw [e0]
          have e1 : (fun q : Nat => if fr ≤ q ∧ q < tu then chk l (rdI its (q : Int)) else O q) = O := funext fun q => by
            by_cases h5 : fr ≤ q ∧ q < tu
            · rw [if_pos h5, HO.out q h5.1 h5.2, Bool.eq_false_iff]
              intro hc
              have := (seg_all its (chk l) fr tu (by rw [← HML.out]; exact h3)).2 fun j a b => by
                obtain rfl : j = q := by omega
                exact hc
              rw [HR.out] at this
              cases this
            · rw [if_neg h5]
          rw [e1]
          exact HV5.out
        · have hd2 : decide (1 < (tu : Int) - (fr : Int)) = true := decide_eq_true (by omega)
          obtain ⟨q, hq⟩ : ∃ q : Nat, q = fr + (tu - fr + 1) / 2 := ⟨_, rfl⟩
          have hq1 : fr ≤ q := by omega
          have hq2 : q < tu := by omega
          have hq3 : fr < q := by omega
          have hw3 : IntKind.i64.wrap ((tu : Int) - (fr : Int) + 1) = (tu : Int) - (fr : Int) + 1 := by rw [IntKind.wrap_i64]; omega
          have hw4 : IntKind.i64.wrap ((fr : Int) + ((tu : Int) - (fr : Int) + 1) / 2) = (q : Int) := by rw [IntKind.wrap_i64]; omega
          have hz4 : 0 ≤ (tu : Int) - (fr : Int) + 1 := by omega
          have HQ := Aside0.mk hq
          clear hq
          have f0 : w5.cell? ⟨s + 5, 0, none⟩ = some (.func (.func 21) #[] #[.pointer (some ⟨s + 4, 0, none⟩), .pointer (some ⟨s, 0, none⟩), .pointer (some ⟨s + 1, 0, none⟩), .pointer (some ⟨s + 3, 0, none⟩), .pointer (some ⟨s + 5, 0, none⟩)]) := HV5.out.2.2.2.2.2.2.2.cell 0
          have hc1 := cnt_le (chk l) (q - fr) (seg its fr q) (by rw [seg_len its fr q hq1 (by rw [← HML.out]; omega)]; omega)
          rw [seg_len its fr q hq1 (by rw [← HML.out]; omega)] at hc1
          go_wp2_with fail
          refine (HIH.out fr q hq1 (by omega) (by omega) w5 (N + 1) O HV5.out (by omega) (fun j a b => HO.out j a (by omega))).mono ?_
          rintro e w6 ⟨rfl, hv6⟩
          have HV6 := Aside0.mk hv6
          have f1 : w6.cell? ⟨s + 5, 0, none⟩ = some (.func (.func 21) #[] #[.pointer (some ⟨s + 4, 0, none⟩), .pointer (some ⟨s, 0, none⟩), .pointer (some ⟨s + 1, 0, none⟩), .pointer (some ⟨s + 3, 0, none⟩), .pointer (some ⟨s + 5, 0, none⟩)]) := hv6.2.2.2.2.2.2.2.cell 0
          clear hv6 f0
          go_wp2_with fail
          refine (HIH.out q tu (by omega) (by omega) h3 w6 _ _ HV6.out (by omega) (fun j a b => by rw [if_neg (by omega)]; exact HO.out j (by omega) b)).mono ?_
          rintro e w7 ⟨rfl, hv7⟩
          have HV7 := Aside0.mk hv7
          clear hv7 f1
          go_wp2
          go_end0
          refine ⟨rfl, ?_⟩
          have hsl : (seg its fr tu).length = tu - fr := hlen
          have e0 : cnt (chk l) (seg its fr tu) = 1 + cnt (chk l) (seg its fr q) + cnt (chk l) (seg its q tu) := by
            rw [cnt_eq, if_neg (by omega), if_neg (by rw [HR.out]; simp), if_neg (by omega), hsl, seg_take its fr tu _ (by omega) (by rw [← HML.out]; exact h3), seg_drop, ← HQ.out]
          have e1 : (fun j : Nat => if fr ≤ j ∧ j < tu then chk l (rdI its (j : Int)) else O j) = (fun j : Nat => if q ≤ j ∧ j < tu then chk l (rdI its (j : Int)) else if fr ≤ j ∧ j < q then chk l (rdI its (j : Int)) else O j) := funext fun j => by
            by_cases a : q ≤ j ∧ j < tu
            · rw [if_pos a, if_pos (by omega)]
            · rw [if_neg a]
              by_cases b : fr ≤ j ∧ j < q
              · rw [if_pos b, if_pos (by omega)]
              · rw [if_neg b, if_neg (by omega)]
          rw [e0, e1, show N + (1 + cnt (chk l) (seg its fr q) + cnt (chk l) (seg its q tu)) = N + 1 + cnt (chk l) (seg its fr q) + cnt (chk l) (seg its q tu) by omega]
          exact HV7.out
theorem info_boolF : (Try.prog.info? 4).map (fun i => (i.zero, i.size, i.bytes)) = some (some (.bool false), 1, 1) := by kernel_rfl
theorem make_out (m : Nat) (h : m ≤ 281474976710656) (W : World) : (Instr.makeSlice 37 (.int .i64 (m : Int)) (.int .i64 (m : Int))).run Try.prog W = .ok (.slice (some ⟨W.heap.size, 0, none⟩) m m) (W.alloc (.cells (outC m fun _ => false) 4)) := by
  obtain ⟨i0, hi, hzz⟩ := Option.map_eq_some_iff.1 info_boolF
  simp only [Prod.mk.injEq] at hzz
  obtain ⟨hz0, hz1, hz2⟩ := hzz
  have hr := run_make (P := Try.prog) W 37 4 i0 (.bool false) Try.underlying37 hi hz0 .i64 .i64 (m : Int) (m : Int) (by omega) (by omega) (by rw [hz2]; omega) (by omega)
  rw [hr, hz1]
  simp only [Int.toNat_natCast]
  rw [outC_made]
set_option maxRecDepth 100000 in
set_option maxHeartbeats 4000000 in
/-- Find: who is right, and how often that is asked. -/
theorem bFind (A : Option Addr) (n c : Nat) (l : List Pr) (I : Option Addr) (m mc : Nat) (its : List It) (w : World) (hA : kP.C w A n l) (hc : n ≤ c) (hI : kI.C w I m its) (hm : m ≤ mc) (ho : ∀ x ∈ its, okI x) (hm0 : m ≤ 1000000000000) :
    Calls Try.prog 11 #[.slice A n c, .slice I m mc] w fun e w' => e = .returned (.tuple #[.slice (some ⟨w.heap.size + 2, 0, none⟩) m m, .int .i64 (cnt (chk l) its : Int)]) ∧ Box w' (w.heap.size + 2) (outC m fun j => chk l (rdI its (j : Int))) 4 ∧ Below w.heap.size w w' := by
  have HX := Aside0.mk hA
  have HI := Aside0.mk hI
  have HML := Aside0.mk (show m = its.length from (Kd.C_len hI).symm)
  have hmk := make_out m (by omega)
  have hmf : ∀ (fn : Fn) (first cap : Array Value) (w : World), (Instr.makeFunc fn first cap).run Try.prog w = .ok (.func fn first cap) w := fun _ _ _ _ => rfl
  have HASK := Aside0.mk (fun W N O hv hN hO => ask_calls w w.heap.size A n c l I m mc its hA hc hI hm ho m 0 m (Nat.zero_le _) (by omega) (Nat.le_refl _) W N O hv hN hO)
  clear hA hI ho
  go_enter Try.func11, Try.ntmps11
  go_wp2_with fail
  obtain ⟨w1, h1⟩ : ∃ W, w.alloc (.cells #[.slice A n c] 22) = W := ⟨_, rfl⟩
  rw [h1]
  obtain ⟨w2, h2⟩ : ∃ W, w1.alloc (.cells #[.slice I m mc] 25) = W := ⟨_, rfl⟩
  rw [h2]
  obtain ⟨w3, h3⟩ : ∃ W, w2.alloc (.cells (outC m fun _ => false) 4) = W := ⟨_, rfl⟩
  rw [h3]
  rw [show w.heap.size + 1 + 1 + 1 + 1 + 1 = w.heap.size + 5 from rfl, show w.heap.size + 1 + 1 + 1 + 1 = w.heap.size + 4 from rfl, show w.heap.size + 1 + 1 + 1 = w.heap.size + 3 from rfl, show w.heap.size + 1 + 1 = w.heap.size + 2 from rfl]
  obtain ⟨w4, h4⟩ : ∃ W, w3.alloc (.cells #[.slice (some ⟨w.heap.size + 2, 0, none⟩) m m] 37) = W := ⟨_, rfl⟩
  rw [h4]
  obtain ⟨w5, h5⟩ : ∃ W, w4.alloc (.cells #[.int .i64 0] 3) = W := ⟨_, rfl⟩
  rw [h5]
  obtain ⟨w6, h6⟩ : ∃ W, w5.alloc (.cells #[.func (.func 21) #[] #[.pointer (some ⟨w.heap.size + 4, 0, none⟩), .pointer (some ⟨w.heap.size, 0, none⟩), .pointer (some ⟨w.heap.size + 1, 0, none⟩), .pointer (some ⟨w.heap.size + 3, 0, none⟩), .pointer (some ⟨w.heap.size + 5, 0, none⟩)]] 57) = W := ⟨_, rfl⟩
  rw [h6]
  have s1 : w1.heap.size = w.heap.size + 1 := by rw [← h1, size_alloc]
  have s2 : w2.heap.size = w.heap.size + 2 := by rw [← h2, size_alloc, s1]
  have s3 : w3.heap.size = w.heap.size + 3 := by rw [← h3, size_alloc, s2]
  have s4 : w4.heap.size = w.heap.size + 4 := by rw [← h4, size_alloc, s3]
  have s5 : w5.heap.size = w.heap.size + 5 := by rw [← h5, size_alloc, s4]
  have b1 : Below w.heap.size w w1 := h1 ▸ below_alloc (Below.refl _ _) _
  have b2 : Below w.heap.size w w2 := h2 ▸ below_alloc b1 _
  have b3 : Below w.heap.size w w3 := h3 ▸ below_alloc b2 _
  have b4 : Below w.heap.size w w4 := h4 ▸ below_alloc b3 _
  have b5 : Below w.heap.size w w5 := h5 ▸ below_alloc b4 _
  have b6 : Below w.heap.size w w6 := h6 ▸ below_alloc b5 _
  have x1 : Box w1 w.heap.size #[.slice A n c] 22 := h1 ▸ Box.new
  have x2 : Box w2 (w.heap.size + 1) #[.slice I m mc] 25 := s1 ▸ h2 ▸ Box.new
  have x3 : Box w3 (w.heap.size + 2) (outC m fun _ => false) 4 := s2 ▸ h3 ▸ Box.new
  have x4 : Box w4 (w.heap.size + 3) #[.slice (some ⟨w.heap.size + 2, 0, none⟩) m m] 37 := by rw [← s3]; exact h4 ▸ Box.new
  have x5 : Box w5 (w.heap.size + 4) #[.int .i64 ((0 : Nat) : Int)] 3 := by rw [← s4]; exact h5 ▸ Box.new
  have x6 : Box w6 (w.heap.size + 5) #[.func (.func 21) #[] #[.pointer (some ⟨w.heap.size + 4, 0, none⟩), .pointer (some ⟨w.heap.size, 0, none⟩), .pointer (some ⟨w.heap.size + 1, 0, none⟩), .pointer (some ⟨w.heap.size + 3, 0, none⟩), .pointer (some ⟨w.heap.size + 5, 0, none⟩)]] 57 := by rw [← s5] at h6 ⊢; exact h6 ▸ Box.new
  have y1 : Box w6 w.heap.size _ _ := h6 ▸ h5 ▸ h4 ▸ h3 ▸ h2 ▸ x1.alloc.alloc.alloc.alloc.alloc
  have y2 : Box w6 (w.heap.size + 1) _ _ := h6 ▸ h5 ▸ h4 ▸ h3 ▸ x2.alloc.alloc.alloc.alloc
  have y3 : Box w6 (w.heap.size + 2) _ _ := h6 ▸ h5 ▸ h4 ▸ x3.alloc.alloc.alloc
  have y4 : Box w6 (w.heap.size + 3) _ _ := h6 ▸ h5 ▸ x4.alloc.alloc
  have y5 : Box w6 (w.heap.size + 4) _ _ := h6 ▸ x5.alloc
  have HV := Aside0.mk (show InvF w w6 w.heap.size A n c I m mc 0 (fun _ => false) from ⟨rfl, b6, y1, y2, y3, y4, y5, x6⟩)
  clear h1 h2 h3 h4 h5 h6 s1 s2 s3 s4 s5 b1 b2 b3 b4 b5 b6 x1 x2 x3 x4 x5 x6 y1 y2 y3 y4 y5 hmk hmf
  refine (HASK.out w6 0 _ HV.out (by omega) (fun _ _ _ => rfl)).mono ?_
  rintro e w7 ⟨rfl, hv⟩
  have es : seg its 0 m = its := by
    unfold seg
    rw [HML.out, List.take_length]
    rfl
  rw [es, Nat.zero_add] at hv
  obtain ⟨-, hb, -, -, hR, hO, hN, -⟩ := hv
  have o0 : w7.cell? ⟨w.heap.size + 3, 0, none⟩ = some (.slice (some ⟨w.heap.size + 2, 0, none⟩) m m) := hO.cell 0
  have n0 : w7.cell? ⟨w.heap.size + 4, 0, none⟩ = some (.int .i64 (cnt (chk l) its : Int)) := hN.cell 0
  have HRR := Aside0.mk hR
  have HB := Aside0.mk hb
  clear hR hO hN hb
  obtain ⟨cc, hcc⟩ : ∃ cc : Int, (cnt (chk l) its : Int) = cc := ⟨_, rfl⟩
  rw [hcc] at n0
  have HCC := Aside0.mk hcc
  clear hcc
  go_upto_region 5 with (fail)
  go_quiet (fail)
  go_wp2
  go_ret2
  rw [HCC.out]
  refine ⟨rfl, ?_, (by repeat (first | exact HB.out | apply below_alloc | apply pw_below_drewN | apply below_drew1 | refine below_set ?_ (by first | omega | (simp; omega))))⟩
  have e1 : outC m (fun j => chk l (rdI its (j : Int))) = outC m (fun j : Nat => if 0 ≤ j ∧ j < m then chk l (rdI its (j : Int)) else false) := by
    unfold outC
    congr 1
    refine List.map_congr_left fun j hj => ?_
    exact congrArg Value.bool (if_pos ⟨Nat.zero_le _, List.mem_range.1 hj⟩).symm
  rw [e1]
  exact HRR.out
end Go.Proofs.Ytnfglkgkdechlaa


/- How often it may be asked (chapter 15): bisect.Most. -/
set_option linter.unusedVariables false
set_option linter.unusedSimpArgs false
namespace Go.Proofs.Ytnfglkgkdechlaa
open Go.RowKit Go.Proofs.YtnfglkgkdechlaaW.PrintWords Go.Proofs.YtnfglkgkdechlaaW.PrintLast Go.Proofs.YtnfglkgkdechlaaW.PrintMore

open Go.Proofs.Ytnfglkgkdechlaa.PQ

/-- How often n items are halved. -/
def halv : Nat → Nat → Nat
  | 0, _ => 0
  | k + 1, n => if n ≤ 1 then 0 else halv k (n - n / 2) + 1
theorem halv_step (k n : Nat) (h : 1 < n) (hk : n ≤ k + 1) : halv (k + 1) n = halv k (n - n / 2) + 1 := by
  unfold halv
  rw [if_neg (by omega)]
  cases k with
  | zero => exact absurd hk (by omega)
  | succ k => rfl
theorem halv_le : ∀ (j k n : Nat), n ≤ 2 ^ j → halv k n ≤ j
  | 0, 0, n, h => Nat.zero_le _
  | 0, k + 1, n, h => by
    unfold halv
    rw [if_pos (by simpa using h)]
    exact Nat.le_refl _
  | j + 1, 0, n, h => Nat.zero_le _
  | j + 1, k + 1, n, h => by
    unfold halv
    split
    · omega
    · have : n - n / 2 ≤ 2 ^ j := by
        rw [Nat.pow_succ] at h
        omega
      have := halv_le j k (n - n / 2) this
      omega
theorem halv_one (k : Nat) : halv k 1 = 0 := by
  cases k with
  | zero => rfl
  | succ k => rfl
def mostF (n wrong : Int) : Int := if n < 1 ∨ wrong < 0 then 0 else 1 + 2 * wrong * (halv n.toNat n.toNat : Int)
set_option maxRecDepth 100000 in
set_option maxHeartbeats 4000000 in
theorem bMost (n wrong : Int) (w : World) (hn : n ≤ 4294967296) (hw : wrong ≤ 4294967296) (hn0 : -4294967296 ≤ n) (hw0 : -4294967296 ≤ wrong) : Calls Try.prog 15 #[.int .i64 n, .int .i64 wrong] w fun e w' => e = .returned (.int .i64 (mostF n wrong)) ∧ Below w.heap.size w w' := by
  by_cases h1 : n < 1
  · have hd1 : decide (n < 1) = true := decide_eq_true h1
    have he : mostF n wrong = 0 := by unfold mostF; rw [if_pos (Or.inl h1)]
    rw [he]
    go_enter Try.func15, Try.ntmps15
    go_wp2
    go_step3
    go_wp2
    (try rw [Exit.noGoto_ret])
    go_ret
    exact ⟨rfl, Below.refl _ _⟩
  have hd1 : decide (n < 1) = false := decide_eq_false h1
  by_cases h2 : wrong < 0
  · have hd2 : decide (wrong < 0) = true := decide_eq_true h2
    have he : mostF n wrong = 0 := by unfold mostF; rw [if_pos (Or.inr h2)]
    rw [he]
    go_enter Try.func15, Try.ntmps15
    go_wp2
    go_step3
    go_wp2
    (try rw [Exit.noGoto_ret])
    go_ret
    exact ⟨rfl, Below.refl _ _⟩
  have hd2 : decide (wrong < 0) = false := decide_eq_false h2
  obtain ⟨N, hN⟩ : ∃ N : Nat, n = (N : Int) := ⟨n.toNat, by omega⟩
  subst hN
  have he : mostF (N : Int) wrong = 1 + 2 * wrong * (halv N N : Int) := by unfold mostF; rw [if_neg (by omega), Int.toNat_natCast]
  rw [he]
  have hh := halv_le 32 N N (by omega)
  go_enter Try.func15, Try.ntmps15
  go_wp2
  go_step3
  go_wp2
  go_step3
  go_wp2
  go_loopw [0, 5] (fun v0 v5 wx => ∃ (m h k : Nat), v0 = .int .i64 m ∧ v5 = .int .i64 h ∧ 1 ≤ m ∧ m ≤ N ∧ m ≤ k ∧ h + halv k m = halv N N ∧ wx = w) (fun v0 _ _ => (intOf v0).toNat)
  case atStart => exact ⟨N, 0, N, rfl, rfl, by omega, Nat.le_refl _, Nat.le_refl _, by omega, rfl⟩
  case round =>
    obtain ⟨m, h, k, rfl, rfl, hm1, hmN, hmk, hhk, rfl⟩ := hrel
    have HH := Aside0.mk hhk
    have HNE := Aside0.mk hh
    clear he
    by_cases hm : m = 1
    · subst hm
      have e1 := HH.out
      rw [halv_one] at e1
      obtain ⟨hb, hhb⟩ : ∃ b : Nat, halv N N = b := ⟨_, rfl⟩
      rw [hhb] at e1 HNE
      have HHB := Aside0.mk hhb
      obtain rfl : h = hb := by omega
      clear hhb hh e1 hhk HH
      have hb32 := HNE.out
      have w1 : IntKind.i64.wrap (2 * wrong) = 2 * wrong := by rw [IntKind.wrap_i64]; omega
      obtain ⟨pr, hpr⟩ : ∃ p : Int, 2 * wrong * (h : Int) = p := ⟨_, rfl⟩
      have hpb : 0 ≤ pr ∧ pr ≤ 8589934592 * 32 := by
        rw [← hpr]
        have h0 : 0 ≤ 2 * wrong := by omega
        have h1 : 2 * wrong ≤ 8589934592 := by omega
        exact ⟨Int.mul_nonneg h0 (by omega), Int.le_trans (Int.mul_le_mul_of_nonneg_right h1 (by omega)) (by omega)⟩
      have w2 : IntKind.i64.wrap (2 * wrong * (h : Int)) = pr := by rw [hpr, IntKind.wrap_i64]; omega
      have w3 : IntKind.i64.wrap (1 + pr) = 1 + pr := by rw [IntKind.wrap_i64]; omega
      have HPR := Aside0.mk hpr
      clear hpr hpb
      go_wp2
      (try rw [Exit.noGoto_ret])
      go_ret
      rw [HHB.out, HPR.out]
      exact ⟨rfl, Below.refl _ _⟩
    · obtain ⟨z, hz⟩ : ∃ z : Int, (m : Int) = z := ⟨_, rfl⟩
      have hd3 : (z == 1) = false := beq_eq_false_iff_ne.mpr (by omega)
      obtain ⟨z2, hz2⟩ : ∃ q : Nat, m - m / 2 = q := ⟨_, rfl⟩
      have hz0 : 0 ≤ z := by omega
      have w1 : IntKind.i64.wrap (z - z / 2) = (z2 : Int) := by rw [IntKind.wrap_i64]; omega
      have w2 : IntKind.i64.wrap ((h : Int) + 1) = ((h + 1 : Nat) : Int) := by rw [IntKind.wrap_i64]; have := HH.out; have := HNE.out; omega
      have HZ := Aside0.mk (And.intro hz hz2)
      have ht : z.tdiv 2 = z / 2 := Int.tdiv_eq_ediv_of_nonneg hz0
      have w0 : IntKind.i64.wrap (z / 2) = z / 2 := by rw [IntKind.wrap_i64]; omega
      have w0' : wrap64 (z / 2) = z / 2 := by rw [← i64_w]; exact w0
      have w1' : wrap64 (z - z / 2) = (z2 : Int) := by rw [← i64_w]; exact w1
      rw [hz]
      clear hz hz2 hh hhk
      go_wp2
      go_roundw
      case rel =>
        obtain ⟨k, rfl⟩ : ∃ q, k = q + 1 := ⟨k - 1, by omega⟩
        have e := HH.out
        rw [halv_step k m (by omega) hmk, HZ.out.2] at e
        refine ⟨z2, h + 1, k, by first | rfl | (simp only [ht, w0', w1']), by first | rfl | (simp; done), by have := HZ.out.2; omega, by have := HZ.out.2; omega, by have := HZ.out.2; omega, by omega, by first | rfl | trivial⟩
      case measure =>
        have := HZ.out
        simp only [intOf, ht, w0', w1']
        omega
end Go.Proofs.Ytnfglkgkdechlaa

namespace Go.Proofs.Ytnfglkgkdechlaa.PQ
open Go.RowKit Go.Proofs.YtnfglkgkdechlaaW.PrintWords Go.Proofs.YtnfglkgkdechlaaW.PrintLast Go.Proofs.YtnfglkgkdechlaaW.PrintMore
attribute [local go_sem] max2_int min2_int max_two min_two max_three min_three max_four min_four   -- for this text's walks alone
set_option linter.unusedVariables false
set_option linter.unusedSimpArgs false

attribute [local go_sem high] eqA52

/-! ### mootbellref07_in: function 31 -/
def mootbellref07_in.l0 : Nat → List (S52) → Int → Int → Int → Option (Bool)
  | 0, _, _, _, _ => none
  | k + 1, x0, x5, x123000, x123001 => if x5 < (x0.length : Int) then (if 0 ≤ x5 then (if (((rd_T52 x0 x5).f0) == x123000 && (((rd_T52 x0 x5).f1) == x123001)) = true then (some true) else (mootbellref07_in.l0 k x0 (wrap64 (x5 + 1)) x123000 x123001)) else (none)) else (some false)
def mootbellref07_in.f (k : Nat) (l0 : List (S52)) (a1_0 : Int) (a1_1 : Int) : Option (Bool) := mootbellref07_in.l0 k l0 0 a1_0 a1_1
theorem mootbellref07_in.mono_l : ∀ k, (∀ y0 y1 y2 y3, LeO (mootbellref07_in.l0 k y0 y1 y2 y3) (mootbellref07_in.l0 (k + 1) y0 y1 y2 y3))
  | 0 => fun _ _ _ _ r h => by simp [mootbellref07_in.l0] at h
  | k + 1 => by
    have ih0 := mootbellref07_in.mono_l k
    · intro y0 y1 y2 y3
      unfold mootbellref07_in.l0
      repeat' first
      | (with_reducible exact ih0 _ _ _ _)
      | (with_reducible exact LeO.refl _)
      | (with_reducible exact LeO.none _)
      | (with_reducible refine LeO.ite ?_ ?_)
      | (with_reducible refine LeO.bind ?_ (fun _ => ?_))
      | exact ih0 _ _ _ _
      | exact LeO.none _
      | refine LeO.ite ?_ ?_
      | refine LeO.bind ?_ (fun _ => ?_)
theorem mootbellref07_in.mono : ∀ a0 a1 a2 k, LeO (mootbellref07_in.f k a0 a1 a2) (mootbellref07_in.f (k + 1) a0 a1 a2) := by
  intro a0 a1 a2 k
  have ih0 := mootbellref07_in.mono_l k
  unfold mootbellref07_in.f
  repeat' first
      | (with_reducible exact ih0 _ _ _ _)
      | (with_reducible exact LeO.refl _)
      | (with_reducible exact LeO.none _)
      | (with_reducible refine LeO.ite ?_ ?_)
      | (with_reducible refine LeO.bind ?_ (fun _ => ?_))
      | exact ih0 _ _ _ _
      | exact LeO.none _
      | refine LeO.ite ?_ ?_
      | refine LeO.bind ?_ (fun _ => ?_)
set_option maxHeartbeats 8000000 in
set_option maxRecDepth 100000 in
theorem mootbellref07_in.calls (k : Nat) (A0 : Option Addr) (c0 : Nat) (l0 : List (S52)) (a1_0 : Int) (a1_1 : Int) (r : Bool) (w : World) (hr0 : Kd.C k52 w A0 l0.length l0) (hc0 : l0.length ≤ c0) (h : mootbellref07_in.f k l0 a1_0 a1_1 = some r) :
    Calls Try.prog 31 #[.slice A0 l0.length c0, .agg #[.int .u64 a1_0, .int .u64 a1_1]] w fun e w' => e = .returned (.bool r) ∧ Below w.heap.size w w' := by
  have hu52 := Try.underlying52
  have HR0 := Aside0.mk hr0
  have HC0 := Aside0.mk hc0
  clear hr0 hc0
  have HB := Aside0.mk (Below.refl w.heap.size w)
  have H : (mootbellref07_in.l0 k l0 0 a1_0 a1_1) = some r := h
  clear h
  have H' := Aside0.mk H
  clear H
  go_enter Try.func31, Try.ntmps31
  go_wp2_with (first | ((with_reducible refine gate_dst (N := 3) rfl ?_); refine box_event ?hg (N := 3) ?hd (cs := #[.int .u64 a1_0, .int .u64 a1_1]) (t := 52) ?hr ?_; (case hd => rfl); (case hg => rfl); (case hr => first | (go_simp; done) | (go_simp; rfl)); intro gb122 hg w3 hbox hb; have n0_ := Aside0.mk (below_step (by repeat (first | (with_reducible first | exact HB.out | apply below_alloc | apply pw_below_drewN | apply below_drew1) | exact HB.out)) hb); have n1_ := Aside0.mk (hbox); have n2_ := Aside0.mk ((by rw [hg]; exact (below_size (by repeat (first | (with_reducible first | exact HB.out | apply below_alloc | apply pw_below_drewN | apply below_drew1) | exact HB.out))) : w.heap.size ≤ gb122)); have n3_ := Aside0.mk ((by rw [hg]; exact (below_size (by repeat (first | (with_reducible first | exact HB.out | apply below_alloc | apply pw_below_drewN | apply below_drew1) | exact HB.out))) : w.heap.size ≤ gb122)); clear HB; have HB := n0_; have BK122 := n1_; have GW122 := n2_; have GE122 := n3_; clear n0_ n1_ n2_ n3_; clear hb hbox hg))
  repeat (go_quiet (first | ((with_reducible refine gate_dst (N := 3) rfl ?_); refine box_event ?hg (N := 3) ?hd (cs := #[.int .u64 a1_0, .int .u64 a1_1]) (t := 52) ?hr ?_; (case hd => rfl); (case hg => rfl); (case hr => first | (go_simp; done) | (go_simp; rfl)); intro gb122 hg w3 hbox hb; have n0_ := Aside0.mk (below_step (by repeat (first | (with_reducible first | exact HB.out | apply below_alloc | apply pw_below_drewN | apply below_drew1) | exact HB.out)) hb); have n1_ := Aside0.mk (hbox); have n2_ := Aside0.mk ((by rw [hg]; exact (below_size (by repeat (first | (with_reducible first | exact HB.out | apply below_alloc | apply pw_below_drewN | apply below_drew1) | exact HB.out))) : w.heap.size ≤ gb122)); have n3_ := Aside0.mk ((by rw [hg]; exact (below_size (by repeat (first | (with_reducible first | exact HB.out | apply below_alloc | apply pw_below_drewN | apply below_drew1) | exact HB.out))) : w.heap.size ≤ gb122)); clear HB; have HB := n0_; have BK122 := n1_; have GW122 := n2_; have GE122 := n3_; clear n0_ n1_ n2_ n3_; clear hb hbox hg)); try go_wp2_with (first | ((with_reducible refine gate_dst (N := 3) rfl ?_); refine box_event ?hg (N := 3) ?hd (cs := #[.int .u64 a1_0, .int .u64 a1_1]) (t := 52) ?hr ?_; (case hd => rfl); (case hg => rfl); (case hr => first | (go_simp; done) | (go_simp; rfl)); intro gb122 hg w3 hbox hb; have n0_ := Aside0.mk (below_step (by repeat (first | (with_reducible first | exact HB.out | apply below_alloc | apply pw_below_drewN | apply below_drew1) | exact HB.out)) hb); have n1_ := Aside0.mk (hbox); have n2_ := Aside0.mk ((by rw [hg]; exact (below_size (by repeat (first | (with_reducible first | exact HB.out | apply below_alloc | apply pw_below_drewN | apply below_drew1) | exact HB.out))) : w.heap.size ≤ gb122)); have n3_ := Aside0.mk ((by rw [hg]; exact (below_size (by repeat (first | (with_reducible first | exact HB.out | apply below_alloc | apply pw_below_drewN | apply below_drew1) | exact HB.out))) : w.heap.size ≤ gb122)); clear HB; have HB := n0_; have BK122 := n1_; have GW122 := n2_; have GE122 := n3_; clear n0_ n1_ n2_ n3_; clear hb hbox hg)))
  go_loopg [5] k (fun kq v5 w' => ∃ (x5_1 : Int), v5 = .int .i64 x5_1 ∧ Aside0 (mootbellref07_in.l0 kq l0 x5_1 a1_0 a1_1 = some r) ∧ Aside0 (kq ≤ k) ∧ Aside0 (w'.heap[gb122]? = some (.cells #[.int .u64 a1_0, .int .u64 a1_1] 52 (0, 0))) ∧ Aside0 (Below w.heap.size w w'))
  case atStart => exact ⟨(0), (by first | rfl | (simp; done) | (simp [*]; done)), H', ⟨Nat.le_refl _⟩, ⟨by (with_reducible repeat (first | refine blk_drewN ?_ _ | refine blk_drew ?_ | refine blk_alloc ?_ _)); exact BK122.out⟩, ⟨by repeat (first | (with_reducible first | exact HB.out | apply below_alloc | apply pw_below_drewN | apply below_drew1 | refine below_set ?_ GE122.out) | exact HB.out)⟩⟩
  case round =>
    clear H'
    try clear p2
    try clear c3
    obtain ⟨x5_1, rfl, HA, HK1, BK122, HB⟩ := hrel
    cases gk with
    | zero => exact absurd HA.out (by simp [mootbellref07_in.l0])
    | succ k1 =>
      have H := HA.out
      clear HA
      simp only [mootbellref07_in.l0] at H
      by_cases c4 : x5_1 < (l0.length : Int)
      · rw [if_pos c4] at H
        have c4b0 : decide (x5_1 < (l0.length : Int)) = true := decide_eq_true c4
        clear c4
        by_cases c5 : 0 ≤ x5_1
        · rw [if_pos c5] at H
          have c5b0 : decide (0 ≤ x5_1) = true := decide_eq_true c5
          clear c5
          by_cases c6 : (((rd_T52 l0 x5_1).f0) == a1_0 && (((rd_T52 l0 x5_1).f1) == a1_1)) = true
          · rw [if_pos c6] at H
            have c6b0 : (((rd_T52 l0 x5_1).f0) == a1_0 && (((rd_T52 l0 x5_1).f1) == a1_1)) = true := c6
            (try (have c6b1 : decide (((rd_T52 l0 x5_1).f0) = a1_0 && (((rd_T52 l0 x5_1).f1) == a1_1)) = true := by simpa using c6))
            (try (have c6b2 : (((rd_T52 l0 x5_1).f0) == a1_0 && (((rd_T52 l0 x5_1).f1) == a1_1)) = true := by simpa using c6))
            clear c6
            obtain rfl := Option.some.inj H
            have p123 : 0 ≤ (x5_1 : Int) := of_decide_eq_true (by first | (with_reducible assumption) | assumption)
            have q123 : x5_1 < (l0.length : Int) := of_decide_eq_true (by first | (with_reducible assumption) | assumption)
            obtain ⟨ad123, e123, hx123_0, hx123_1⟩ := at_T52 HR0.out x5_1 p123 q123
            cases e123
            replace hx123_0 := (HB.out.cell (World.block_lt_of_cell? w _ hx123_0)).trans hx123_0
            replace hx123_1 := (HB.out.cell (World.block_lt_of_cell? w _ hx123_1)).trans hx123_1
            replace p123 := eq_true p123
            replace q123 := eq_true q123
            have hcz7_0 : wr.cell? ⟨gb122, 0, none⟩ = some (.int .u64 a1_0) := (blk_cell BK122.out 0).trans rfl
            have hcz7_1 : wr.cell? ⟨gb122, 1, none⟩ = some (.int .u64 a1_1) := (blk_cell BK122.out 1).trans rfl
            have hfz7_0 := blk_frozen BK122.out 0
            have hfz7_1 := blk_frozen BK122.out 1
            go_wp2
            repeat (go_quiet (fail); try go_wp2)
            go_ret
            exact ⟨by first | rfl | (simp [errW_none, errW_some] <;> rfl) | (simp [*, errW_none, errW_some] <;> rfl), by repeat (first | (with_reducible first | exact HB.out | apply below_alloc | apply pw_below_drewN | apply below_drew1 | refine below_set ?_ GE122.out) | exact HB.out)⟩
          · rw [if_neg c6] at H
            have c6b0 : (((rd_T52 l0 x5_1).f0) == a1_0 && (((rd_T52 l0 x5_1).f1) == a1_1)) = false := by simpa using c6
            (try (have c6b1 : decide (((rd_T52 l0 x5_1).f0) = a1_0 && (((rd_T52 l0 x5_1).f1) == a1_1)) = false := by simpa using c6))
            (try (have c6b2 : (((rd_T52 l0 x5_1).f0) == a1_0 && (((rd_T52 l0 x5_1).f1) == a1_1)) = false := by simpa using c6))
            (try (have c6b3 : ¬ (((rd_T52 l0 x5_1).f0) = a1_0 && (((rd_T52 l0 x5_1).f1) == a1_1)) := by simpa using c6))
            clear c6
            have H' := Aside0.mk H
            clear H
            have p123 : 0 ≤ (x5_1 : Int) := of_decide_eq_true (by first | (with_reducible assumption) | assumption)
            have q123 : x5_1 < (l0.length : Int) := of_decide_eq_true (by first | (with_reducible assumption) | assumption)
            obtain ⟨ad123, e123, hx123_0, hx123_1⟩ := at_T52 HR0.out x5_1 p123 q123
            cases e123
            replace hx123_0 := (HB.out.cell (World.block_lt_of_cell? w _ hx123_0)).trans hx123_0
            replace hx123_1 := (HB.out.cell (World.block_lt_of_cell? w _ hx123_1)).trans hx123_1
            replace p123 := eq_true p123
            replace q123 := eq_true q123
            have hcz8_0 : wr.cell? ⟨gb122, 0, none⟩ = some (.int .u64 a1_0) := (blk_cell BK122.out 0).trans rfl
            have hcz8_1 : wr.cell? ⟨gb122, 1, none⟩ = some (.int .u64 a1_1) := (blk_cell BK122.out 1).trans rfl
            have hfz8_0 := blk_frozen BK122.out 0
            have hfz8_1 := blk_frozen BK122.out 1
            go_wp2
            repeat (go_quiet (fail); try go_wp2)
            go_roundg k1
            case measure => have := HK1.out; omega
            case rel => exact ⟨(wrap64 (x5_1 + 1)), (by first | rfl | (simp; done) | (simp [*]; done)), H', ⟨by have := HK1.out; omega⟩, ⟨by (with_reducible repeat (first | refine blk_drewN ?_ _ | refine blk_drew ?_ | refine blk_alloc ?_ _)); exact BK122.out⟩, ⟨by repeat (first | (with_reducible first | exact HB.out | apply below_alloc | apply pw_below_drewN | apply below_drew1 | refine below_set ?_ GE122.out) | exact HB.out)⟩⟩
        · rw [if_neg c5] at H
          exact absurd H (by simp)
      · rw [if_neg c4] at H
        have c4b0 : decide (x5_1 < (l0.length : Int)) = false := decide_eq_false c4
        clear c4
        obtain rfl := Option.some.inj H
        go_wp2
        repeat (go_quiet (fail); try go_wp2)
        go_ret
        exact ⟨by first | rfl | (simp [errW_none, errW_some] <;> rfl) | (simp [*, errW_none, errW_some] <;> rfl), by repeat (first | (with_reducible first | exact HB.out | apply below_alloc | apply pw_below_drewN | apply below_drew1 | refine below_set ?_ GE122.out) | exact HB.out)⟩
end Go.Proofs.Ytnfglkgkdechlaa.PQ

namespace Go.Proofs.Ytnfglkgkdechlaa.PQ
open Go.RowKit Go.Proofs.YtnfglkgkdechlaaW.PrintWords Go.Proofs.YtnfglkgkdechlaaW.PrintLast Go.Proofs.YtnfglkgkdechlaaW.PrintMore
attribute [local go_sem] max2_int min2_int max_two min_two max_three min_three max_four min_four   -- for this text's walks alone
set_option linter.unusedVariables false
set_option linter.unusedSimpArgs false

attribute [local go_sem high] eqA52

/-! ### mootbellref07_Right: function 30 -/
def mootbellref07_Right.l0 : Nat → List (S52) → Int → Option (Bool)
  | 0, _, _ => none
  | k + 1, x0, x3 => if x3 < (x0.length : Int) then (if 0 ≤ (wrap64 (x3 - 1)) then (if (wrap64 (x3 - 1)) < (x0.length : Int) then (if 0 ≤ x3 then ((mootbellref05_Ahead.f ((rd_T52 x0 (wrap64 (x3 - 1))).f0) ((rd_T52 x0 (wrap64 (x3 - 1))).f1) ((rd_T52 x0 x3).f0) ((rd_T52 x0 x3).f1)).bind fun t121 => (if t121 = true then (mootbellref07_Right.l0 k x0 (wrap64 (x3 + 1))) else (some false))) else (none)) else (none)) else (none)) else (some (decide ((x0.length : Int) ≤ 4096)))
def mootbellref07_Right.f (k : Nat) (l0 : List (S52)) : Option (Bool) := mootbellref07_Right.l0 k l0 1
theorem mootbellref07_Right.mono_l : ∀ k, (∀ y0 y1, LeO (mootbellref07_Right.l0 k y0 y1) (mootbellref07_Right.l0 (k + 1) y0 y1))
  | 0 => fun _ _ r h => by simp [mootbellref07_Right.l0] at h
  | k + 1 => by
    have ih0 := mootbellref07_Right.mono_l k
    · intro y0 y1
      unfold mootbellref07_Right.l0
      repeat' first
      | (with_reducible exact ih0 _ _)
      | (with_reducible exact LeO.refl _)
      | (with_reducible exact LeO.none _)
      | (with_reducible refine LeO.ite ?_ ?_)
      | (with_reducible refine LeO.bind ?_ (fun _ => ?_))
      | exact ih0 _ _
      | exact LeO.none _
      | refine LeO.ite ?_ ?_
      | refine LeO.bind ?_ (fun _ => ?_)
theorem mootbellref07_Right.mono : ∀ a0 k, LeO (mootbellref07_Right.f k a0) (mootbellref07_Right.f (k + 1) a0) := by
  intro a0 k
  have ih0 := mootbellref07_Right.mono_l k
  unfold mootbellref07_Right.f
  repeat' first
      | (with_reducible exact ih0 _ _)
      | (with_reducible exact LeO.refl _)
      | (with_reducible exact LeO.none _)
      | (with_reducible refine LeO.ite ?_ ?_)
      | (with_reducible refine LeO.bind ?_ (fun _ => ?_))
      | exact ih0 _ _
      | exact LeO.none _
      | refine LeO.ite ?_ ?_
      | refine LeO.bind ?_ (fun _ => ?_)
def mootbellref07_Right.T4 : Bool × List (List Nat × List Nat) := (true, [([], []), ([], []), ([1], [1]), ([0, 2], [0, 2]), ([3], [3]), ([], []), ([], []), ([5, 6], [5, 6]), ([7], [7]), ([4, 8], [4, 8]), ([9, 9, 0, 1, 2, 3, 4, 5, 6, 7, 8, 9], [9])])
def mootbellref07_Right.B4 : List Nat := [0, 0, 2, 7, 15, 0, 0, 96, 224, 511, 1023]
theorem mootbellref07_Right.tab4 : rtab .any (opsOf Try.f30 4) = mootbellref07_Right.T4 := by kernel_rfl
theorem mootbellref07_Right.bits4 : waitsOk mootbellref07_Right.T4.2 mootbellref07_Right.B4 = true := by kernel_rfl
set_option maxHeartbeats 8000000 in
set_option maxRecDepth 100000 in
theorem mootbellref07_Right.calls (k : Nat) (A0 : Option Addr) (c0 : Nat) (l0 : List (S52)) (r : Bool) (w : World) (hr0 : Kd.C k52 w A0 l0.length l0) (hc0 : l0.length ≤ c0) (h : mootbellref07_Right.f k l0 = some r) :
    Calls Try.prog 30 #[.slice A0 l0.length c0] w fun e w' => e = .returned (.bool r) ∧ Below w.heap.size w w' := by
  have hu52 := Try.underlying52
  have HR0 := Aside0.mk hr0
  have HC0 := Aside0.mk hc0
  clear hr0 hc0
  have HB := Aside0.mk (Below.refl w.heap.size w)
  have H : (mootbellref07_Right.l0 k l0 1) = some r := h
  clear h
  have H' := Aside0.mk H
  clear H
  go_enter Try.func30, Try.ntmps30
  go_wp2
  go_loopg [3] k (fun kq v3 w' => ∃ (x3_1 : Int), v3 = .int .i64 x3_1 ∧ Aside0 (mootbellref07_Right.l0 kq l0 x3_1 = some r) ∧ Aside0 (kq ≤ k) ∧ Aside0 (Below w.heap.size w w'))
  case atStart => exact ⟨(1), (by first | rfl | (simp; done) | (simp [*]; done)), H', ⟨Nat.le_refl _⟩, ⟨by repeat (first | (with_reducible first | exact HB.out | apply below_alloc | apply pw_below_drewN | apply below_drew1) | exact HB.out)⟩⟩
  case round =>
    clear H'
    obtain ⟨x3_1, rfl, HA, HK1, HB⟩ := hrel
    cases gk with
    | zero => exact absurd HA.out (by simp [mootbellref07_Right.l0])
    | succ k1 =>
      have H := HA.out
      clear HA
      simp only [mootbellref07_Right.l0] at H
      by_cases c2 : x3_1 < (l0.length : Int)
      · rw [if_pos c2] at H
        have c2b0 : decide (x3_1 < (l0.length : Int)) = true := decide_eq_true c2
        clear c2
        obtain ⟨ji3, hji3⟩ : ∃ j_ : Int, (wrap64 (x3_1 - 1)) = j_ := ⟨_, rfl⟩
        replace H : (if 0 ≤ (ji3) then (if (ji3) < (l0.length : Int) then (if 0 ≤ x3_1 then ((mootbellref05_Ahead.f ((rd_T52 l0 (ji3)).f0) ((rd_T52 l0 (ji3)).f1) ((rd_T52 l0 x3_1).f0) ((rd_T52 l0 x3_1).f1)).bind fun t121 => (if t121 = true then (mootbellref07_Right.l0 k1 l0 (wrap64 (x3_1 + 1))) else (some false))) else (none)) else (none)) else (none)) = some r := by first | (rw [hji3] at H; exact H) | (simp only [hji3] at H ⊢; exact H)
        have hji3w : (IntKind.i64.wrap (x3_1 - 1)) = ji3 := (i64_w _).trans hji3
        by_cases c4 : 0 ≤ (ji3)
        · rw [if_pos c4] at H
          have c4b0 : decide (0 ≤ (ji3)) = true := decide_eq_true c4
          clear c4
          by_cases c5 : (ji3) < (l0.length : Int)
          · rw [if_pos c5] at H
            have c5b0 : decide ((ji3) < (l0.length : Int)) = true := decide_eq_true c5
            clear c5
            by_cases c6 : 0 ≤ x3_1
            · rw [if_pos c6] at H
              have c6b0 : decide (0 ≤ x3_1) = true := decide_eq_true c6
              clear c6
              replace H := Option.bind_eq_some_iff.mp H
              obtain ⟨t121, A70, H⟩ := H
              replace H : (if t121 = true then (mootbellref07_Right.l0 k1 l0 (wrap64 (x3_1 + 1))) else (some false)) = some r := H
              have A7 := Aside0.mk A70
              clear A70
              by_cases c8 : t121 = true
              · subst c8
                have H1 : (mootbellref07_Right.l0 k1 l0 (wrap64 (x3_1 + 1))) = some r := by rw [if_pos rfl] at H; exact H
                clear H
                have H := H1
                clear H1
                have H' := Aside0.mk H
                clear H
                try go_wp2
                have n0_ := Aside0.mk (below_drew1 HB.out)
                clear HB
                have HB := n0_
                clear n0_
                have p119 : 0 ≤ ((ji3) : Int) := of_decide_eq_true (by first | (with_reducible assumption) | assumption)
                have q119 : (ji3) < (l0.length : Int) := of_decide_eq_true (by first | (with_reducible assumption) | assumption)
                obtain ⟨ad119, e119, hx119_0, hx119_1⟩ := at_T52 HR0.out (ji3) p119 q119
                have hw119_1 := hx119_1
                have hw119_0 := hx119_0
                cases e119
                replace hx119_0 := (HB.out.cell (World.block_lt_of_cell? w _ hx119_0)).trans hx119_0
                replace hx119_1 := (HB.out.cell (World.block_lt_of_cell? w _ hx119_1)).trans hx119_1
                replace p119 := eq_true p119
                replace q119 := eq_true q119
                have p120 : 0 ≤ (x3_1 : Int) := of_decide_eq_true (by first | (with_reducible assumption) | assumption)
                have q120 : x3_1 < (l0.length : Int) := of_decide_eq_true (by first | (with_reducible assumption) | assumption)
                obtain ⟨ad120, e120, hx120_0, hx120_1⟩ := at_T52 HR0.out x3_1 p120 q120
                have hw120_1 := hx120_1
                have hw120_0 := hx120_0
                obtain rfl : ad119 = ad120 := (by injection e120)
                replace hx120_0 := (HB.out.cell (World.block_lt_of_cell? w _ hx120_0)).trans hx120_0
                replace hx120_1 := (HB.out.cell (World.block_lt_of_cell? w _ hx120_1)).trans hx120_1
                replace p120 := eq_true p120
                replace q120 := eq_true q120
                refine start_ (n := 11) (S := fun w' => w'.cell? (ad119.add (((ji3)).toNat * 2)) = some (.int .u64 ((rd_T52 l0 (ji3)).f0)) ∧ w'.cell? ⟨(ad119.add (((ji3)).toNat * 2)).block, (ad119.add (((ji3)).toNat * 2)).off + 1, none⟩ = some (.int .u64 ((rd_T52 l0 (ji3)).f1)) ∧ w'.cell? (ad119.add ((x3_1).toNat * 2)) = some (.int .u64 ((rd_T52 l0 x3_1).f0)) ∧ w'.cell? ⟨(ad119.add ((x3_1).toNat * 2)).block, (ad119.add ((x3_1).toNat * 2)).off + 1, none⟩ = some (.int .u64 ((rd_T52 l0 x3_1).f1))) (ds := []) #[false, false, false, false, false, false, false, false, false, false, false] (by kernel_rfl) rfl rfl ⟨((HB.out.cell (World.block_lt_of_cell? w _ hw119_0)).trans hw119_0), ((HB.out.cell (World.block_lt_of_cell? w _ hw119_1)).trans hw119_1), ((HB.out.cell (World.block_lt_of_cell? w _ hw120_0)).trans hw120_0), ((HB.out.cell (World.block_lt_of_cell? w _ hw120_1)).trans hw120_1)⟩ (fun hHeld => ?_); refine with_tabW mootbellref07_Right.tab4 mootbellref07_Right.bits4 (fun HT_ HW_ => ?_)
                generalize wr.drew = w9 at HB hx119_0 hx119_1 hx120_0 hx120_1 hHeld ⊢
                refine pure_ (i := 0) (N := some 11) (v := ?_) (a' := ?_) #[true, false, false, false, false, false, false, false, false, false, false] rfl rfl (any_of HT_.out (by kernel_rfl)) (fun _ _ _ h => h) (Or.inl ⟨by rfl, ?_⟩) ?_ ?_
                rotate_left
                · intro w'
                  go_simp
                  with_reducible rfl
                rotate_left
                · simp only [Act.put, List.setIfInBounds_toArray, List.set_cons_zero, List.set_cons_succ, i64_w, i32_w]
                  rfl
                refine pure_ (i := 1) (N := some 12) (v := ?_) (a' := ?_) #[true, true, false, false, false, false, false, false, false, false, false] rfl rfl (any_of HT_.out (by kernel_rfl)) (fun _ _ _ h => h) (Or.inl ⟨by rfl, ?_⟩) ?_ ?_
                rotate_left
                · intro w'
                  go_simp
                  with_reducible rfl
                rotate_left
                · simp only [Act.put, List.setIfInBounds_toArray, List.set_cons_zero, List.set_cons_succ, i64_w, i32_w]
                  rfl
                refine pure_ (i := 2) (N := some 13) (v := ?_) (a' := ?_) #[true, true, true, false, false, false, false, false, false, false, false] rfl rfl (any_of HT_.out (by kernel_rfl)) (fun _ _ _ h => h) (Or.inl ⟨by rfl, ?_⟩) ?_ ?_
                rotate_left
                · intro w'
                  go_simp
                  with_reducible rfl
                rotate_left
                · simp only [Act.put, List.setIfInBounds_toArray, List.set_cons_zero, List.set_cons_succ, i64_w, i32_w]
                  rfl
                refine pure_ (i := 3) (N := some 14) (v := ?_) (a' := ?_) #[true, true, true, true, false, false, false, false, false, false, false] rfl rfl (any_of HT_.out (by kernel_rfl)) (fun _ _ _ h => h) (Or.inl ⟨by rfl, ?_⟩) ?_ ?_
                rotate_left
                · intro w'
                  go_simp
                  with_reducible rfl
                rotate_left
                · simp only [Act.put, List.setIfInBounds_toArray, List.set_cons_zero, List.set_cons_succ, i64_w, i32_w]
                  rfl
                refine pure_ (i := 5) (N := some 16) (v := ?_) (a' := ?_) #[true, true, true, true, false, true, false, false, false, false, false] rfl rfl (any_of HT_.out (by kernel_rfl)) (fun _ _ _ h => h) (Or.inl ⟨by rfl, ?_⟩) ?_ ?_
                rotate_left
                · intro w'
                  go_simp
                  with_reducible rfl
                rotate_left
                · simp only [Act.put, List.setIfInBounds_toArray, List.set_cons_zero, List.set_cons_succ, i64_w, i32_w]
                  rfl
                refine pure_ (i := 6) (N := some 17) (v := ?_) (a' := ?_) #[true, true, true, true, false, true, true, false, false, false, false] rfl rfl (any_of HT_.out (by kernel_rfl)) (fun _ _ _ h => h) (Or.inl ⟨by rfl, ?_⟩) ?_ ?_
                rotate_left
                · intro w'
                  go_simp
                  with_reducible rfl
                rotate_left
                · simp only [Act.put, List.setIfInBounds_toArray, List.set_cons_zero, List.set_cons_succ, i64_w, i32_w]
                  rfl
                refine pure_ (i := 7) (N := some 18) (v := ?_) (a' := ?_) #[true, true, true, true, false, true, true, true, false, false, false] rfl rfl (any_of HT_.out (by kernel_rfl)) (fun _ _ _ h => h) (Or.inl ⟨by rfl, ?_⟩) ?_ ?_
                rotate_left
                · intro w'
                  go_simp
                  with_reducible rfl
                rotate_left
                · simp only [Act.put, List.setIfInBounds_toArray, List.set_cons_zero, List.set_cons_succ, i64_w, i32_w]
                  rfl
                refine take_ (i := 4) (N := some 15) (v := ?_) (a' := ?_) #[true, true, true, true, true, true, true, true, false, false, false] rfl rfl (take_ofW HT_.out HW_.out (by kernel_rfl)) (fun _ _ _ h => h) (Or.inl ⟨by rfl, ?_⟩) hHeld ?_ ?_
                rotate_left
                · rintro w' ⟨s0, s1, s2, s3⟩
                  go_simp
                  with_reducible rfl
                rotate_left
                · simp only [Act.put, List.setIfInBounds_toArray, List.set_cons_zero, List.set_cons_succ, i64_w, i32_w]
                  rfl
                refine take_ (i := 8) (N := some 19) (v := ?_) (a' := ?_) #[true, true, true, true, true, true, true, true, true, false, false] rfl rfl (take_ofW HT_.out HW_.out (by kernel_rfl)) (fun _ _ _ h => h) (Or.inl ⟨by rfl, ?_⟩) hHeld ?_ ?_
                rotate_left
                · rintro w' ⟨s0, s1, s2, s3⟩
                  go_simp
                  with_reducible rfl
                rotate_left
                · simp only [Act.put, List.setIfInBounds_toArray, List.set_cons_zero, List.set_cons_succ, i64_w, i32_w]
                  rfl
                refine one_ (i := 9) (N := some 20) #[true, true, true, true, true, true, true, true, true, true, false] rfl rfl (one_of HT_.out (by kernel_rfl)) (by decide) (fun K hK => ?_)
                refine goes_ Try.func39 (by kernel_rfl) rfl #[.agg #[.int .u64 ((rd_T52 l0 (ji3)).f0), .int .u64 ((rd_T52 l0 (ji3)).f1)], .agg #[.int .u64 ((rd_T52 l0 x3_1).f0), .int .u64 ((rd_T52 l0 x3_1).f1)]] (by rfl) rfl rfl (by (try simp only [List.map_toArray, List.map_cons, List.map_nil]); first | done | (simp only [hji3]; rfl) | rfl | (simp only [List.length_drop, List.length_take]; rfl)) ?_
                with_reducible refine (mootbellref05_Ahead.calls ((rd_T52 l0 (ji3)).f0) ((rd_T52 l0 (ji3)).f1) ((rd_T52 l0 x3_1).f0) ((rd_T52 l0 x3_1).f1) true _ A7.out).mono ?_
                rintro e w10 ⟨rfl, hb⟩
                refine ⟨_, rfl, ?_⟩
                have n0_ := Aside0.mk (below_step (by repeat (first | (with_reducible first | exact HB.out | apply below_alloc | apply pw_below_drewN | apply below_drew1) | exact HB.out)) hb)
                clear HB
                have HB := n0_
                clear n0_
                (try clear hb)
                (try clear hb2)
                (try clear hk)
                (try clear hi)
                refine hK.out _ _ ⟨((HB.out.cell (World.block_lt_of_cell? w _ hw119_0)).trans hw119_0), ((HB.out.cell (World.block_lt_of_cell? w _ hw119_1)).trans hw119_1), ((HB.out.cell (World.block_lt_of_cell? w _ hw120_0)).trans hw120_0), ((HB.out.cell (World.block_lt_of_cell? w _ hw120_1)).trans hw120_1)⟩ (fun hHeld => ?_)
                clear hK K
                refine norm_ (a' := ?_) ?_ ?_
                rotate_left
                · show Act.put _ (some 20) _ = _
                  simp only [Act.put, List.setIfInBounds_toArray, List.set_cons_zero, List.set_cons_succ, i64_w, i32_w]
                  rfl
                refine pure_ (i := 10) (N := some 4) (v := ?_) (a' := ?_) #[true, true, true, true, true, true, true, true, true, true, true] rfl rfl (any_of HT_.out (by kernel_rfl)) (fun _ _ _ h => h) (Or.inl ⟨by rfl, ?_⟩) ?_ ?_
                rotate_left
                · intro w'
                  go_simp
                  with_reducible rfl
                rotate_left
                · simp only [Act.put, List.setIfInBounds_toArray, List.set_cons_zero, List.set_cons_succ, i64_w, i32_w]
                  rfl
                refine done_ (done_of HT_.out (by kernel_rfl)) ?_
                try go_wp2
                go_roundg k1
                case measure => have := HK1.out; omega
                case rel => exact ⟨(wrap64 (x3_1 + 1)), (by first | rfl | (simp; done) | (simp [*]; done)), H', ⟨by have := HK1.out; omega⟩, ⟨by repeat (first | (with_reducible first | exact HB.out | apply below_alloc | apply pw_below_drewN | apply below_drew1) | exact HB.out)⟩⟩
              · replace c8 := Bool.eq_false_iff.mpr c8
                subst c8
                have H1 : (some false) = some r := by rw [if_neg (show ¬ (false = true) by decide)] at H; exact H
                clear H
                have H := H1
                clear H1
                obtain rfl := Option.some.inj H
                try go_wp2
                have n0_ := Aside0.mk (below_drew1 HB.out)
                clear HB
                have HB := n0_
                clear n0_
                have p119 : 0 ≤ ((ji3) : Int) := of_decide_eq_true (by first | (with_reducible assumption) | assumption)
                have q119 : (ji3) < (l0.length : Int) := of_decide_eq_true (by first | (with_reducible assumption) | assumption)
                obtain ⟨ad119, e119, hx119_0, hx119_1⟩ := at_T52 HR0.out (ji3) p119 q119
                have hw119_1 := hx119_1
                have hw119_0 := hx119_0
                cases e119
                replace hx119_0 := (HB.out.cell (World.block_lt_of_cell? w _ hx119_0)).trans hx119_0
                replace hx119_1 := (HB.out.cell (World.block_lt_of_cell? w _ hx119_1)).trans hx119_1
                replace p119 := eq_true p119
                replace q119 := eq_true q119
                have p120 : 0 ≤ (x3_1 : Int) := of_decide_eq_true (by first | (with_reducible assumption) | assumption)
                have q120 : x3_1 < (l0.length : Int) := of_decide_eq_true (by first | (with_reducible assumption) | assumption)
                obtain ⟨ad120, e120, hx120_0, hx120_1⟩ := at_T52 HR0.out x3_1 p120 q120
                have hw120_1 := hx120_1
                have hw120_0 := hx120_0
                obtain rfl : ad119 = ad120 := (by injection e120)
                replace hx120_0 := (HB.out.cell (World.block_lt_of_cell? w _ hx120_0)).trans hx120_0
                replace hx120_1 := (HB.out.cell (World.block_lt_of_cell? w _ hx120_1)).trans hx120_1
                replace p120 := eq_true p120
                replace q120 := eq_true q120
                refine start_ (n := 11) (S := fun w' => w'.cell? (ad119.add (((ji3)).toNat * 2)) = some (.int .u64 ((rd_T52 l0 (ji3)).f0)) ∧ w'.cell? ⟨(ad119.add (((ji3)).toNat * 2)).block, (ad119.add (((ji3)).toNat * 2)).off + 1, none⟩ = some (.int .u64 ((rd_T52 l0 (ji3)).f1)) ∧ w'.cell? (ad119.add ((x3_1).toNat * 2)) = some (.int .u64 ((rd_T52 l0 x3_1).f0)) ∧ w'.cell? ⟨(ad119.add ((x3_1).toNat * 2)).block, (ad119.add ((x3_1).toNat * 2)).off + 1, none⟩ = some (.int .u64 ((rd_T52 l0 x3_1).f1))) (ds := []) #[false, false, false, false, false, false, false, false, false, false, false] (by kernel_rfl) rfl rfl ⟨((HB.out.cell (World.block_lt_of_cell? w _ hw119_0)).trans hw119_0), ((HB.out.cell (World.block_lt_of_cell? w _ hw119_1)).trans hw119_1), ((HB.out.cell (World.block_lt_of_cell? w _ hw120_0)).trans hw120_0), ((HB.out.cell (World.block_lt_of_cell? w _ hw120_1)).trans hw120_1)⟩ (fun hHeld => ?_); refine with_tabW mootbellref07_Right.tab4 mootbellref07_Right.bits4 (fun HT_ HW_ => ?_)
                generalize wr.drew = w11 at HB hx119_0 hx119_1 hx120_0 hx120_1 hHeld ⊢
                refine pure_ (i := 0) (N := some 11) (v := ?_) (a' := ?_) #[true, false, false, false, false, false, false, false, false, false, false] rfl rfl (any_of HT_.out (by kernel_rfl)) (fun _ _ _ h => h) (Or.inl ⟨by rfl, ?_⟩) ?_ ?_
                rotate_left
                · intro w'
                  go_simp
                  with_reducible rfl
                rotate_left
                · simp only [Act.put, List.setIfInBounds_toArray, List.set_cons_zero, List.set_cons_succ, i64_w, i32_w]
                  rfl
                refine pure_ (i := 1) (N := some 12) (v := ?_) (a' := ?_) #[true, true, false, false, false, false, false, false, false, false, false] rfl rfl (any_of HT_.out (by kernel_rfl)) (fun _ _ _ h => h) (Or.inl ⟨by rfl, ?_⟩) ?_ ?_
                rotate_left
                · intro w'
                  go_simp
                  with_reducible rfl
                rotate_left
                · simp only [Act.put, List.setIfInBounds_toArray, List.set_cons_zero, List.set_cons_succ, i64_w, i32_w]
                  rfl
                refine pure_ (i := 2) (N := some 13) (v := ?_) (a' := ?_) #[true, true, true, false, false, false, false, false, false, false, false] rfl rfl (any_of HT_.out (by kernel_rfl)) (fun _ _ _ h => h) (Or.inl ⟨by rfl, ?_⟩) ?_ ?_
                rotate_left
                · intro w'
                  go_simp
                  with_reducible rfl
                rotate_left
                · simp only [Act.put, List.setIfInBounds_toArray, List.set_cons_zero, List.set_cons_succ, i64_w, i32_w]
                  rfl
                refine pure_ (i := 3) (N := some 14) (v := ?_) (a' := ?_) #[true, true, true, true, false, false, false, false, false, false, false] rfl rfl (any_of HT_.out (by kernel_rfl)) (fun _ _ _ h => h) (Or.inl ⟨by rfl, ?_⟩) ?_ ?_
                rotate_left
                · intro w'
                  go_simp
                  with_reducible rfl
                rotate_left
                · simp only [Act.put, List.setIfInBounds_toArray, List.set_cons_zero, List.set_cons_succ, i64_w, i32_w]
                  rfl
                refine pure_ (i := 5) (N := some 16) (v := ?_) (a' := ?_) #[true, true, true, true, false, true, false, false, false, false, false] rfl rfl (any_of HT_.out (by kernel_rfl)) (fun _ _ _ h => h) (Or.inl ⟨by rfl, ?_⟩) ?_ ?_
                rotate_left
                · intro w'
                  go_simp
                  with_reducible rfl
                rotate_left
                · simp only [Act.put, List.setIfInBounds_toArray, List.set_cons_zero, List.set_cons_succ, i64_w, i32_w]
                  rfl
                refine pure_ (i := 6) (N := some 17) (v := ?_) (a' := ?_) #[true, true, true, true, false, true, true, false, false, false, false] rfl rfl (any_of HT_.out (by kernel_rfl)) (fun _ _ _ h => h) (Or.inl ⟨by rfl, ?_⟩) ?_ ?_
                rotate_left
                · intro w'
                  go_simp
                  with_reducible rfl
                rotate_left
                · simp only [Act.put, List.setIfInBounds_toArray, List.set_cons_zero, List.set_cons_succ, i64_w, i32_w]
                  rfl
                refine pure_ (i := 7) (N := some 18) (v := ?_) (a' := ?_) #[true, true, true, true, false, true, true, true, false, false, false] rfl rfl (any_of HT_.out (by kernel_rfl)) (fun _ _ _ h => h) (Or.inl ⟨by rfl, ?_⟩) ?_ ?_
                rotate_left
                · intro w'
                  go_simp
                  with_reducible rfl
                rotate_left
                · simp only [Act.put, List.setIfInBounds_toArray, List.set_cons_zero, List.set_cons_succ, i64_w, i32_w]
                  rfl
                refine take_ (i := 4) (N := some 15) (v := ?_) (a' := ?_) #[true, true, true, true, true, true, true, true, false, false, false] rfl rfl (take_ofW HT_.out HW_.out (by kernel_rfl)) (fun _ _ _ h => h) (Or.inl ⟨by rfl, ?_⟩) hHeld ?_ ?_
                rotate_left
                · rintro w' ⟨s0, s1, s2, s3⟩
                  go_simp
                  with_reducible rfl
                rotate_left
                · simp only [Act.put, List.setIfInBounds_toArray, List.set_cons_zero, List.set_cons_succ, i64_w, i32_w]
                  rfl
                refine take_ (i := 8) (N := some 19) (v := ?_) (a' := ?_) #[true, true, true, true, true, true, true, true, true, false, false] rfl rfl (take_ofW HT_.out HW_.out (by kernel_rfl)) (fun _ _ _ h => h) (Or.inl ⟨by rfl, ?_⟩) hHeld ?_ ?_
                rotate_left
                · rintro w' ⟨s0, s1, s2, s3⟩
                  go_simp
                  with_reducible rfl
                rotate_left
                · simp only [Act.put, List.setIfInBounds_toArray, List.set_cons_zero, List.set_cons_succ, i64_w, i32_w]
                  rfl
                refine one_ (i := 9) (N := some 20) #[true, true, true, true, true, true, true, true, true, true, false] rfl rfl (one_of HT_.out (by kernel_rfl)) (by decide) (fun K hK => ?_)
                refine goes_ Try.func39 (by kernel_rfl) rfl #[.agg #[.int .u64 ((rd_T52 l0 (ji3)).f0), .int .u64 ((rd_T52 l0 (ji3)).f1)], .agg #[.int .u64 ((rd_T52 l0 x3_1).f0), .int .u64 ((rd_T52 l0 x3_1).f1)]] (by rfl) rfl rfl (by (try simp only [List.map_toArray, List.map_cons, List.map_nil]); first | done | (simp only [hji3]; rfl) | rfl | (simp only [List.length_drop, List.length_take]; rfl)) ?_
                with_reducible refine (mootbellref05_Ahead.calls ((rd_T52 l0 (ji3)).f0) ((rd_T52 l0 (ji3)).f1) ((rd_T52 l0 x3_1).f0) ((rd_T52 l0 x3_1).f1) false _ A7.out).mono ?_
                rintro e w12 ⟨rfl, hb⟩
                refine ⟨_, rfl, ?_⟩
                have n0_ := Aside0.mk (below_step (by repeat (first | (with_reducible first | exact HB.out | apply below_alloc | apply pw_below_drewN | apply below_drew1) | exact HB.out)) hb)
                clear HB
                have HB := n0_
                clear n0_
                (try clear hb)
                (try clear hb2)
                (try clear hk)
                (try clear hi)
                refine hK.out _ _ ⟨((HB.out.cell (World.block_lt_of_cell? w _ hw119_0)).trans hw119_0), ((HB.out.cell (World.block_lt_of_cell? w _ hw119_1)).trans hw119_1), ((HB.out.cell (World.block_lt_of_cell? w _ hw120_0)).trans hw120_0), ((HB.out.cell (World.block_lt_of_cell? w _ hw120_1)).trans hw120_1)⟩ (fun hHeld => ?_)
                clear hK K
                refine norm_ (a' := ?_) ?_ ?_
                rotate_left
                · show Act.put _ (some 20) _ = _
                  simp only [Act.put, List.setIfInBounds_toArray, List.set_cons_zero, List.set_cons_succ, i64_w, i32_w]
                  rfl
                refine pure_ (i := 10) (N := some 4) (v := ?_) (a' := ?_) #[true, true, true, true, true, true, true, true, true, true, true] rfl rfl (any_of HT_.out (by kernel_rfl)) (fun _ _ _ h => h) (Or.inl ⟨by rfl, ?_⟩) ?_ ?_
                rotate_left
                · intro w'
                  go_simp
                  with_reducible rfl
                rotate_left
                · simp only [Act.put, List.setIfInBounds_toArray, List.set_cons_zero, List.set_cons_succ, i64_w, i32_w]
                  rfl
                refine done_ (done_of HT_.out (by kernel_rfl)) ?_
                try go_wp2
                go_ret
                exact ⟨by first | rfl | (simp [errW_none, errW_some] <;> rfl) | (simp only [← hji3]; first | rfl | (simp [errW_none, errW_some] <;> rfl)) | (simp [*, errW_none, errW_some] <;> rfl), by repeat (first | (with_reducible first | exact HB.out | apply below_alloc | apply pw_below_drewN | apply below_drew1) | exact HB.out)⟩
            · rw [if_neg c6] at H
              exact absurd H (by simp)
          · rw [if_neg c5] at H
            exact absurd H (by simp)
        · rw [if_neg c4] at H
          exact absurd H (by simp)
      · rw [if_neg c2] at H
        have c2b0 : decide (x3_1 < (l0.length : Int)) = false := decide_eq_false c2
        clear c2
        obtain rfl := Option.some.inj H
        go_wp2
        go_ret
        exact ⟨by first | rfl | (simp [errW_none, errW_some] <;> rfl) | (simp [*, errW_none, errW_some] <;> rfl), by repeat (first | (with_reducible first | exact HB.out | apply below_alloc | apply pw_below_drewN | apply below_drew1) | exact HB.out)⟩
end Go.Proofs.Ytnfglkgkdechlaa.PQ


/- A table with more pairs (chapter 7): the document's Add. -/
set_option linter.unusedVariables false
set_option linter.unusedSimpArgs false
namespace Go.Proofs.Ytnfglkgkdechlaa
open Go.RowKit Go.Proofs.YtnfglkgkdechlaaW.PrintWords Go.Proofs.YtnfglkgkdechlaaW.PrintLast Go.Proofs.YtnfglkgkdechlaaW.PrintMore

open Go.Proofs.Ytnfglkgkdechlaa.PQ

theorem rin_l (l : List Pr) (p : Pr) (hl : l.length ≤ 9223372036854775807) (r i k : Nat) (hr : i + r = l.length) (hk : r < k) : mootbellref07_in.l0 k l (i : Int) p.f0 p.f1 = some ((l.drop i).contains p) := by
  induction r generalizing i k with
  | zero =>
    obtain ⟨k, rfl⟩ : ∃ q, k = q + 1 := ⟨k - 1, by omega⟩
    rw [mootbellref07_in.l0, if_neg (by omega), List.drop_of_length_le (by omega)]
    rfl
  | succ r ih =>
    obtain ⟨k, rfl⟩ : ∃ q, k = q + 1 := ⟨k - 1, by omega⟩
    have hi : i < l.length := by omega
    have hrd := rdP_eq hi
    unfold rdP at hrd
    rw [mootbellref07_in.l0, if_pos (by omega), if_pos (by omega), hrd, List.drop_eq_getElem_cons hi, List.contains_cons]
    by_cases he : p = l[i]
    · subst he
      rw [if_pos (by simp)]
      simp
    · have hne : ¬ ((l[i].f0 == p.f0 && (l[i].f1 == p.f1)) = true) := by
        intro h
        simp at h
        exact he (pr_ext h.1.symm h.2.symm)
      rw [if_neg hne, In64_nat (by omega), ih (i + 1) k (by omega) (by omega)]
      congr 1
      simp [he]
theorem rinE (A : Option Addr) (n c : Nat) (l : List Pr) (p : Pr) (r : Bool) (w : World) (hA : kP.C w A n l) (hc : n ≤ c) (h : l.contains p = r) : Calls Try.prog 31 #[.slice A n c, .agg #[.int .u64 p.f0, .int .u64 p.f1]] w fun e w' => e = .returned (.bool r) ∧ Below w.heap.size w w' := by
  have hm := Kd.C_max hA
  obtain rfl := Kd.C_len hA
  refine mootbellref07_in.calls (l.length + 1) A c l p.f0 p.f1 r w hA hc ?_
  unfold mootbellref07_in.f
  have e := rin_l l p hm l.length 0 (l.length + 1) (by omega) (by omega)
  rw [List.drop_zero] at e
  rw [← h]
  exact e
theorem ahead_f (a b : Pr) : mootbellref05_Ahead.f a.f0 a.f1 b.f0 b.f1 = some (ltP a b) := by
  unfold mootbellref05_Ahead.f ltP
  split
  · rename_i h
    simp [h]
  · rename_i h
    split
    · rename_i h2
      congr 1
      simp [h2]
    · rename_i h2
      congr 1
      simp [h, h2]
theorem rright_l (l : List Pr) (hl : l.length ≤ 9223372036854775807) (r i k : Nat) (hi0 : 1 ≤ i) (hr : i + r = l.length) (hk : r + 1 ≤ k) :
    ((∀ j : Nat, i ≤ j + 1 → j + 1 < l.length → ltP (rdP l (j : Int)) (rdP l ((j + 1 : Nat) : Int)) = true) → mootbellref07_Right.l0 k l (i : Int) = some (decide ((l.length : Int) ≤ 4096))) ∧
    ((∃ j : Nat, i ≤ j + 1 ∧ j + 1 < l.length ∧ ltP (rdP l (j : Int)) (rdP l ((j + 1 : Nat) : Int)) = false) → mootbellref07_Right.l0 k l (i : Int) = some false) := by
  induction r generalizing i k with
  | zero =>
    obtain ⟨k, rfl⟩ : ∃ q, k = q + 1 := ⟨k - 1, by omega⟩
    refine ⟨fun _ => ?_, fun ⟨j, h1, h2, _⟩ => absurd h2 (by omega)⟩
    rw [mootbellref07_Right.l0, if_neg (by omega)]
  | succ r ih =>
    obtain ⟨k, rfl⟩ : ∃ q, k = q + 1 := ⟨k - 1, by omega⟩
    have ih' := ih (i + 1) k (by omega) (by omega) (by omega)
    have e1 : wrap64 ((i : Int) - 1) = ((i - 1 : Nat) : Int) := by
      unfold wrap64
      omega
    rw [mootbellref07_Right.l0, if_pos (by omega), e1, if_pos (by omega), if_pos (by omega), if_pos (by omega)]
    have e2 := ahead_f (rdP l ((i - 1 : Nat) : Int)) (rdP l (i : Int))
    unfold rdP at e2
    rw [e2, Option.bind_some, In64_nat (by omega)]
    have ei : ((i - 1 + 1 : Nat) : Int) = (i : Int) := by omega
    by_cases hlt : ltP (rdP l ((i - 1 : Nat) : Int)) (rdP l (i : Int)) = true
    · unfold rdP at hlt
      rw [if_pos hlt]
      refine ⟨fun h => ih'.1 fun j h1 h2 => h j (by omega) h2, fun ⟨j, h1, h2, h3⟩ => ih'.2 ⟨j, ?_, h2, h3⟩⟩
      by_cases hj : i + 1 ≤ j + 1
      · exact hj
      · obtain rfl : j = i - 1 := by omega
        rw [ei] at h3
        unfold rdP at h3
        rw [h3] at hlt
        cases hlt
    · refine ⟨fun h => absurd ?_ hlt, fun _ => ?_⟩
      · have := h (i - 1) (by omega) (by omega)
        rw [ei] at this
        exact this
      · unfold rdP at hlt
        rw [if_neg hlt]
theorem rright_f (l : List Pr) (hl : l.length ≤ 9223372036854775807) : mootbellref07_Right.f (l.length + 1) l = some (tabB l) := by
  unfold mootbellref07_Right.f
  by_cases h0 : l.length = 0
  · have e : l = [] := List.length_eq_zero_iff.1 h0
    subst e
    rfl
  · have h := rright_l l hl (l.length - 1) 1 (l.length + 1) (by omega) (by omega) (by omega)
    by_cases hg : ∀ j : Nat, j + 1 < l.length → ltP (rdP l (j : Int)) (rdP l ((j + 1 : Nat) : Int)) = true
    · have h1 := h.1 fun j _ hj => hg j hj
      rw [show ((1 : Nat) : Int) = 1 from rfl] at h1
      rw [h1]
      congr 1
      rw [Bool.eq_iff_iff, tabB_iff, decide_eq_true_iff]
      exact ⟨fun h => ⟨by omega, hg⟩, fun h => by have := h.1; omega⟩
    · have hb : ∃ j : Nat, j + 1 < l.length ∧ ltP (rdP l (j : Int)) (rdP l ((j + 1 : Nat) : Int)) = false := by
        apply Classical.byContradiction
        intro hn
        apply hg
        intro j hj
        apply Classical.byContradiction
        intro hne
        exact hn ⟨j, hj, by simpa using hne⟩
      obtain ⟨j, hj, hf⟩ := hb
      have h1 := h.2 ⟨j, by omega, hj, hf⟩
      rw [show ((1 : Nat) : Int) = 1 from rfl] at h1
      rw [h1]
      congr 1
      rw [Eq.comm, Bool.eq_false_iff]
      intro ht
      have := (tabB_iff.1 ht).2 j hj
      rw [hf] at this
      cases this
theorem rRightE (A : Option Addr) (n c : Nat) (l : List Pr) (r : Bool) (w : World) (hA : kP.C w A n l) (hc : n ≤ c) (h : tabB l = r) : Calls Try.prog 30 #[.slice A n c] w fun e w' => e = .returned (.bool r) ∧ Below w.heap.size w w' := by
  have hm := Kd.C_max hA
  obtain rfl := Kd.C_len hA
  exact mootbellref07_Right.calls (l.length + 1) A c l r w hA hc (h ▸ rright_f l hm)
def addP (t l : List Pr) : List Pr := l.foldl (fun out x => if out.contains x then out else withP out x) t
theorem rWithE (A : Option Addr) (n c : Nat) (l : List Pr) (m : Pr) (L : List Pr) (w : World) (hA : kP.C w A n l) (hc : n ≤ c) (hl : n ≤ 1000000) (h : withP l m = L) : Calls Try.prog 32 #[.slice A n c, .agg #[.int .u64 m.f0, .int .u64 m.f1]] w
    fun r w' => ∃ v, r = .returned v ∧ kP.R 52 w' w.heap.size (fun _ => True) v L ∧ Below w.heap.size w w' := h ▸ rWith A n c l m w hA hc hl
set_option maxRecDepth 100000 in
set_option maxHeartbeats 8000000 in
/-- Add: a table that may be, with more pairs; nothing and an error of one that may not be. -/
theorem rAdd (A : Option Addr) (n c : Nat) (t : List Pr) (B : Option Addr) (m d : Nat) (l : List Pr) (w : World) (hA : kP.C w A n t) (hc : n ≤ c) (hB : kP.C w B m l) (hd : m ≤ d) (hm : m ≤ 100000) : Calls Try.prog 19 #[.slice A n c, .slice B m d] w
    fun r w' => ∃ v x, r = .returned (.tuple #[v, .int .i64 x]) ∧ kP.R 52 w' w.heap.size (fun _ => True) v (if tabB t = true then (if 4096 < (addP t l).length then [] else addP t l) else []) ∧ Below w.heap.size w w' := by
  have HN := Aside0.mk (show n = t.length from (Kd.C_len hA).symm)
  have HM := Aside0.mk (show m = l.length from (Kd.C_len hB).symm)
  have HX := Aside0.mk hA
  have HY := Aside0.mk hB
  clear hA hB
  obtain ⟨res, hres⟩ : ∃ L, (if tabB t = true then (if 4096 < (addP t l).length then [] else addP t l) else []) = L := ⟨_, rfl⟩
  rw [hres]
  have HRES := Aside0.mk hres
  clear hres
  obtain ⟨q, hq⟩ : ∃ q, tabB t = q := ⟨_, rfl⟩
  have HQ := Aside0.mk hq
  clear hq
  have HY0 := HY
  have HB := Aside0.mk (Below.refl w.heap.size w)
  go_enter Try.func19, Try.ntmps19
  go_wp2_with fail
  refine (rRightE A n c t q _ HX.out hc HQ.out).mono ?_
  rintro e w5 ⟨rfl, hb_⟩
  have ZHX := Aside0.mk (Kd.C_below (by repeat (with_reducible first | exact HX.out | apply C_alloc | apply C_drew)) hb_); clear HX; have HX := ZHX; clear ZHX
  have ZHY := Aside0.mk (Kd.C_below (by repeat (with_reducible first | exact HY.out | apply C_alloc | apply C_drew)) hb_); clear HY; have HY := ZHY; clear ZHY
  have n_ := Aside0.mk (below_step (by repeat (first | exact HB.out | apply below_alloc | apply pw_below_drewN | apply below_drew1 | refine below_set ?_ (by first | omega | (simp; omega)))) hb_); clear HB hb_; have HB := n_; clear n_
  cases q with
  | false =>
    go_wp2
    go_ret2
    have e := HRES.out
    rw [HQ.out, if_neg (by decide)] at e
    rw [← e]
    exact ⟨_, _, rfl, Kd.R_nil _ _ _ _ _, HB.out⟩
  | true =>
    have hn : n ≤ 4096 := by rw [HN.out]; exact (tabB_iff.1 HQ.out).1
    have HO := HQ
    go_wp2_with (first | ((with_reducible refine gate_builtin (b := .append) (xs := #[.const (.slice none 0 0), .tmp 14]) rfl ?_); at_builtin; refine Kd.R_append_rows (kP) (w0 := w) w.heap.size rfl (.const (.slice none 0 0)) (.tmp 14) 22 52 (.agg #[.int .u64 0, .int .u64 0]) 16 rfl Try.underlying22 info52 rfl (by decide) (by omega) _ ([]) (t) (A) (n) (c) (fun _ => True) (fun _ => False) rfl rfl ?aO HX.out ?aK (fun _ hk => hk.elim) ?aF ?aB ?aS ?aL ?_; (case aK => exact (fun x cs h => kP_of_K x cs h)); (case aB => exact (by repeat (first | exact HB.out | apply below_alloc | apply pw_below_drewN | apply below_drew1 | refine below_set ?_ (by first | omega | (simp; omega))))); (case aF => exact (fun _ _ => trivial)); (case aO => exact (Kd.R_nil _ _ _ _ _)); (case aS => exact below_size (by repeat (first | exact HB.out | apply below_alloc | apply pw_below_drewN | apply below_drew1 | refine below_set ?_ (by first | omega | (simp; omega))))); (case aL => first | omega | (simp; omega)); intro v1 w1 ho_ hb_ hg_ hat_; skip; clear HB; clear HO; have HB := Aside0.mk hb_; have HO := Aside0.mk ho_; clear ho_ hb_ hg_ hat_; ))
    go_loopw [7, 8] (fun v7 v8 wx => ∃ i : Nat, i ≤ m ∧ v8 = .int .i64 i ∧ kP.R 52 wx w.heap.size (fun _ => True) v7 (addP t (l.take i)) ∧ (addP t (l.take i)).length ≤ 4096 + i ∧ Below w.heap.size w wx) (fun _ v8 _ => m - (intOf v8).toNat)
    case atStart => exact ⟨0, by omega, rfl, HO.out, by show t.length ≤ _; have := HN.out; omega, HB.out⟩
    case round =>
      clear HO HB
      obtain ⟨i, hi, rfl, hO, hlen, hb⟩ := hrel
      obtain ⟨Ao, co, rfl⟩ := Kd.R_slice hO
      have hao := (Kd.R_reads' hO).2.1
      have HCO := Aside0.mk ((Kd.R_reads' hO).2.2)
      by_cases hlt : i < m
      · obtain ⟨z, hz⟩ : ∃ z : Int, (i : Int) = z := ⟨_, rfl⟩
        have hil : i < l.length := by rw [← HM.out]; exact hlt
        obtain ⟨x, hx⟩ : ∃ x, rdP l z = x := ⟨_, rfl⟩
        have hxe : l[i] = x := by rw [← hx, ← hz, rdP_eq hil]
        have HF := Aside0.mk (show addP t (l.take (i + 1)) = (if (addP t (l.take i)).contains x then addP t (l.take i) else withP (addP t (l.take i)) x) by unfold addP; rw [List.take_succ_eq_append_getElem hil, List.foldl_append, hxe]; rfl)
        generalize addP t (l.take i) = out at *
        obtain ⟨lo, hlo⟩ : ∃ q, out.length = q := ⟨_, rfl⟩
        rw [hlo] at hlen hO hao HCO ⊢
        have HLO := Aside0.mk hlo
        clear hlo
        rw [hz]
        have hz0 : 0 ≤ z := by omega
        have hz1 : z < (m : Int) := by omega
        have hdz : decide (z < (m : Int)) = true := decide_eq_true hz1
        obtain ⟨ad, rfl, c0, c1⟩ := at_P (Kd.C_below HY0.out hb) z hz0 hz1
        rw [hx] at c0 c1
        have HZ := Aside0.mk hz
        obtain ⟨b, hbb⟩ : ∃ b, out.contains x = b := ⟨_, rfl⟩
        have HBB := Aside0.mk hbb
        have HO := Aside0.mk hO
        have HB := Aside0.mk hb
        have HXR := Aside0.mk hx
        clear hz hx hxe hbb hO hb hil
        go_wp2_with fail
        refine (rinE Ao lo co out x b _ HCO.out hao HBB.out).mono ?_
        rintro e w7 ⟨rfl, hb_⟩
        have HO7 := Aside0.mk (Kd.R_below HO.out hb_)
        have HC7 := Aside0.mk (Kd.C_below HCO.out hb_)
        have HB7 := Aside0.mk (below_step HB.out hb_)
        obtain ⟨ad', ee, d0, d1⟩ := at_P (Kd.C_below HY0.out HB7.out) z hz0 hz1
        cases ee
        rw [HXR.out] at d0 d1
        clear HO HCO HB hb_ c0 c1
        cases b with
        | true =>
          go_wp2
          go_roundw
          case rel => exact ⟨i + 1, by omega, by have := HZ.out; subst this; go_num, by rw [HF.out, HBB.out, if_pos rfl]; exact HO7.out, by rw [HF.out, HBB.out, if_pos rfl]; have := HLO.out; omega, HB7.out⟩
          case measure =>
            have := HZ.out
            simp [intOf]
            omega
        | false =>
          obtain ⟨L, hL⟩ : ∃ L, withP out x = L := ⟨_, rfl⟩
          have HL := Aside0.mk hL
          clear hL
          go_wp2_with fail
          refine (rWithE Ao lo co out x L _ HC7.out hao (by omega) HL.out).mono ?_
          rintro e w9 ⟨v9, rfl, hR_, hb_⟩
          have HR9 := Aside0.mk (Kd.R_lower hR_ HB7.out.size)
          have HB9 := Aside0.mk (below_step HB7.out hb_)
          clear hR_ hb_
          go_wp2
          go_roundw
          case rel =>
            have hll : L.length = lo + 1 := by rw [← HL.out, withP_len, HLO.out]
            exact ⟨i + 1, by omega, by have := HZ.out; subst this; go_num, by rw [HF.out, HBB.out, if_neg (by decide), HL.out]; exact HR9.out, by rw [HF.out, HBB.out, if_neg (by decide), HL.out]; omega, HB9.out⟩
          case measure =>
            have := HZ.out
            simp [intOf]
            omega
      · obtain rfl : i = m := by omega
        have e1 : l.take i = l := by rw [HM.out, List.take_length]
        rw [e1] at hO hlen HCO hao ⊢
        obtain ⟨lo, hlo⟩ : ∃ q, (addP t l).length = q := ⟨_, rfl⟩
        rw [hlo] at hO ⊢
        have HLO := Aside0.mk hlo
        have HO := Aside0.mk hO
        have HB := Aside0.mk hb
        clear hlo hO hb hlen HCO hao
        by_cases h4 : 4096 < lo
        · have hd1 : decide ((4096 : Int) < (lo : Int)) = true := decide_eq_true (by omega)
          have hd2 : decide (4096 < lo) = true := decide_eq_true h4
          go_wp2
          go_ret2
          have e := HRES.out
          rw [HQ.out, if_pos rfl, HLO.out, if_pos h4] at e
          rw [← e]
          exact ⟨_, _, rfl, Kd.R_nil _ _ _ _ _, HB.out⟩
        · have hd1 : decide ((4096 : Int) < (lo : Int)) = false := decide_eq_false (by omega)
          have hd2 : decide (4096 < lo) = false := decide_eq_false h4
          go_wp2
          go_ret2
          have e := HRES.out
          rw [HQ.out, if_pos rfl, HLO.out, if_neg h4] at e
          rw [← e]
          exact ⟨_, _, rfl, HO.out, HB.out⟩
end Go.Proofs.Ytnfglkgkdechlaa


/- Raw tables (chapter 7's statements). -/
set_option linter.unusedVariables false
set_option linter.unusedSimpArgs false
namespace Go.Proofs.Ytnfglkgkdechlaa
open Go.RowKit Go.Proofs.YtnfglkgkdechlaaW.PrintWords Go.Proofs.YtnfglkgkdechlaaW.PrintLast Go.Proofs.YtnfglkgkdechlaaW.PrintMore

open Go.Proofs.Ytnfglkgkdechlaa.PQ

theorem pick7E (c n r : Int) (hc : In64 c) (hn : 0 < n) (w : World) (h : pickZ c n = r) : Calls Try.prog 20 #[.int .i64 c, .int .i64 n] w fun e w' => e = .returned (.int .i64 r) ∧ Below w.heap.size w w' :=
  (mootbelllaw07_pick.calls c n r w (by rw [pick7_f c n hc hn, h])).mono fun e w' hh => ⟨hh.1, hh.2.below⟩
/-- What a raw number makes of a table. -/
def stepT (t : List Pr) (x : Int) : List Pr := if tabB t = true then (if 4096 < (addP t [rawP x]).length then [] else addP t [rawP x]) else []
def tabR (raw : List Int) : List Pr := (raw.take 60).foldl stepT []
theorem rAddE (A : Option Addr) (n c : Nat) (t : List Pr) (B : Option Addr) (p : Pr) (d : Nat) (x : Int) (w : World) (hA : kP.C w A n t) (hc : n ≤ c) (hB : kP.C w B 1 [p]) (hd : 1 ≤ d) (hp : rawP x = p) : Calls Try.prog 19 #[.slice A n c, .slice B 1 d] w
    fun r w' => ∃ v y, r = .returned (.tuple #[v, .int .i64 y]) ∧ kP.R 52 w' w.heap.size (fun _ => True) v (stepT t x) ∧ Below w.heap.size w w' := by
  subst hp
  exact rAdd A n c t B 1 d [rawP x] w hA hc hB hd (by omega)
set_option maxRecDepth 100000 in
set_option maxHeartbeats 8000000 in
theorem lTable (A : Option Addr) (n c : Nat) (raw : List Int) (w : World) (hA : (Kd.int .i64).C w A n raw) (hc : n ≤ c) (hi : ∀ x ∈ raw, In64 x) : Calls Try.prog 9 #[.slice A n c] w
    fun r w' => ∃ v, r = .returned v ∧ kP.R 52 w' w.heap.size (fun _ => True) v (tabR raw) ∧ Below w.heap.size w w' := by
  have HN := Aside0.mk (show n = raw.length from (Kd.C_len hA).symm)
  have hn63 : n ≤ 9223372036854775807 := by rw [HN.out]; exact Kd.C_len hA ▸ Kd.C_max hA
  have HX := Aside0.mk hA
  have HI := Aside0.mk hi
  clear hA hi
  go_enter Try.func9, Try.ntmps9
  go_wp2
  go_loopw [3, 4] (fun v3 v4 wx => ∃ i : Nat, i ≤ n ∧ i ≤ 60 ∧ v4 = .int .i64 i ∧ kP.R 52 wx w.heap.size (fun _ => True) v3 ((raw.take i).foldl stepT []) ∧ Below w.heap.size w wx) (fun _ v4 _ => 60 - (intOf v4).toNat)
  case atStart => exact ⟨0, by omega, by omega, rfl, Kd.R_nil _ _ _ _ _, Below.refl _ _⟩
  case round =>
    obtain ⟨i, hi, hi60, rfl, hO, hb⟩ := hrel
    by_cases hlt : i < n ∧ i < 60
    · obtain ⟨z, hz⟩ : ∃ z : Int, (i : Int) = z := ⟨_, rfl⟩
      have hil : i < raw.length := by rw [← HN.out]; exact hlt.1
      obtain ⟨x, hx⟩ : ∃ x, rd raw z = x := ⟨_, rfl⟩
      have hxe : raw[i] = x := by
        rw [← hx, ← hz]
        unfold rd
        rw [Int.toNat_natCast, List.getD_eq_getElem?_getD, List.getElem?_eq_getElem hil]
        rfl
      have HF := Aside0.mk (show (raw.take (i + 1)).foldl stepT [] = stepT ((raw.take i).foldl stepT []) x by rw [List.take_succ_eq_append_getElem hil, List.foldl_append, hxe]; rfl)
      have HXI := Aside0.mk (HI.out x (by rw [← hxe]; exact List.getElem_mem hil))
      generalize ((raw.take i).foldl stepT []) = t at *
      obtain ⟨Ao, co, rfl⟩ := Kd.R_slice hO
      obtain ⟨lt_, hltn⟩ : ∃ q, t.length = q := ⟨_, rfl⟩
      have hao := (Kd.R_reads' hO).2.1
      have HCO := Aside0.mk ((Kd.R_reads' hO).2.2)
      rw [hltn] at hO hao HCO ⊢
      clear hltn
      rw [hz]
      have hz0 : 0 ≤ z := by omega
      have hz1 : z < (n : Int) := by omega
      have hz2 : z < 60 := by omega
      have hd1 : decide (z < (n : Int)) = true := decide_eq_true hz1
      have hd2 : decide (z < 60) = true := decide_eq_true hz2
      obtain ⟨ad, rfl, rX⟩ := Kd.at_int (Kd.C_below HX.out hb) z hz0 hz1
      rw [hx] at rX
      have kX := cell_lt rX
      have HZ := Aside0.mk hz
      obtain ⟨p0, hp0⟩ : ∃ p, pickZ x 12 = p := ⟨_, rfl⟩
      obtain ⟨y, hy⟩ : ∃ y, x.tdiv 16 = y := ⟨_, rfl⟩
      have hyi := tdiv_in HXI.out
      rw [hy] at hyi
      have HYI := Aside0.mk hyi
      have hwq : IntKind.i64.wrap (x.tdiv 16) = y := by rw [hy]; exact IntWalk.i64_in _ hyi
      obtain ⟨p1, hp1⟩ : ∃ p, pickZ y 3 = p := ⟨_, rfl⟩
      have q0 := pickZ_lt x 12 (by omega)
      have q1 := pickZ_lt y 3 (by omega)
      rw [hp0] at q0
      rw [hp1] at q1
      have HP := Aside0.mk (And.intro hp0 hp1)
      have HPE := Aside0.mk (show rawP x = ⟨p0, p1⟩ by unfold rawP; rw [hp0, hy, hp1])
      have hc0 : IntKind.u64.wrap p0 = p0 := by rw [IntKind.wrap_u64]; omega
      have hc1 : IntKind.u64.wrap p1 = p1 := by rw [IntKind.wrap_u64]; omega
      have HO := Aside0.mk hO
      have HB := Aside0.mk hb
      clear hy hyi hz hx hxe hp0 hp1 hO hb hil hlt q0 q1
      go_upto_region 5 with (fail)
      refine wp_region_held_drew (S := (fun w' => Below wr.heap.size wr w' ∧ (w'.cell? ((ad.add z.toNat)) = some (.int .i64 x)))) (by kernel_rfl) ?hS17x0 (fun hHeld => ?hR17x0)
      case hS17x0 => ((try dsimp only); (first | exact ⟨below_drew1 (Below.refl _ _), rX⟩ | exact ⟨below_drew1 b0_, rX⟩ | exact ⟨j0, jX⟩ | exact ⟨below_alloc j0 _, (cell_alloc_oldp (Nat.lt_of_lt_of_le kX j0.size)).trans jX⟩ | exact ⟨below_alloc (below_drew1 (Below.refl _ _)) _, (cell_alloc_oldp kX).trans rX⟩ | assumption))
      refine wpAnyH_take (i := 0) (oi := ⟨some 18, _, _, _, _, _⟩) (v := ?_) rfl (by kernel_rfl) (by kernel_rfl) (by kernel_rfl) (fun _ _ _ h => h) (Or.inl ⟨by rfl, ?hY17x2⟩) (by assumption) ?hR17x2
      case hY17x2 => (intro w hSw; (try dsimp only at hSw); go_simp; try with_reducible rfl)
      (try simp only [Act.put, List.setIfInBounds_toArray, List.set_cons_zero, List.set_cons_succ])
      refine wpAnyH_take (i := 1) (oi := ⟨some 19, _, _, _, _, _⟩) (v := ?_) rfl (by kernel_rfl) (by kernel_rfl) (by kernel_rfl) (fun _ _ _ h => h) (Or.inl ⟨by rfl, ?hY17x3⟩) (by assumption) ?hR17x3
      case hY17x3 => (intro w hSw; (try dsimp only at hSw); go_simp; try with_reducible rfl)
      (try simp only [Act.put, List.setIfInBounds_toArray, List.set_cons_zero, List.set_cons_succ])
      refine wpAnyH_take (i := 2) (oi := ⟨some 20, _, _, _, _, _⟩) (v := ?_) rfl (by kernel_rfl) (by kernel_rfl) (by kernel_rfl) (fun _ _ _ h => h) (Or.inl ⟨by rfl, ?hY17x4⟩) (by assumption) ?hR17x4
      case hY17x4 => (intro w hSw; (try dsimp only at hSw); go_simp; try with_reducible rfl)
      (try simp only [Act.put, List.setIfInBounds_toArray, List.set_cons_zero, List.set_cons_succ])
      refine wpAnyH_take (i := 3) (oi := ⟨some 21, _, _, _, _, _⟩) (v := ?_) rfl (by kernel_rfl) (by kernel_rfl) (by kernel_rfl) (fun _ _ _ h => h) (Or.inl ⟨by rfl, ?hY17x5⟩) (by assumption) ?hR17x5
      case hY17x5 => (intro w hSw; (try dsimp only at hSw); go_simp; try with_reducible rfl)
      (try simp only [Act.put, List.setIfInBounds_toArray, List.set_cons_zero, List.set_cons_succ])
      refine wpAnyH_take (i := 4) (oi := ⟨some 22, _, _, _, _, _⟩) (v := ?_) rfl (by kernel_rfl) (by kernel_rfl) (by kernel_rfl) (fun _ _ _ h => h) (Or.inl ⟨by rfl, ?hY17x6⟩) (by assumption) ?hR17x6
      case hY17x6 => (intro w hSw; (try dsimp only at hSw); go_simp; try with_reducible rfl)
      (try simp only [Act.put, List.setIfInBounds_toArray, List.set_cons_zero, List.set_cons_succ])
      refine wpAnyH_take (i := 7) (oi := ⟨some 25, _, _, _, _, _⟩) (v := ?_) rfl (by kernel_rfl) (by kernel_rfl) (by kernel_rfl) (fun _ _ _ h => h) (Or.inl ⟨by rfl, ?hY17x7⟩) (by assumption) ?hR17x7
      case hY17x7 => (intro w hSw; (try dsimp only at hSw); go_simp; try with_reducible rfl)
      (try simp only [Act.put, List.setIfInBounds_toArray, List.set_cons_zero, List.set_cons_succ])
      refine wpAnyH_take (i := 8) (oi := ⟨some 26, _, _, _, _, _⟩) (v := ?_) rfl (by kernel_rfl) (by kernel_rfl) (by kernel_rfl) (fun _ _ _ h => h) (Or.inl ⟨by rfl, ?hY17x8⟩) (by assumption) ?hR17x8
      case hY17x8 => (intro w hSw; (try dsimp only at hSw); go_simp; try with_reducible rfl)
      (try simp only [Act.put, List.setIfInBounds_toArray, List.set_cons_zero, List.set_cons_succ])
      refine wpAnyH_take (i := 9) (oi := ⟨some 27, _, _, _, _, _⟩) (v := ?_) rfl (by kernel_rfl) (by kernel_rfl) (by kernel_rfl) (fun _ _ _ h => h) (Or.inl ⟨by rfl, ?hY17x9⟩) (by assumption) ?hR17x9
      case hY17x9 => (intro w hSw; (try dsimp only at hSw); go_simp; try with_reducible rfl)
      (try simp only [Act.put, List.setIfInBounds_toArray, List.set_cons_zero, List.set_cons_succ])
      refine wpAnyH_take (i := 10) (oi := ⟨some 28, _, _, _, _, _⟩) (v := ?_) rfl (by kernel_rfl) (by kernel_rfl) (by kernel_rfl) (fun _ _ _ h => h) (Or.inl ⟨by rfl, ?hY17x10⟩) (by assumption) ?hR17x10
      case hY17x10 => (intro w hSw; (try dsimp only at hSw); go_simp; try with_reducible rfl)
      (try simp only [Act.put, List.setIfInBounds_toArray, List.set_cons_zero, List.set_cons_succ])
      refine wpAnyH_take (i := 11) (oi := ⟨some 29, _, _, _, _, _⟩) (v := ?_) rfl (by kernel_rfl) (by kernel_rfl) (by kernel_rfl) (fun _ _ _ h => h) (Or.inl ⟨by rfl, ?hY17x11⟩) (by assumption) ?hR17x11
      case hY17x11 => (intro w hSw; (try dsimp only at hSw); go_simp; try with_reducible rfl)
      (try simp only [Act.put, List.setIfInBounds_toArray, List.set_cons_zero, List.set_cons_succ])
      refine wpAnyH_ready (rs := [5]) (by kernel_rfl) (by simp) ?_
      refine AllReadyH.cons (o := ⟨some 23, _, _, _, _, _⟩) rfl (fun K hK => ?hT17x12) ?hM17x12
      case hM17x12 => exact AllReadyH.nil
      go_simp
      (first | (go_at_call 20; obtain ⟨g0, gX⟩ := ‹Below wr.heap.size wr _ ∧ _›; ((with_reducible refine (pick7E x 12 p0 HXI.out (by omega) _ HP.out.1).mono ?_));  rintro e w5 ⟨rfl, hb_⟩; have j0 := below_step g0 hb_; have s5 := j0.size; have jX := (j0.cell (p := (ad.add z.toNat)) kX).trans rX) | (go_at_call 20; obtain ⟨g0, gX⟩ := ‹Below wr.heap.size wr _ ∧ _›; ((with_reducible refine (pick7E y 3 p1 HYI.out (by omega) _ HP.out.2).mono ?_));  rintro e w6 ⟨rfl, hb_⟩; have j0 := below_step g0 hb_; have s6 := j0.size; have jX := (j0.cell (p := (ad.add z.toNat)) kX).trans rX) | (go_at_call 19; obtain ⟨g0, gX⟩ := ‹Below wr.heap.size wr _ ∧ _›; ((with_reducible refine (rAddE Ao lt_ co t _ ⟨p0, p1⟩ 1 x _ (Kd.C_below HCO.out g0) hao (C_oneP Box.new) (by omega) HPE.out).mono ?_));  rintro e w7 ⟨v7, y7, rfl, hR_, hb_⟩; have j0 := below_step g0 hb_; have s7 := j0.size; have jX := (j0.cell (p := (ad.add z.toNat)) kX).trans rX))
      (try go_wp2_with fail)
      refine hK.out _ _ ?hS17x12 (fun hHeld => ?hR17x12)
      case hS17x12 => ((try dsimp only); (first | exact ⟨below_drew1 (Below.refl _ _), rX⟩ | exact ⟨below_drew1 b0_, rX⟩ | exact ⟨j0, jX⟩ | exact ⟨below_alloc j0 _, (cell_alloc_oldp (Nat.lt_of_lt_of_le kX j0.size)).trans jX⟩ | exact ⟨below_alloc (below_drew1 (Below.refl _ _)) _, (cell_alloc_oldp kX).trans rX⟩ | assumption))
      clear hK K
      (try simp only [Act.put, List.setIfInBounds_toArray, List.set_cons_zero, List.set_cons_succ])
      refine wpAnyH_take (i := 6) (oi := ⟨some 24, _, _, _, _, _⟩) (v := ?_) rfl (by kernel_rfl) (by kernel_rfl) (by kernel_rfl) (fun _ _ _ h => h) (Or.inl ⟨by rfl, ?hY17x13⟩) (by assumption) ?hR17x13
      case hY17x13 => (intro w hSw; (try dsimp only at hSw); go_simp; try with_reducible rfl)
      (try simp only [Act.put, List.setIfInBounds_toArray, List.set_cons_zero, List.set_cons_succ])
      refine wpAnyH_ready (rs := [12]) (by kernel_rfl) (by simp) ?_
      refine AllReadyH.cons (o := ⟨some 30, _, _, _, _, _⟩) rfl (fun K hK => ?hT17x14) ?hM17x14
      case hM17x14 => exact AllReadyH.nil
      go_simp
      (first | (go_at_call 20; obtain ⟨g0, gX⟩ := ‹Below wr.heap.size wr _ ∧ _›; ((with_reducible refine (pick7E x 12 p0 HXI.out (by omega) _ HP.out.1).mono ?_));  rintro e w5 ⟨rfl, hb_⟩; have j0 := below_step g0 hb_; have s5 := j0.size; have jX := (j0.cell (p := (ad.add z.toNat)) kX).trans rX) | (go_at_call 20; obtain ⟨g0, gX⟩ := ‹Below wr.heap.size wr _ ∧ _›; ((with_reducible refine (pick7E y 3 p1 HYI.out (by omega) _ HP.out.2).mono ?_));  rintro e w6 ⟨rfl, hb_⟩; have j0 := below_step g0 hb_; have s6 := j0.size; have jX := (j0.cell (p := (ad.add z.toNat)) kX).trans rX) | (go_at_call 19; obtain ⟨g0, gX⟩ := ‹Below wr.heap.size wr _ ∧ _›; ((with_reducible refine (rAddE Ao lt_ co t _ ⟨p0, p1⟩ 1 x _ (Kd.C_below HCO.out g0) hao (C_oneP Box.new) (by omega) HPE.out).mono ?_));  rintro e w7 ⟨v7, y7, rfl, hR_, hb_⟩; have j0 := below_step g0 hb_; have s7 := j0.size; have jX := (j0.cell (p := (ad.add z.toNat)) kX).trans rX))
      (try go_wp2_with fail)
      refine hK.out _ _ ?hS17x14 (fun hHeld => ?hR17x14)
      case hS17x14 => ((try dsimp only); (first | exact ⟨below_drew1 (Below.refl _ _), rX⟩ | exact ⟨below_drew1 b0_, rX⟩ | exact ⟨j0, jX⟩ | exact ⟨below_alloc j0 _, (cell_alloc_oldp (Nat.lt_of_lt_of_le kX j0.size)).trans jX⟩ | exact ⟨below_alloc (below_drew1 (Below.refl _ _)) _, (cell_alloc_oldp kX).trans rX⟩ | assumption))
      clear hK K
      (try simp only [Act.put, List.setIfInBounds_toArray, List.set_cons_zero, List.set_cons_succ])
      refine wpAnyH_take (i := 13) (oi := ⟨some 31, _, _, _, _, _⟩) (v := ?_) rfl (by kernel_rfl) (by kernel_rfl) (by kernel_rfl) (fun _ _ _ h => h) (Or.inl ⟨by rfl, ?hY17x15⟩) (by assumption) ?hR17x15
      case hY17x15 => (intro w hSw; (try dsimp only at hSw); go_simp; try with_reducible rfl)
      (try simp only [Act.put, List.setIfInBounds_toArray, List.set_cons_zero, List.set_cons_succ])
      refine wpAnyH_take (i := 14) (oi := ⟨some 32, _, _, _, _, _⟩) (v := ?_) rfl (by kernel_rfl) (by kernel_rfl) (by kernel_rfl) (fun _ _ _ h => h) (Or.inl ⟨by rfl, ?hY17x16⟩) (by assumption) ?hR17x16
      case hY17x16 => (intro w hSw; (try dsimp only at hSw); go_simp; try with_reducible rfl)
      (try simp only [Act.put, List.setIfInBounds_toArray, List.set_cons_zero, List.set_cons_succ])
      refine wpAnyH_ready (rs := [15]) (by kernel_rfl) (by simp) ?_
      refine AllReadyH.cons (o := ⟨some 33, _, _, _, _, _⟩) rfl (fun K hK => ?hT17x17) ?hM17x17
      case hM17x17 => exact AllReadyH.nil
      go_simp
      (try go_wp2_with fail)
      refine hK.out _ _ ?hS17x17 (fun hHeld => ?hR17x17)
      case hS17x17 => ((try dsimp only); (first | exact ⟨below_drew1 (Below.refl _ _), rX⟩ | exact ⟨below_drew1 b0_, rX⟩ | exact ⟨j0, jX⟩ | exact ⟨below_alloc j0 _, (cell_alloc_oldp (Nat.lt_of_lt_of_le kX j0.size)).trans jX⟩ | exact ⟨below_alloc (below_drew1 (Below.refl _ _)) _, (cell_alloc_oldp kX).trans rX⟩ | assumption))
      clear hK K
      (try simp only [Act.put, List.setIfInBounds_toArray, List.set_cons_zero, List.set_cons_succ])
      refine wpAnyH_ready (rs := [16]) (by kernel_rfl) (by simp) ?_
      refine AllReadyH.cons (o := ⟨some 34, _, _, _, _, _⟩) rfl (fun K hK => ?hT17x18) ?hM17x18
      case hM17x18 => exact AllReadyH.nil
      go_simp
      (first | (go_at_call 20; obtain ⟨g0, gX⟩ := ‹Below wr.heap.size wr _ ∧ _›; ((with_reducible refine (pick7E x 12 p0 HXI.out (by omega) _ HP.out.1).mono ?_));  rintro e w5 ⟨rfl, hb_⟩; have j0 := below_step g0 hb_; have s5 := j0.size; have jX := (j0.cell (p := (ad.add z.toNat)) kX).trans rX) | (go_at_call 20; obtain ⟨g0, gX⟩ := ‹Below wr.heap.size wr _ ∧ _›; ((with_reducible refine (pick7E y 3 p1 HYI.out (by omega) _ HP.out.2).mono ?_));  rintro e w6 ⟨rfl, hb_⟩; have j0 := below_step g0 hb_; have s6 := j0.size; have jX := (j0.cell (p := (ad.add z.toNat)) kX).trans rX) | (go_at_call 19; obtain ⟨g0, gX⟩ := ‹Below wr.heap.size wr _ ∧ _›; ((with_reducible refine (rAddE Ao lt_ co t _ ⟨p0, p1⟩ 1 x _ (Kd.C_below HCO.out g0) hao (C_oneP Box.new) (by omega) HPE.out).mono ?_));  rintro e w7 ⟨v7, y7, rfl, hR_, hb_⟩; have j0 := below_step g0 hb_; have s7 := j0.size; have jX := (j0.cell (p := (ad.add z.toNat)) kX).trans rX))
      (try go_wp2_with fail)
      refine hK.out _ _ ?hS17x18 (fun hHeld => ?hR17x18)
      case hS17x18 => ((try dsimp only); (first | exact ⟨below_drew1 (Below.refl _ _), rX⟩ | exact ⟨below_drew1 b0_, rX⟩ | exact ⟨j0, jX⟩ | exact ⟨below_alloc j0 _, (cell_alloc_oldp (Nat.lt_of_lt_of_le kX j0.size)).trans jX⟩ | exact ⟨below_alloc (below_drew1 (Below.refl _ _)) _, (cell_alloc_oldp kX).trans rX⟩ | assumption))
      clear hK K
      (try simp only [Act.put, List.setIfInBounds_toArray, List.set_cons_zero, List.set_cons_succ])
      refine wpAnyH_take (i := 17) (oi := ⟨some 17, _, _, _, _, _⟩) (v := ?_) rfl (by kernel_rfl) (by kernel_rfl) (by kernel_rfl) (fun _ _ _ h => h) (Or.inl ⟨by rfl, ?hY17x19⟩) (by assumption) ?hR17x19
      case hY17x19 => (intro w hSw; (try dsimp only at hSw); go_simp; try with_reducible rfl)
      (try simp only [Act.put, List.setIfInBounds_toArray, List.set_cons_zero, List.set_cons_succ])
      refine wpAnyH_take (i := 18) (oi := ⟨some 35, _, _, _, _, _⟩) (v := ?_) rfl (by kernel_rfl) (by kernel_rfl) (by kernel_rfl) (fun _ _ _ h => h) (Or.inl ⟨by rfl, ?hY17x20⟩) (by assumption) ?hR17x20
      case hY17x20 => (intro w hSw; (try dsimp only at hSw); go_simp; try with_reducible rfl)
      (try simp only [Act.put, List.setIfInBounds_toArray, List.set_cons_zero, List.set_cons_succ])
      refine wpAnyH_take (i := 19) (oi := ⟨some 36, _, _, _, _, _⟩) (v := ?_) rfl (by kernel_rfl) (by kernel_rfl) (by kernel_rfl) (fun _ _ _ h => h) (Or.inl ⟨by rfl, ?hY17x21⟩) (by assumption) ?hR17x21
      case hY17x21 => (intro w hSw; (try dsimp only at hSw); go_simp; try with_reducible rfl)
      (try simp only [Act.put, List.setIfInBounds_toArray, List.set_cons_zero, List.set_cons_succ])
      refine wpAnyH_take (i := 20) (oi := ⟨some 5, _, _, _, _, _⟩) (v := ?_) rfl (by kernel_rfl) (by kernel_rfl) (by kernel_rfl) (fun _ _ _ h => h) (Or.inl ⟨by rfl, ?hY17x22⟩) (by assumption) ?hR17x22
      case hY17x22 => (intro w hSw; (try dsimp only at hSw); go_simp; try with_reducible rfl)
      (try simp only [Act.put, List.setIfInBounds_toArray, List.set_cons_zero, List.set_cons_succ])
      refine wpAnyH_take (i := 21) (oi := ⟨some 6, _, _, _, _, _⟩) (v := ?_) rfl (by kernel_rfl) (by kernel_rfl) (by kernel_rfl) (fun _ _ _ h => h) (Or.inl ⟨by rfl, ?hY17x23⟩) (by assumption) ?hR17x23
      case hY17x23 => (intro w hSw; (try dsimp only at hSw); go_simp; try with_reducible rfl)
      (try simp only [Act.put, List.setIfInBounds_toArray, List.set_cons_zero, List.set_cons_succ])
      refine wpAnyH_done (by kernel_rfl) ?_ _
      go_wp2
      go_roundw
      case rel => exact ⟨i + 1, by have := HZ.out; omega, by have := HZ.out; omega, by have := HZ.out; subst this; go_num, by rw [HF.out]; exact Kd.R_lower hR_ (Nat.le_trans HB.out.size g0.size), below_step HB.out j0⟩
      case measure =>
        have := HZ.out
        simp [intOf]
        omega
    · have hd : (decide ((i : Int) < (n : Int)) = false ∧ decide (i < n) = false) ∨ ((decide ((i : Int) < (n : Int)) = true ∧ decide (i < n) = true) ∧ decide ((i : Int) < 60) = false ∧ decide (i < 60) = false) := by
        by_cases h1 : i < n
        · exact Or.inr ⟨⟨decide_eq_true (by omega), decide_eq_true h1⟩, decide_eq_false (by omega), decide_eq_false (by omega)⟩
        · exact Or.inl ⟨decide_eq_false (by omega), decide_eq_false h1⟩
      have HE := Aside0.mk (show raw.take i = raw.take 60 by
        by_cases h1 : i < n
        · rw [show i = 60 by omega]
        · rw [List.take_of_length_le (by rw [← HN.out]; omega), List.take_of_length_le (by rw [← HN.out]; omega)])
      have HO := Aside0.mk hO
      have HB := Aside0.mk hb
      clear hO hb
      rcases hd with ⟨hd, hd1⟩ | ⟨⟨hd, hd1⟩, hd2, hd3⟩
      · go_wp2
        go_ret
        refine ⟨_, rfl, ?_, HB.out⟩
        have e := HO.out
        rw [HE.out] at e
        exact e
      · go_wp2
        go_ret
        refine ⟨_, rfl, ?_, HB.out⟩
        have e := HO.out
        rw [HE.out] at e
        exact e
end Go.Proofs.Ytnfglkgkdechlaa

namespace Go.Proofs.Ytnfglkgkdechlaa.PQ
open Go.RowKit Go.Proofs.YtnfglkgkdechlaaW.PrintWords Go.Proofs.YtnfglkgkdechlaaW.PrintLast Go.Proofs.YtnfglkgkdechlaaW.PrintMore
attribute [local go_sem] max2_int min2_int max_two min_two max_three min_three max_four min_four   -- for this text's walks alone
set_option linter.unusedVariables false
set_option linter.unusedSimpArgs false

attribute [local go_sem high] eqA52

/-! ### mootbellref15_Bools: function 13 -/
def mootbellref15_Bools.l0 : Nat → List Bool → List Bool → Int → Option (Bool)
  | 0, _, _, _ => none
  | k + 1, x0, x1, x5 => if x5 < (x0.length : Int) then (if 0 ≤ x5 then (if x5 < (x1.length : Int) then (if ((rdOf false x0 x5) != (rdOf false x1 x5)) = true then (some false) else (mootbellref15_Bools.l0 k x0 x1 (wrap64 (x5 + 1)))) else (none)) else (none)) else (some true)
def mootbellref15_Bools.f (k : Nat) (l0 : List Bool) (l1 : List Bool) : Option (Bool) := if (l0.length : Int) = (l1.length : Int) then (mootbellref15_Bools.l0 k l0 l1 0) else (some false)
theorem mootbellref15_Bools.mono_l : ∀ k, (∀ y0 y1 y2, LeO (mootbellref15_Bools.l0 k y0 y1 y2) (mootbellref15_Bools.l0 (k + 1) y0 y1 y2))
  | 0 => fun _ _ _ r h => by simp [mootbellref15_Bools.l0] at h
  | k + 1 => by
    have ih0 := mootbellref15_Bools.mono_l k
    · intro y0 y1 y2
      unfold mootbellref15_Bools.l0
      repeat' first
      | (with_reducible exact ih0 _ _ _)
      | (with_reducible exact LeO.refl _)
      | (with_reducible exact LeO.none _)
      | (with_reducible refine LeO.ite ?_ ?_)
      | (with_reducible refine LeO.bind ?_ (fun _ => ?_))
      | exact ih0 _ _ _
      | exact LeO.none _
      | refine LeO.ite ?_ ?_
      | refine LeO.bind ?_ (fun _ => ?_)
theorem mootbellref15_Bools.mono : ∀ a0 a1 k, LeO (mootbellref15_Bools.f k a0 a1) (mootbellref15_Bools.f (k + 1) a0 a1) := by
  intro a0 a1 k
  have ih0 := mootbellref15_Bools.mono_l k
  unfold mootbellref15_Bools.f
  repeat' first
      | (with_reducible exact ih0 _ _ _)
      | (with_reducible exact LeO.refl _)
      | (with_reducible exact LeO.none _)
      | (with_reducible refine LeO.ite ?_ ?_)
      | (with_reducible refine LeO.bind ?_ (fun _ => ?_))
      | exact ih0 _ _ _
      | exact LeO.none _
      | refine LeO.ite ?_ ?_
      | refine LeO.bind ?_ (fun _ => ?_)
set_option maxHeartbeats 8000000 in
set_option maxRecDepth 100000 in
theorem mootbellref15_Bools.calls (k : Nat) (A0 : Option Addr) (c0 : Nat) (l0 : List Bool) (A1 : Option Addr) (c1 : Nat) (l1 : List Bool) (r : Bool) (w : World) (hr0 : Kd.C Kd.bool w A0 l0.length l0) (hc0 : l0.length ≤ c0) (hr1 : Kd.C Kd.bool w A1 l1.length l1) (hc1 : l1.length ≤ c1) (h : mootbellref15_Bools.f k l0 l1 = some r) :
    Calls Try.prog 13 #[.slice A0 l0.length c0, .slice A1 l1.length c1] w fun e w' => e = .returned (.bool r) ∧ Drawn0 w w' := by
  have HR0 := Aside0.mk hr0
  have HC0 := Aside0.mk hc0
  clear hr0 hc0
  have HR1 := Aside0.mk hr1
  have HC1 := Aside0.mk hc1
  clear hr1 hc1
  have H : (if (l0.length : Int) = (l1.length : Int) then (mootbellref15_Bools.l0 k l0 l1 0) else (some false)) = some r := h
  clear h
  by_cases c3 : (l0.length : Int) = (l1.length : Int)
  · rw [if_pos c3] at H
    have c3b0 : ((l0.length : Int) == (l1.length : Int)) = true := beq_iff_eq.mpr c3
    have c3b1 : ((l0.length : Int) != (l1.length : Int)) = false := bne_eq_false_iff_eq.mpr c3
    have c3b2 : (l0.length == l1.length) = true := by first | simpa using c3 | (simp at c3 ⊢; omega)
    clear c3
    have H' := Aside0.mk H
    clear H
    go_enter Try.func13, Try.ntmps13
    go_wp2
    repeat (go_quiet (fail); try go_wp2)
    go_loopg [5] k (fun kq v5 w' => ∃ (x5_1 : Int), v5 = .int .i64 x5_1 ∧ Aside0 (mootbellref15_Bools.l0 kq l0 l1 x5_1 = some r) ∧ Aside0 (kq ≤ k) ∧ Drawn0 w w')
    case atStart => exact ⟨(0), (by first | rfl | (simp; done) | (simp [*]; done)), H', ⟨Nat.le_refl _⟩, by repeat (first | exact Drawn0.refl _ | apply Drawn0.step)⟩
    case round =>
      clear H'
      try clear c1
      try clear p2
      try clear c3
      try clear c3b0
      try clear c3b1
      try clear c3b2
      obtain ⟨x5_1, rfl, HA, HK1, ⟨m1, rfl⟩⟩ := hrel
      cases gk with
      | zero => exact absurd HA.out (by simp [mootbellref15_Bools.l0])
      | succ k1 =>
        have H := HA.out
        clear HA
        simp only [mootbellref15_Bools.l0] at H
        by_cases c4 : x5_1 < (l0.length : Int)
        · rw [if_pos c4] at H
          have c4b0 : decide (x5_1 < (l0.length : Int)) = true := decide_eq_true c4
          clear c4
          by_cases c5 : 0 ≤ x5_1
          · rw [if_pos c5] at H
            have c5b0 : decide (0 ≤ x5_1) = true := decide_eq_true c5
            clear c5
            by_cases c6 : x5_1 < (l1.length : Int)
            · rw [if_pos c6] at H
              have c6b0 : decide (x5_1 < (l1.length : Int)) = true := decide_eq_true c6
              clear c6
              by_cases c7 : ((rdOf false l0 x5_1) != (rdOf false l1 x5_1)) = true
              · rw [if_pos c7] at H
                have c7b0 : ((rdOf false l0 x5_1) != (rdOf false l1 x5_1)) = true := c7
                (try (have c7b1 : decide ((rdOf false l0 x5_1) = (rdOf false l1 x5_1)) = false := by simpa using c7))
                (try (have c7b2 : ((rdOf false l0 x5_1) == (rdOf false l1 x5_1)) = false := by simpa using c7))
                (try (have c7b3 : ¬ ((rdOf false l0 x5_1) = (rdOf false l1 x5_1)) := by simpa using c7))
                clear c7
                obtain rfl := Option.some.inj H
                have p101 : 0 ≤ (x5_1 : Int) := of_decide_eq_true (by first | (with_reducible assumption) | assumption)
                have q101 : x5_1 < (l0.length : Int) := of_decide_eq_true (by first | (with_reducible assumption) | assumption)
                obtain ⟨ad101, e101, hx101_0⟩ := Kd.at_bool HR0.out x5_1 p101 q101
                cases e101
                replace p101 := eq_true p101
                replace q101 := eq_true q101
                have p102 : 0 ≤ (x5_1 : Int) := of_decide_eq_true (by first | (with_reducible assumption) | assumption)
                have q102 : x5_1 < (l1.length : Int) := of_decide_eq_true (by first | (with_reducible assumption) | assumption)
                obtain ⟨ad102, e102, hx102_0⟩ := Kd.at_bool HR1.out x5_1 p102 q102
                cases e102
                replace p102 := eq_true p102
                replace q102 := eq_true q102
                go_wp2
                repeat (go_quiet (fail); try go_wp2)
                go_ret
                exact ⟨by first | rfl | (simp; done) | (simp [*]; done), by repeat (first | exact Drawn0.refl _ | apply Drawn0.step)⟩
              · rw [if_neg c7] at H
                have c7b0 : ((rdOf false l0 x5_1) != (rdOf false l1 x5_1)) = false := by simpa using c7
                (try (have c7b1 : decide ((rdOf false l0 x5_1) = (rdOf false l1 x5_1)) = true := by simpa using c7))
                (try (have c7b2 : ((rdOf false l0 x5_1) == (rdOf false l1 x5_1)) = true := by simpa using c7))
                clear c7
                have H' := Aside0.mk H
                clear H
                have p101 : 0 ≤ (x5_1 : Int) := of_decide_eq_true (by first | (with_reducible assumption) | assumption)
                have q101 : x5_1 < (l0.length : Int) := of_decide_eq_true (by first | (with_reducible assumption) | assumption)
                obtain ⟨ad101, e101, hx101_0⟩ := Kd.at_bool HR0.out x5_1 p101 q101
                cases e101
                replace p101 := eq_true p101
                replace q101 := eq_true q101
                have p102 : 0 ≤ (x5_1 : Int) := of_decide_eq_true (by first | (with_reducible assumption) | assumption)
                have q102 : x5_1 < (l1.length : Int) := of_decide_eq_true (by first | (with_reducible assumption) | assumption)
                obtain ⟨ad102, e102, hx102_0⟩ := Kd.at_bool HR1.out x5_1 p102 q102
                cases e102
                replace p102 := eq_true p102
                replace q102 := eq_true q102
                go_wp2
                repeat (go_quiet (fail); try go_wp2)
                go_roundg k1
                case measure => have := HK1.out; omega
                case rel => exact ⟨(wrap64 (x5_1 + 1)), (by first | rfl | (simp; done) | (simp [*]; done)), H', ⟨by have := HK1.out; omega⟩, by repeat (first | exact Drawn0.refl _ | apply Drawn0.step)⟩
            · rw [if_neg c6] at H
              exact absurd H (by simp)
          · rw [if_neg c5] at H
            exact absurd H (by simp)
        · rw [if_neg c4] at H
          have c4b0 : decide (x5_1 < (l0.length : Int)) = false := decide_eq_false c4
          clear c4
          obtain rfl := Option.some.inj H
          go_wp2
          repeat (go_quiet (fail); try go_wp2)
          go_ret
          exact ⟨by first | rfl | (simp; done) | (simp [*]; done), by repeat (first | exact Drawn0.refl _ | apply Drawn0.step)⟩
  · rw [if_neg c3] at H
    have c3b0 : ((l0.length : Int) == (l1.length : Int)) = false := beq_eq_false_iff_ne.mpr c3
    have c3b1 : ((l0.length : Int) != (l1.length : Int)) = true := bne_iff_ne.mpr c3
    have c3b2 : (l0.length == l1.length) = false := by first | simpa using c3 | (simp at c3 ⊢; omega)
    obtain rfl := Option.some.inj H
    go_enter Try.func13, Try.ntmps13
    go_wp2
    repeat (go_quiet (fail); try go_wp2)
    go_ret
    exact ⟨by first | rfl | (simp; done) | (simp [*]; done), by repeat (first | exact Drawn0.refl _ | apply Drawn0.step)⟩
end Go.Proofs.Ytnfglkgkdechlaa.PQ


/- awake (chapter 15's statements): the first calls. -/
set_option linter.unusedVariables false
set_option linter.unusedSimpArgs false
namespace Go.Proofs.Ytnfglkgkdechlaa
open Go.RowKit Go.Proofs.YtnfglkgkdechlaaW.PrintWords Go.Proofs.YtnfglkgkdechlaaW.PrintLast Go.Proofs.YtnfglkgkdechlaaW.PrintMore

open Go.Proofs.Ytnfglkgkdechlaa.PQ

theorem C_cells {α : Type} {d : Kd α} {W : World} {vb : Nat} {cs : Array Value} {T : TypeId} {xs : List α} (h : Box W vb cs T) (hl : xs.length ≤ 9223372036854775807) (hk : ∀ (j : Nat) (x : α), xs[j]? = some x → ∃ c, d.K W x c ∧ ∀ i u, c[i]? = some u → cs[j * d.sz + i]? = some u) : d.C W (some ⟨vb, 0, none⟩) xs.length xs := by
  refine ⟨rfl, hl, fun _ => ⟨_, rfl, fun j p hj => ?_⟩⟩
  obtain ⟨c, hc, hi⟩ := hk j p hj
  refine ⟨c, d.K_len hc, hc, fun i u hu => ?_⟩
  rw [show ((⟨vb, 0, none⟩ : Addr).add (j * d.sz + i)) = ⟨vb, j * d.sz + i, none⟩ by unfold Addr.add; split <;> simp_all, h.cell]
  exact hi i u hu
theorem C_out {W : World} {b m : Nat} {O : Nat → Bool} {T : TypeId} (h : Box W b (outC m O) T) (hm : m ≤ 9223372036854775807) : Kd.bool.C W (some ⟨b, 0, none⟩) m ((List.range m).map O) := by
  have hl : ((List.range m).map O).length = m := by simp
  have e := C_cells (d := Kd.bool) (xs := (List.range m).map O) h (by rw [hl]; exact hm) (fun j x hj => by
    have hjm : j < m := by
      have := (List.getElem?_eq_some_iff.1 hj).1
      rwa [hl] at this
    refine ⟨[.bool x], rfl, fun i u hu => ?_⟩
    have hx : O j = x := by simpa [hjm] using hj
    have hi : i = 0 := by
      rcases Nat.eq_zero_or_pos i with g | g
      · exact g
      · rw [List.getElem?_eq_none (by simp; omega)] at hu
        cases hu
    subst hi
    have hu2 : u = .bool x := by simpa using hu.symm
    subst hu2
    show (outC m O)[j * 1 + 0]? = _
    rw [Nat.mul_one, Nat.add_zero, outC_get m O hjm, hx])
  rw [hl] at e
  exact e
theorem bools_l (a b : List Bool) (hab : a.length = b.length) (hl : a.length ≤ 1000000) (r i k : Nat) (hr : i + r = a.length) (hk : r < k) : mootbellref15_Bools.l0 k a b (i : Int) = some (decide (a.drop i = b.drop i)) := by
  induction r generalizing i k with
  | zero =>
    obtain ⟨k, rfl⟩ : ∃ q, k = q + 1 := ⟨k - 1, by omega⟩
    rw [mootbellref15_Bools.l0, if_neg (by omega), List.drop_of_length_le (by omega), List.drop_of_length_le (by omega)]
    rfl
  | succ r ih =>
    obtain ⟨k, rfl⟩ : ∃ q, k = q + 1 := ⟨k - 1, by omega⟩
    have hi : i < a.length := by omega
    have hib : i < b.length := by omega
    have ra : rdOf false a (i : Int) = a[i] := by
      unfold rdOf
      rw [Int.toNat_natCast, List.getD_eq_getElem?_getD, List.getElem?_eq_getElem hi]
      rfl
    have rb : rdOf false b (i : Int) = b[i] := by
      unfold rdOf
      rw [Int.toNat_natCast, List.getD_eq_getElem?_getD, List.getElem?_eq_getElem hib]
      rfl
    rw [mootbellref15_Bools.l0, if_pos (by omega), if_pos (by omega), if_pos (by omega), ra, rb, List.drop_eq_getElem_cons hi, List.drop_eq_getElem_cons hib]
    by_cases he : a[i] = b[i]
    · rw [if_neg (by rw [he]; simp), In64_nat (by omega), ih (i + 1) k (by omega) (by omega), he]
      congr 1
      exact decide_eq_decide.2 ⟨fun h => by rw [h], fun h => (List.cons.inj h).2⟩
    · rw [if_pos (by simpa using he)]
      congr 1
      rw [Eq.comm, decide_eq_false_iff_not]
      intro h
      exact he (List.cons.inj h).1
theorem bools_f (a b : List Bool) (hl : a.length ≤ 1000000) : mootbellref15_Bools.f (a.length + 1) a b = some (decide (a = b)) := by
  unfold mootbellref15_Bools.f
  by_cases h : a.length = b.length
  · rw [if_pos (by omega)]
    have := bools_l a b h hl a.length 0 (a.length + 1) (by omega) (by omega)
    rw [List.drop_zero, List.drop_zero] at this
    exact this
  · rw [if_neg (by omega)]
    congr 1
    rw [Eq.comm, decide_eq_false_iff_not]
    intro e
    exact h (by rw [e])
theorem boolsE (A B : Option Addr) (n c m d : Nat) (a b : List Bool) (r : Bool) (w : World) (hA : Kd.bool.C w A n a) (hc : n ≤ c) (hB : Kd.bool.C w B m b) (hd : m ≤ d) (hl : n ≤ 1000000) (h : decide (a = b) = r) : Calls Try.prog 13 #[.slice A n c, .slice B m d] w fun e w' => e = .returned (.bool r) ∧ Below w.heap.size w w' := by
  obtain rfl := Kd.C_len hA
  obtain rfl := Kd.C_len hB
  exact (mootbellref15_Bools.calls (a.length + 1) A c a B d b r w hA hc hB hd (h ▸ bools_f a b hl)).mono fun e w' hh => ⟨hh.1, hh.2.below⟩
theorem mostE (n wrong r : Int) (w : World) (hn : n ≤ 4294967296) (hw : wrong ≤ 4294967296) (hn0 : -4294967296 ≤ n) (hw0 : -4294967296 ≤ wrong) (h : mostF n wrong = r) : Calls Try.prog 15 #[.int .i64 n, .int .i64 wrong] w fun e w' => e = .returned (.int .i64 r) ∧ Below w.heap.size w w' := h ▸ bMost n wrong w hn hw hn0 hw0
def tbA : List Pr := [⟨1, 7⟩]
def goodA : It := ⟨[1], 7, ⟨false, tbA⟩⟩
def badA : It := ⟨[1], 8, ⟨false, tbA⟩⟩
def itsA : List It := [goodA, goodA, goodA, badA]
theorem chkA_good : chk tbA goodA = true := by decide
theorem chkA_bad : chk tbA badA = false := by decide
theorem cntA : cnt (chk tbA) itsA = 5 := by decide
theorem okA : ∀ x ∈ itsA, okI x := by
  intro x hx
  unfold itsA at hx
  have hg : okI goodA := ⟨by intro y hy; have : y = 1 := (by simpa [goodA] using hy); subst this; decide, by intro y hy; have : y = ⟨1, 7⟩ := (by simpa [goodA, tbA] using hy); subst this; decide⟩
  have hb : okI badA := ⟨by intro y hy; have : y = 1 := (by simpa [badA] using hy); subst this; decide, by intro y hy; have : y = ⟨1, 7⟩ := (by simpa [badA, tbA] using hy); subst this; decide⟩
  simp only [List.mem_cons, List.not_mem_nil, or_false] at hx
  rcases hx with rfl | rfl | rfl | rfl
  · exact hg
  · exact hg
  · exact hg
  · exact hb
theorem bFindE (A : Option Addr) (n c : Nat) (l : List Pr) (I : Option Addr) (m mc : Nat) (its : List It) (k : Nat) (w : World) (hA : kP.C w A n l) (hc : n ≤ c) (hI : kI.C w I m its) (hm : m ≤ mc) (ho : ∀ x ∈ its, okI x) (hm0 : m ≤ 1000000000000) (hk : cnt (chk l) its = k) :
    Calls Try.prog 11 #[.slice A n c, .slice I m mc] w fun e w' => ∃ B, e = .returned (.tuple #[.slice (some ⟨B, 0, none⟩) m m, .int .i64 (k : Int)]) ∧ w.heap.size ≤ B ∧ Box w' B (outC m fun j => chk l (rdI its (j : Int))) 4 ∧ Below w.heap.size w w' := by
  subst hk
  exact (bFind A n c l I m mc its w hA hc hI hm ho hm0).mono fun e w' hh => ⟨_, hh.1, by omega, hh.2.1, hh.2.2⟩
theorem C_oneU {W : World} {vb : Nat} {k : Int} {T : TypeId} (h : Box W vb #[.int .u64 k] T) : (Kd.int .u64).C W (some ⟨vb, 0, none⟩) 1 [k] :=
  C_cells (d := Kd.int .u64) (xs := [k]) h (by simp) (fun j x hj => by
    match j, hj with
    | 0, hj =>
      obtain rfl : k = x := by simpa using hj
      refine ⟨[.int .u64 k], rfl, fun i u hu => ?_⟩
      match i, hu with
      | 0, hu => simpa using hu
    | j + 1, hj => simp at hj)
theorem K_it (W : World) (A B : Nat) (it : It) (k r : Int) (hk : it = ⟨[k], r, ⟨false, tbA⟩⟩) (h0 : (Kd.int .u64).C W (some ⟨A, 0, none⟩) 1 [k]) (h1 : kP.C W (some ⟨B, 0, none⟩) 1 tbA) : kI.K W it [.slice (some ⟨A, 0, none⟩) 1 1, .int .u64 r, .bool false, .slice (some ⟨B, 0, none⟩) 1 1] := by
  subst hk
  exact k32_mk W ⟨[k], r, ⟨false, tbA⟩⟩ (A0 := some ⟨A, 0, none⟩) (c0 := 1) (by simp) h0 (A3 := some ⟨B, 0, none⟩) (c3 := 1) (show tbA.length ≤ 1 by decide) h1
theorem outC_map (m : Nat) (O : Nat → Bool) : outC m O = (((List.range m).map O).map Value.bool).toArray := by simp [outC]
theorem outA : (List.range 4).map (fun j : Nat => chk tbA (rdI itsA (j : Int))) = [true, true, true, false] := by decide
theorem C_bl {W : World} {b : Nat} {l : List Bool} {T : TypeId} (h : Box W b (l.map Value.bool).toArray T) (hl : l.length ≤ 9223372036854775807) : Kd.bool.C W (some ⟨b, 0, none⟩) l.length l :=
  C_cells (d := Kd.bool) h hl (fun j x hj => by
    refine ⟨[.bool x], rfl, fun i u hu => ?_⟩
    have hi : i = 0 := by
      rcases Nat.eq_zero_or_pos i with g | g
      · exact g
      · rw [List.getElem?_eq_none (by simp; omega)] at hu
        cases hu
    subst hi
    have hu2 : u = .bool x := by simpa using hu.symm
    subst hu2
    show ((l.map Value.bool).toArray)[j * 1 + 0]? = _
    simp [hj])
set_option maxRecDepth 100000 in
set_option maxHeartbeats 8000000 in
theorem awake_calls (w : World) : Calls Try.prog 8 #[] w fun e w' => e = .returned (.bool true) ∧ Below w.heap.size w w' := by
  have HB := Aside0.mk (Below.refl w.heap.size w)
  go_enter Try.func8, Try.ntmps8
  go_wp2_with fail
  obtain ⟨w1, h1⟩ : ∃ W, w.alloc (.cells #[.int .u64 1, .int .u64 7] 52) = W := ⟨_, rfl⟩
  rw [h1]
  obtain ⟨w2, h2⟩ : ∃ W, w1.alloc (.cells #[.int .u64 1] 28) = W := ⟨_, rfl⟩
  rw [h2]
  obtain ⟨w3, h3⟩ : ∃ W, w2.alloc (.cells #[.slice (some ⟨w.heap.size + 1, 0, none⟩) 1 1, .int .u64 7, .bool false, .slice (some ⟨w.heap.size, 0, none⟩) 1 1] 32) = W := ⟨_, rfl⟩
  rw [h3]
  obtain ⟨w4, h4⟩ : ∃ W, w3.alloc (.cells #[.int .u64 1] 28) = W := ⟨_, rfl⟩
  rw [h4]
  obtain ⟨w5, h5⟩ : ∃ W, w4.alloc (.cells #[.slice (some ⟨w.heap.size + 1 + 1 + 1, 0, none⟩) 1 1, .int .u64 8, .bool false, .slice (some ⟨w.heap.size, 0, none⟩) 1 1] 32) = W := ⟨_, rfl⟩
  rw [h5]
  obtain ⟨w6, h6⟩ : ∃ W, w5.alloc (.cells #[.slice (some ⟨w.heap.size + 1, 0, none⟩) 1 1, .int .u64 7, .bool false, .slice (some ⟨w.heap.size, 0, none⟩) 1 1, .slice (some ⟨w.heap.size + 1, 0, none⟩) 1 1, .int .u64 7, .bool false, .slice (some ⟨w.heap.size, 0, none⟩) 1 1, .slice (some ⟨w.heap.size + 1, 0, none⟩) 1 1, .int .u64 7, .bool false, .slice (some ⟨w.heap.size, 0, none⟩) 1 1, .slice (some ⟨w.heap.size + 1 + 1 + 1, 0, none⟩) 1 1, .int .u64 8, .bool false, .slice (some ⟨w.heap.size, 0, none⟩) 1 1] 32) = W := ⟨_, rfl⟩
  rw [h6]
  have s1 : w1.heap.size = w.heap.size + 1 := by rw [← h1, size_alloc]
  have s2 : w2.heap.size = w.heap.size + 1 + 1 := by rw [← h2, size_alloc, s1]
  have s3 : w3.heap.size = w.heap.size + 1 + 1 + 1 := by rw [← h3, size_alloc, s2]
  have s4 : w4.heap.size = w.heap.size + 1 + 1 + 1 + 1 := by rw [← h4, size_alloc, s3]
  have s5 : w5.heap.size = w.heap.size + 1 + 1 + 1 + 1 + 1 := by rw [← h5, size_alloc, s4]
  have b1 : Below w.heap.size w w1 := h1 ▸ below_alloc (Below.refl _ _) _
  have b2 : Below w.heap.size w w2 := h2 ▸ below_alloc b1 _
  have b3 : Below w.heap.size w w3 := h3 ▸ below_alloc b2 _
  have b4 : Below w.heap.size w w4 := h4 ▸ below_alloc b3 _
  have b5 : Below w.heap.size w w5 := h5 ▸ below_alloc b4 _
  have b6 : Below w.heap.size w w6 := h6 ▸ below_alloc b5 _
  have x1 : Box w1 w.heap.size #[.int .u64 1, .int .u64 7] 52 := h1 ▸ Box.new
  have x2 : Box w2 (w.heap.size + 1) #[.int .u64 1] 28 := by rw [← s1]; exact h2 ▸ Box.new
  have x4 : Box w4 (w.heap.size + 1 + 1 + 1) #[.int .u64 1] 28 := by rw [← s3]; exact h4 ▸ Box.new
  have x6 : Box w6 (w.heap.size + 1 + 1 + 1 + 1 + 1) #[.slice (some ⟨w.heap.size + 1, 0, none⟩) 1 1, .int .u64 7, .bool false, .slice (some ⟨w.heap.size, 0, none⟩) 1 1, .slice (some ⟨w.heap.size + 1, 0, none⟩) 1 1, .int .u64 7, .bool false, .slice (some ⟨w.heap.size, 0, none⟩) 1 1, .slice (some ⟨w.heap.size + 1, 0, none⟩) 1 1, .int .u64 7, .bool false, .slice (some ⟨w.heap.size, 0, none⟩) 1 1, .slice (some ⟨w.heap.size + 1 + 1 + 1, 0, none⟩) 1 1, .int .u64 8, .bool false, .slice (some ⟨w.heap.size, 0, none⟩) 1 1] 32 := by
    have e : Box w6 w5.heap.size #[.slice (some ⟨w.heap.size + 1, 0, none⟩) 1 1, .int .u64 7, .bool false, .slice (some ⟨w.heap.size, 0, none⟩) 1 1, .slice (some ⟨w.heap.size + 1, 0, none⟩) 1 1, .int .u64 7, .bool false, .slice (some ⟨w.heap.size, 0, none⟩) 1 1, .slice (some ⟨w.heap.size + 1, 0, none⟩) 1 1, .int .u64 7, .bool false, .slice (some ⟨w.heap.size, 0, none⟩) 1 1, .slice (some ⟨w.heap.size + 1 + 1 + 1, 0, none⟩) 1 1, .int .u64 8, .bool false, .slice (some ⟨w.heap.size, 0, none⟩) 1 1] 32 := h6 ▸ Box.new
    rw [s5] at e
    exact e
  have y1 : Box w6 w.heap.size _ _ := h6 ▸ h5 ▸ h4 ▸ h3 ▸ h2 ▸ x1.alloc.alloc.alloc.alloc.alloc
  have y2 : Box w6 (w.heap.size + 1) _ _ := h6 ▸ h5 ▸ h4 ▸ h3 ▸ x2.alloc.alloc.alloc.alloc
  have y4 : Box w6 (w.heap.size + 1 + 1 + 1) _ _ := h6 ▸ h5 ▸ x4.alloc.alloc
  have HT := Aside0.mk (C_oneP (m := ⟨1, 7⟩) y1 : kP.C w6 (some ⟨w.heap.size, 0, none⟩) 1 tbA)
  have hk1 := C_oneU y2
  have hk3 := C_oneU y4
  have HI := Aside0.mk (show kI.C w6 (some ⟨w.heap.size + 1 + 1 + 1 + 1 + 1, 0, none⟩) 4 itsA from C_cells (d := kI) (xs := itsA) x6 (by decide) (fun j x hj => by
    match j, hj with
    | 0, hj =>
      obtain rfl : goodA = x := by simpa [itsA] using hj
      refine ⟨_, K_it w6 _ _ goodA 1 7 rfl hk1 HT.out, fun i u hu => ?_⟩
      match i, hu with
      | 0, hu => exact hu
      | 1, hu => exact hu
      | 2, hu => exact hu
      | 3, hu => exact hu
    | 1, hj =>
      obtain rfl : goodA = x := by simpa [itsA] using hj
      refine ⟨_, K_it w6 _ _ goodA 1 7 rfl hk1 HT.out, fun i u hu => ?_⟩
      match i, hu with
      | 0, hu => exact hu
      | 1, hu => exact hu
      | 2, hu => exact hu
      | 3, hu => exact hu
    | 2, hj =>
      obtain rfl : goodA = x := by simpa [itsA] using hj
      refine ⟨_, K_it w6 _ _ goodA 1 7 rfl hk1 HT.out, fun i u hu => ?_⟩
      match i, hu with
      | 0, hu => exact hu
      | 1, hu => exact hu
      | 2, hu => exact hu
      | 3, hu => exact hu
    | 3, hj =>
      obtain rfl : badA = x := by simpa [itsA] using hj
      refine ⟨_, K_it w6 _ _ badA 1 8 rfl hk3 HT.out, fun i u hu => ?_⟩
      match i, hu with
      | 0, hu => exact hu
      | 1, hu => exact hu
      | 2, hu => exact hu
      | 3, hu => exact hu
    | j + 4, hj => simp [itsA] at hj))
  clear HB h1 h2 h3 h4 h5 h6 s1 s2 s3 s4 s5 b1 b2 b3 b4 b5 x1 x2 x4 x6 y1 y2 y4 hk1 hk3
  have HB := Aside0.mk b6
  clear b6
  refine (bFindE _ 1 1 tbA _ 4 4 itsA 5 _ HT.out (by omega) HI.out (by omega) okA (by omega) cntA).mono ?_
  rintro e w7 ⟨B, rfl, hB0, hBx, hb_⟩
  have XO := Aside0.mk hBx
  have HT7 := Aside0.mk (Kd.C_below HT.out hb_)
  have HB7 := Aside0.mk (below_step HB.out hb_)
  clear HB HT HI hBx hb_ hB0
  go_wp2_with fail
  refine (bFindE _ 1 1 tbA none 0 0 [] 0 _ HT7.out (by omega) (Kd.C_nil _ _) (by omega) (fun x hx => by cases hx) (by omega) (by decide)).mono ?_
  rintro e w8 ⟨B2, rfl, hB0, hBx, hb_⟩
  have XO8 := Aside0.mk (XO.out.below hb_)
  have HB8 := Aside0.mk (below_step HB7.out hb_)
  clear XO HT7 HB7 hBx hb_ hB0
  go_wp2_with fail
  have e8 := XO8.out
  rw [outC_map, outA] at e8
  have HC1 := Aside0.mk (C_alloc (C_bl e8 (by simp)) : Kd.bool.C (w8.alloc (.cells #[.bool true, .bool true, .bool true, .bool false] 4)) (some ⟨B, 0, none⟩) 4 [true, true, true, false])
  have HC2 := Aside0.mk (C_bl (l := [true, true, true, false]) Box.new (by simp) : Kd.bool.C (w8.alloc (.cells #[.bool true, .bool true, .bool true, .bool false] 4)) (some ⟨w8.heap.size, 0, none⟩) 4 [true, true, true, false])
  have HB9 := Aside0.mk (HB8.out.alloc HB8.out.size (.cells #[.bool true, .bool true, .bool true, .bool false] 4))
  clear e8 XO8 HB8
  refine (boolsE _ _ 4 4 4 4 _ _ true _ HC1.out (by omega) HC2.out (by omega) (by omega) (by decide)).mono ?_
  rintro e w10 ⟨rfl, hb_⟩
  have HB10 := Aside0.mk (below_step HB9.out hb_)
  clear hb_ HB9 HC1 HC2
  go_wp2_with fail
  refine (mostE 4 1 5 _ (by omega) (by omega) (by omega) (by omega) (by decide)).mono ?_
  rintro e w11 ⟨rfl, hb_⟩
  have HB11 := Aside0.mk (below_step HB10.out hb_)
  clear hb_ HB10
  go_wp2_with fail
  refine (mostE 0 1 0 _ (by omega) (by omega) (by omega) (by omega) (by decide)).mono ?_
  rintro e w12 ⟨rfl, hb_⟩
  have HB12 := Aside0.mk (below_step HB11.out hb_)
  clear hb_ HB11
  go_wp2_with fail
  refine (mostE 9 0 1 _ (by omega) (by omega) (by omega) (by omega) (by decide)).mono ?_
  rintro e w13 ⟨rfl, hb_⟩
  have HB13 := Aside0.mk (below_step HB12.out hb_)
  clear hb_ HB12
  go_wp2_with fail
  refine (mostE 5 (-1) 0 _ (by omega) (by omega) (by omega) (by omega) (by decide)).mono ?_
  rintro e w14 ⟨rfl, hb_⟩
  have HB14 := Aside0.mk (below_step HB13.out hb_)
  clear hb_ HB13
  go_wp2
  go_ret
  exact ⟨rfl, HB14.out⟩
end Go.Proofs.Ytnfglkgkdechlaa


/- Contracts in the form in which the statements use them (chapter 15). -/
set_option linter.unusedVariables false
set_option linter.unusedSimpArgs false
namespace Go.Proofs.Ytnfglkgkdechlaa
open Go.RowKit Go.Proofs.YtnfglkgkdechlaaW.PrintWords Go.Proofs.YtnfglkgkdechlaaW.PrintLast Go.Proofs.YtnfglkgkdechlaaW.PrintMore
open Go.Proofs.Ytnfglkgkdechlaa.PQ

theorem tableC (A : Option Addr) (n c : Nat) (raw : List Int) (t : List Pr) (w : World) (hA : (Kd.int .i64).C w A n raw) (hc : n ≤ c) (hi : ∀ x ∈ raw, In64 x) (ht : tabR raw = t) : Calls Try.prog 9 #[.slice A n c] w
    fun r w' => ∃ T k, r = .returned (.slice T t.length k) ∧ t.length ≤ k ∧ kP.C w' T t.length t ∧ Below w.heap.size w w' := by
  subst ht
  refine (lTable A n c raw w hA hc hi).mono fun r w' hh => ?_
  obtain ⟨v, rfl, hR, hb⟩ := hh
  obtain ⟨T, k, rfl⟩ := Kd.R_slice hR
  exact ⟨T, k, rfl, (Kd.R_reads' hR).2.1, (Kd.R_reads' hR).2.2, hb⟩
theorem itemsC (A : Option Addr) (n c : Nat) (raw : List Rw) (its : List It) (w : World) (hA : kR.C w A n raw) (hc : n ≤ c) (ho : ∀ x ∈ raw, OkR x) (hi : itemsR raw = its) : Calls Try.prog 10 #[.slice A n c] w
    fun r w' => ∃ I k, r = .returned (.slice I its.length k) ∧ its.length ≤ k ∧ kI.C w' I its.length its ∧ Below w.heap.size w w' := by
  subst hi
  refine (lItems A n c raw w hA hc ho).mono fun r w' hh => ?_
  obtain ⟨v, rfl, hR, hb⟩ := hh
  obtain ⟨T, k, rfl⟩ := Kd.S_slice hR
  exact ⟨T, k, rfl, (Kd.S_reads' hR).2.1, (Kd.S_reads' hR).2.2, hb⟩
theorem rng_map {α β : Type} (l : List α) (f : Nat → β) (g : α → β) (h : ∀ (i : Nat) (hi : i < l.length), f i = g l[i]) : (List.range l.length).map f = l.map g := by
  apply List.ext_getElem
  · simp
  · intro i h1 h2
    rw [List.getElem_map, List.getElem_map, List.getElem_range]
    exact h i (by simpa using h1)
theorem out_its (t : List Pr) (its : List It) : (List.range its.length).map (fun j : Nat => chk t (rdI its (j : Int))) = its.map (chk t) := rng_map its _ _ fun i h => by rw [rdI_eq h]
theorem findC (A : Option Addr) (n c : Nat) (t : List Pr) (I : Option Addr) (m mc : Nat) (its : List It) (bs : List Bool) (k : Nat) (w : World) (hA : kP.C w A n t) (hc : n ≤ c) (hI : kI.C w I m its) (hm : m ≤ mc) (ho : ∀ x ∈ its, okI x) (hm0 : m ≤ 1000000000000) (hb : its.map (chk t) = bs) (hk : cnt (chk t) its = k) :
    Calls Try.prog 11 #[.slice A n c, .slice I m mc] w fun e w' => ∃ B, e = .returned (.tuple #[.slice (some B) m m, .int .i64 (k : Int)]) ∧ Kd.bool.C w' (some B) m bs ∧ Below w.heap.size w w' := by
  subst hk hb
  obtain rfl := Kd.C_len hI
  refine (bFind A n c t I _ mc its w hA hc hI hm ho hm0).mono fun e w' hh => ⟨_, hh.1, ?_, hh.2.2⟩
  have h1 := hh.2.1
  rw [outC_map, out_its] at h1
  have h2 := C_bl h1 (by simp; omega)
  rw [List.length_map] at h2
  exact h2
theorem at_B {w : World} {A : Option Addr} {n : Nat} {l : List Bool} (h : Kd.bool.C w A n l) (i : Nat) (hi : i < n) : ∃ ad, A = some ad ∧ w.cell? (ad.add i) = some (.bool (l.getD i false)) := by
  obtain ⟨a, rfl, hc⟩ := h.2.2 (by omega)
  have hl := Kd.C_len h
  have hg : l[i]? = some (l.getD i false) := by
    rw [List.getD_eq_getElem?_getD, List.getElem?_eq_getElem (by omega)]
    rfl
  generalize l.getD i false = x at *
  obtain ⟨row, h1, h2, h3⟩ := hc i x hg
  have h4 : row = [.bool x] := h2
  subst h4
  have h5 := h3 0 _ rfl
  have hs : i * Kd.bool.sz + 0 = i := by show i * 1 + 0 = i; omega
  rw [hs] at h5
  exact ⟨a, rfl, h5⟩
end Go.Proofs.Ytnfglkgkdechlaa


/- The functions whose contracts are by hand, in the form of the printed ones (chapter 15). -/
set_option linter.unusedVariables false
set_option linter.unusedSimpArgs false
namespace Go.Proofs.Ytnfglkgkdechlaa
open Go.RowKit Go.Proofs.YtnfglkgkdechlaaW.PrintWords Go.Proofs.YtnfglkgkdechlaaW.PrintLast Go.Proofs.YtnfglkgkdechlaaW.PrintMore
open Go.Proofs.Ytnfglkgkdechlaa.PQ

def in64B (c : Int) : Bool := decide (-9223372036854775808 ≤ c ∧ c ≤ 9223372036854775807)
theorem in64B_iff {c : Int} : in64B c = true ↔ In64 c := by
  unfold in64B In64
  exact decide_eq_true_iff
def okRB (x : Rw) : Bool := x.f0.all in64B && in64B x.f1 && x.f2.all in64B && in64B x.f3
theorem okRB_iff {x : Rw} : okRB x = true ↔ OkR x := by
  unfold okRB OkR
  simp only [Bool.and_eq_true, List.all_eq_true, in64B_iff, and_assoc]
def okIB (it : It) : Bool := it.f0.all (fun x => (Lit.int .u64 x).wf) && it.f2.f1.all (fun p => (Lit.int .u64 p.f0).wf)
theorem okIB_iff {it : It} : okIB it = true ↔ okI it := by
  unfold okIB okI
  simp only [Bool.and_eq_true, List.all_eq_true]
def PQ.mootbelllaw15_awake.f : Option Bool := some true
theorem PQ.mootbelllaw15_awake.calls (r : Bool) (w : World) (h : PQ.mootbelllaw15_awake.f = some r) : Calls Try.prog 8 #[] w fun e w' => e = .returned (.bool r) ∧ Below w.heap.size w w' := by
  obtain rfl := Option.some.inj h
  exact awake_calls w
def PQ.mootbelllaw07_Table.f (l0 : List Int) : Option (List Pr) := if l0.all in64B = true then some (tabR l0) else none
theorem PQ.mootbelllaw07_Table.calls (A0 : Option Addr) (c0 : Nat) (l0 : List Int) (r : List Pr) (w : World) (hr0 : Kd.C (Kd.int .i64) w A0 l0.length l0) (hc0 : l0.length ≤ c0) (h : PQ.mootbelllaw07_Table.f l0 = some r) :
    Calls Try.prog 9 #[.slice A0 l0.length c0] w fun e w' => ∃ v0_ : Value, e = .returned (v0_) ∧ Kd.R kP 52 w' w.heap.size (fun _ => True) v0_ r ∧ Below w.heap.size w w' := by
  obtain ⟨h1, rfl⟩ := ofIf h
  exact lTable A0 _ c0 l0 w hr0 hc0 (fun x hx => in64B_iff.1 (List.all_eq_true.1 h1 x hx))
def PQ.mootbelllaw15_Items.f (l0 : List Rw) : Option (List It) := if l0.all okRB = true then some (itemsR l0) else none
theorem PQ.mootbelllaw15_Items.calls (A0 : Option Addr) (c0 : Nat) (l0 : List Rw) (r : List It) (w : World) (hr0 : Kd.C kR w A0 l0.length l0) (hc0 : l0.length ≤ c0) (h : PQ.mootbelllaw15_Items.f l0 = some r) :
    Calls Try.prog 10 #[.slice A0 l0.length c0] w fun e w' => ∃ v0_ : Value, e = .returned (v0_) ∧ Kd.S kI 32 w' w.heap.size (fun _ => True) v0_ r ∧ Below w.heap.size w w' := by
  obtain ⟨h1, rfl⟩ := ofIf h
  exact lItems A0 _ c0 l0 w hr0 hc0 (fun x hx => okRB_iff.1 (List.all_eq_true.1 h1 x hx))
theorem R_out {w : World} {b base m : Nat} {O : Nat → Bool} (hb : Box w b (outC m O) 4) (h : base ≤ b) (hm : m ≤ 1000000000000) : Kd.bool.R 4 w base (fun _ => True) (.slice (some ⟨b, 0, none⟩) m m) ((List.range m).map O) := by
  have hl : ((List.range m).map O).length = m := by simp
  refine Kd.R_of_own (enc := Value.bool) (h1 := fun _ => rfl) ?_ (fun _ _ => trivial)
  rw [hl]
  refine ⟨by simp [encs], Or.inr ⟨b, m, outC m O, rfl, h, hb, Nat.le_refl _, by unfold maxLen; omega, by simp [outC], ?_⟩⟩
  have e : (List.map (fun j => Value.bool (O j)) (List.range m)).length ≤ m := by simp
  simp [outC, encs, List.map_map, Function.comp_def, List.take_of_length_le e]
def PQ.bisect_Find.f (l0 : List Pr) (l1 : List It) : Option (List Bool × Int) := if l1.length ≤ 1000000000000 ∧ l1.all okIB = true then some ((List.range l1.length).map (fun j : Nat => chk l0 (rdI l1 (j : Int))), (cnt (chk l0) l1 : Int)) else none
theorem PQ.bisect_Find.calls (A0 : Option Addr) (c0 : Nat) (l0 : List Pr) (A1 : Option Addr) (c1 : Nat) (l1 : List It) (r1 : List Bool) (r2 : Int) (w : World) (hr0 : Kd.C kP w A0 l0.length l0) (hc0 : l0.length ≤ c0) (hr1 : Kd.C kI w A1 l1.length l1) (hc1 : l1.length ≤ c1) (h : PQ.bisect_Find.f l0 l1 = some (r1, r2)) :
    Calls Try.prog 11 #[.slice A0 l0.length c0, .slice A1 l1.length c1] w fun e w' => ∃ v0_ : Value, e = .returned (.tuple #[v0_, .int .i64 r2]) ∧ Kd.R Kd.bool 4 w' w.heap.size (fun _ => True) v0_ r1 ∧ Below w.heap.size w w' := by
  obtain ⟨⟨h1, h2⟩, h3⟩ := ofIf h
  injection h3 with h4 h5
  subst h4 h5
  refine (bFind A0 _ c0 l0 A1 _ c1 l1 w hr0 hc0 hr1 hc1 (fun x hx => okIB_iff.1 (List.all_eq_true.1 h2 x hx)) h1).mono fun e w' hh => ?_
  exact ⟨_, hh.1, R_out hh.2.1 (by omega) h1, hh.2.2⟩
def PQ.bisect_Most.f (a0 a1 : Int) : Option Int := if (-4294967296 ≤ a0 ∧ a0 ≤ 4294967296) ∧ (-4294967296 ≤ a1 ∧ a1 ≤ 4294967296) then some (mostF a0 a1) else none
theorem PQ.bisect_Most.calls (a0 : Int) (a1 : Int) (r : Int) (w : World) (h : PQ.bisect_Most.f a0 a1 = some r) : Calls Try.prog 15 #[.int .i64 a0, .int .i64 a1] w fun e w' => e = .returned (.int .i64 r) ∧ Below w.heap.size w w' := by
  obtain ⟨⟨h1, h2⟩, rfl⟩ := ofIf h
  exact bMost a0 a1 w h1.2 h2.2 h1.1 h2.1
end Go.Proofs.Ytnfglkgkdechlaa

