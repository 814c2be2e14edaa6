import Derived.Deep.RegionHeld3
import Derived.Test.YtnfglkgkdechlaaF1
import Derived.Laws.IdiomArrays
import Derived.Deep.Slices
import Derived.Test.YtnfglkgkdechlaaShellG
import Derived.Test.YtnfglkgkdechlaaF0
import Derived.Test.YtnfglkgkdechlaaQx0
import Derived.Test.YtnfglkgkdechlaaQx1
set_option linter.unusedVariables false
set_option linter.unusedSimpArgs false

/- Raw items (chapter 15's statements). -/
namespace Go.Proofs.Ytnfglkgkdechlaa
open Go.RowKit Go.Proofs.YtnfglkgkdechlaaW.PrintWords Go.Proofs.YtnfglkgkdechlaaW.PrintLast Go.Proofs.YtnfglkgkdechlaaW.PrintMore

open Go.Proofs.Ytnfglkgkdechlaa.PQ Go.Proofs.YtnfglkgkdechlaaW.PrintLast

abbrev Rw := S48
abbrev kR : Kd Rw := k48
def OkR (x : Rw) : Prop := (∀ y ∈ x.f0, In64 y) ∧ In64 x.f1 ∧ (∀ y ∈ x.f2, In64 y) ∧ In64 x.f3
def signR (root : Int) (ks : List Int) : List Pr := ks.foldl (fun l k => withP l ⟨k, root⟩) []
theorem signR_len (root : Int) : ∀ (ks : List Int) (l : List Pr), (ks.foldl (fun l k => withP l ⟨k, root⟩) l).length = l.length + ks.length
  | [], l => by simp
  | k :: r, l => by
    rw [List.foldl_cons, signR_len root r, withP_len]
    simp
    omega
theorem sign_l (root : Int) (ks : List Int) (hk : ks.length ≤ 100000) (r i k : Nat) (l : List Pr) (hl : l.length = i) (hr : i + r = ks.length) (hkk : r < k) :
    mootbellref07_Sign.l0 k root ks (i : Int) false l = some (false, (ks.drop i).foldl (fun l k => withP l ⟨k, root⟩) l, 0) := by
  induction r generalizing i k l with
  | zero =>
    obtain ⟨k, rfl⟩ : ∃ q, k = q + 1 := ⟨k - 1, by omega⟩
    rw [mootbellref07_Sign.l0, if_neg (by omega), List.drop_of_length_le (by omega)]
    rfl
  | succ r ih =>
    obtain ⟨k, rfl⟩ : ∃ q, k = q + 1 := ⟨k - 1, by omega⟩
    have hi : i < ks.length := by omega
    have hrd : rd ks (i : Int) = ks[i] := by
      unfold rd
      rw [Int.toNat_natCast, List.getD_eq_getElem?_getD, List.getElem?_eq_getElem hi]
      rfl
    have hw : wrap64 ((i : Int) + 1) = ((i + 1 : Nat) : Int) := In64_nat (by omega)
    rw [mootbellref07_Sign.l0, if_pos (by omega), if_pos (by omega), hrd, mootbellref07_with.f, if_pos (by omega), Option.bind_some, hw, ih (i + 1) k _ (by rw [withP_len, hl]) (by omega) (by omega), List.drop_eq_getElem_cons hi]
    rfl
theorem sign_f (root : Int) (ks : List Int) (hk : ks.length ≤ 2048) : mootbellref07_Sign.f (ks.length + 1) root ks = some (false, signR root ks, 0) := by
  unfold mootbellref07_Sign.f
  rw [if_neg (by omega)]
  have := sign_l root ks (by omega) ks.length 0 (ks.length + 1) [] rfl (by omega) (by omega)
  rw [List.drop_zero] at this
  exact this
theorem rSignE (root : Int) (A : Option Addr) (n c : Nat) (ks : List Int) (w : World) (hA : (Kd.int .u64).C w A n ks) (hc : n ≤ c) (hn : n ≤ 2048) : Calls Try.prog 29 #[.int .u64 root, .slice A n c] w
    fun e w' => ∃ v, e = .returned (.tuple #[.agg #[.bool false, v], .int .i64 0]) ∧ kP.R 52 w' w.heap.size (fun _ => True) v (signR root ks) ∧ Below w.heap.size w w' := by
  obtain rfl := Kd.C_len hA
  exact mootbellref07_Sign.calls (ks.length + 1) root A c ks false (signR root ks) 0 w hA hc (sign_f root ks hn)
theorem keysR_len (raw : List Int) : ∀ (xs acc : List Int), (xs.foldl (fun acc x => addK acc (pickK x 12)) acc).length ≤ acc.length + xs.length
  | [], acc => by simp
  | x :: r, acc => by
    rw [List.foldl_cons]
    have h1 := keysR_len raw r (addK acc (pickK x 12))
    have h2 := addK_len acc (pickK x 12)
    simp
    omega
theorem keysR_12 (raw : List Int) : (keysR raw).length ≤ 12 := by
  have := keysR_len raw (raw.take 12) []
  unfold keysR
  rw [List.length_take] at this
  simp at this
  omega
/-- The item of raw numbers. -/
def itemR (x : Rw) : It := ⟨keysR x.f0, pickZ x.f1 3, ⟨decide (pickZ x.f3 5 = 1), if 0 < pickZ x.f3 5 then signR (pickZ x.f1 3) (keysR x.f0) else tokR x.f2⟩⟩
theorem pick15E (c n r : Int) (hc : In64 c) (hn : 0 < n) (w : World) (h : pickZ c n = r) : Calls Try.prog 14 #[.int .i64 c, .int .i64 n] w fun e w' => e = .returned (.int .i64 r) ∧ Below w.heap.size w w' :=
  (mootbelllaw15_pick.calls c n r w (by rw [pick15_f c n hc hn, h])).mono fun e w' hh => ⟨hh.1, hh.2.below⟩
theorem Box.four {w : World} {b : Nat} {T : TypeId} {x y z u a c d e : Value} (h : Box w b #[x, y, z, u] T) : Box ((((w.setCell ⟨b, 0, none⟩ a).setCell ⟨b, 1, none⟩ c).setCell ⟨b, 2, none⟩ d).setCell ⟨b, 3, none⟩ e) b #[a, c, d, e] T := by
  have := Box.put (j := 3) (v := e) (Box.put (j := 2) (v := d) (Box.put (j := 1) (v := c) (Box.put (j := 0) (v := a) h)))
  simpa using this
theorem R_far4 {α : Type} {d : Kd α} {e base b : Nat} {w : World} {ok : Nat → Prop} {v a0 a1 a2 a3 : Value} {xs : List α} (h : d.R e w base ok v xs) (hok : ∀ k, ok k → k ≠ b) :
    d.R e ((((w.setCell ⟨b, 0, none⟩ a0).setCell ⟨b, 1, none⟩ a1).setCell ⟨b, 2, none⟩ a2).setCell ⟨b, 3, none⟩ a3) base ok v xs :=
  Kd.R_far (p := ⟨b, 3, none⟩) (Kd.R_far (p := ⟨b, 2, none⟩) (Kd.R_far (p := ⟨b, 1, none⟩) (Kd.R_far (p := ⟨b, 0, none⟩) h hok _) hok _) hok _) hok _
theorem R_off {α : Type} {d : Kd α} {e base b : Nat} {w : World} {v : Value} {xs : List α} (h : d.R e w base (fun _ => True) v xs) (hb : b < base ∨ w.heap.size ≤ b) : d.R e w base (fun k => k ≠ b) v xs :=
  Kd.R_mono (Kd.R_bound h) (fun k hk => by have := hk.2.1; have := hk.2.2.1; omega)
theorem lKeysE (A : Option Addr) (n c : Nat) (raw ks : List Int) (w : World) (hA : (Kd.int .i64).C w A n raw) (hc : n ≤ c) (hi : ∀ x ∈ raw, In64 x) (h : keysR raw = ks) : Calls Try.prog 27 #[.slice A n c] w
    fun r w' => ∃ v, r = .returned v ∧ (Kd.int .u64).R 28 w' w.heap.size (fun _ => True) v ks ∧ Below w.heap.size w w' := h ▸ lKeys A n c raw w hA hc hi
theorem lTokenE (A : Option Addr) (n c : Nat) (raw : List Int) (f : Bool) (l : List Pr) (w : World) (hA : (Kd.int .i64).C w A n raw) (hc : n ≤ c) (hi : ∀ x ∈ raw, In64 x) (h : tokR raw = l) : Calls Try.prog 28 #[.slice A n c, .bool f] w
    fun r w' => ∃ v, r = .returned (.agg #[.bool f, v]) ∧ kP.R 52 w' w.heap.size (fun _ => True) v l ∧ Below w.heap.size w w' := h ▸ lToken A n c raw f w hA hc hi
set_option maxRecDepth 100000 in
set_option maxHeartbeats 8000000 in
theorem lItem (KA : Option Addr) (nk ck : Nat) (P : Option Addr) (np cp : Nat) (x : Rw) (w : World) (hK : (Kd.int .i64).C w KA nk x.f0) (hck : nk ≤ ck) (hP : (Kd.int .i64).C w P np x.f2) (hcp : np ≤ cp) (ho : OkR x) :
    Calls Try.prog 18 #[.agg #[.slice KA nk ck, .int .i64 x.f1, .slice P np cp, .int .i64 x.f3]] w
      fun r w' => ∃ v0 v3, r = .returned (.agg #[v0, .int .u64 (itemR x).f1, .bool (itemR x).f2.f0, v3]) ∧ (Kd.int .u64).R 28 w' w.heap.size (fun _ => True) v0 (itemR x).f0 ∧ kP.R 52 w' w.heap.size (fun _ => True) v3 (itemR x).f2.f1 ∧ Below w.heap.size w w' := by
  have HK := Aside0.mk hK
  have HP := Aside0.mk hP
  have HOK := Aside0.mk (show (∀ y ∈ x.f0, In64 y) ∧ In64 x.f1 ∧ (∀ y ∈ x.f2, In64 y) ∧ In64 x.f3 from ho)
  clear hK hP ho
  go_enter Try.func18, Try.ntmps18
  go_upto_region 1 with (fail)
  obtain ⟨W0, hW0⟩ : ∃ W, w.alloc (.cells #[.slice KA nk ck, .int .i64 x.f1, .slice P np cp, .int .i64 x.f3] 48) = W := ⟨_, rfl⟩
  rw [hW0]
  obtain ⟨W, hW⟩ : ∃ W, W0.alloc (.cells #[.slice none 0 0, .int .u64 0, .bool false, .slice none 0 0] 32) = W := ⟨_, rfl⟩
  rw [hW]
  obtain ⟨s, hs⟩ : ∃ s, w.heap.size = s := ⟨_, rfl⟩
  have hs0 : W0.heap.size = s + 1 := by rw [← hW0, size_alloc, hs]
  have hs1 : W.heap.size = s + 2 := by rw [← hW, size_alloc, hs0]
  have b0 : Box W0 s #[.slice KA nk ck, .int .i64 x.f1, .slice P np cp, .int .i64 x.f3] 48 := hs ▸ hW0 ▸ Box.new
  have bX := Aside0.mk (hW ▸ b0.alloc : Box W s _ _)
  have bZ := Aside0.mk (hs0 ▸ hW ▸ Box.new : Box W (s + 1) #[.slice none 0 0, .int .u64 0, .bool false, .slice none 0 0] 32)
  have HB := Aside0.mk (hW ▸ below_alloc (hW0 ▸ below_alloc (Below.refl _ _) _) _ : Below w.heap.size w W)
  rw [hs]
  have HS := Aside0.mk (And.intro hs hs1)
  clear hW0 hW b0 hs0 hs hs1
  have HKW := Aside0.mk (Kd.C_below HK.out HB.out)
  have HPW := Aside0.mk (Kd.C_below HP.out HB.out)
  clear HK HP
  obtain ⟨ks, hks⟩ : ∃ l, keysR x.f0 = l := ⟨_, rfl⟩
  obtain ⟨tk, htk⟩ : ∃ l, tokR x.f2 = l := ⟨_, rfl⟩
  obtain ⟨p1, hp1⟩ : ∃ p, pickZ x.f1 3 = p := ⟨_, rfl⟩
  obtain ⟨q, hq⟩ : ∃ p, pickZ x.f3 5 = p := ⟨_, rfl⟩
  have hk12 : ks.length ≤ 12 := by rw [← hks]; exact keysR_12 _
  have HE := Aside0.mk (show itemR x = ⟨ks, p1, ⟨decide (q = 1), if 0 < q then signR p1 ks else tk⟩⟩ by unfold itemR; rw [hks, htk, hp1, hq])
  have HH := Aside0.mk (And.intro hks (And.intro htk (And.intro hp1 hq)))
  have hp1b : 0 ≤ p1 ∧ p1 < 3 := by rw [← hp1]; exact pickZ_lt _ _ (by omega)
  have hc1 : IntKind.u64.wrap p1 = p1 := by rw [IntKind.wrap_u64]; omega
  clear hks htk hp1 hq
  have rX := bX.out.cell
  have kX := bX.out.lt
  go_cut [3] (fun v3 wd => ∃ B A5 c5, v3 = .pointer (some ⟨B, 0, none⟩) ∧ W.heap.size ≤ B ∧ Box wd B #[.slice A5 ks.length c5, .int .u64 p1, .bool false, .slice none 0 0] 32 ∧ (Kd.int .u64).R 28 wd W.heap.size (fun k => k ≠ B) (.slice A5 ks.length c5) ks ∧ Below W.heap.size W wd)
  case first =>
    refine wp_region_last_drew (S := (fun w' => Below W.heap.size W w' ∧ (∀ j, w'.cell? ⟨s, j, none⟩ = (#[.slice KA nk ck, .int .i64 x.f1, .slice P np cp, .int .i64 x.f3] : Array Value)[j]?))) (ds := [9]) (by kernel_rfl) ?hS16x0 (fun hHeld => ?hR16x0)
    case hS16x0 => ((try dsimp only); (first | exact ⟨below_drew1 (Below.refl _ _), rX⟩ | exact ⟨below_drew1 b0_, rX⟩ | exact ⟨j0, jX⟩ | exact ⟨below_alloc j0 _, fun j => (cell_alloc_old (Nat.lt_of_lt_of_le kX j0.size)).trans (jX j)⟩ | exact ⟨below_alloc (below_drew1 (Below.refl _ _)) _, fun j => (cell_alloc_old kX).trans (rX j)⟩ | assumption))
    refine wpAnyLast_take (i := 0) (oi := ⟨some 6, _, _, _, _, _⟩) (v := ?_) rfl (by kernel_rfl) (by kernel_rfl) (by kernel_rfl) (by kernel_rfl) (by kernel_rfl) (fun _ _ _ h => h) (Or.inl ⟨by rfl, ?hY16x2⟩) (by assumption) ?hR16x2
    case hY16x2 => (intro w hSw; (try dsimp only at hSw); go_simp; try with_reducible rfl)
    (try simp only [Act.put, qa_, qb_, qc_])
    refine wpAnyLast_take (i := 1) (oi := ⟨some 7, _, _, _, _, _⟩) (v := ?_) rfl (by kernel_rfl) (by kernel_rfl) (by kernel_rfl) (by kernel_rfl) (by kernel_rfl) (fun _ _ _ h => h) (Or.inl ⟨by rfl, ?hY16x3⟩) (by assumption) ?hR16x3
    case hY16x3 => (intro w hSw; (try dsimp only at hSw); go_simp; try with_reducible rfl)
    (try simp only [Act.put, qa_, qb_, qc_])
    refine wpAnyLast_take (i := 3) (oi := ⟨some 9, _, _, _, _, _⟩) (v := ?_) rfl (by kernel_rfl) (by kernel_rfl) (by kernel_rfl) (by kernel_rfl) (by kernel_rfl) (fun _ _ _ h => h) (Or.inl ⟨by rfl, ?hY16x4⟩) (by assumption) ?hR16x4
    case hY16x4 => (intro w hSw; (try dsimp only at hSw); go_simp; try with_reducible rfl)
    (try simp only [Act.put, qa_, qb_, qc_])
    refine wpAnyLast_take (i := 4) (oi := ⟨some 10, _, _, _, _, _⟩) (v := ?_) rfl (by kernel_rfl) (by kernel_rfl) (by kernel_rfl) (by kernel_rfl) (by kernel_rfl) (fun _ _ _ h => h) (Or.inl ⟨by rfl, ?hY16x5⟩) (by assumption) ?hR16x5
    case hY16x5 => (intro w hSw; (try dsimp only at hSw); go_simp; try with_reducible rfl)
    (try simp only [Act.put, qa_, qb_, qc_])
    refine wpAnyLast_ready (rs := [2, 8]) (by kernel_rfl) (by simp) ?_
    refine AllReadyL.cons (o := ⟨some 8, _, _, _, _, _⟩) rfl (by decide) (fun K hK => ?hT16x60) (AllReadyL.cons (o := ⟨some 3, _, _, _, _, _⟩) rfl (by decide) (fun K hK => ?hT16x61) (AllReadyL.nil))
    case hT16x60 =>
      go_simp
      (first | (go_at_call 27; obtain ⟨g0, gX⟩ := ‹Below W.heap.size W _ ∧ _›; ((with_reducible refine (lKeysE KA nk ck x.f0 ks _ (Kd.C_below HKW.out g0) hck HOK.out.1 HH.out.1).mono ?_));  rintro e w5 ⟨v5, rfl, hR_, hb_⟩; have j0 := below_step g0 hb_; have s5 := j0.size; have jX := fun j => (j0.cell (p := ⟨s, j, none⟩) kX).trans (rX j); (obtain ⟨A5, c5, rfl⟩ := Kd.R_slice hR_); (try first | have bq5 := Box.below Box.new hb_ | have bq5 := Box.below (Box.drew Box.new) hb_); (try have rq5 := bq5.cell); (try have fq5 := bq5.frozen)) | (go_at_call 14; obtain ⟨g0, gX⟩ := ‹Below W.heap.size W _ ∧ _›; ((with_reducible refine (pick15E x.f1 3 p1 HOK.out.2.1 (by omega) _ HH.out.2.2.1).mono ?_));  rintro e w6 ⟨rfl, hb_⟩; have j0 := below_step g0 hb_; have s6 := j0.size; have jX := fun j => (j0.cell (p := ⟨s, j, none⟩) kX).trans (rX j); (first | have ro6 := Kd.R_below hR_ hb_ | have ro6 := Kd.R_below (Kd.R_alloc hR_ _) hb_); (try first | have bq6 := Box.below Box.new hb_ | have bq6 := Box.below (Box.drew Box.new) hb_ | have bq6 := Box.below bq5 hb_); (try have rq6 := bq6.cell); (try have fq6 := bq6.frozen)))
      (try go_wp2_with fail)
      refine hK.out _ _ ?hS16x7 (fun hHeld => ?hR16x7)
      case hS16x7 => ((try dsimp only); (first | exact ⟨below_drew1 (Below.refl _ _), rX⟩ | exact ⟨below_drew1 b0_, rX⟩ | exact ⟨j0, jX⟩ | exact ⟨below_alloc j0 _, fun j => (cell_alloc_old (Nat.lt_of_lt_of_le kX j0.size)).trans (jX j)⟩ | exact ⟨below_alloc (below_drew1 (Below.refl _ _)) _, fun j => (cell_alloc_old kX).trans (rX j)⟩ | assumption))
      clear hK K
      (try simp only [Act.put, qa_, qb_, qc_])
      refine wpAnyLast_ready (rs := [5, 8]) (by kernel_rfl) (by simp) ?_
      refine AllReadyL.cons (o := ⟨some 11, _, _, _, _, _⟩) rfl (by decide) (fun K hK => ?hT16x80) (AllReadyL.cons (o := ⟨some 3, _, _, _, _, _⟩) rfl (by decide) (fun K hK => ?hT16x81) (AllReadyL.nil))
      case hT16x80 =>
        go_simp
        (first | (go_at_call 27; obtain ⟨g0, gX⟩ := ‹Below W.heap.size W _ ∧ _›; ((with_reducible refine (lKeysE KA nk ck x.f0 ks _ (Kd.C_below HKW.out g0) hck HOK.out.1 HH.out.1).mono ?_));  rintro e w5 ⟨v5, rfl, hR_, hb_⟩; have j0 := below_step g0 hb_; have s5 := j0.size; have jX := fun j => (j0.cell (p := ⟨s, j, none⟩) kX).trans (rX j); (obtain ⟨A5, c5, rfl⟩ := Kd.R_slice hR_); (try first | have bq5 := Box.below Box.new hb_ | have bq5 := Box.below (Box.drew Box.new) hb_); (try have rq5 := bq5.cell); (try have fq5 := bq5.frozen)) | (go_at_call 14; obtain ⟨g0, gX⟩ := ‹Below W.heap.size W _ ∧ _›; ((with_reducible refine (pick15E x.f1 3 p1 HOK.out.2.1 (by omega) _ HH.out.2.2.1).mono ?_));  rintro e w6 ⟨rfl, hb_⟩; have j0 := below_step g0 hb_; have s6 := j0.size; have jX := fun j => (j0.cell (p := ⟨s, j, none⟩) kX).trans (rX j); (first | have ro6 := Kd.R_below hR_ hb_ | have ro6 := Kd.R_below (Kd.R_alloc hR_ _) hb_); (try first | have bq6 := Box.below Box.new hb_ | have bq6 := Box.below (Box.drew Box.new) hb_ | have bq6 := Box.below bq5 hb_); (try have rq6 := bq6.cell); (try have fq6 := bq6.frozen)))
        (try go_wp2_with fail)
        refine hK.out _ _ ?hS16x9 (fun hHeld => ?hR16x9)
        case hS16x9 => ((try dsimp only); (first | exact ⟨below_drew1 (Below.refl _ _), rX⟩ | exact ⟨below_drew1 b0_, rX⟩ | exact ⟨j0, jX⟩ | exact ⟨below_alloc j0 _, fun j => (cell_alloc_old (Nat.lt_of_lt_of_le kX j0.size)).trans (jX j)⟩ | exact ⟨below_alloc (below_drew1 (Below.refl _ _)) _, fun j => (cell_alloc_old kX).trans (rX j)⟩ | assumption))
        clear hK K
        (try simp only [Act.put, qa_, qb_, qc_])
        refine wpAnyLast_take (i := 6) (oi := ⟨some 12, _, _, _, _, _⟩) (v := ?_) rfl (by kernel_rfl) (by kernel_rfl) (by kernel_rfl) (by kernel_rfl) (by kernel_rfl) (fun _ _ _ h => h) (Or.inl ⟨by rfl, ?hY16x10⟩) (by assumption) ?hR16x10
        case hY16x10 => (intro w hSw; (try dsimp only at hSw); go_simp; try with_reducible rfl)
        (try simp only [Act.put, qa_, qb_, qc_])
        refine wpAnyLast_take (i := 7) (oi := ⟨some 13, _, _, _, _, _⟩) (v := ?_) rfl (by kernel_rfl) (by kernel_rfl) (by kernel_rfl) (by kernel_rfl) (by kernel_rfl) (fun _ _ _ h => h) (Or.inl ⟨by rfl, ?hY16x11⟩) (by assumption) ?hR16x11
        case hY16x11 => (intro w hSw; (try dsimp only at hSw); go_simp; try with_reducible rfl)
        (try simp only [Act.put, qa_, qb_, qc_])
        refine wpAnyLast_ready (rs := [8]) (by kernel_rfl) (by simp) ?_
        refine AllReadyL.cons (o := ⟨some 3, _, _, _, _, _⟩) rfl (by decide) (fun K hK => ?hT16x12) ?hM16x12
        case hM16x12 => exact AllReadyL.nil
        go_simp
        (try go_wp2_with fail)
        refine hK.out _ _ ?hS16x12 (fun hHeld => ?hR16x12)
        case hS16x12 => ((try dsimp only); (first | exact ⟨below_drew1 (Below.refl _ _), rX⟩ | exact ⟨below_drew1 b0_, rX⟩ | exact ⟨j0, jX⟩ | exact ⟨below_alloc j0 _, fun j => (cell_alloc_old (Nat.lt_of_lt_of_le kX j0.size)).trans (jX j)⟩ | exact ⟨below_alloc (below_drew1 (Below.refl _ _)) _, fun j => (cell_alloc_old kX).trans (rX j)⟩ | assumption))
        clear hK K
        (try simp only [Act.put, qa_, qb_, qc_])
        refine wpAnyLast_ready (rs := [9]) (by kernel_rfl) (by simp) ?_
        refine AllReadyL.cons_last (o := ⟨none, _, _, _, _, _⟩) rfl (by decide) (fun K hK => ?hT16x13) ?hM16x13
        case hM16x13 => exact AllReadyL.nil
        go_simp
        (try go_wp2_with fail)
        refine hK.out _ _ ?hR16x13
        clear hK K
        (try simp only [Act.put, qa_, qb_, qc_])
        refine wpAnyLast_done (by kernel_rfl) ?_ _
        go_wp2
        go_meet
        case rel =>
          first
            | (have _t := bq5; exact ⟨W.heap.size, A5, c5, rfl, Nat.le_refl _, Box.four bq6, R_far4 (Kd.R_lower (Kd.R_below (R_off hR_ (Or.inl (Nat.lt_of_lt_of_eq (Nat.lt_succ_self _) (size_alloc (W := W)).symm))) hb_) (Nat.le_of_lt (Nat.lt_of_lt_of_eq (Nat.lt_succ_self _) (size_alloc (W := W)).symm))) (fun k hk => hk), below_set (below_set (below_set (below_set j0 (by first | omega | (simp only; omega))) (by first | omega | (simp only; omega))) (by first | omega | (simp only; omega))) (by first | omega | (simp only; omega))⟩)
            | (have _t := bq6; exact ⟨w5.heap.size, A5, c5, rfl, s5, Box.four bq6, R_far4 (Kd.R_below (Kd.R_alloc (R_off (Kd.R_lower hR_ (Nat.le_refl _)) (Or.inr (Nat.le_refl _))) _) hb_) (fun k hk => hk), below_set (below_set (below_set (below_set j0 (by first | omega | (simp only; omega))) (by first | omega | (simp only; omega))) (by first | omega | (simp only; omega))) (by first | omega | (simp only; omega))⟩)
            | exact ⟨w6.heap.size, A5, c5, rfl, s6, Box.new, Kd.R_alloc (R_off (Kd.R_lower ro6 (Nat.le_refl _)) (Or.inr (Nat.le_refl _))) _, below_alloc j0 _⟩
      case hT16x81 =>
        go_simp
        (try go_wp2_with fail)
        refine hK.out _ _ ?hS16x14 (fun hHeld => ?hR16x14)
        case hS16x14 => ((try dsimp only); (first | exact ⟨below_drew1 (Below.refl _ _), rX⟩ | exact ⟨below_drew1 b0_, rX⟩ | exact ⟨j0, jX⟩ | exact ⟨below_alloc j0 _, fun j => (cell_alloc_old (Nat.lt_of_lt_of_le kX j0.size)).trans (jX j)⟩ | exact ⟨below_alloc (below_drew1 (Below.refl _ _)) _, fun j => (cell_alloc_old kX).trans (rX j)⟩ | assumption))
        clear hK K
        (try simp only [Act.put, qa_, qb_, qc_])
        refine wpAnyLast_ready (rs := [5]) (by kernel_rfl) (by simp) ?_
        refine AllReadyL.cons (o := ⟨some 11, _, _, _, _, _⟩) rfl (by decide) (fun K hK => ?hT16x15) ?hM16x15
        case hM16x15 => exact AllReadyL.nil
        go_simp
        (first | (go_at_call 27; obtain ⟨g0, gX⟩ := ‹Below W.heap.size W _ ∧ _›; ((with_reducible refine (lKeysE KA nk ck x.f0 ks _ (Kd.C_below HKW.out g0) hck HOK.out.1 HH.out.1).mono ?_));  rintro e w5 ⟨v5, rfl, hR_, hb_⟩; have j0 := below_step g0 hb_; have s5 := j0.size; have jX := fun j => (j0.cell (p := ⟨s, j, none⟩) kX).trans (rX j); (obtain ⟨A5, c5, rfl⟩ := Kd.R_slice hR_); (try first | have bq5 := Box.below Box.new hb_ | have bq5 := Box.below (Box.drew Box.new) hb_); (try have rq5 := bq5.cell); (try have fq5 := bq5.frozen)) | (go_at_call 14; obtain ⟨g0, gX⟩ := ‹Below W.heap.size W _ ∧ _›; ((with_reducible refine (pick15E x.f1 3 p1 HOK.out.2.1 (by omega) _ HH.out.2.2.1).mono ?_));  rintro e w6 ⟨rfl, hb_⟩; have j0 := below_step g0 hb_; have s6 := j0.size; have jX := fun j => (j0.cell (p := ⟨s, j, none⟩) kX).trans (rX j); (first | have ro6 := Kd.R_below hR_ hb_ | have ro6 := Kd.R_below (Kd.R_alloc hR_ _) hb_); (try first | have bq6 := Box.below Box.new hb_ | have bq6 := Box.below (Box.drew Box.new) hb_ | have bq6 := Box.below bq5 hb_); (try have rq6 := bq6.cell); (try have fq6 := bq6.frozen)))
        (try go_wp2_with fail)
        refine hK.out _ _ ?hS16x15 (fun hHeld => ?hR16x15)
        case hS16x15 => ((try dsimp only); (first | exact ⟨below_drew1 (Below.refl _ _), rX⟩ | exact ⟨below_drew1 b0_, rX⟩ | exact ⟨j0, jX⟩ | exact ⟨below_alloc j0 _, fun j => (cell_alloc_old (Nat.lt_of_lt_of_le kX j0.size)).trans (jX j)⟩ | exact ⟨below_alloc (below_drew1 (Below.refl _ _)) _, fun j => (cell_alloc_old kX).trans (rX j)⟩ | assumption))
        clear hK K
        (try simp only [Act.put, qa_, qb_, qc_])
        refine wpAnyLast_take (i := 6) (oi := ⟨some 12, _, _, _, _, _⟩) (v := ?_) rfl (by kernel_rfl) (by kernel_rfl) (by kernel_rfl) (by kernel_rfl) (by kernel_rfl) (fun _ _ _ h => h) (Or.inl ⟨by rfl, ?hY16x16⟩) (by assumption) ?hR16x16
        case hY16x16 => (intro w hSw; (try dsimp only at hSw); go_simp; try with_reducible rfl)
        (try simp only [Act.put, qa_, qb_, qc_])
        refine wpAnyLast_take (i := 7) (oi := ⟨some 13, _, _, _, _, _⟩) (v := ?_) rfl (by kernel_rfl) (by kernel_rfl) (by kernel_rfl) (by kernel_rfl) (by kernel_rfl) (fun _ _ _ h => h) (Or.inl ⟨by rfl, ?hY16x17⟩) (by assumption) ?hR16x17
        case hY16x17 => (intro w hSw; (try dsimp only at hSw); go_simp; try with_reducible rfl)
        (try simp only [Act.put, qa_, qb_, qc_])
        refine wpAnyLast_ready (rs := [9]) (by kernel_rfl) (by simp) ?_
        refine AllReadyL.cons_last (o := ⟨none, _, _, _, _, _⟩) rfl (by decide) (fun K hK => ?hT16x18) ?hM16x18
        case hM16x18 => exact AllReadyL.nil
        go_simp
        (try go_wp2_with fail)
        refine hK.out _ _ ?hR16x18
        clear hK K
        (try simp only [Act.put, qa_, qb_, qc_])
        refine wpAnyLast_done (by kernel_rfl) ?_ _
        go_wp2
        go_meet
        case rel =>
          first
            | (have _t := bq5; exact ⟨W.heap.size, A5, c5, rfl, Nat.le_refl _, Box.four bq6, R_far4 (Kd.R_lower (Kd.R_below (R_off hR_ (Or.inl (Nat.lt_of_lt_of_eq (Nat.lt_succ_self _) (size_alloc (W := W)).symm))) hb_) (Nat.le_of_lt (Nat.lt_of_lt_of_eq (Nat.lt_succ_self _) (size_alloc (W := W)).symm))) (fun k hk => hk), below_set (below_set (below_set (below_set j0 (by first | omega | (simp only; omega))) (by first | omega | (simp only; omega))) (by first | omega | (simp only; omega))) (by first | omega | (simp only; omega))⟩)
            | (have _t := bq6; exact ⟨w5.heap.size, A5, c5, rfl, s5, Box.four bq6, R_far4 (Kd.R_below (Kd.R_alloc (R_off (Kd.R_lower hR_ (Nat.le_refl _)) (Or.inr (Nat.le_refl _))) _) hb_) (fun k hk => hk), below_set (below_set (below_set (below_set j0 (by first | omega | (simp only; omega))) (by first | omega | (simp only; omega))) (by first | omega | (simp only; omega))) (by first | omega | (simp only; omega))⟩)
            | exact ⟨w6.heap.size, A5, c5, rfl, s6, Box.new, Kd.R_alloc (R_off (Kd.R_lower ro6 (Nat.le_refl _)) (Or.inr (Nat.le_refl _))) _, below_alloc j0 _⟩
    case hT16x61 =>
      go_simp
      (try go_wp2_with fail)
      refine hK.out _ _ ?hS16x19 (fun hHeld => ?hR16x19)
      case hS16x19 => ((try dsimp only); (first | exact ⟨below_drew1 (Below.refl _ _), rX⟩ | exact ⟨below_drew1 b0_, rX⟩ | exact ⟨j0, jX⟩ | exact ⟨below_alloc j0 _, fun j => (cell_alloc_old (Nat.lt_of_lt_of_le kX j0.size)).trans (jX j)⟩ | exact ⟨below_alloc (below_drew1 (Below.refl _ _)) _, fun j => (cell_alloc_old kX).trans (rX j)⟩ | assumption))
      clear hK K
      (try simp only [Act.put, qa_, qb_, qc_])
      refine wpAnyLast_ready (rs := [2]) (by kernel_rfl) (by simp) ?_
      refine AllReadyL.cons (o := ⟨some 8, _, _, _, _, _⟩) rfl (by decide) (fun K hK => ?hT16x20) ?hM16x20
      case hM16x20 => exact AllReadyL.nil
      go_simp
      (first | (go_at_call 27; obtain ⟨g0, gX⟩ := ‹Below W.heap.size W _ ∧ _›; ((with_reducible refine (lKeysE KA nk ck x.f0 ks _ (Kd.C_below HKW.out g0) hck HOK.out.1 HH.out.1).mono ?_));  rintro e w5 ⟨v5, rfl, hR_, hb_⟩; have j0 := below_step g0 hb_; have s5 := j0.size; have jX := fun j => (j0.cell (p := ⟨s, j, none⟩) kX).trans (rX j); (obtain ⟨A5, c5, rfl⟩ := Kd.R_slice hR_); (try first | have bq5 := Box.below Box.new hb_ | have bq5 := Box.below (Box.drew Box.new) hb_); (try have rq5 := bq5.cell); (try have fq5 := bq5.frozen)) | (go_at_call 14; obtain ⟨g0, gX⟩ := ‹Below W.heap.size W _ ∧ _›; ((with_reducible refine (pick15E x.f1 3 p1 HOK.out.2.1 (by omega) _ HH.out.2.2.1).mono ?_));  rintro e w6 ⟨rfl, hb_⟩; have j0 := below_step g0 hb_; have s6 := j0.size; have jX := fun j => (j0.cell (p := ⟨s, j, none⟩) kX).trans (rX j); (first | have ro6 := Kd.R_below hR_ hb_ | have ro6 := Kd.R_below (Kd.R_alloc hR_ _) hb_); (try first | have bq6 := Box.below Box.new hb_ | have bq6 := Box.below (Box.drew Box.new) hb_ | have bq6 := Box.below bq5 hb_); (try have rq6 := bq6.cell); (try have fq6 := bq6.frozen)))
      (try go_wp2_with fail)
      refine hK.out _ _ ?hS16x20 (fun hHeld => ?hR16x20)
      case hS16x20 => ((try dsimp only); (first | exact ⟨below_drew1 (Below.refl _ _), rX⟩ | exact ⟨below_drew1 b0_, rX⟩ | exact ⟨j0, jX⟩ | exact ⟨below_alloc j0 _, fun j => (cell_alloc_old (Nat.lt_of_lt_of_le kX j0.size)).trans (jX j)⟩ | exact ⟨below_alloc (below_drew1 (Below.refl _ _)) _, fun j => (cell_alloc_old kX).trans (rX j)⟩ | assumption))
      clear hK K
      (try simp only [Act.put, qa_, qb_, qc_])
      refine wpAnyLast_ready (rs := [5]) (by kernel_rfl) (by simp) ?_
      refine AllReadyL.cons (o := ⟨some 11, _, _, _, _, _⟩) rfl (by decide) (fun K hK => ?hT16x21) ?hM16x21
      case hM16x21 => exact AllReadyL.nil
      go_simp
      (first | (go_at_call 27; obtain ⟨g0, gX⟩ := ‹Below W.heap.size W _ ∧ _›; ((with_reducible refine (lKeysE KA nk ck x.f0 ks _ (Kd.C_below HKW.out g0) hck HOK.out.1 HH.out.1).mono ?_));  rintro e w5 ⟨v5, rfl, hR_, hb_⟩; have j0 := below_step g0 hb_; have s5 := j0.size; have jX := fun j => (j0.cell (p := ⟨s, j, none⟩) kX).trans (rX j); (obtain ⟨A5, c5, rfl⟩ := Kd.R_slice hR_); (try first | have bq5 := Box.below Box.new hb_ | have bq5 := Box.below (Box.drew Box.new) hb_); (try have rq5 := bq5.cell); (try have fq5 := bq5.frozen)) | (go_at_call 14; obtain ⟨g0, gX⟩ := ‹Below W.heap.size W _ ∧ _›; ((with_reducible refine (pick15E x.f1 3 p1 HOK.out.2.1 (by omega) _ HH.out.2.2.1).mono ?_));  rintro e w6 ⟨rfl, hb_⟩; have j0 := below_step g0 hb_; have s6 := j0.size; have jX := fun j => (j0.cell (p := ⟨s, j, none⟩) kX).trans (rX j); (first | have ro6 := Kd.R_below hR_ hb_ | have ro6 := Kd.R_below (Kd.R_alloc hR_ _) hb_); (try first | have bq6 := Box.below Box.new hb_ | have bq6 := Box.below (Box.drew Box.new) hb_ | have bq6 := Box.below bq5 hb_); (try have rq6 := bq6.cell); (try have fq6 := bq6.frozen)))
      (try go_wp2_with fail)
      refine hK.out _ _ ?hS16x21 (fun hHeld => ?hR16x21)
      case hS16x21 => ((try dsimp only); (first | exact ⟨below_drew1 (Below.refl _ _), rX⟩ | exact ⟨below_drew1 b0_, rX⟩ | exact ⟨j0, jX⟩ | exact ⟨below_alloc j0 _, fun j => (cell_alloc_old (Nat.lt_of_lt_of_le kX j0.size)).trans (jX j)⟩ | exact ⟨below_alloc (below_drew1 (Below.refl _ _)) _, fun j => (cell_alloc_old kX).trans (rX j)⟩ | assumption))
      clear hK K
      (try simp only [Act.put, qa_, qb_, qc_])
      refine wpAnyLast_take (i := 6) (oi := ⟨some 12, _, _, _, _, _⟩) (v := ?_) rfl (by kernel_rfl) (by kernel_rfl) (by kernel_rfl) (by kernel_rfl) (by kernel_rfl) (fun _ _ _ h => h) (Or.inl ⟨by rfl, ?hY16x22⟩) (by assumption) ?hR16x22
      case hY16x22 => (intro w hSw; (try dsimp only at hSw); go_simp; try with_reducible rfl)
      (try simp only [Act.put, qa_, qb_, qc_])
      refine wpAnyLast_take (i := 7) (oi := ⟨some 13, _, _, _, _, _⟩) (v := ?_) rfl (by kernel_rfl) (by kernel_rfl) (by kernel_rfl) (by kernel_rfl) (by kernel_rfl) (fun _ _ _ h => h) (Or.inl ⟨by rfl, ?hY16x23⟩) (by assumption) ?hR16x23
      case hY16x23 => (intro w hSw; (try dsimp only at hSw); go_simp; try with_reducible rfl)
      (try simp only [Act.put, qa_, qb_, qc_])
      refine wpAnyLast_ready (rs := [9]) (by kernel_rfl) (by simp) ?_
      refine AllReadyL.cons_last (o := ⟨none, _, _, _, _, _⟩) rfl (by decide) (fun K hK => ?hT16x24) ?hM16x24
      case hM16x24 => exact AllReadyL.nil
      go_simp
      (try go_wp2_with fail)
      refine hK.out _ _ ?hR16x24
      clear hK K
      (try simp only [Act.put, qa_, qb_, qc_])
      refine wpAnyLast_done (by kernel_rfl) ?_ _
      go_wp2
      go_meet
      case rel =>
        first
          | (have _t := bq5; exact ⟨W.heap.size, A5, c5, rfl, Nat.le_refl _, Box.four bq6, R_far4 (Kd.R_lower (Kd.R_below (R_off hR_ (Or.inl (Nat.lt_of_lt_of_eq (Nat.lt_succ_self _) (size_alloc (W := W)).symm))) hb_) (Nat.le_of_lt (Nat.lt_of_lt_of_eq (Nat.lt_succ_self _) (size_alloc (W := W)).symm))) (fun k hk => hk), below_set (below_set (below_set (below_set j0 (by first | omega | (simp only; omega))) (by first | omega | (simp only; omega))) (by first | omega | (simp only; omega))) (by first | omega | (simp only; omega))⟩)
          | (have _t := bq6; exact ⟨w5.heap.size, A5, c5, rfl, s5, Box.four bq6, R_far4 (Kd.R_below (Kd.R_alloc (R_off (Kd.R_lower hR_ (Nat.le_refl _)) (Or.inr (Nat.le_refl _))) _) hb_) (fun k hk => hk), below_set (below_set (below_set (below_set j0 (by first | omega | (simp only; omega))) (by first | omega | (simp only; omega))) (by first | omega | (simp only; omega))) (by first | omega | (simp only; omega))⟩)
          | exact ⟨w6.heap.size, A5, c5, rfl, s6, Box.new, Kd.R_alloc (R_off (Kd.R_lower ro6 (Nat.le_refl _)) (Or.inr (Nat.le_refl _))) _, below_alloc j0 _⟩
  case rest =>
    obtain ⟨B, A5, c5, rfl, hB, bB, hR, hbc⟩ := hcut
    have HR := Aside0.mk hR
    have HBC := Aside0.mk (below_step HB.out hbc)
    have XX := Aside0.mk (bX.out.below hbc)
    have XZ := Aside0.mk (bZ.out.below hbc)
    have XB := Aside0.mk bB
    have HPC := Aside0.mk (Kd.C_below HPW.out hbc)
    have hs2 : s + 2 ≤ B := by have := HS.out.2; omega
    clear rX kX HB bX bZ hR hbc bB HKW HPW hB
    have x0 : wc.cell? ⟨s, 2, none⟩ = some (.slice P np cp) := XX.out.cell 2
    go_wp2_with fail
    refine (lTokenE P np cp x.f2 false tk _ HPC.out hcp HOK.out.2.2.1 HH.out.2.1).mono ?_
    rintro e w7 ⟨v7, rfl, hT, hb_⟩
    obtain ⟨A7, c7, rfl⟩ := Kd.R_slice hT
    have HT := Aside0.mk (R_off (b := B) hT (Or.inl XB.out.lt))
    have HR7 := Aside0.mk (Kd.R_below HR.out hb_)
    have XX7 := Aside0.mk (XX.out.below hb_)
    have XZ7 := Aside0.mk (XZ.out.below hb_)
    have XB7 := Aside0.mk (XB.out.below hb_)
    have HB7 := Aside0.mk (below_step HBC.out hb_)
    have hszc := hb_.size
    have kB := XB.out.lt
    clear x0 HR XX XZ XB HBC HPC hT hb_
    have rB := XB7.out.cell
    have fB := XB7.out.frozen
    go_upto_region 3 with (fail)
    obtain ⟨V, hV⟩ : ∃ V, (w7.setCell ⟨B, 2, none⟩ (.bool false)).setCell ⟨B, 3, none⟩ (.slice A7 tk.length c7) = V := ⟨_, rfl⟩
    rw [hV]
    have XBV := Aside0.mk (show Box V B #[.slice A5 ks.length c5, .int .u64 p1, .bool false, .slice A7 tk.length c7] 32 from by
      have e := Box.put (j := 3) (v := .slice A7 tk.length c7) (Box.put (j := 2) (v := .bool false) XB7.out)
      rw [hV] at e
      simpa using e)
    have HTV := Aside0.mk (show kP.R 52 V wc.heap.size (fun k => k ≠ B) (.slice A7 tk.length c7) tk from hV ▸ Kd.R_far (p := ⟨B, 3, none⟩) (Kd.R_far (p := ⟨B, 2, none⟩) HT.out (fun k hk => hk) _) (fun k hk => hk) _)
    have HRV := Aside0.mk (show (Kd.int .u64).R 28 V W.heap.size (fun k => k ≠ B) (.slice A5 ks.length c5) ks from hV ▸ Kd.R_far (p := ⟨B, 3, none⟩) (Kd.R_far (p := ⟨B, 2, none⟩) HR7.out (fun k hk => hk) _) (fun k hk => hk) _)
    have XXV := Aside0.mk (hV ▸ (XX7.out.far (by simp; omega)).far (by simp; omega) : Box V s _ _)
    have XZV := Aside0.mk (hV ▸ (XZ7.out.far (by simp; omega)).far (by simp; omega) : Box V (s + 1) _ _)
    have HBV := Aside0.mk (show Below w.heap.size w V from hV ▸ below_set (below_set HB7.out (by have := HS.out.1; show _ ≤ B; omega)) (by have := HS.out.1; show _ ≤ B; omega))
    clear hV rB fB HT HR7 XX7 XZ7 XB7 HB7
    have x0 : V.cell? ⟨s, 3, none⟩ = some (.int .i64 x.f3) := XXV.out.cell 3
    go_wp2_with fail
    refine (pick15E x.f3 5 q HOK.out.2.2.2 (by omega) _ HH.out.2.2.2).mono ?_
    rintro e w8 ⟨rfl, hb_⟩
    have XB8 := Aside0.mk (XBV.out.below hb_)
    have HT8 := Aside0.mk (Kd.R_below HTV.out hb_)
    have HR8 := Aside0.mk (Kd.R_below HRV.out hb_)
    have XX8 := Aside0.mk (XXV.out.below hb_)
    have XZ8 := Aside0.mk (XZV.out.below hb_)
    have HB8 := Aside0.mk (below_step HBV.out hb_)
    clear x0 XBV HTV HRV XXV XZV HBV hb_
    have rB := XB8.out.cell
    have fB := XB8.out.frozen
    have kB8 := XB8.out.lt
    by_cases hq : 0 < q
    · have hdq : decide (0 < q) = true := decide_eq_true hq
      obtain ⟨sg, hsg⟩ : ∃ l, signR p1 ks = l := ⟨_, rfl⟩
      have HSG := Aside0.mk hsg
      have HC8 := Aside0.mk ((Kd.R_reads' HR8.out).2.2)
      have hc5 := (Kd.R_reads' HR8.out).2.1
      clear hsg
      go_wp2_with fail
      refine (rSignE p1 A5 ks.length c5 ks _ HC8.out hc5 (by omega)).mono ?_
      rintro e w9 ⟨v9, rfl, hS, hb_⟩
      rw [HSG.out] at hS
      obtain ⟨A9, c9, rfl⟩ := Kd.R_slice hS
      have XB9 := Aside0.mk (XB8.out.below hb_)
      have HS9 := Aside0.mk (R_off (b := B) hS (Or.inl XB8.out.lt))
      have HR9 := Aside0.mk (Kd.R_below HR8.out hb_)
      have XX9 := Aside0.mk (XX8.out.below hb_)
      have XZ9 := Aside0.mk (XZ8.out.below hb_)
      have HB9 := Aside0.mk (below_step HB8.out hb_)
      clear rB fB XB8 HT8 HR8 XX8 XZ8 HB8 hb_ hS HC8
      have rB := XB9.out.cell
      have fB := XB9.out.frozen
      have kB9 := XB9.out.lt
      go_upto_region 6 with (fail)
      obtain ⟨V2, hV2⟩ : ∃ V, ((w9.setCell ⟨B, 2, none⟩ (.bool false)).setCell ⟨B, 3, none⟩ (.slice A9 sg.length c9)).alloc (.cells #[.bool false, .slice A9 sg.length c9] 30) = V := ⟨_, rfl⟩
      rw [hV2]
      have XBV := Aside0.mk (show Box V2 B #[.slice A5 ks.length c5, .int .u64 p1, .bool false, .slice A9 sg.length c9] 32 from by
        have e := (Box.put (j := 3) (v := .slice A9 sg.length c9) (Box.put (j := 2) (v := .bool false) XB9.out)).alloc (o := .cells #[.bool false, .slice A9 sg.length c9] 30)
        rw [hV2] at e
        simpa using e)
      have HLV := Aside0.mk (show kP.R 52 V2 w8.heap.size (fun k => k ≠ B) (.slice A9 sg.length c9) sg from hV2 ▸ Kd.R_alloc (Kd.R_far (p := ⟨B, 3, none⟩) (Kd.R_far (p := ⟨B, 2, none⟩) HS9.out (fun k hk => hk) _) (fun k hk => hk) _) _)
      have HRV := Aside0.mk (show (Kd.int .u64).R 28 V2 W.heap.size (fun k => k ≠ B) (.slice A5 ks.length c5) ks from hV2 ▸ Kd.R_alloc (Kd.R_far (p := ⟨B, 3, none⟩) (Kd.R_far (p := ⟨B, 2, none⟩) HR9.out (fun k hk => hk) _) (fun k hk => hk) _) _)
      have XXV := Aside0.mk (show Box V2 s #[.slice KA nk ck, .int .i64 x.f1, .slice P np cp, .int .i64 x.f3] 48 from hV2 ▸ ((XX9.out.far (by simp; omega)).far (by simp; omega)).alloc)
      have XZV := Aside0.mk (show Box V2 (s + 1) #[.slice none 0 0, .int .u64 0, .bool false, .slice none 0 0] 32 from hV2 ▸ ((XZ9.out.far (by simp; omega)).far (by simp; omega)).alloc)
      have HBV := Aside0.mk (show Below w.heap.size w V2 from hV2 ▸ below_alloc (below_set (below_set HB9.out (by have := HS.out.1; show _ ≤ B; omega)) (by have := HS.out.1; show _ ≤ B; omega)) _)
      have hbase : s + 2 ≤ w8.heap.size := by omega
      clear hV2 rB fB XB9 HS9 HR9 XX9 XZ9 HB9
      have x0 : V2.cell? ⟨s, 3, none⟩ = some (.int .i64 x.f3) := XXV.out.cell 3
      go_wp2_with fail
      refine (pick15E x.f3 5 q HOK.out.2.2.2 (by omega) _ HH.out.2.2.2).mono ?_
      rintro e w12 ⟨rfl, hb_⟩
      have XB12 := Aside0.mk (XBV.out.below hb_)
      have HL12 := Aside0.mk (Kd.R_below HLV.out hb_)
      have HR12 := Aside0.mk (Kd.R_below HRV.out hb_)
      have XZ12 := Aside0.mk (XZV.out.below hb_)
      have HB12 := Aside0.mk (below_step HBV.out hb_)
      clear x0 XBV HLV HRV XXV XZV HBV hb_
      have rB := XB12.out.cell
      have fB := XB12.out.frozen
      have kB12 := XB12.out.lt
      have rZ := XZ12.out.cell
      have fZ := XZ12.out.frozen
      have kZ12 := XZ12.out.lt
      have hBZ : s + 1 ≠ B := by omega
      have hZB : B ≠ s + 1 := by omega
      obtain ⟨b, hb⟩ : ∃ b, decide (q = 1) = b := ⟨_, rfl⟩
      have hqb : (q == 1) = b := by rw [← hb]; rfl
      have HQB := Aside0.mk hb
      clear hb
      go_wp2
      refine bodyPost_ret (v := .agg #[.slice A5 ks.length c5, .int .u64 p1, .bool b, .slice A9 sg.length c9]) (by simp [results, Try.results18, go_sem, rB, fB, rZ, fZ, hBZ, hZB]) rfl ?_
      rw [HE.out]
      dsimp only
      rw [HQB.out, if_pos hq, HSG.out]
      have ok1 : ∀ k, (k ≠ B ∧ k ≠ s + 1) → k ≠ B := fun k hk => hk.1
      have ok2 : ∀ k, (k ≠ B ∧ k ≠ s + 1) → k ≠ s + 1 := fun k hk => hk.2
      refine ⟨_, _, rfl, ?_, ?_, ?_⟩
      · have h0 : (Kd.int .u64).R 28 w12 W.heap.size (fun k => k ≠ B ∧ k ≠ s + 1) (.slice A5 ks.length c5) ks := Kd.R_mono (Kd.R_bound HR12.out) (fun k hk => ⟨hk.1, by have := hk.2.1; have := HS.out.2; omega⟩)
        exact Kd.R_mono (Kd.R_lower (R_far4 (Kd.R_far (p := ⟨B, 2, none⟩) h0 ok1 _) ok2) (by have := HS.out; omega)) (fun _ _ => trivial)
      · have h0 : kP.R 52 w12 w8.heap.size (fun k => k ≠ B ∧ k ≠ s + 1) (.slice A9 sg.length c9) sg := Kd.R_mono (Kd.R_bound HL12.out) (fun k hk => ⟨hk.1, by have := hk.2.1; omega⟩)
        exact Kd.R_mono (Kd.R_lower (R_far4 (Kd.R_far (p := ⟨B, 2, none⟩) h0 ok1 _) ok2) (by have := HS.out; omega)) (fun _ _ => trivial)
      · have hs9 := HS.out.1
        exact below_set (below_set (below_set (below_set (below_set HB12.out (by show _ ≤ B; omega)) (by show _ ≤ s + 1; omega)) (by show _ ≤ s + 1; omega)) (by show _ ≤ s + 1; omega)) (by show _ ≤ s + 1; omega)
    · have hdq : decide (0 < q) = false := decide_eq_false hq
      go_upto_region 6 with (fail)
      obtain ⟨V2, hV2⟩ : ∃ V, w8 = V := ⟨_, rfl⟩
      rw [hV2]
      have XBV := Aside0.mk (show Box V2 B #[.slice A5 ks.length c5, .int .u64 p1, .bool false, .slice A7 tk.length c7] 32 from hV2 ▸ XB8.out)
      have HLV := Aside0.mk (show kP.R 52 V2 wc.heap.size (fun k => k ≠ B) (.slice A7 tk.length c7) tk from hV2 ▸ HT8.out)
      have HRV := Aside0.mk (show (Kd.int .u64).R 28 V2 W.heap.size (fun k => k ≠ B) (.slice A5 ks.length c5) ks from hV2 ▸ HR8.out)
      have XXV := Aside0.mk (show Box V2 s #[.slice KA nk ck, .int .i64 x.f1, .slice P np cp, .int .i64 x.f3] 48 from hV2 ▸ XX8.out)
      have XZV := Aside0.mk (show Box V2 (s + 1) #[.slice none 0 0, .int .u64 0, .bool false, .slice none 0 0] 32 from hV2 ▸ XZ8.out)
      have HBV := Aside0.mk (show Below w.heap.size w V2 from hV2 ▸ HB8.out)
      have hbase : s + 2 ≤ wc.heap.size := by omega
      clear hV2 rB fB XB8 HT8 HR8 XX8 XZ8 HB8
      have x0 : V2.cell? ⟨s, 3, none⟩ = some (.int .i64 x.f3) := XXV.out.cell 3
      go_wp2_with fail
      refine (pick15E x.f3 5 q HOK.out.2.2.2 (by omega) _ HH.out.2.2.2).mono ?_
      rintro e w12 ⟨rfl, hb_⟩
      have XB12 := Aside0.mk (XBV.out.below hb_)
      have HL12 := Aside0.mk (Kd.R_below HLV.out hb_)
      have HR12 := Aside0.mk (Kd.R_below HRV.out hb_)
      have XZ12 := Aside0.mk (XZV.out.below hb_)
      have HB12 := Aside0.mk (below_step HBV.out hb_)
      clear x0 XBV HLV HRV XXV XZV HBV hb_
      have rB := XB12.out.cell
      have fB := XB12.out.frozen
      have kB12 := XB12.out.lt
      have rZ := XZ12.out.cell
      have fZ := XZ12.out.frozen
      have kZ12 := XZ12.out.lt
      have hBZ : s + 1 ≠ B := by omega
      have hZB : B ≠ s + 1 := by omega
      obtain ⟨b, hb⟩ : ∃ b, decide (q = 1) = b := ⟨_, rfl⟩
      have hqb : (q == 1) = b := by rw [← hb]; rfl
      have HQB := Aside0.mk hb
      clear hb
      go_wp2
      refine bodyPost_ret (v := .agg #[.slice A5 ks.length c5, .int .u64 p1, .bool b, .slice A7 tk.length c7]) (by simp [results, Try.results18, go_sem, rB, fB, rZ, fZ, hBZ, hZB]) rfl ?_
      rw [HE.out]
      dsimp only
      rw [HQB.out, if_neg (show ¬ 0 < q by omega)]
      have ok1 : ∀ k, (k ≠ B ∧ k ≠ s + 1) → k ≠ B := fun k hk => hk.1
      have ok2 : ∀ k, (k ≠ B ∧ k ≠ s + 1) → k ≠ s + 1 := fun k hk => hk.2
      refine ⟨_, _, rfl, ?_, ?_, ?_⟩
      · have h0 : (Kd.int .u64).R 28 w12 W.heap.size (fun k => k ≠ B ∧ k ≠ s + 1) (.slice A5 ks.length c5) ks := Kd.R_mono (Kd.R_bound HR12.out) (fun k hk => ⟨hk.1, by have := hk.2.1; have := HS.out.2; omega⟩)
        exact Kd.R_mono (Kd.R_lower (R_far4 (Kd.R_far (p := ⟨B, 2, none⟩) h0 ok1 _) ok2) (by have := HS.out; omega)) (fun _ _ => trivial)
      · have h0 : kP.R 52 w12 wc.heap.size (fun k => k ≠ B ∧ k ≠ s + 1) (.slice A7 tk.length c7) tk := Kd.R_mono (Kd.R_bound HL12.out) (fun k hk => ⟨hk.1, by have := hk.2.1; omega⟩)
        exact Kd.R_mono (Kd.R_lower (R_far4 (Kd.R_far (p := ⟨B, 2, none⟩) h0 ok1 _) ok2) (by have := HS.out; omega)) (fun _ _ => trivial)
      · have hs9 := HS.out.1
        exact below_set (below_set (below_set (below_set (below_set HB12.out (by show _ ≤ B; omega)) (by show _ ≤ s + 1; omega)) (by show _ ≤ s + 1; omega)) (by show _ ≤ s + 1; omega)) (by show _ ≤ s + 1; omega)
end Go.Proofs.Ytnfglkgkdechlaa


/- Raw items, all of them (chapter 15's statements). -/
namespace Go.Proofs.Ytnfglkgkdechlaa
open Go.RowKit Go.Proofs.YtnfglkgkdechlaaW.PrintWords Go.Proofs.YtnfglkgkdechlaaW.PrintLast Go.Proofs.YtnfglkgkdechlaaW.PrintMore

open Go.Proofs.Ytnfglkgkdechlaa.PQ

abbrev rdR (l : List Rw) (i : Int) : Rw := rd_T48 l i
theorem rdR_eq {l : List Rw} {i : Nat} (h : i < l.length) : rdR l (i : Int) = l[i] := by
  unfold rdR rd_T48
  rw [Int.toNat_natCast, List.getD_eq_getElem?_getD, List.getElem?_eq_getElem h]
  rfl
theorem at_R {w : World} {A : Option Addr} {n : Nat} {xs : List Rw} (h : kR.C w A n xs) (i : Int) (h0 : 0 ≤ i) (h1 : i < n) : ∃ ad A0 c0 A2 c2, A = some ad ∧ w.cell? (ad.add (i.toNat * 4)) = some (.slice A0 (rdR xs i).f0.length c0) ∧ w.cell? ⟨(ad.add (i.toNat * 4)).block, (ad.add (i.toNat * 4)).off + 1, none⟩ = some (.int .i64 (rdR xs i).f1) ∧ w.cell? ⟨(ad.add (i.toNat * 4)).block, (ad.add (i.toNat * 4)).off + 2, none⟩ = some (.slice A2 (rdR xs i).f2.length c2) ∧ w.cell? ⟨(ad.add (i.toNat * 4)).block, (ad.add (i.toNat * 4)).off + 3, none⟩ = some (.int .i64 (rdR xs i).f3) ∧ (rdR xs i).f0.length ≤ c0 ∧ (Kd.int .i64).C w A0 (rdR xs i).f0.length (rdR xs i).f0 ∧ (rdR xs i).f2.length ≤ c2 ∧ (Kd.int .i64).C w A2 (rdR xs i).f2.length (rdR xs i).f2 := at_T48 h i h0 h1
def itemsR (raw : List Rw) : List It := (raw.take 20).map itemR
theorem lItemE (K : Option Addr) (nk ck : Nat) (P : Option Addr) (np cp : Nat) (x : Rw) (it : It) (w : World) (hK : (Kd.int .i64).C w K nk x.f0) (hck : nk ≤ ck) (hP : (Kd.int .i64).C w P np x.f2) (hcp : np ≤ cp) (ho : OkR x) (h : itemR x = it) :
    Calls Try.prog 18 #[.agg #[.slice K nk ck, .int .i64 x.f1, .slice P np cp, .int .i64 x.f3]] w
      fun r w' => ∃ v0 v3, r = .returned (.agg #[v0, .int .u64 it.f1, .bool it.f2.f0, v3]) ∧ (Kd.int .u64).R 28 w' w.heap.size (fun _ => True) v0 it.f0 ∧ kP.R 52 w' w.heap.size (fun _ => True) v3 it.f2.f1 ∧ Below w.heap.size w w' := h ▸ lItem K nk ck P np cp x w hK hck hP hcp ho
set_option maxRecDepth 100000 in
set_option maxHeartbeats 8000000 in
theorem lItems (A : Option Addr) (n c : Nat) (raw : List Rw) (w : World) (hA : kR.C w A n raw) (hc : n ≤ c) (ho : ∀ x ∈ raw, OkR x) : Calls Try.prog 10 #[.slice A n c] w
    fun r w' => ∃ v, r = .returned v ∧ Kd.S kI 32 w' w.heap.size (fun _ => True) v (itemsR raw) ∧ Below w.heap.size w w' := by
  have HN := Aside0.mk (show n = raw.length from (Kd.C_len hA).symm)
  have hn63 : n ≤ 9223372036854775807 := by rw [HN.out]; exact Kd.C_len hA ▸ Kd.C_max hA
  have HX := Aside0.mk hA
  have HOK := Aside0.mk ho
  clear hA ho
  go_enter Try.func10, Try.ntmps10
  go_wp2
  go_loopw [3, 4] (fun v3 v4 wx => ∃ (i : Nat), i ≤ n ∧ i ≤ 20 ∧ v4 = .int .i64 i ∧ Kd.S kI 32 wx w.heap.size (fun _ => True) v3 ((raw.take i).map itemR) ∧ Below w.heap.size w wx) (fun _ v4 _ => 20 - (intOf v4).toNat)
  case atStart => exact ⟨0, by omega, by omega, rfl, Kd.S_nil _ _ _ _ _, Below.refl _ _⟩
  case round =>
    obtain ⟨i, hi, hi20, rfl, hO, hb⟩ := hrel
    by_cases hlt : i < n ∧ i < 20
    · obtain ⟨z, hz⟩ : ∃ z : Int, (i : Int) = z := ⟨_, rfl⟩
      have hil : i < raw.length := by rw [← HN.out]; exact hlt.1
      obtain ⟨x, hx⟩ : ∃ x, rdR raw z = x := ⟨_, rfl⟩
      have hxe : raw[i] = x := by rw [← hx, ← hz, rdR_eq hil]
      obtain ⟨it, hit⟩ : ∃ it, itemR x = it := ⟨_, rfl⟩
      have HF := Aside0.mk (show (raw.take (i + 1)).map itemR = (raw.take i).map itemR ++ [it] by rw [List.take_succ_eq_append_getElem hil, List.map_append, hxe, ← hit]; rfl)
      have HXI := Aside0.mk (HOK.out x (by rw [← hxe]; exact List.getElem_mem hil))
      have HLN := Aside0.mk (show ((raw.take i).map itemR).length ≤ 20 by rw [List.length_map, List.length_take]; omega)
      generalize ((raw.take i).map itemR) = l at *
      rw [hz]
      have hz0 : 0 ≤ z := by omega
      have hz1 : z < (n : Int) := by omega
      have hz2 : z < 20 := by omega
      have hd1 : decide (z < (n : Int)) = true := decide_eq_true hz1
      have hd2 : decide (z < 20) = true := decide_eq_true hz2
      obtain ⟨ad, K, ck, P, cp, rfl, c0, c1, c2, c3, hck, hK, hcp, hP⟩ := at_R (Kd.C_below HX.out hb) z hz0 hz1
      rw [hx] at c0 c1 c2 c3 hck hK hcp hP
      have HZ := Aside0.mk hz
      have HIT := Aside0.mk hit
      have HO := Aside0.mk hO
      have HB := Aside0.mk hb
      have HK := Aside0.mk hK
      have HP := Aside0.mk hP
      clear hz hx hxe hit hO hb hil hlt hK hP
      go_wp2_with fail
      refine (lItemE K x.f0.length ck P x.f2.length cp x it _ HK.out hck HP.out hcp HXI.out HIT.out).mono ?_
      rintro e w5 ⟨v0, v3, rfl, hR0, hR3, hb_⟩
      obtain ⟨A0, c0', rfl⟩ := Kd.R_slice hR0
      obtain ⟨A3, c3', rfl⟩ := Kd.R_slice hR3
      have HM := Aside0.mk (k32_mkM w5 w.heap.size (fun k => wr.heap.size ≤ k) it (Kd.R_lower (Kd.R_mono (Kd.R_bound hR0) (fun k hk => hk.2.1)) HB.out.size) (Kd.R_lower (Kd.R_mono (Kd.R_bound hR3) (fun k hk => hk.2.1)) HB.out.size))
      have HO5 := Aside0.mk (show Kd.S kI 32 w5 w.heap.size (fun k => True ∧ ¬ wr.heap.size ≤ k) u3 l from Kd.S_below (Kd.S_mono (Kd.S_bound HO.out) (fun k hk => ⟨trivial, by have := hk.2.2.1; omega⟩)) hb_)
      have HLT := Aside0.mk (Kd.S_lt HO.out)
      have HB5 := Aside0.mk (below_step HB.out hb_)
      have hl := HLN.out
      clear hR0 hR3 HO HB hb_ c0 c1 c2 c3
      go_wp2_with (first | ((with_reducible refine gate_builtin (b := .append) (xs := #[.tmp 15, .tmp 21]) rfl ?_); at_builtin; go_must (refine Kd.S_append kI (w0 := w) w.heap.size rfl (.tmp 15) (.tmp 21) 25 32 (.agg #[.slice none 0 0, .int .u64 0, .bool false, .slice none 0 0]) 64 rfl Try.underlying25 info32 rfl (by decide) (by omega) u3 l it [.slice A0 it.f0.length c0', .int .u64 it.f1, .bool it.f2.f0, .slice A3 it.f2.f1.length c3'] (fun _ => True) (fun k => wr.heap.size ≤ k) rfl rfl HM.out (fun k hk => ⟨trivial, fun he => by have := HLT.out k he.symm; omega⟩) (fun _ _ => trivial) HO5.out HB5.out HB5.out.size (by omega) ?_; (intro v1 w6 ho_ hb_ hg_ hat_; have HO6 := Aside0.mk ho_; have HB6 := Aside0.mk hb_; clear ho_ hb_ hg_ hat_))))
      go_roundw
      case rel => exact ⟨i + 1, by have := HZ.out; omega, by have := HZ.out; omega, by have := HZ.out; subst this; go_num, by rw [HF.out]; exact HO6.out, HB6.out⟩
      case measure =>
        have := HZ.out
        simp [intOf]
        omega
    · have hd : (decide ((i : Int) < (n : Int)) = false ∧ decide (i < n) = false) ∨ ((decide ((i : Int) < (n : Int)) = true ∧ decide (i < n) = true) ∧ decide ((i : Int) < 20) = false ∧ decide (i < 20) = false) := by
        by_cases h1 : i < n
        · exact Or.inr ⟨⟨decide_eq_true (by omega), decide_eq_true h1⟩, decide_eq_false (by omega), decide_eq_false (by omega)⟩
        · exact Or.inl ⟨decide_eq_false (by omega), decide_eq_false h1⟩
      have HE := Aside0.mk (show raw.take i = raw.take 20 by
        by_cases h1 : i < n
        · rw [show i = 20 by omega]
        · rw [List.take_of_length_le (by rw [← HN.out]; omega), List.take_of_length_le (by rw [← HN.out]; omega)])
      have HO := Aside0.mk hO
      have HB := Aside0.mk hb
      clear hO hb
      rcases hd with ⟨hd, hd1⟩ | ⟨⟨hd, hd1⟩, hd2, hd3⟩
      · go_wp2
        go_ret
        refine ⟨_, rfl, ?_, HB.out⟩
        have e := HO.out
        rw [HE.out] at e
        exact e
      · go_wp2
        go_ret
        refine ⟨_, rfl, ?_, HB.out⟩
        have e := HO.out
        rw [HE.out] at e
        exact e
theorem itemsR_len (raw : List Rw) : (itemsR raw).length ≤ 20 := by
  unfold itemsR
  rw [List.length_map, List.length_take]
  omega
end Go.Proofs.Ytnfglkgkdechlaa


/- Arguments of the statements of chapter 15, opened. -/
namespace Go.Proofs.Ytnfglkgkdechlaa
open Go.RowKit Go.Proofs.YtnfglkgkdechlaaW.PrintWords Go.Proofs.YtnfglkgkdechlaaW.PrintLast Go.Proofs.YtnfglkgkdechlaaW.PrintMore
open Go.ChangeShapes Go.WideShapes Go.ChangeAt
open Go.ChangeMaps (open_string shut_string)
open Go.Proofs.Ytnfglkgkdechlaa.PQ Go.Deep

theorem in64_wf {n : Int} (h : (Lit.int .i64 n).wf = true) : In64 n := bounds_i64 h
theorem ints_in {H : Type} {enc : TypeId × Value → H} {W : World} {fuel : Nat} {c0 : Value} {y : DataW H × List MemPlace} (h : DataW.trod enc Try.prog W 0 (fun _ => true) true fuel 23 [c0] = some y) :
    ∃ (A : Option Addr) (k : Nat) (l : List Int), c0 = .slice A l.length k ∧ l.length ≤ k ∧ (Kd.int .i64).C W A l.length l ∧ ∀ x ∈ l, In64 x := by
  rcases open_ints Try.underlying23 Try.underlying3 (by kernel_rfl) h with ⟨hcs, hx⟩ | ⟨a, len, cap, zs, hcs, _, hl, hm, hz, hx, hcell, hwz⟩
  · simp at hcs
    exact ⟨none, 0, [], by simpa using hcs, Nat.le_refl _, Kd.C_nil _ _, fun x hx => by cases hx⟩
  · simp at hcs
    have hz' : zs.length = cap := by simpa using hz
    have hlen : (zs.take len).length = len := by rw [List.length_take]; omega
    refine ⟨some a, cap, zs.take len, by rw [hlen]; exact hcs, by omega, ?_, fun x hx => in64_wf (hwz x (List.mem_of_mem_take hx))⟩
    rw [hlen]
    refine Kd.C_of_reads (enc := Value.int .i64) (d := (0 : Int)) (h1 := fun _ => rfl) ⟨hlen, by unfold maxLen at hm; omega, fun _ => ⟨_, rfl, fun j hj => ?_⟩⟩
    have := hcell j (by omega)
    rw [this]
    simp [List.getD_eq_getElem?_getD, List.getElem?_take, hj]
theorem raw_in {H : Type} {enc : TypeId × Value → H} {W : World} {fuel : Nat} {c0 c1 c2 c3 : Value} {y : DataW H × List MemPlace} (ht : DataW.trod enc Try.prog W 0 (fun _ => true) true fuel 48 [c0, c1, c2, c3] = some y) :
    ∃ (x : Rw) (A0 : Option Addr) (k0 : Nat) (A2 : Option Addr) (k2 : Nat), [c0, c1, c2, c3] = [.slice A0 x.f0.length k0, .int .i64 x.f1, .slice A2 x.f2.length k2, .int .i64 x.f3] ∧ x.f0.length ≤ k0 ∧ (Kd.int .i64).C W A0 x.f0.length x.f0 ∧ x.f2.length ≤ k2 ∧ (Kd.int .i64).C W A2 x.f2.length x.f2 ∧ OkR x := by
  obtain ⟨xs, fu, _, _, _, hxl, hg⟩ := DataW.trod_struct Try.underlying48 ht
  have s0 : DataW.trod enc Try.prog W 0 (fun _ => true) true fu 23 ((([c0, c1, c2, c3] : List Value).drop 0).take (Try.prog.cellsOf 23)) = xs[0]? := hg 0 _ rfl
  have s1 : DataW.trod enc Try.prog W 0 (fun _ => true) true fu 3 ((([c0, c1, c2, c3] : List Value).drop 1).take (Try.prog.cellsOf 3)) = xs[1]? := hg 1 _ rfl
  have s2 : DataW.trod enc Try.prog W 0 (fun _ => true) true fu 23 ((([c0, c1, c2, c3] : List Value).drop 2).take (Try.prog.cellsOf 23)) = xs[2]? := hg 2 _ rfl
  have s3 : DataW.trod enc Try.prog W 0 (fun _ => true) true fu 3 ((([c0, c1, c2, c3] : List Value).drop 3).take (Try.prog.cellsOf 3)) = xs[3]? := hg 3 _ rfl
  have hc1 : Try.prog.cellsOf 3 = 1 := by kernel_rfl
  have hc2 : Try.prog.cellsOf 23 = 1 := by kernel_rfl
  rw [hc1] at s1 s3
  rw [hc2] at s0 s2
  obtain ⟨y0, hy0⟩ : ∃ y, xs[0]? = some y := ⟨_, List.getElem?_eq_getElem (by rw [hxl]; decide)⟩
  obtain ⟨y1, hy1⟩ : ∃ y, xs[1]? = some y := ⟨_, List.getElem?_eq_getElem (by rw [hxl]; decide)⟩
  obtain ⟨y2, hy2⟩ : ∃ y, xs[2]? = some y := ⟨_, List.getElem?_eq_getElem (by rw [hxl]; decide)⟩
  obtain ⟨y3, hy3⟩ : ∃ y, xs[3]? = some y := ⟨_, List.getElem?_eq_getElem (by rw [hxl]; decide)⟩
  have t0 := s0.trans hy0
  have t1 := s1.trans hy1
  have t2 := s2.trans hy2
  have t3 := s3.trans hy3
  obtain ⟨A0, k0, l0, e0, hl0, hC0, ho0⟩ := ints_in t0
  obtain ⟨n1, e1, _, w1⟩ := DataW.trod_int Try.underlying3 t1
  obtain ⟨A2, k2, l2, e2, hl2, hC2, ho2⟩ := ints_in t2
  obtain ⟨n3, e3, _, w3⟩ := DataW.trod_int Try.underlying3 t3
  obtain rfl : c1 = .int .i64 n1 := by simpa using e1
  obtain rfl : c3 = .int .i64 n3 := by simpa using e3
  subst e0 e2
  exact ⟨⟨l0, n1, l2, n3⟩, A0, k0, A2, k2, rfl, hl0, hC0, hl2, hC2, ⟨ho0, in64_wf w1, ho2, in64_wf w3⟩⟩
theorem rawsS_came {H : Type} {enc : TypeId × Value → H} {W : World} {b0 : Nat} {v : Value} {d : DataW H} {ps : List MemPlace} (hval : Value.okWide Try.prog W .any b0 24 v) (hd : DataW.Trod enc Try.prog W 0 (fun _ => true) true 24 v d ps) :
    ∃ A n c l, v = .slice A n c ∧ n ≤ c ∧ Kd.C kR W A n l ∧ ∀ x ∈ l, OkR x := by
  obtain ⟨A, n, c, rfl⟩ := okWide_slice Try.underlying24 hval
  obtain ⟨fuel, hf⟩ := hd
  rcases open_slice Try.underlying24 hf with ⟨hcs, hx⟩ | ⟨a, len, cap, m, k, D, Pl, hcs, _, hl, hm, hmm, hx, hi⟩
  · simp [Value.cells] at hcs
    obtain ⟨rfl, rfl, rfl⟩ := hcs
    exact ⟨none, 0, 0, [], rfl, Nat.le_refl _, Kd.C_nil _ _, fun x hx => by cases hx⟩
  · simp [Value.cells] at hcs
    obtain ⟨rfl, rfl, rfl⟩ := hcs
    have hC : Try.prog.cellsOf 48 = 4 := by kernel_rfl
    have hrow : ∀ i, i < n → ∃ x : Rw, OkR x ∧ ∃ row : List Value, row.length = kR.sz ∧ k48.K W x row ∧ ∀ j u, row[j]? = some u → W.cell? (a.add (i * 4 + j)) = some u := by
      intro i hin
      obtain ⟨cs, hc, ht⟩ := hi i (by rw [hmm]; simp; omega)
      rw [hC] at hc
      obtain ⟨_, hcl, hat⟩ := World.cells?_some hc
      match cs, hcl with
      | [c0, c1, c2, c3], _ =>
        obtain ⟨x, A0, k0, A2, k2, e, hl0, hC0, hl2, hC2, ho⟩ := raw_in ht
        refine ⟨x, ho, _, rfl, k48_mk W x hl0 hC0 hl2 hC2, fun j u hu => ?_⟩
        rw [← e] at hu
        have hj : j < 4 := by
          rcases Nat.lt_or_ge j 4 with h | h
          · exact h
          · rw [List.getElem?_eq_none (by simpa using h)] at hu
            cases hu
        have := hat j hj
        rw [hu] at this
        rw [← this]
        congr 1
        exact (Go.Deep.add_add _ _ _).symm
    refine ⟨_, _, _, (List.range n).map (fun i => if h : i < n then (hrow i h).choose else z48), rfl, hl, ⟨by simp, by unfold maxLen at hm; omega, fun _ => ⟨a, rfl, fun j p hj => ?_⟩⟩, fun x hx => ?_⟩
    · rw [List.getElem?_map] at hj
      obtain ⟨i, hi1, rfl⟩ := Option.map_eq_some_iff.1 hj
      have hi2 : i = j ∧ j < n := by
        rw [List.getElem?_eq_some_iff] at hi1
        obtain ⟨h1, h2⟩ := hi1
        rw [List.getElem_range] at h2
        rw [List.length_range] at h1
        exact ⟨h2.symm, h1⟩
      obtain ⟨rfl, hjn⟩ := hi2
      rw [dif_pos hjn]
      obtain ⟨_, row, hrl, hk, hc⟩ := (hrow i hjn).choose_spec
      exact ⟨row, hrl, hk, fun q u hu => hc q u hu⟩
    · obtain ⟨i, hi1, rfl⟩ := List.mem_map.1 hx
      have hin := List.mem_range.1 hi1
      rw [dif_pos hin]
      exact (hrow i hin).choose_spec.1
theorem allOk_len {P : Program} {W : World} {b : Nat} : ∀ {ts : List TypeId} {cs : List Value}, AllOk P W b ts cs → cs.length = ts.length := by
  intro ts
  induction ts with
  | nil =>
    intro cs h
    rw [allOk_nil h]
    rfl
  | cons t ts ih =>
    intro cs h
    obtain ⟨v, vs, rfl, _, h2⟩ := allOk_cons h
    simp [ih h2]
/-- One raw item by value. -/
theorem raw_came {H : Type} {enc : TypeId × Value → H} {W : World} {b0 : Nat} {v : Value} {d : DataW H} {ps : List MemPlace} (hval : Value.okWide Try.prog W .any b0 48 v) (hd : DataW.Trod enc Try.prog W 0 (fun _ => true) true 48 v d ps) :
    ∃ (x : Rw) (A0 : Option Addr) (k0 : Nat) (A2 : Option Addr) (k2 : Nat), v = .agg #[.slice A0 x.f0.length k0, .int .i64 x.f1, .slice A2 x.f2.length k2, .int .i64 x.f3] ∧ x.f0.length ≤ k0 ∧ (Kd.int .i64).C W A0 x.f0.length x.f0 ∧ x.f2.length ≤ k2 ∧ (Kd.int .i64).C W A2 x.f2.length x.f2 ∧ OkR x := by
  obtain ⟨cs, rfl, h⟩ := open_agg (t := 48) (by kernel_rfl) (show Try.prog.cellTypes Try.prog.depth 48 = some [23, 3, 23, 3] by kernel_rfl) (by kernel_rfl) hval
  have hl := allOk_len h
  obtain ⟨fuel, hf⟩ := hd
  match cs, hl with
  | [c0, c1, c2, c3], _ =>
    obtain ⟨x, A0, k0, A2, k2, e, h1, h2, h3, h4, h5⟩ := raw_in (c0 := c0) (c1 := c1) (c2 := c2) (c3 := c3) hf
    exact ⟨x, A0, k0, A2, k2, by rw [e], h1, h2, h3, h4, h5⟩
end Go.Proofs.Ytnfglkgkdechlaa


/- Pairs and items that came in (chapters 7, 15). -/
namespace Go.Proofs.Ytnfglkgkdechlaa
open Go.RowKit Go.Proofs.YtnfglkgkdechlaaW.PrintWords Go.Proofs.YtnfglkgkdechlaaW.PrintLast Go.Proofs.YtnfglkgkdechlaaW.PrintMore
open Go.ChangeShapes Go.WideShapes Go.ChangeAt
open Go.ChangeMaps (open_string shut_string)
open Go.Proofs.Ytnfglkgkdechlaa.PQ Go.Deep

def wfP (p : Pr) : Prop := (Lit.int .u64 p.f0).wf = true ∧ (Lit.int .u64 p.f1).wf = true
theorem pair_in {H : Type} {enc : TypeId × Value → H} {W : World} (cs : List Value) (fu : Nat) (y : DataW H × List MemPlace) (hl : cs.length = kP.sz) (h : DataW.trod enc Try.prog W 0 (fun _ => true) true fu 52 cs = some y) : ∃ x : Pr, wfP x ∧ kP.K W x cs := by
  match cs, hl with
  | [c0, c1], _ =>
    obtain ⟨xs, f, _, _, _, hxl, hg⟩ := DataW.trod_struct Try.underlying52 h
    have s0 : DataW.trod enc Try.prog W 0 (fun _ => true) true f 28 ((([c0, c1] : List Value).drop 0).take (Try.prog.cellsOf 28)) = xs[0]? := hg 0 _ rfl
    have s1 : DataW.trod enc Try.prog W 0 (fun _ => true) true f 28 ((([c0, c1] : List Value).drop 1).take (Try.prog.cellsOf 28)) = xs[1]? := hg 1 _ rfl
    rw [show Try.prog.cellsOf 28 = 1 by kernel_rfl] at s0 s1
    obtain ⟨y0, hy0⟩ := some_of hxl (show 0 < 2 by omega)
    obtain ⟨y1, hy1⟩ := some_of hxl (show 1 < 2 by omega)
    obtain ⟨n0, rfl, w0⟩ := int_in Try.underlying28 (s0.trans hy0)
    obtain ⟨n1, rfl, w1⟩ := int_in Try.underlying28 (s1.trans hy1)
    exact ⟨⟨n0, n1⟩, ⟨w0, w1⟩, k52_mk _ _⟩
theorem u64_in {H : Type} {enc : TypeId × Value → H} {W : World} (cs : List Value) (fu : Nat) (y : DataW H × List MemPlace) (hl : cs.length = (Kd.int .u64).sz) (h : DataW.trod enc Try.prog W 0 (fun _ => true) true fu 28 cs = some y) : ∃ x : Int, (Lit.int .u64 x).wf = true ∧ (Kd.int .u64).K W x cs := by
  match cs, hl with
  | [c0], _ =>
    obtain ⟨n, rfl, w⟩ := int_in Try.underlying28 h
    exact ⟨n, w, rfl⟩
theorem token_in {H : Type} {enc : TypeId × Value → H} {W : World} (cs : List Value) (fu : Nat) (y : DataW H × List MemPlace) (hl : cs.length = 2) (h : DataW.trod enc Try.prog W 0 (fun _ => true) true fu 30 cs = some y) :
    ∃ (b : Bool) (A : Option Addr) (k : Nat) (l : List Pr), cs = [.bool b, .slice A l.length k] ∧ l.length ≤ k ∧ kP.C W A l.length l ∧ ∀ x ∈ l, wfP x := by
  match cs, hl with
  | [c0, c1], _ =>
    obtain ⟨xs, f, _, _, _, hxl, hg⟩ := DataW.trod_struct Try.underlying30 h
    have s0 : DataW.trod enc Try.prog W 0 (fun _ => true) true f 4 ((([c0, c1] : List Value).drop 0).take (Try.prog.cellsOf 4)) = xs[0]? := hg 0 _ rfl
    have s1 : DataW.trod enc Try.prog W 0 (fun _ => true) true f 22 ((([c0, c1] : List Value).drop 1).take (Try.prog.cellsOf 22)) = xs[1]? := hg 1 _ rfl
    rw [show Try.prog.cellsOf 4 = 1 by kernel_rfl] at s0
    rw [show Try.prog.cellsOf 22 = 1 by kernel_rfl] at s1
    obtain ⟨y0, hy0⟩ := some_of hxl (show 0 < 2 by omega)
    obtain ⟨y1, hy1⟩ := some_of hxl (show 1 < 2 by omega)
    obtain ⟨b, rfl⟩ := bool_in Try.underlying4 (s0.trans hy0)
    obtain ⟨A, k, l, e, h1, h2, h3⟩ := slice_in kP z52 wfP Try.underlying22 (by kernel_rfl) pair_in (s1.trans hy1)
    obtain rfl : c1 = .slice A l.length k := by simpa using e
    exact ⟨b, A, k, l, rfl, h1, h2, h3⟩
theorem item_in {H : Type} {enc : TypeId × Value → H} {W : World} (cs : List Value) (fu : Nat) (y : DataW H × List MemPlace) (hl : cs.length = kI.sz) (h : DataW.trod enc Try.prog W 0 (fun _ => true) true fu 32 cs = some y) : ∃ x : It, okI x ∧ kI.K W x cs := by
  match cs, hl with
  | [c0, c1, c2, c3], _ =>
    obtain ⟨xs, f, _, _, _, hxl, hg⟩ := DataW.trod_struct Try.underlying32 h
    have s0 : DataW.trod enc Try.prog W 0 (fun _ => true) true f 27 ((([c0, c1, c2, c3] : List Value).drop 0).take (Try.prog.cellsOf 27)) = xs[0]? := hg 0 _ rfl
    have s1 : DataW.trod enc Try.prog W 0 (fun _ => true) true f 28 ((([c0, c1, c2, c3] : List Value).drop 1).take (Try.prog.cellsOf 28)) = xs[1]? := hg 1 _ rfl
    have s2 : DataW.trod enc Try.prog W 0 (fun _ => true) true f 30 ((([c0, c1, c2, c3] : List Value).drop 2).take (Try.prog.cellsOf 30)) = xs[2]? := hg 2 _ rfl
    rw [show Try.prog.cellsOf 27 = 1 by kernel_rfl] at s0
    rw [show Try.prog.cellsOf 28 = 1 by kernel_rfl] at s1
    rw [show Try.prog.cellsOf 30 = 2 by kernel_rfl] at s2
    obtain ⟨y0, hy0⟩ := some_of hxl (show 0 < 3 by omega)
    obtain ⟨y1, hy1⟩ := some_of hxl (show 1 < 3 by omega)
    obtain ⟨y2, hy2⟩ := some_of hxl (show 2 < 3 by omega)
    obtain ⟨A0, k0, l0, e0, g0, g1, g2⟩ := slice_in (Kd.int .u64) 0 (fun x => (Lit.int .u64 x).wf = true) Try.underlying27 (by kernel_rfl) u64_in (s0.trans hy0)
    obtain rfl : c0 = .slice A0 l0.length k0 := by simpa using e0
    obtain ⟨n1, rfl, w1⟩ := int_in Try.underlying28 (s1.trans hy1)
    obtain ⟨b, A3, k3, l3, e3, h1, h2, h3⟩ := token_in _ _ _ rfl (s2.trans hy2)
    obtain ⟨rfl, rfl⟩ : c2 = .bool b ∧ c3 = .slice A3 l3.length k3 := by simpa using e3
    exact ⟨⟨l0, n1, ⟨b, l3⟩⟩, ⟨g2, fun p hp => (h3 p hp).1⟩, k32_mk W ⟨l0, n1, ⟨b, l3⟩⟩ g0 g1 h1 h2⟩
end Go.Proofs.Ytnfglkgkdechlaa

namespace Go.Proofs.Ytnfglkgkdechlaa.PQ
open Go.RowKit Go.Proofs.YtnfglkgkdechlaaW.PrintWords Go.Proofs.YtnfglkgkdechlaaW.PrintLast Go.Proofs.YtnfglkgkdechlaaW.PrintMore
attribute [local go_sem] max2_int min2_int max_two min_two max_three min_three max_four min_four   -- for this text's walks alone

attribute [local go_sem high] eqA52

/-! ### mootbellref07_in: function 31 -/
def mootbellref07_in.l0 : Nat → List (S52) → Int → Int → Int → Option (Bool)
  | 0, _, _, _, _ => none
  | k + 1, x0, x5, x123000, x123001 => if x5 < (x0.length : Int) then (if 0 ≤ x5 then (if (((rd_T52 x0 x5).f0) == x123000 && (((rd_T52 x0 x5).f1) == x123001)) = true then (some true) else (mootbellref07_in.l0 k x0 (wrap64 (x5 + 1)) x123000 x123001)) else (none)) else (some false)
def mootbellref07_in.f (k : Nat) (l0 : List (S52)) (a1_0 : Int) (a1_1 : Int) : Option (Bool) := mootbellref07_in.l0 k l0 0 a1_0 a1_1
theorem mootbellref07_in.mono_l : ∀ k, (∀ y0 y1 y2 y3, LeO (mootbellref07_in.l0 k y0 y1 y2 y3) (mootbellref07_in.l0 (k + 1) y0 y1 y2 y3))
  | 0 => fun _ _ _ _ r h => by simp [mootbellref07_in.l0] at h
  | k + 1 => by
    have ih0 := mootbellref07_in.mono_l k
    · intro y0 y1 y2 y3
      unfold mootbellref07_in.l0
      repeat' first
      | (with_reducible exact ih0 _ _ _ _)
      | (with_reducible exact LeO.refl _)
      | (with_reducible exact LeO.none _)
      | (with_reducible refine LeO.ite ?_ ?_)
      | (with_reducible refine LeO.bind ?_ (fun _ => ?_))
      | exact ih0 _ _ _ _
      | exact LeO.none _
      | refine LeO.ite ?_ ?_
      | refine LeO.bind ?_ (fun _ => ?_)
theorem mootbellref07_in.mono : ∀ a0 a1 a2 k, LeO (mootbellref07_in.f k a0 a1 a2) (mootbellref07_in.f (k + 1) a0 a1 a2) := by
  intro a0 a1 a2 k
  have ih0 := mootbellref07_in.mono_l k
  unfold mootbellref07_in.f
  repeat' first
      | (with_reducible exact ih0 _ _ _ _)
      | (with_reducible exact LeO.refl _)
      | (with_reducible exact LeO.none _)
      | (with_reducible refine LeO.ite ?_ ?_)
      | (with_reducible refine LeO.bind ?_ (fun _ => ?_))
      | exact ih0 _ _ _ _
      | exact LeO.none _
      | refine LeO.ite ?_ ?_
      | refine LeO.bind ?_ (fun _ => ?_)
set_option maxHeartbeats 8000000 in
set_option maxRecDepth 100000 in
theorem mootbellref07_in.calls (k : Nat) (A0 : Option Addr) (c0 : Nat) (l0 : List (S52)) (a1_0 : Int) (a1_1 : Int) (r : Bool) (w : World) (hr0 : Kd.C k52 w A0 l0.length l0) (hc0 : l0.length ≤ c0) (h : mootbellref07_in.f k l0 a1_0 a1_1 = some r) :
    Calls Try.prog 31 #[.slice A0 l0.length c0, .agg #[.int .u64 a1_0, .int .u64 a1_1]] w fun e w' => e = .returned (.bool r) ∧ Below w.heap.size w w' := by
  have hu52 := Try.underlying52
  have HR0 := Aside0.mk hr0
  have HC0 := Aside0.mk hc0
  clear hr0 hc0
  have HB := Aside0.mk (Below.refl w.heap.size w)
  have H : (mootbellref07_in.l0 k l0 0 a1_0 a1_1) = some r := h
  clear h
  have H' := Aside0.mk H
  clear H
  go_enter Try.func31, Try.ntmps31
  go_wp2_with (first | ((with_reducible refine gate_dst (N := 3) rfl ?_); refine box_event ?hg (N := 3) ?hd (cs := #[.int .u64 a1_0, .int .u64 a1_1]) (t := 52) ?hr ?_; (case hd => rfl); (case hg => rfl); (case hr => first | (go_simp; done) | (go_simp; rfl)); intro gb122 hg w3 hbox hb; have n0_ := Aside0.mk (below_step (by repeat (first | (with_reducible first | exact HB.out | apply below_alloc | apply pw_below_drewN | apply below_drew1) | exact HB.out)) hb); have n1_ := Aside0.mk (hbox); have n2_ := Aside0.mk ((by rw [hg]; exact (below_size (by repeat (first | (with_reducible first | exact HB.out | apply below_alloc | apply pw_below_drewN | apply below_drew1) | exact HB.out))) : w.heap.size ≤ gb122)); have n3_ := Aside0.mk ((by rw [hg]; exact (below_size (by repeat (first | (with_reducible first | exact HB.out | apply below_alloc | apply pw_below_drewN | apply below_drew1) | exact HB.out))) : w.heap.size ≤ gb122)); clear HB; have HB := n0_; have BK122 := n1_; have GW122 := n2_; have GE122 := n3_; clear n0_ n1_ n2_ n3_; clear hb hbox hg))
  repeat (go_quiet (first | ((with_reducible refine gate_dst (N := 3) rfl ?_); refine box_event ?hg (N := 3) ?hd (cs := #[.int .u64 a1_0, .int .u64 a1_1]) (t := 52) ?hr ?_; (case hd => rfl); (case hg => rfl); (case hr => first | (go_simp; done) | (go_simp; rfl)); intro gb122 hg w3 hbox hb; have n0_ := Aside0.mk (below_step (by repeat (first | (with_reducible first | exact HB.out | apply below_alloc | apply pw_below_drewN | apply below_drew1) | exact HB.out)) hb); have n1_ := Aside0.mk (hbox); have n2_ := Aside0.mk ((by rw [hg]; exact (below_size (by repeat (first | (with_reducible first | exact HB.out | apply below_alloc | apply pw_below_drewN | apply below_drew1) | exact HB.out))) : w.heap.size ≤ gb122)); have n3_ := Aside0.mk ((by rw [hg]; exact (below_size (by repeat (first | (with_reducible first | exact HB.out | apply below_alloc | apply pw_below_drewN | apply below_drew1) | exact HB.out))) : w.heap.size ≤ gb122)); clear HB; have HB := n0_; have BK122 := n1_; have GW122 := n2_; have GE122 := n3_; clear n0_ n1_ n2_ n3_; clear hb hbox hg)); try go_wp2_with (first | ((with_reducible refine gate_dst (N := 3) rfl ?_); refine box_event ?hg (N := 3) ?hd (cs := #[.int .u64 a1_0, .int .u64 a1_1]) (t := 52) ?hr ?_; (case hd => rfl); (case hg => rfl); (case hr => first | (go_simp; done) | (go_simp; rfl)); intro gb122 hg w3 hbox hb; have n0_ := Aside0.mk (below_step (by repeat (first | (with_reducible first | exact HB.out | apply below_alloc | apply pw_below_drewN | apply below_drew1) | exact HB.out)) hb); have n1_ := Aside0.mk (hbox); have n2_ := Aside0.mk ((by rw [hg]; exact (below_size (by repeat (first | (with_reducible first | exact HB.out | apply below_alloc | apply pw_below_drewN | apply below_drew1) | exact HB.out))) : w.heap.size ≤ gb122)); have n3_ := Aside0.mk ((by rw [hg]; exact (below_size (by repeat (first | (with_reducible first | exact HB.out | apply below_alloc | apply pw_below_drewN | apply below_drew1) | exact HB.out))) : w.heap.size ≤ gb122)); clear HB; have HB := n0_; have BK122 := n1_; have GW122 := n2_; have GE122 := n3_; clear n0_ n1_ n2_ n3_; clear hb hbox hg)))
  go_loopg [5] k (fun kq v5 w' => ∃ (x5_1 : Int), v5 = .int .i64 x5_1 ∧ Aside0 (mootbellref07_in.l0 kq l0 x5_1 a1_0 a1_1 = some r) ∧ Aside0 (kq ≤ k) ∧ Aside0 (w'.heap[gb122]? = some (.cells #[.int .u64 a1_0, .int .u64 a1_1] 52 (0, 0))) ∧ Aside0 (Below w.heap.size w w'))
  case atStart => exact ⟨(0), (by first | rfl | (simp; done) | (simp [*]; done)), H', ⟨Nat.le_refl _⟩, ⟨by (with_reducible repeat (first | refine blk_drewN ?_ _ | refine blk_drew ?_ | refine blk_alloc ?_ _)); exact BK122.out⟩, ⟨by repeat (first | (with_reducible first | exact HB.out | apply below_alloc | apply pw_below_drewN | apply below_drew1 | refine below_set ?_ GE122.out) | exact HB.out)⟩⟩
  case round =>
    clear H'
    try clear p2
    try clear c3
    obtain ⟨x5_1, rfl, HA, HK1, BK122, HB⟩ := hrel
    cases gk with
    | zero => exact absurd HA.out (by simp [mootbellref07_in.l0])
    | succ k1 =>
      have H := HA.out
      clear HA
      simp only [mootbellref07_in.l0] at H
      by_cases c4 : x5_1 < (l0.length : Int)
      · rw [if_pos c4] at H
        have c4b0 : decide (x5_1 < (l0.length : Int)) = true := decide_eq_true c4
        clear c4
        by_cases c5 : 0 ≤ x5_1
        · rw [if_pos c5] at H
          have c5b0 : decide (0 ≤ x5_1) = true := decide_eq_true c5
          clear c5
          by_cases c6 : (((rd_T52 l0 x5_1).f0) == a1_0 && (((rd_T52 l0 x5_1).f1) == a1_1)) = true
          · rw [if_pos c6] at H
            have c6b0 : (((rd_T52 l0 x5_1).f0) == a1_0 && (((rd_T52 l0 x5_1).f1) == a1_1)) = true := c6
            (try (have c6b1 : decide (((rd_T52 l0 x5_1).f0) = a1_0 && (((rd_T52 l0 x5_1).f1) == a1_1)) = true := by simpa using c6))
            (try (have c6b2 : (((rd_T52 l0 x5_1).f0) == a1_0 && (((rd_T52 l0 x5_1).f1) == a1_1)) = true := by simpa using c6))
            clear c6
            obtain rfl := Option.some.inj H
            have p123 : 0 ≤ (x5_1 : Int) := of_decide_eq_true (by first | (with_reducible assumption) | assumption)
            have q123 : x5_1 < (l0.length : Int) := of_decide_eq_true (by first | (with_reducible assumption) | assumption)
            obtain ⟨ad123, e123, hx123_0, hx123_1⟩ := at_T52 HR0.out x5_1 p123 q123
            cases e123
            replace hx123_0 := (HB.out.cell (World.block_lt_of_cell? w _ hx123_0)).trans hx123_0
            replace hx123_1 := (HB.out.cell (World.block_lt_of_cell? w _ hx123_1)).trans hx123_1
            replace p123 := eq_true p123
            replace q123 := eq_true q123
            have hcz7_0 : wr.cell? ⟨gb122, 0, none⟩ = some (.int .u64 a1_0) := (blk_cell BK122.out 0).trans rfl
            have hcz7_1 : wr.cell? ⟨gb122, 1, none⟩ = some (.int .u64 a1_1) := (blk_cell BK122.out 1).trans rfl
            have hfz7_0 := blk_frozen BK122.out 0
            have hfz7_1 := blk_frozen BK122.out 1
            go_wp2
            repeat (go_quiet (fail); try go_wp2)
            go_ret
            exact ⟨by first | rfl | (simp [errW_none, errW_some] <;> rfl) | (simp [*, errW_none, errW_some] <;> rfl), by repeat (first | (with_reducible first | exact HB.out | apply below_alloc | apply pw_below_drewN | apply below_drew1 | refine below_set ?_ GE122.out) | exact HB.out)⟩
          · rw [if_neg c6] at H
            have c6b0 : (((rd_T52 l0 x5_1).f0) == a1_0 && (((rd_T52 l0 x5_1).f1) == a1_1)) = false := by simpa using c6
            (try (have c6b1 : decide (((rd_T52 l0 x5_1).f0) = a1_0 && (((rd_T52 l0 x5_1).f1) == a1_1)) = false := by simpa using c6))
            (try (have c6b2 : (((rd_T52 l0 x5_1).f0) == a1_0 && (((rd_T52 l0 x5_1).f1) == a1_1)) = false := by simpa using c6))
            (try (have c6b3 : ¬ (((rd_T52 l0 x5_1).f0) = a1_0 && (((rd_T52 l0 x5_1).f1) == a1_1)) := by simpa using c6))
            clear c6
            have H' := Aside0.mk H
            clear H
            have p123 : 0 ≤ (x5_1 : Int) := of_decide_eq_true (by first | (with_reducible assumption) | assumption)
            have q123 : x5_1 < (l0.length : Int) := of_decide_eq_true (by first | (with_reducible assumption) | assumption)
            obtain ⟨ad123, e123, hx123_0, hx123_1⟩ := at_T52 HR0.out x5_1 p123 q123
            cases e123
            replace hx123_0 := (HB.out.cell (World.block_lt_of_cell? w _ hx123_0)).trans hx123_0
            replace hx123_1 := (HB.out.cell (World.block_lt_of_cell? w _ hx123_1)).trans hx123_1
            replace p123 := eq_true p123
            replace q123 := eq_true q123
            have hcz8_0 : wr.cell? ⟨gb122, 0, none⟩ = some (.int .u64 a1_0) := (blk_cell BK122.out 0).trans rfl
            have hcz8_1 : wr.cell? ⟨gb122, 1, none⟩ = some (.int .u64 a1_1) := (blk_cell BK122.out 1).trans rfl
            have hfz8_0 := blk_frozen BK122.out 0
            have hfz8_1 := blk_frozen BK122.out 1
            go_wp2
            repeat (go_quiet (fail); try go_wp2)
            go_roundg k1
            case measure => have := HK1.out; omega
            case rel => exact ⟨(wrap64 (x5_1 + 1)), (by first | rfl | (simp; done) | (simp [*]; done)), H', ⟨by have := HK1.out; omega⟩, ⟨by (with_reducible repeat (first | refine blk_drewN ?_ _ | refine blk_drew ?_ | refine blk_alloc ?_ _)); exact BK122.out⟩, ⟨by repeat (first | (with_reducible first | exact HB.out | apply below_alloc | apply pw_below_drewN | apply below_drew1 | refine below_set ?_ GE122.out) | exact HB.out)⟩⟩
        · rw [if_neg c5] at H
          exact absurd H (by simp)
      · rw [if_neg c4] at H
        have c4b0 : decide (x5_1 < (l0.length : Int)) = false := decide_eq_false c4
        clear c4
        obtain rfl := Option.some.inj H
        go_wp2
        repeat (go_quiet (fail); try go_wp2)
        go_ret
        exact ⟨by first | rfl | (simp [errW_none, errW_some] <;> rfl) | (simp [*, errW_none, errW_some] <;> rfl), by repeat (first | (with_reducible first | exact HB.out | apply below_alloc | apply pw_below_drewN | apply below_drew1 | refine below_set ?_ GE122.out) | exact HB.out)⟩
end Go.Proofs.Ytnfglkgkdechlaa.PQ

namespace Go.Proofs.Ytnfglkgkdechlaa.PQ
open Go.RowKit Go.Proofs.YtnfglkgkdechlaaW.PrintWords Go.Proofs.YtnfglkgkdechlaaW.PrintLast Go.Proofs.YtnfglkgkdechlaaW.PrintMore
attribute [local go_sem] max2_int min2_int max_two min_two max_three min_three max_four min_four   -- for this text's walks alone

attribute [local go_sem high] eqA52

/-! ### mootbellref07_Right: function 30 -/
def mootbellref07_Right.l0 : Nat → List (S52) → Int → Option (Bool)
  | 0, _, _ => none
  | k + 1, x0, x3 => if x3 < (x0.length : Int) then (if 0 ≤ (wrap64 (x3 - 1)) then (if (wrap64 (x3 - 1)) < (x0.length : Int) then (if 0 ≤ x3 then ((mootbellref05_Ahead.f ((rd_T52 x0 (wrap64 (x3 - 1))).f0) ((rd_T52 x0 (wrap64 (x3 - 1))).f1) ((rd_T52 x0 x3).f0) ((rd_T52 x0 x3).f1)).bind fun t121 => (if t121 = true then (mootbellref07_Right.l0 k x0 (wrap64 (x3 + 1))) else (some false))) else (none)) else (none)) else (none)) else (some (decide ((x0.length : Int) ≤ 4096)))
def mootbellref07_Right.f (k : Nat) (l0 : List (S52)) : Option (Bool) := mootbellref07_Right.l0 k l0 1
theorem mootbellref07_Right.mono_l : ∀ k, (∀ y0 y1, LeO (mootbellref07_Right.l0 k y0 y1) (mootbellref07_Right.l0 (k + 1) y0 y1))
  | 0 => fun _ _ r h => by simp [mootbellref07_Right.l0] at h
  | k + 1 => by
    have ih0 := mootbellref07_Right.mono_l k
    · intro y0 y1
      unfold mootbellref07_Right.l0
      repeat' first
      | (with_reducible exact ih0 _ _)
      | (with_reducible exact LeO.refl _)
      | (with_reducible exact LeO.none _)
      | (with_reducible refine LeO.ite ?_ ?_)
      | (with_reducible refine LeO.bind ?_ (fun _ => ?_))
      | exact ih0 _ _
      | exact LeO.none _
      | refine LeO.ite ?_ ?_
      | refine LeO.bind ?_ (fun _ => ?_)
theorem mootbellref07_Right.mono : ∀ a0 k, LeO (mootbellref07_Right.f k a0) (mootbellref07_Right.f (k + 1) a0) := by
  intro a0 k
  have ih0 := mootbellref07_Right.mono_l k
  unfold mootbellref07_Right.f
  repeat' first
      | (with_reducible exact ih0 _ _)
      | (with_reducible exact LeO.refl _)
      | (with_reducible exact LeO.none _)
      | (with_reducible refine LeO.ite ?_ ?_)
      | (with_reducible refine LeO.bind ?_ (fun _ => ?_))
      | exact ih0 _ _
      | exact LeO.none _
      | refine LeO.ite ?_ ?_
      | refine LeO.bind ?_ (fun _ => ?_)
def mootbellref07_Right.T4 : Bool × List (List Nat × List Nat) := (true, [([], []), ([], []), ([1], [1]), ([0, 2], [0, 2]), ([3], [3]), ([], []), ([], []), ([5, 6], [5, 6]), ([7], [7]), ([4, 8], [4, 8]), ([9, 9, 0, 1, 2, 3, 4, 5, 6, 7, 8, 9], [9])])
def mootbellref07_Right.B4 : List Nat := [0, 0, 2, 7, 15, 0, 0, 96, 224, 511, 1023]
theorem mootbellref07_Right.tab4 : rtab .any (opsOf Try.f30 4) = mootbellref07_Right.T4 := by kernel_rfl
theorem mootbellref07_Right.bits4 : waitsOk mootbellref07_Right.T4.2 mootbellref07_Right.B4 = true := by kernel_rfl
set_option maxHeartbeats 8000000 in
set_option maxRecDepth 100000 in
theorem mootbellref07_Right.calls (k : Nat) (A0 : Option Addr) (c0 : Nat) (l0 : List (S52)) (r : Bool) (w : World) (hr0 : Kd.C k52 w A0 l0.length l0) (hc0 : l0.length ≤ c0) (h : mootbellref07_Right.f k l0 = some r) :
    Calls Try.prog 30 #[.slice A0 l0.length c0] w fun e w' => e = .returned (.bool r) ∧ Below w.heap.size w w' := by
  have hu52 := Try.underlying52
  have HR0 := Aside0.mk hr0
  have HC0 := Aside0.mk hc0
  clear hr0 hc0
  have HB := Aside0.mk (Below.refl w.heap.size w)
  have H : (mootbellref07_Right.l0 k l0 1) = some r := h
  clear h
  have H' := Aside0.mk H
  clear H
  go_enter Try.func30, Try.ntmps30
  go_wp2
  go_loopg [3] k (fun kq v3 w' => ∃ (x3_1 : Int), v3 = .int .i64 x3_1 ∧ Aside0 (mootbellref07_Right.l0 kq l0 x3_1 = some r) ∧ Aside0 (kq ≤ k) ∧ Aside0 (Below w.heap.size w w'))
  case atStart => exact ⟨(1), (by first | rfl | (simp; done) | (simp [*]; done)), H', ⟨Nat.le_refl _⟩, ⟨by repeat (first | (with_reducible first | exact HB.out | apply below_alloc | apply pw_below_drewN | apply below_drew1) | exact HB.out)⟩⟩
  case round =>
    clear H'
    obtain ⟨x3_1, rfl, HA, HK1, HB⟩ := hrel
    cases gk with
    | zero => exact absurd HA.out (by simp [mootbellref07_Right.l0])
    | succ k1 =>
      have H := HA.out
      clear HA
      simp only [mootbellref07_Right.l0] at H
      by_cases c2 : x3_1 < (l0.length : Int)
      · rw [if_pos c2] at H
        have c2b0 : decide (x3_1 < (l0.length : Int)) = true := decide_eq_true c2
        clear c2
        obtain ⟨ji3, hji3⟩ : ∃ j_ : Int, (wrap64 (x3_1 - 1)) = j_ := ⟨_, rfl⟩
        replace H : (if 0 ≤ (ji3) then (if (ji3) < (l0.length : Int) then (if 0 ≤ x3_1 then ((mootbellref05_Ahead.f ((rd_T52 l0 (ji3)).f0) ((rd_T52 l0 (ji3)).f1) ((rd_T52 l0 x3_1).f0) ((rd_T52 l0 x3_1).f1)).bind fun t121 => (if t121 = true then (mootbellref07_Right.l0 k1 l0 (wrap64 (x3_1 + 1))) else (some false))) else (none)) else (none)) else (none)) = some r := by first | (rw [hji3] at H; exact H) | (simp only [hji3] at H ⊢; exact H)
        have hji3w : (IntKind.i64.wrap (x3_1 - 1)) = ji3 := (i64_w _).trans hji3
        by_cases c4 : 0 ≤ (ji3)
        · rw [if_pos c4] at H
          have c4b0 : decide (0 ≤ (ji3)) = true := decide_eq_true c4
          clear c4
          by_cases c5 : (ji3) < (l0.length : Int)
          · rw [if_pos c5] at H
            have c5b0 : decide ((ji3) < (l0.length : Int)) = true := decide_eq_true c5
            clear c5
            by_cases c6 : 0 ≤ x3_1
            · rw [if_pos c6] at H
              have c6b0 : decide (0 ≤ x3_1) = true := decide_eq_true c6
              clear c6
              replace H := Option.bind_eq_some_iff.mp H
              obtain ⟨t121, A70, H⟩ := H
              replace H : (if t121 = true then (mootbellref07_Right.l0 k1 l0 (wrap64 (x3_1 + 1))) else (some false)) = some r := H
              have A7 := Aside0.mk A70
              clear A70
              by_cases c8 : t121 = true
              · subst c8
                have H1 : (mootbellref07_Right.l0 k1 l0 (wrap64 (x3_1 + 1))) = some r := by rw [if_pos rfl] at H; exact H
                clear H
                have H := H1
                clear H1
                have H' := Aside0.mk H
                clear H
                try go_wp2
                have n0_ := Aside0.mk (below_drew1 HB.out)
                clear HB
                have HB := n0_
                clear n0_
                have p119 : 0 ≤ ((ji3) : Int) := of_decide_eq_true (by first | (with_reducible assumption) | assumption)
                have q119 : (ji3) < (l0.length : Int) := of_decide_eq_true (by first | (with_reducible assumption) | assumption)
                obtain ⟨ad119, e119, hx119_0, hx119_1⟩ := at_T52 HR0.out (ji3) p119 q119
                have hw119_1 := hx119_1
                have hw119_0 := hx119_0
                cases e119
                replace hx119_0 := (HB.out.cell (World.block_lt_of_cell? w _ hx119_0)).trans hx119_0
                replace hx119_1 := (HB.out.cell (World.block_lt_of_cell? w _ hx119_1)).trans hx119_1
                replace p119 := eq_true p119
                replace q119 := eq_true q119
                have p120 : 0 ≤ (x3_1 : Int) := of_decide_eq_true (by first | (with_reducible assumption) | assumption)
                have q120 : x3_1 < (l0.length : Int) := of_decide_eq_true (by first | (with_reducible assumption) | assumption)
                obtain ⟨ad120, e120, hx120_0, hx120_1⟩ := at_T52 HR0.out x3_1 p120 q120
                have hw120_1 := hx120_1
                have hw120_0 := hx120_0
                obtain rfl : ad119 = ad120 := (by injection e120)
                replace hx120_0 := (HB.out.cell (World.block_lt_of_cell? w _ hx120_0)).trans hx120_0
                replace hx120_1 := (HB.out.cell (World.block_lt_of_cell? w _ hx120_1)).trans hx120_1
                replace p120 := eq_true p120
                replace q120 := eq_true q120
                refine start_ (n := 11) (S := fun w' => w'.cell? (ad119.add (((ji3)).toNat * 2)) = some (.int .u64 ((rd_T52 l0 (ji3)).f0)) ∧ w'.cell? ⟨(ad119.add (((ji3)).toNat * 2)).block, (ad119.add (((ji3)).toNat * 2)).off + 1, none⟩ = some (.int .u64 ((rd_T52 l0 (ji3)).f1)) ∧ w'.cell? (ad119.add ((x3_1).toNat * 2)) = some (.int .u64 ((rd_T52 l0 x3_1).f0)) ∧ w'.cell? ⟨(ad119.add ((x3_1).toNat * 2)).block, (ad119.add ((x3_1).toNat * 2)).off + 1, none⟩ = some (.int .u64 ((rd_T52 l0 x3_1).f1))) (ds := []) #[false, false, false, false, false, false, false, false, false, false, false] (by kernel_rfl) rfl rfl ⟨((HB.out.cell (World.block_lt_of_cell? w _ hw119_0)).trans hw119_0), ((HB.out.cell (World.block_lt_of_cell? w _ hw119_1)).trans hw119_1), ((HB.out.cell (World.block_lt_of_cell? w _ hw120_0)).trans hw120_0), ((HB.out.cell (World.block_lt_of_cell? w _ hw120_1)).trans hw120_1)⟩ (fun hHeld => ?_); refine with_tabW mootbellref07_Right.tab4 mootbellref07_Right.bits4 (fun HT_ HW_ => ?_)
                generalize wr.drew = w9 at HB hx119_0 hx119_1 hx120_0 hx120_1 hHeld ⊢
                refine pure_ (i := 0) (N := some 11) (v := ?_) (a' := ?_) #[true, false, false, false, false, false, false, false, false, false, false] rfl rfl (any_of HT_.out (by kernel_rfl)) (fun _ _ _ h => h) (Or.inl ⟨by rfl, ?_⟩) ?_ ?_
                rotate_left
                · intro w'
                  go_simp
                  with_reducible rfl
                rotate_left
                · simp only [Act.put, qa_, qb_, qc_, i64_w, i32_w]
                  rfl
                refine pure_ (i := 1) (N := some 12) (v := ?_) (a' := ?_) #[true, true, false, false, false, false, false, false, false, false, false] rfl rfl (any_of HT_.out (by kernel_rfl)) (fun _ _ _ h => h) (Or.inl ⟨by rfl, ?_⟩) ?_ ?_
                rotate_left
                · intro w'
                  go_simp
                  with_reducible rfl
                rotate_left
                · simp only [Act.put, qa_, qb_, qc_, i64_w, i32_w]
                  rfl
                refine pure_ (i := 2) (N := some 13) (v := ?_) (a' := ?_) #[true, true, true, false, false, false, false, false, false, false, false] rfl rfl (any_of HT_.out (by kernel_rfl)) (fun _ _ _ h => h) (Or.inl ⟨by rfl, ?_⟩) ?_ ?_
                rotate_left
                · intro w'
                  go_simp
                  with_reducible rfl
                rotate_left
                · simp only [Act.put, qa_, qb_, qc_, i64_w, i32_w]
                  rfl
                refine pure_ (i := 3) (N := some 14) (v := ?_) (a' := ?_) #[true, true, true, true, false, false, false, false, false, false, false] rfl rfl (any_of HT_.out (by kernel_rfl)) (fun _ _ _ h => h) (Or.inl ⟨by rfl, ?_⟩) ?_ ?_
                rotate_left
                · intro w'
                  go_simp
                  with_reducible rfl
                rotate_left
                · simp only [Act.put, qa_, qb_, qc_, i64_w, i32_w]
                  rfl
                refine pure_ (i := 5) (N := some 16) (v := ?_) (a' := ?_) #[true, true, true, true, false, true, false, false, false, false, false] rfl rfl (any_of HT_.out (by kernel_rfl)) (fun _ _ _ h => h) (Or.inl ⟨by rfl, ?_⟩) ?_ ?_
                rotate_left
                · intro w'
                  go_simp
                  with_reducible rfl
                rotate_left
                · simp only [Act.put, qa_, qb_, qc_, i64_w, i32_w]
                  rfl
                refine pure_ (i := 6) (N := some 17) (v := ?_) (a' := ?_) #[true, true, true, true, false, true, true, false, false, false, false] rfl rfl (any_of HT_.out (by kernel_rfl)) (fun _ _ _ h => h) (Or.inl ⟨by rfl, ?_⟩) ?_ ?_
                rotate_left
                · intro w'
                  go_simp
                  with_reducible rfl
                rotate_left
                · simp only [Act.put, qa_, qb_, qc_, i64_w, i32_w]
                  rfl
                refine pure_ (i := 7) (N := some 18) (v := ?_) (a' := ?_) #[true, true, true, true, false, true, true, true, false, false, false] rfl rfl (any_of HT_.out (by kernel_rfl)) (fun _ _ _ h => h) (Or.inl ⟨by rfl, ?_⟩) ?_ ?_
                rotate_left
                · intro w'
                  go_simp
                  with_reducible rfl
                rotate_left
                · simp only [Act.put, qa_, qb_, qc_, i64_w, i32_w]
                  rfl
                refine take_ (i := 4) (N := some 15) (v := ?_) (a' := ?_) #[true, true, true, true, true, true, true, true, false, false, false] rfl rfl (take_ofW HT_.out HW_.out (by kernel_rfl)) (fun _ _ _ h => h) (Or.inl ⟨by rfl, ?_⟩) hHeld ?_ ?_
                rotate_left
                · rintro w' ⟨s0, s1, s2, s3⟩
                  go_simp
                  with_reducible rfl
                rotate_left
                · simp only [Act.put, qa_, qb_, qc_, i64_w, i32_w]
                  rfl
                refine take_ (i := 8) (N := some 19) (v := ?_) (a' := ?_) #[true, true, true, true, true, true, true, true, true, false, false] rfl rfl (take_ofW HT_.out HW_.out (by kernel_rfl)) (fun _ _ _ h => h) (Or.inl ⟨by rfl, ?_⟩) hHeld ?_ ?_
                rotate_left
                · rintro w' ⟨s0, s1, s2, s3⟩
                  go_simp
                  with_reducible rfl
                rotate_left
                · simp only [Act.put, qa_, qb_, qc_, i64_w, i32_w]
                  rfl
                refine one_ (i := 9) (N := some 20) #[true, true, true, true, true, true, true, true, true, true, false] rfl rfl (one_of HT_.out (by kernel_rfl)) (by decide) (fun K hK => ?_)
                refine goes_ Try.func39 (by kernel_rfl) rfl #[.agg #[.int .u64 ((rd_T52 l0 (ji3)).f0), .int .u64 ((rd_T52 l0 (ji3)).f1)], .agg #[.int .u64 ((rd_T52 l0 x3_1).f0), .int .u64 ((rd_T52 l0 x3_1).f1)]] (by rfl) rfl rfl (by (try simp only [List.map_toArray, List.map_cons, List.map_nil]); first | done | (simp only [hji3]; rfl) | rfl | (simp only [List.length_drop, List.length_take]; rfl)) ?_
                with_reducible refine (mootbellref05_Ahead.calls ((rd_T52 l0 (ji3)).f0) ((rd_T52 l0 (ji3)).f1) ((rd_T52 l0 x3_1).f0) ((rd_T52 l0 x3_1).f1) true _ A7.out).mono ?_
                rintro e w10 ⟨rfl, hb⟩
                refine ⟨_, rfl, ?_⟩
                have n0_ := Aside0.mk (below_step (by repeat (first | (with_reducible first | exact HB.out | apply below_alloc | apply pw_below_drewN | apply below_drew1) | exact HB.out)) hb)
                clear HB
                have HB := n0_
                clear n0_
                (try clear hb)
                (try clear hb2)
                (try clear hk)
                (try clear hi)
                refine hK.out _ _ ⟨((HB.out.cell (World.block_lt_of_cell? w _ hw119_0)).trans hw119_0), ((HB.out.cell (World.block_lt_of_cell? w _ hw119_1)).trans hw119_1), ((HB.out.cell (World.block_lt_of_cell? w _ hw120_0)).trans hw120_0), ((HB.out.cell (World.block_lt_of_cell? w _ hw120_1)).trans hw120_1)⟩ (fun hHeld => ?_)
                clear hK K
                refine norm_ (a' := ?_) ?_ ?_
                rotate_left
                · show Act.put _ (some 20) _ = _
                  simp only [Act.put, qa_, qb_, qc_, i64_w, i32_w]
                  rfl
                refine pure_ (i := 10) (N := some 4) (v := ?_) (a' := ?_) #[true, true, true, true, true, true, true, true, true, true, true] rfl rfl (any_of HT_.out (by kernel_rfl)) (fun _ _ _ h => h) (Or.inl ⟨by rfl, ?_⟩) ?_ ?_
                rotate_left
                · intro w'
                  go_simp
                  with_reducible rfl
                rotate_left
                · simp only [Act.put, qa_, qb_, qc_, i64_w, i32_w]
                  rfl
                refine done_ (done_of HT_.out (by kernel_rfl)) ?_
                try go_wp2
                go_roundg k1
                case measure => have := HK1.out; omega
                case rel => exact ⟨(wrap64 (x3_1 + 1)), (by first | rfl | (simp; done) | (simp [*]; done)), H', ⟨by have := HK1.out; omega⟩, ⟨by repeat (first | (with_reducible first | exact HB.out | apply below_alloc | apply pw_below_drewN | apply below_drew1) | exact HB.out)⟩⟩
              · replace c8 := Bool.eq_false_iff.mpr c8
                subst c8
                have H1 : (some false) = some r := by rw [if_neg (show ¬ (false = true) by decide)] at H; exact H
                clear H
                have H := H1
                clear H1
                obtain rfl := Option.some.inj H
                try go_wp2
                have n0_ := Aside0.mk (below_drew1 HB.out)
                clear HB
                have HB := n0_
                clear n0_
                have p119 : 0 ≤ ((ji3) : Int) := of_decide_eq_true (by first | (with_reducible assumption) | assumption)
                have q119 : (ji3) < (l0.length : Int) := of_decide_eq_true (by first | (with_reducible assumption) | assumption)
                obtain ⟨ad119, e119, hx119_0, hx119_1⟩ := at_T52 HR0.out (ji3) p119 q119
                have hw119_1 := hx119_1
                have hw119_0 := hx119_0
                cases e119
                replace hx119_0 := (HB.out.cell (World.block_lt_of_cell? w _ hx119_0)).trans hx119_0
                replace hx119_1 := (HB.out.cell (World.block_lt_of_cell? w _ hx119_1)).trans hx119_1
                replace p119 := eq_true p119
                replace q119 := eq_true q119
                have p120 : 0 ≤ (x3_1 : Int) := of_decide_eq_true (by first | (with_reducible assumption) | assumption)
                have q120 : x3_1 < (l0.length : Int) := of_decide_eq_true (by first | (with_reducible assumption) | assumption)
                obtain ⟨ad120, e120, hx120_0, hx120_1⟩ := at_T52 HR0.out x3_1 p120 q120
                have hw120_1 := hx120_1
                have hw120_0 := hx120_0
                obtain rfl : ad119 = ad120 := (by injection e120)
                replace hx120_0 := (HB.out.cell (World.block_lt_of_cell? w _ hx120_0)).trans hx120_0
                replace hx120_1 := (HB.out.cell (World.block_lt_of_cell? w _ hx120_1)).trans hx120_1
                replace p120 := eq_true p120
                replace q120 := eq_true q120
                refine start_ (n := 11) (S := fun w' => w'.cell? (ad119.add (((ji3)).toNat * 2)) = some (.int .u64 ((rd_T52 l0 (ji3)).f0)) ∧ w'.cell? ⟨(ad119.add (((ji3)).toNat * 2)).block, (ad119.add (((ji3)).toNat * 2)).off + 1, none⟩ = some (.int .u64 ((rd_T52 l0 (ji3)).f1)) ∧ w'.cell? (ad119.add ((x3_1).toNat * 2)) = some (.int .u64 ((rd_T52 l0 x3_1).f0)) ∧ w'.cell? ⟨(ad119.add ((x3_1).toNat * 2)).block, (ad119.add ((x3_1).toNat * 2)).off + 1, none⟩ = some (.int .u64 ((rd_T52 l0 x3_1).f1))) (ds := []) #[false, false, false, false, false, false, false, false, false, false, false] (by kernel_rfl) rfl rfl ⟨((HB.out.cell (World.block_lt_of_cell? w _ hw119_0)).trans hw119_0), ((HB.out.cell (World.block_lt_of_cell? w _ hw119_1)).trans hw119_1), ((HB.out.cell (World.block_lt_of_cell? w _ hw120_0)).trans hw120_0), ((HB.out.cell (World.block_lt_of_cell? w _ hw120_1)).trans hw120_1)⟩ (fun hHeld => ?_); refine with_tabW mootbellref07_Right.tab4 mootbellref07_Right.bits4 (fun HT_ HW_ => ?_)
                generalize wr.drew = w11 at HB hx119_0 hx119_1 hx120_0 hx120_1 hHeld ⊢
                refine pure_ (i := 0) (N := some 11) (v := ?_) (a' := ?_) #[true, false, false, false, false, false, false, false, false, false, false] rfl rfl (any_of HT_.out (by kernel_rfl)) (fun _ _ _ h => h) (Or.inl ⟨by rfl, ?_⟩) ?_ ?_
                rotate_left
                · intro w'
                  go_simp
                  with_reducible rfl
                rotate_left
                · simp only [Act.put, qa_, qb_, qc_, i64_w, i32_w]
                  rfl
                refine pure_ (i := 1) (N := some 12) (v := ?_) (a' := ?_) #[true, true, false, false, false, false, false, false, false, false, false] rfl rfl (any_of HT_.out (by kernel_rfl)) (fun _ _ _ h => h) (Or.inl ⟨by rfl, ?_⟩) ?_ ?_
                rotate_left
                · intro w'
                  go_simp
                  with_reducible rfl
                rotate_left
                · simp only [Act.put, qa_, qb_, qc_, i64_w, i32_w]
                  rfl
                refine pure_ (i := 2) (N := some 13) (v := ?_) (a' := ?_) #[true, true, true, false, false, false, false, false, false, false, false] rfl rfl (any_of HT_.out (by kernel_rfl)) (fun _ _ _ h => h) (Or.inl ⟨by rfl, ?_⟩) ?_ ?_
                rotate_left
                · intro w'
                  go_simp
                  with_reducible rfl
                rotate_left
                · simp only [Act.put, qa_, qb_, qc_, i64_w, i32_w]
                  rfl
                refine pure_ (i := 3) (N := some 14) (v := ?_) (a' := ?_) #[true, true, true, true, false, false, false, false, false, false, false] rfl rfl (any_of HT_.out (by kernel_rfl)) (fun _ _ _ h => h) (Or.inl ⟨by rfl, ?_⟩) ?_ ?_
                rotate_left
                · intro w'
                  go_simp
                  with_reducible rfl
                rotate_left
                · simp only [Act.put, qa_, qb_, qc_, i64_w, i32_w]
                  rfl
                refine pure_ (i := 5) (N := some 16) (v := ?_) (a' := ?_) #[true, true, true, true, false, true, false, false, false, false, false] rfl rfl (any_of HT_.out (by kernel_rfl)) (fun _ _ _ h => h) (Or.inl ⟨by rfl, ?_⟩) ?_ ?_
                rotate_left
                · intro w'
                  go_simp
                  with_reducible rfl
                rotate_left
                · simp only [Act.put, qa_, qb_, qc_, i64_w, i32_w]
                  rfl
                refine pure_ (i := 6) (N := some 17) (v := ?_) (a' := ?_) #[true, true, true, true, false, true, true, false, false, false, false] rfl rfl (any_of HT_.out (by kernel_rfl)) (fun _ _ _ h => h) (Or.inl ⟨by rfl, ?_⟩) ?_ ?_
                rotate_left
                · intro w'
                  go_simp
                  with_reducible rfl
                rotate_left
                · simp only [Act.put, qa_, qb_, qc_, i64_w, i32_w]
                  rfl
                refine pure_ (i := 7) (N := some 18) (v := ?_) (a' := ?_) #[true, true, true, true, false, true, true, true, false, false, false] rfl rfl (any_of HT_.out (by kernel_rfl)) (fun _ _ _ h => h) (Or.inl ⟨by rfl, ?_⟩) ?_ ?_
                rotate_left
                · intro w'
                  go_simp
                  with_reducible rfl
                rotate_left
                · simp only [Act.put, qa_, qb_, qc_, i64_w, i32_w]
                  rfl
                refine take_ (i := 4) (N := some 15) (v := ?_) (a' := ?_) #[true, true, true, true, true, true, true, true, false, false, false] rfl rfl (take_ofW HT_.out HW_.out (by kernel_rfl)) (fun _ _ _ h => h) (Or.inl ⟨by rfl, ?_⟩) hHeld ?_ ?_
                rotate_left
                · rintro w' ⟨s0, s1, s2, s3⟩
                  go_simp
                  with_reducible rfl
                rotate_left
                · simp only [Act.put, qa_, qb_, qc_, i64_w, i32_w]
                  rfl
                refine take_ (i := 8) (N := some 19) (v := ?_) (a' := ?_) #[true, true, true, true, true, true, true, true, true, false, false] rfl rfl (take_ofW HT_.out HW_.out (by kernel_rfl)) (fun _ _ _ h => h) (Or.inl ⟨by rfl, ?_⟩) hHeld ?_ ?_
                rotate_left
                · rintro w' ⟨s0, s1, s2, s3⟩
                  go_simp
                  with_reducible rfl
                rotate_left
                · simp only [Act.put, qa_, qb_, qc_, i64_w, i32_w]
                  rfl
                refine one_ (i := 9) (N := some 20) #[true, true, true, true, true, true, true, true, true, true, false] rfl rfl (one_of HT_.out (by kernel_rfl)) (by decide) (fun K hK => ?_)
                refine goes_ Try.func39 (by kernel_rfl) rfl #[.agg #[.int .u64 ((rd_T52 l0 (ji3)).f0), .int .u64 ((rd_T52 l0 (ji3)).f1)], .agg #[.int .u64 ((rd_T52 l0 x3_1).f0), .int .u64 ((rd_T52 l0 x3_1).f1)]] (by rfl) rfl rfl (by (try simp only [List.map_toArray, List.map_cons, List.map_nil]); first | done | (simp only [hji3]; rfl) | rfl | (simp only [List.length_drop, List.length_take]; rfl)) ?_
                with_reducible refine (mootbellref05_Ahead.calls ((rd_T52 l0 (ji3)).f0) ((rd_T52 l0 (ji3)).f1) ((rd_T52 l0 x3_1).f0) ((rd_T52 l0 x3_1).f1) false _ A7.out).mono ?_
                rintro e w12 ⟨rfl, hb⟩
                refine ⟨_, rfl, ?_⟩
                have n0_ := Aside0.mk (below_step (by repeat (first | (with_reducible first | exact HB.out | apply below_alloc | apply pw_below_drewN | apply below_drew1) | exact HB.out)) hb)
                clear HB
                have HB := n0_
                clear n0_
                (try clear hb)
                (try clear hb2)
                (try clear hk)
                (try clear hi)
                refine hK.out _ _ ⟨((HB.out.cell (World.block_lt_of_cell? w _ hw119_0)).trans hw119_0), ((HB.out.cell (World.block_lt_of_cell? w _ hw119_1)).trans hw119_1), ((HB.out.cell (World.block_lt_of_cell? w _ hw120_0)).trans hw120_0), ((HB.out.cell (World.block_lt_of_cell? w _ hw120_1)).trans hw120_1)⟩ (fun hHeld => ?_)
                clear hK K
                refine norm_ (a' := ?_) ?_ ?_
                rotate_left
                · show Act.put _ (some 20) _ = _
                  simp only [Act.put, qa_, qb_, qc_, i64_w, i32_w]
                  rfl
                refine pure_ (i := 10) (N := some 4) (v := ?_) (a' := ?_) #[true, true, true, true, true, true, true, true, true, true, true] rfl rfl (any_of HT_.out (by kernel_rfl)) (fun _ _ _ h => h) (Or.inl ⟨by rfl, ?_⟩) ?_ ?_
                rotate_left
                · intro w'
                  go_simp
                  with_reducible rfl
                rotate_left
                · simp only [Act.put, qa_, qb_, qc_, i64_w, i32_w]
                  rfl
                refine done_ (done_of HT_.out (by kernel_rfl)) ?_
                try go_wp2
                go_ret
                exact ⟨by first | rfl | (simp [errW_none, errW_some] <;> rfl) | (simp only [← hji3]; first | rfl | (simp [errW_none, errW_some] <;> rfl)) | (simp [*, errW_none, errW_some] <;> rfl), by repeat (first | (with_reducible first | exact HB.out | apply below_alloc | apply pw_below_drewN | apply below_drew1) | exact HB.out)⟩
            · rw [if_neg c6] at H
              exact absurd H (by simp)
          · rw [if_neg c5] at H
            exact absurd H (by simp)
        · rw [if_neg c4] at H
          exact absurd H (by simp)
      · rw [if_neg c2] at H
        have c2b0 : decide (x3_1 < (l0.length : Int)) = false := decide_eq_false c2
        clear c2
        obtain rfl := Option.some.inj H
        go_wp2
        go_ret
        exact ⟨by first | rfl | (simp [errW_none, errW_some] <;> rfl) | (simp [*, errW_none, errW_some] <;> rfl), by repeat (first | (with_reducible first | exact HB.out | apply below_alloc | apply pw_below_drewN | apply below_drew1) | exact HB.out)⟩
end Go.Proofs.Ytnfglkgkdechlaa.PQ


/- A table with more pairs (chapter 7): the document's Add. -/
namespace Go.Proofs.Ytnfglkgkdechlaa
open Go.RowKit Go.Proofs.YtnfglkgkdechlaaW.PrintWords Go.Proofs.YtnfglkgkdechlaaW.PrintLast Go.Proofs.YtnfglkgkdechlaaW.PrintMore

open Go.Proofs.Ytnfglkgkdechlaa.PQ

theorem rin_l (l : List Pr) (p : Pr) (hl : l.length ≤ 9223372036854775807) (r i k : Nat) (hr : i + r = l.length) (hk : r < k) : mootbellref07_in.l0 k l (i : Int) p.f0 p.f1 = some ((l.drop i).contains p) := by
  induction r generalizing i k with
  | zero =>
    obtain ⟨k, rfl⟩ : ∃ q, k = q + 1 := ⟨k - 1, by omega⟩
    rw [mootbellref07_in.l0, if_neg (by omega), List.drop_of_length_le (by omega)]
    rfl
  | succ r ih =>
    obtain ⟨k, rfl⟩ : ∃ q, k = q + 1 := ⟨k - 1, by omega⟩
    have hi : i < l.length := by omega
    have hrd := rdP_eq hi
    unfold rdP at hrd
    rw [mootbellref07_in.l0, if_pos (by omega), if_pos (by omega), hrd, List.drop_eq_getElem_cons hi, List.contains_cons]
    by_cases he : p = l[i]
    · subst he
      rw [if_pos (by simp)]
      simp
    · have hne : ¬ ((l[i].f0 == p.f0 && (l[i].f1 == p.f1)) = true) := by
        intro h
        simp at h
        exact he (pr_ext h.1.symm h.2.symm)
      rw [if_neg hne, In64_nat (by omega), ih (i + 1) k (by omega) (by omega)]
      congr 1
      simp [he]
theorem rinE (A : Option Addr) (n c : Nat) (l : List Pr) (p : Pr) (r : Bool) (w : World) (hA : kP.C w A n l) (hc : n ≤ c) (h : l.contains p = r) : Calls Try.prog 31 #[.slice A n c, .agg #[.int .u64 p.f0, .int .u64 p.f1]] w fun e w' => e = .returned (.bool r) ∧ Below w.heap.size w w' := by
  have hm := Kd.C_max hA
  obtain rfl := Kd.C_len hA
  refine mootbellref07_in.calls (l.length + 1) A c l p.f0 p.f1 r w hA hc ?_
  unfold mootbellref07_in.f
  have e := rin_l l p hm l.length 0 (l.length + 1) (by omega) (by omega)
  rw [List.drop_zero] at e
  rw [← h]
  exact e
theorem ahead_f (a b : Pr) : mootbellref05_Ahead.f a.f0 a.f1 b.f0 b.f1 = some (ltP a b) := by
  unfold mootbellref05_Ahead.f ltP
  split
  · rename_i h
    simp [h]
  · rename_i h
    split
    · rename_i h2
      congr 1
      simp [h2]
    · rename_i h2
      congr 1
      simp [h, h2]
theorem rright_l (l : List Pr) (hl : l.length ≤ 9223372036854775807) (r i k : Nat) (hi0 : 1 ≤ i) (hr : i + r = l.length) (hk : r + 1 ≤ k) :
    ((∀ j : Nat, i ≤ j + 1 → j + 1 < l.length → ltP (rdP l (j : Int)) (rdP l ((j + 1 : Nat) : Int)) = true) → mootbellref07_Right.l0 k l (i : Int) = some (decide ((l.length : Int) ≤ 4096))) ∧
    ((∃ j : Nat, i ≤ j + 1 ∧ j + 1 < l.length ∧ ltP (rdP l (j : Int)) (rdP l ((j + 1 : Nat) : Int)) = false) → mootbellref07_Right.l0 k l (i : Int) = some false) := by
  induction r generalizing i k with
  | zero =>
    obtain ⟨k, rfl⟩ : ∃ q, k = q + 1 := ⟨k - 1, by omega⟩
    refine ⟨fun _ => ?_, fun ⟨j, h1, h2, _⟩ => absurd h2 (by omega)⟩
    rw [mootbellref07_Right.l0, if_neg (by omega)]
  | succ r ih =>
    obtain ⟨k, rfl⟩ : ∃ q, k = q + 1 := ⟨k - 1, by omega⟩
    have ih' := ih (i + 1) k (by omega) (by omega) (by omega)
    have e1 : wrap64 ((i : Int) - 1) = ((i - 1 : Nat) : Int) := by
      unfold wrap64
      omega
    rw [mootbellref07_Right.l0, if_pos (by omega), e1, if_pos (by omega), if_pos (by omega), if_pos (by omega)]
    have e2 := ahead_f (rdP l ((i - 1 : Nat) : Int)) (rdP l (i : Int))
    unfold rdP at e2
    rw [e2, Option.bind_some, In64_nat (by omega)]
    have ei : ((i - 1 + 1 : Nat) : Int) = (i : Int) := by omega
    by_cases hlt : ltP (rdP l ((i - 1 : Nat) : Int)) (rdP l (i : Int)) = true
    · unfold rdP at hlt
      rw [if_pos hlt]
      refine ⟨fun h => ih'.1 fun j h1 h2 => h j (by omega) h2, fun ⟨j, h1, h2, h3⟩ => ih'.2 ⟨j, ?_, h2, h3⟩⟩
      by_cases hj : i + 1 ≤ j + 1
      · exact hj
      · obtain rfl : j = i - 1 := by omega
        rw [ei] at h3
        unfold rdP at h3
        rw [h3] at hlt
        cases hlt
    · refine ⟨fun h => absurd ?_ hlt, fun _ => ?_⟩
      · have := h (i - 1) (by omega) (by omega)
        rw [ei] at this
        exact this
      · unfold rdP at hlt
        rw [if_neg hlt]
theorem rright_f (l : List Pr) (hl : l.length ≤ 9223372036854775807) : mootbellref07_Right.f (l.length + 1) l = some (tabB l) := by
  unfold mootbellref07_Right.f
  by_cases h0 : l.length = 0
  · have e : l = [] := List.length_eq_zero_iff.1 h0
    subst e
    rfl
  · have h := rright_l l hl (l.length - 1) 1 (l.length + 1) (by omega) (by omega) (by omega)
    by_cases hg : ∀ j : Nat, j + 1 < l.length → ltP (rdP l (j : Int)) (rdP l ((j + 1 : Nat) : Int)) = true
    · have h1 := h.1 fun j _ hj => hg j hj
      rw [show ((1 : Nat) : Int) = 1 from rfl] at h1
      rw [h1]
      congr 1
      rw [Bool.eq_iff_iff, tabB_iff, decide_eq_true_iff]
      exact ⟨fun h => ⟨by omega, hg⟩, fun h => by have := h.1; omega⟩
    · have hb : ∃ j : Nat, j + 1 < l.length ∧ ltP (rdP l (j : Int)) (rdP l ((j + 1 : Nat) : Int)) = false := by
        apply Classical.byContradiction
        intro hn
        apply hg
        intro j hj
        apply Classical.byContradiction
        intro hne
        exact hn ⟨j, hj, by simpa using hne⟩
      obtain ⟨j, hj, hf⟩ := hb
      have h1 := h.2 ⟨j, by omega, hj, hf⟩
      rw [show ((1 : Nat) : Int) = 1 from rfl] at h1
      rw [h1]
      congr 1
      rw [Eq.comm, Bool.eq_false_iff]
      intro ht
      have := (tabB_iff.1 ht).2 j hj
      rw [hf] at this
      cases this
theorem rRightE (A : Option Addr) (n c : Nat) (l : List Pr) (r : Bool) (w : World) (hA : kP.C w A n l) (hc : n ≤ c) (h : tabB l = r) : Calls Try.prog 30 #[.slice A n c] w fun e w' => e = .returned (.bool r) ∧ Below w.heap.size w w' := by
  have hm := Kd.C_max hA
  obtain rfl := Kd.C_len hA
  exact mootbellref07_Right.calls (l.length + 1) A c l r w hA hc (h ▸ rright_f l hm)
def addP (t l : List Pr) : List Pr := l.foldl (fun out x => if out.contains x then out else withP out x) t
theorem rWithE (A : Option Addr) (n c : Nat) (l : List Pr) (m : Pr) (L : List Pr) (w : World) (hA : kP.C w A n l) (hc : n ≤ c) (hl : n ≤ 1000000) (h : withP l m = L) : Calls Try.prog 32 #[.slice A n c, .agg #[.int .u64 m.f0, .int .u64 m.f1]] w
    fun r w' => ∃ v, r = .returned v ∧ kP.R 52 w' w.heap.size (fun _ => True) v L ∧ Below w.heap.size w w' := h ▸ rWith A n c l m w hA hc hl
set_option maxRecDepth 100000 in
set_option maxHeartbeats 8000000 in
/-- Add: a table that may be, with more pairs; nothing and an error of one that may not be. -/
theorem rAdd (A : Option Addr) (n c : Nat) (t : List Pr) (B : Option Addr) (m d : Nat) (l : List Pr) (w : World) (hA : kP.C w A n t) (hc : n ≤ c) (hB : kP.C w B m l) (hd : m ≤ d) (hm : m ≤ 100000) : Calls Try.prog 19 #[.slice A n c, .slice B m d] w
    fun r w' => ∃ v x, r = .returned (.tuple #[v, .int .i64 x]) ∧ kP.R 52 w' w.heap.size (fun _ => True) v (if tabB t = true then (if 4096 < (addP t l).length then [] else addP t l) else []) ∧ Below w.heap.size w w' := by
  have HN := Aside0.mk (show n = t.length from (Kd.C_len hA).symm)
  have HM := Aside0.mk (show m = l.length from (Kd.C_len hB).symm)
  have HX := Aside0.mk hA
  have HY := Aside0.mk hB
  clear hA hB
  obtain ⟨res, hres⟩ : ∃ L, (if tabB t = true then (if 4096 < (addP t l).length then [] else addP t l) else []) = L := ⟨_, rfl⟩
  rw [hres]
  have HRES := Aside0.mk hres
  clear hres
  obtain ⟨q, hq⟩ : ∃ q, tabB t = q := ⟨_, rfl⟩
  have HQ := Aside0.mk hq
  clear hq
  have HY0 := HY
  have HB := Aside0.mk (Below.refl w.heap.size w)
  go_enter Try.func19, Try.ntmps19
  go_wp2_with fail
  refine (rRightE A n c t q _ HX.out hc HQ.out).mono ?_
  rintro e w5 ⟨rfl, hb_⟩
  have ZHX := Aside0.mk (Kd.C_below (by repeat (with_reducible first | exact HX.out | apply C_alloc | apply C_drew)) hb_); clear HX; have HX := ZHX; clear ZHX
  have ZHY := Aside0.mk (Kd.C_below (by repeat (with_reducible first | exact HY.out | apply C_alloc | apply C_drew)) hb_); clear HY; have HY := ZHY; clear ZHY
  have n_ := Aside0.mk (below_step (by repeat (first | exact HB.out | apply below_alloc | apply pw_below_drewN | apply below_drew1 | refine below_set ?_ (by first | omega | (simp; omega)))) hb_); clear HB hb_; have HB := n_; clear n_
  cases q with
  | false =>
    go_wp2
    go_ret2
    have e := HRES.out
    rw [HQ.out, if_neg (by decide)] at e
    rw [← e]
    exact ⟨_, _, rfl, Kd.R_nil _ _ _ _ _, HB.out⟩
  | true =>
    have hn : n ≤ 4096 := by rw [HN.out]; exact (tabB_iff.1 HQ.out).1
    have HO := HQ
    go_wp2_with (first | ((with_reducible refine gate_builtin (b := .append) (xs := #[.const (.slice none 0 0), .tmp 14]) rfl ?_); at_builtin; refine Kd.R_append_rows (kP) (w0 := w) w.heap.size rfl (.const (.slice none 0 0)) (.tmp 14) 22 52 (.agg #[.int .u64 0, .int .u64 0]) 16 rfl Try.underlying22 info52 rfl (by decide) (by omega) _ ([]) (t) (A) (n) (c) (fun _ => True) (fun _ => False) rfl rfl ?aO HX.out ?aK (fun _ hk => hk.elim) ?aF ?aB ?aS ?aL ?_; (case aK => exact (fun x cs h => kP_of_K x cs h)); (case aB => exact (by repeat (first | exact HB.out | apply below_alloc | apply pw_below_drewN | apply below_drew1 | refine below_set ?_ (by first | omega | (simp; omega))))); (case aF => exact (fun _ _ => trivial)); (case aO => exact (Kd.R_nil _ _ _ _ _)); (case aS => exact below_size (by repeat (first | exact HB.out | apply below_alloc | apply pw_below_drewN | apply below_drew1 | refine below_set ?_ (by first | omega | (simp; omega))))); (case aL => first | omega | (simp; omega)); intro v1 w1 ho_ hb_ hg_ hat_; skip; clear HB; clear HO; have HB := Aside0.mk hb_; have HO := Aside0.mk ho_; clear ho_ hb_ hg_ hat_; ))
    go_loopw [7, 8] (fun v7 v8 wx => ∃ i : Nat, i ≤ m ∧ v8 = .int .i64 i ∧ kP.R 52 wx w.heap.size (fun _ => True) v7 (addP t (l.take i)) ∧ (addP t (l.take i)).length ≤ 4096 + i ∧ Below w.heap.size w wx) (fun _ v8 _ => m - (intOf v8).toNat)
    case atStart => exact ⟨0, by omega, rfl, HO.out, by show t.length ≤ _; have := HN.out; omega, HB.out⟩
    case round =>
      clear HO HB
      obtain ⟨i, hi, rfl, hO, hlen, hb⟩ := hrel
      obtain ⟨Ao, co, rfl⟩ := Kd.R_slice hO
      have hao := (Kd.R_reads' hO).2.1
      have HCO := Aside0.mk ((Kd.R_reads' hO).2.2)
      by_cases hlt : i < m
      · obtain ⟨z, hz⟩ : ∃ z : Int, (i : Int) = z := ⟨_, rfl⟩
        have hil : i < l.length := by rw [← HM.out]; exact hlt
        obtain ⟨x, hx⟩ : ∃ x, rdP l z = x := ⟨_, rfl⟩
        have hxe : l[i] = x := by rw [← hx, ← hz, rdP_eq hil]
        have HF := Aside0.mk (show addP t (l.take (i + 1)) = (if (addP t (l.take i)).contains x then addP t (l.take i) else withP (addP t (l.take i)) x) by unfold addP; rw [List.take_succ_eq_append_getElem hil, List.foldl_append, hxe]; rfl)
        generalize addP t (l.take i) = out at *
        obtain ⟨lo, hlo⟩ : ∃ q, out.length = q := ⟨_, rfl⟩
        rw [hlo] at hlen hO hao HCO ⊢
        have HLO := Aside0.mk hlo
        clear hlo
        rw [hz]
        have hz0 : 0 ≤ z := by omega
        have hz1 : z < (m : Int) := by omega
        have hdz : decide (z < (m : Int)) = true := decide_eq_true hz1
        obtain ⟨ad, rfl, c0, c1⟩ := at_P (Kd.C_below HY0.out hb) z hz0 hz1
        rw [hx] at c0 c1
        have HZ := Aside0.mk hz
        obtain ⟨b, hbb⟩ : ∃ b, out.contains x = b := ⟨_, rfl⟩
        have HBB := Aside0.mk hbb
        have HO := Aside0.mk hO
        have HB := Aside0.mk hb
        have HXR := Aside0.mk hx
        clear hz hx hxe hbb hO hb hil
        go_wp2_with fail
        refine (rinE Ao lo co out x b _ HCO.out hao HBB.out).mono ?_
        rintro e w7 ⟨rfl, hb_⟩
        have HO7 := Aside0.mk (Kd.R_below HO.out hb_)
        have HC7 := Aside0.mk (Kd.C_below HCO.out hb_)
        have HB7 := Aside0.mk (below_step HB.out hb_)
        obtain ⟨ad', ee, d0, d1⟩ := at_P (Kd.C_below HY0.out HB7.out) z hz0 hz1
        cases ee
        rw [HXR.out] at d0 d1
        clear HO HCO HB hb_ c0 c1
        cases b with
        | true =>
          go_wp2
          go_roundw
          case rel => exact ⟨i + 1, by omega, by have := HZ.out; subst this; go_num, by rw [HF.out, HBB.out, if_pos rfl]; exact HO7.out, by rw [HF.out, HBB.out, if_pos rfl]; have := HLO.out; omega, HB7.out⟩
          case measure =>
            have := HZ.out
            simp [intOf]
            omega
        | false =>
          obtain ⟨L, hL⟩ : ∃ L, withP out x = L := ⟨_, rfl⟩
          have HL := Aside0.mk hL
          clear hL
          go_wp2_with fail
          refine (rWithE Ao lo co out x L _ HC7.out hao (by omega) HL.out).mono ?_
          rintro e w9 ⟨v9, rfl, hR_, hb_⟩
          have HR9 := Aside0.mk (Kd.R_lower hR_ HB7.out.size)
          have HB9 := Aside0.mk (below_step HB7.out hb_)
          clear hR_ hb_
          go_wp2
          go_roundw
          case rel =>
            have hll : L.length = lo + 1 := by rw [← HL.out, withP_len, HLO.out]
            exact ⟨i + 1, by omega, by have := HZ.out; subst this; go_num, by rw [HF.out, HBB.out, if_neg (by decide), HL.out]; exact HR9.out, by rw [HF.out, HBB.out, if_neg (by decide), HL.out]; omega, HB9.out⟩
          case measure =>
            have := HZ.out
            simp [intOf]
            omega
      · obtain rfl : i = m := by omega
        have e1 : l.take i = l := by rw [HM.out, List.take_length]
        rw [e1] at hO hlen HCO hao ⊢
        obtain ⟨lo, hlo⟩ : ∃ q, (addP t l).length = q := ⟨_, rfl⟩
        rw [hlo] at hO ⊢
        have HLO := Aside0.mk hlo
        have HO := Aside0.mk hO
        have HB := Aside0.mk hb
        clear hlo hO hb hlen HCO hao
        by_cases h4 : 4096 < lo
        · have hd1 : decide ((4096 : Int) < (lo : Int)) = true := decide_eq_true (by omega)
          have hd2 : decide (4096 < lo) = true := decide_eq_true h4
          go_wp2
          go_ret2
          have e := HRES.out
          rw [HQ.out, if_pos rfl, HLO.out, if_pos h4] at e
          rw [← e]
          exact ⟨_, _, rfl, Kd.R_nil _ _ _ _ _, HB.out⟩
        · have hd1 : decide ((4096 : Int) < (lo : Int)) = false := decide_eq_false (by omega)
          have hd2 : decide (4096 < lo) = false := decide_eq_false h4
          go_wp2
          go_ret2
          have e := HRES.out
          rw [HQ.out, if_pos rfl, HLO.out, if_neg h4] at e
          rw [← e]
          exact ⟨_, _, rfl, HO.out, HB.out⟩
end Go.Proofs.Ytnfglkgkdechlaa


/- Raw tables (chapter 7's statements). -/
namespace Go.Proofs.Ytnfglkgkdechlaa
open Go.RowKit Go.Proofs.YtnfglkgkdechlaaW.PrintWords Go.Proofs.YtnfglkgkdechlaaW.PrintLast Go.Proofs.YtnfglkgkdechlaaW.PrintMore

open Go.Proofs.Ytnfglkgkdechlaa.PQ

theorem pick7E (c n r : Int) (hc : In64 c) (hn : 0 < n) (w : World) (h : pickZ c n = r) : Calls Try.prog 20 #[.int .i64 c, .int .i64 n] w fun e w' => e = .returned (.int .i64 r) ∧ Below w.heap.size w w' :=
  (mootbelllaw07_pick.calls c n r w (by rw [pick7_f c n hc hn, h])).mono fun e w' hh => ⟨hh.1, hh.2.below⟩
/-- What a raw number makes of a table. -/
def stepT (t : List Pr) (x : Int) : List Pr := if tabB t = true then (if 4096 < (addP t [rawP x]).length then [] else addP t [rawP x]) else []
def tabR (raw : List Int) : List Pr := (raw.take 60).foldl stepT []
theorem rAddE (A : Option Addr) (n c : Nat) (t : List Pr) (B : Option Addr) (p : Pr) (d : Nat) (x : Int) (w : World) (hA : kP.C w A n t) (hc : n ≤ c) (hB : kP.C w B 1 [p]) (hd : 1 ≤ d) (hp : rawP x = p) : Calls Try.prog 19 #[.slice A n c, .slice B 1 d] w
    fun r w' => ∃ v y, r = .returned (.tuple #[v, .int .i64 y]) ∧ kP.R 52 w' w.heap.size (fun _ => True) v (stepT t x) ∧ Below w.heap.size w w' := by
  subst hp
  exact rAdd A n c t B 1 d [rawP x] w hA hc hB hd (by omega)
set_option maxRecDepth 100000 in
set_option maxHeartbeats 8000000 in
theorem lTable (A : Option Addr) (n c : Nat) (raw : List Int) (w : World) (hA : (Kd.int .i64).C w A n raw) (hc : n ≤ c) (hi : ∀ x ∈ raw, In64 x) : Calls Try.prog 9 #[.slice A n c] w
    fun r w' => ∃ v, r = .returned v ∧ kP.R 52 w' w.heap.size (fun _ => True) v (tabR raw) ∧ Below w.heap.size w w' := by
  have HN := Aside0.mk (show n = raw.length from (Kd.C_len hA).symm)
  have hn63 : n ≤ 9223372036854775807 := by rw [HN.out]; exact Kd.C_len hA ▸ Kd.C_max hA
  have HX := Aside0.mk hA
  have HI := Aside0.mk hi
  clear hA hi
  go_enter Try.func9, Try.ntmps9
  go_wp2
  go_loopw [3, 4] (fun v3 v4 wx => ∃ i : Nat, i ≤ n ∧ i ≤ 60 ∧ v4 = .int .i64 i ∧ kP.R 52 wx w.heap.size (fun _ => True) v3 ((raw.take i).foldl stepT []) ∧ Below w.heap.size w wx) (fun _ v4 _ => 60 - (intOf v4).toNat)
  case atStart => exact ⟨0, by omega, by omega, rfl, Kd.R_nil _ _ _ _ _, Below.refl _ _⟩
  case round =>
    obtain ⟨i, hi, hi60, rfl, hO, hb⟩ := hrel
    by_cases hlt : i < n ∧ i < 60
    · obtain ⟨z, hz⟩ : ∃ z : Int, (i : Int) = z := ⟨_, rfl⟩
      have hil : i < raw.length := by rw [← HN.out]; exact hlt.1
      obtain ⟨x, hx⟩ : ∃ x, rd raw z = x := ⟨_, rfl⟩
      have hxe : raw[i] = x := by
        rw [← hx, ← hz]
        unfold rd
        rw [Int.toNat_natCast, List.getD_eq_getElem?_getD, List.getElem?_eq_getElem hil]
        rfl
      have HF := Aside0.mk (show (raw.take (i + 1)).foldl stepT [] = stepT ((raw.take i).foldl stepT []) x by rw [List.take_succ_eq_append_getElem hil, List.foldl_append, hxe]; rfl)
      have HXI := Aside0.mk (HI.out x (by rw [← hxe]; exact List.getElem_mem hil))
      generalize ((raw.take i).foldl stepT []) = t at *
      obtain ⟨Ao, co, rfl⟩ := Kd.R_slice hO
      obtain ⟨lt_, hltn⟩ : ∃ q, t.length = q := ⟨_, rfl⟩
      have hao := (Kd.R_reads' hO).2.1
      have HCO := Aside0.mk ((Kd.R_reads' hO).2.2)
      rw [hltn] at hO hao HCO ⊢
      clear hltn
      rw [hz]
      have hz0 : 0 ≤ z := by omega
      have hz1 : z < (n : Int) := by omega
      have hz2 : z < 60 := by omega
      have hd1 : decide (z < (n : Int)) = true := decide_eq_true hz1
      have hd2 : decide (z < 60) = true := decide_eq_true hz2
      obtain ⟨ad, rfl, rX⟩ := Kd.at_int (Kd.C_below HX.out hb) z hz0 hz1
      rw [hx] at rX
      have kX := cell_lt rX
      have HZ := Aside0.mk hz
      obtain ⟨p0, hp0⟩ : ∃ p, pickZ x 12 = p := ⟨_, rfl⟩
      obtain ⟨y, hy⟩ : ∃ y, x.tdiv 16 = y := ⟨_, rfl⟩
      have hyi := tdiv_in HXI.out
      rw [hy] at hyi
      have HYI := Aside0.mk hyi
      have hwq : IntKind.i64.wrap (x.tdiv 16) = y := by rw [hy]; exact IntWalk.i64_in _ hyi
      obtain ⟨p1, hp1⟩ : ∃ p, pickZ y 3 = p := ⟨_, rfl⟩
      have q0 := pickZ_lt x 12 (by omega)
      have q1 := pickZ_lt y 3 (by omega)
      rw [hp0] at q0
      rw [hp1] at q1
      have HP := Aside0.mk (And.intro hp0 hp1)
      have HPE := Aside0.mk (show rawP x = ⟨p0, p1⟩ by unfold rawP; rw [hp0, hy, hp1])
      have hc0 : IntKind.u64.wrap p0 = p0 := by rw [IntKind.wrap_u64]; omega
      have hc1 : IntKind.u64.wrap p1 = p1 := by rw [IntKind.wrap_u64]; omega
      have HO := Aside0.mk hO
      have HB := Aside0.mk hb
      clear hy hyi hz hx hxe hp0 hp1 hO hb hil hlt q0 q1
      go_upto_region 5 with (fail)
      refine wp_region_held_drew (S := (fun w' => Below wr.heap.size wr w' ∧ (w'.cell? ((ad.add z.toNat)) = some (.int .i64 x)))) (by kernel_rfl) ?hS17x0 (fun hHeld => ?hR17x0)
      case hS17x0 => ((try dsimp only); (first | exact ⟨below_drew1 (Below.refl _ _), rX⟩ | exact ⟨below_drew1 b0_, rX⟩ | exact ⟨j0, jX⟩ | exact ⟨below_alloc j0 _, (cell_alloc_oldp (Nat.lt_of_lt_of_le kX j0.size)).trans jX⟩ | exact ⟨below_alloc (below_drew1 (Below.refl _ _)) _, (cell_alloc_oldp kX).trans rX⟩ | assumption))
      refine wpAnyH_take (i := 0) (oi := ⟨some 18, _, _, _, _, _⟩) (v := ?_) rfl (by kernel_rfl) (by kernel_rfl) (by kernel_rfl) (fun _ _ _ h => h) (Or.inl ⟨by rfl, ?hY17x2⟩) (by assumption) ?hR17x2
      case hY17x2 => (intro w hSw; (try dsimp only at hSw); go_simp; try with_reducible rfl)
      (try simp only [Act.put, qa_, qb_, qc_])
      refine wpAnyH_take (i := 1) (oi := ⟨some 19, _, _, _, _, _⟩) (v := ?_) rfl (by kernel_rfl) (by kernel_rfl) (by kernel_rfl) (fun _ _ _ h => h) (Or.inl ⟨by rfl, ?hY17x3⟩) (by assumption) ?hR17x3
      case hY17x3 => (intro w hSw; (try dsimp only at hSw); go_simp; try with_reducible rfl)
      (try simp only [Act.put, qa_, qb_, qc_])
      refine wpAnyH_take (i := 2) (oi := ⟨some 20, _, _, _, _, _⟩) (v := ?_) rfl (by kernel_rfl) (by kernel_rfl) (by kernel_rfl) (fun _ _ _ h => h) (Or.inl ⟨by rfl, ?hY17x4⟩) (by assumption) ?hR17x4
      case hY17x4 => (intro w hSw; (try dsimp only at hSw); go_simp; try with_reducible rfl)
      (try simp only [Act.put, qa_, qb_, qc_])
      refine wpAnyH_take (i := 3) (oi := ⟨some 21, _, _, _, _, _⟩) (v := ?_) rfl (by kernel_rfl) (by kernel_rfl) (by kernel_rfl) (fun _ _ _ h => h) (Or.inl ⟨by rfl, ?hY17x5⟩) (by assumption) ?hR17x5
      case hY17x5 => (intro w hSw; (try dsimp only at hSw); go_simp; try with_reducible rfl)
      (try simp only [Act.put, qa_, qb_, qc_])
      refine wpAnyH_take (i := 4) (oi := ⟨some 22, _, _, _, _, _⟩) (v := ?_) rfl (by kernel_rfl) (by kernel_rfl) (by kernel_rfl) (fun _ _ _ h => h) (Or.inl ⟨by rfl, ?hY17x6⟩) (by assumption) ?hR17x6
      case hY17x6 => (intro w hSw; (try dsimp only at hSw); go_simp; try with_reducible rfl)
      (try simp only [Act.put, qa_, qb_, qc_])
      refine wpAnyH_take (i := 7) (oi := ⟨some 25, _, _, _, _, _⟩) (v := ?_) rfl (by kernel_rfl) (by kernel_rfl) (by kernel_rfl) (fun _ _ _ h => h) (Or.inl ⟨by rfl, ?hY17x7⟩) (by assumption) ?hR17x7
      case hY17x7 => (intro w hSw; (try dsimp only at hSw); go_simp; try with_reducible rfl)
      (try simp only [Act.put, qa_, qb_, qc_])
      refine wpAnyH_take (i := 8) (oi := ⟨some 26, _, _, _, _, _⟩) (v := ?_) rfl (by kernel_rfl) (by kernel_rfl) (by kernel_rfl) (fun _ _ _ h => h) (Or.inl ⟨by rfl, ?hY17x8⟩) (by assumption) ?hR17x8
      case hY17x8 => (intro w hSw; (try dsimp only at hSw); go_simp; try with_reducible rfl)
      (try simp only [Act.put, qa_, qb_, qc_])
      refine wpAnyH_take (i := 9) (oi := ⟨some 27, _, _, _, _, _⟩) (v := ?_) rfl (by kernel_rfl) (by kernel_rfl) (by kernel_rfl) (fun _ _ _ h => h) (Or.inl ⟨by rfl, ?hY17x9⟩) (by assumption) ?hR17x9
      case hY17x9 => (intro w hSw; (try dsimp only at hSw); go_simp; try with_reducible rfl)
      (try simp only [Act.put, qa_, qb_, qc_])
      refine wpAnyH_take (i := 10) (oi := ⟨some 28, _, _, _, _, _⟩) (v := ?_) rfl (by kernel_rfl) (by kernel_rfl) (by kernel_rfl) (fun _ _ _ h => h) (Or.inl ⟨by rfl, ?hY17x10⟩) (by assumption) ?hR17x10
      case hY17x10 => (intro w hSw; (try dsimp only at hSw); go_simp; try with_reducible rfl)
      (try simp only [Act.put, qa_, qb_, qc_])
      refine wpAnyH_take (i := 11) (oi := ⟨some 29, _, _, _, _, _⟩) (v := ?_) rfl (by kernel_rfl) (by kernel_rfl) (by kernel_rfl) (fun _ _ _ h => h) (Or.inl ⟨by rfl, ?hY17x11⟩) (by assumption) ?hR17x11
      case hY17x11 => (intro w hSw; (try dsimp only at hSw); go_simp; try with_reducible rfl)
      (try simp only [Act.put, qa_, qb_, qc_])
      refine wpAnyH_ready (rs := [5]) (by kernel_rfl) (by simp) ?_
      refine AllReadyH.cons (o := ⟨some 23, _, _, _, _, _⟩) rfl (fun K hK => ?hT17x12) ?hM17x12
      case hM17x12 => exact AllReadyH.nil
      go_simp
      (first | (go_at_call 20; obtain ⟨g0, gX⟩ := ‹Below wr.heap.size wr _ ∧ _›; ((with_reducible refine (pick7E x 12 p0 HXI.out (by omega) _ HP.out.1).mono ?_));  rintro e w5 ⟨rfl, hb_⟩; have j0 := below_step g0 hb_; have s5 := j0.size; have jX := (j0.cell (p := (ad.add z.toNat)) kX).trans rX) | (go_at_call 20; obtain ⟨g0, gX⟩ := ‹Below wr.heap.size wr _ ∧ _›; ((with_reducible refine (pick7E y 3 p1 HYI.out (by omega) _ HP.out.2).mono ?_));  rintro e w6 ⟨rfl, hb_⟩; have j0 := below_step g0 hb_; have s6 := j0.size; have jX := (j0.cell (p := (ad.add z.toNat)) kX).trans rX) | (go_at_call 19; obtain ⟨g0, gX⟩ := ‹Below wr.heap.size wr _ ∧ _›; ((with_reducible refine (rAddE Ao lt_ co t _ ⟨p0, p1⟩ 1 x _ (Kd.C_below HCO.out g0) hao (C_oneP Box.new) (by omega) HPE.out).mono ?_));  rintro e w7 ⟨v7, y7, rfl, hR_, hb_⟩; have j0 := below_step g0 hb_; have s7 := j0.size; have jX := (j0.cell (p := (ad.add z.toNat)) kX).trans rX))
      (try go_wp2_with fail)
      refine hK.out _ _ ?hS17x12 (fun hHeld => ?hR17x12)
      case hS17x12 => ((try dsimp only); (first | exact ⟨below_drew1 (Below.refl _ _), rX⟩ | exact ⟨below_drew1 b0_, rX⟩ | exact ⟨j0, jX⟩ | exact ⟨below_alloc j0 _, (cell_alloc_oldp (Nat.lt_of_lt_of_le kX j0.size)).trans jX⟩ | exact ⟨below_alloc (below_drew1 (Below.refl _ _)) _, (cell_alloc_oldp kX).trans rX⟩ | assumption))
      clear hK K
      (try simp only [Act.put, qa_, qb_, qc_])
      refine wpAnyH_take (i := 6) (oi := ⟨some 24, _, _, _, _, _⟩) (v := ?_) rfl (by kernel_rfl) (by kernel_rfl) (by kernel_rfl) (fun _ _ _ h => h) (Or.inl ⟨by rfl, ?hY17x13⟩) (by assumption) ?hR17x13
      case hY17x13 => (intro w hSw; (try dsimp only at hSw); go_simp; try with_reducible rfl)
      (try simp only [Act.put, qa_, qb_, qc_])
      refine wpAnyH_ready (rs := [12]) (by kernel_rfl) (by simp) ?_
      refine AllReadyH.cons (o := ⟨some 30, _, _, _, _, _⟩) rfl (fun K hK => ?hT17x14) ?hM17x14
      case hM17x14 => exact AllReadyH.nil
      go_simp
      (first | (go_at_call 20; obtain ⟨g0, gX⟩ := ‹Below wr.heap.size wr _ ∧ _›; ((with_reducible refine (pick7E x 12 p0 HXI.out (by omega) _ HP.out.1).mono ?_));  rintro e w5 ⟨rfl, hb_⟩; have j0 := below_step g0 hb_; have s5 := j0.size; have jX := (j0.cell (p := (ad.add z.toNat)) kX).trans rX) | (go_at_call 20; obtain ⟨g0, gX⟩ := ‹Below wr.heap.size wr _ ∧ _›; ((with_reducible refine (pick7E y 3 p1 HYI.out (by omega) _ HP.out.2).mono ?_));  rintro e w6 ⟨rfl, hb_⟩; have j0 := below_step g0 hb_; have s6 := j0.size; have jX := (j0.cell (p := (ad.add z.toNat)) kX).trans rX) | (go_at_call 19; obtain ⟨g0, gX⟩ := ‹Below wr.heap.size wr _ ∧ _›; ((with_reducible refine (rAddE Ao lt_ co t _ ⟨p0, p1⟩ 1 x _ (Kd.C_below HCO.out g0) hao (C_oneP Box.new) (by omega) HPE.out).mono ?_));  rintro e w7 ⟨v7, y7, rfl, hR_, hb_⟩; have j0 := below_step g0 hb_; have s7 := j0.size; have jX := (j0.cell (p := (ad.add z.toNat)) kX).trans rX))
      (try go_wp2_with fail)
      refine hK.out _ _ ?hS17x14 (fun hHeld => ?hR17x14)
      case hS17x14 => ((try dsimp only); (first | exact ⟨below_drew1 (Below.refl _ _), rX⟩ | exact ⟨below_drew1 b0_, rX⟩ | exact ⟨j0, jX⟩ | exact ⟨below_alloc j0 _, (cell_alloc_oldp (Nat.lt_of_lt_of_le kX j0.size)).trans jX⟩ | exact ⟨below_alloc (below_drew1 (Below.refl _ _)) _, (cell_alloc_oldp kX).trans rX⟩ | assumption))
      clear hK K
      (try simp only [Act.put, qa_, qb_, qc_])
      refine wpAnyH_take (i := 13) (oi := ⟨some 31, _, _, _, _, _⟩) (v := ?_) rfl (by kernel_rfl) (by kernel_rfl) (by kernel_rfl) (fun _ _ _ h => h) (Or.inl ⟨by rfl, ?hY17x15⟩) (by assumption) ?hR17x15
      case hY17x15 => (intro w hSw; (try dsimp only at hSw); go_simp; try with_reducible rfl)
      (try simp only [Act.put, qa_, qb_, qc_])
      refine wpAnyH_take (i := 14) (oi := ⟨some 32, _, _, _, _, _⟩) (v := ?_) rfl (by kernel_rfl) (by kernel_rfl) (by kernel_rfl) (fun _ _ _ h => h) (Or.inl ⟨by rfl, ?hY17x16⟩) (by assumption) ?hR17x16
      case hY17x16 => (intro w hSw; (try dsimp only at hSw); go_simp; try with_reducible rfl)
      (try simp only [Act.put, qa_, qb_, qc_])
      refine wpAnyH_ready (rs := [15]) (by kernel_rfl) (by simp) ?_
      refine AllReadyH.cons (o := ⟨some 33, _, _, _, _, _⟩) rfl (fun K hK => ?hT17x17) ?hM17x17
      case hM17x17 => exact AllReadyH.nil
      go_simp
      (try go_wp2_with fail)
      refine hK.out _ _ ?hS17x17 (fun hHeld => ?hR17x17)
      case hS17x17 => ((try dsimp only); (first | exact ⟨below_drew1 (Below.refl _ _), rX⟩ | exact ⟨below_drew1 b0_, rX⟩ | exact ⟨j0, jX⟩ | exact ⟨below_alloc j0 _, (cell_alloc_oldp (Nat.lt_of_lt_of_le kX j0.size)).trans jX⟩ | exact ⟨below_alloc (below_drew1 (Below.refl _ _)) _, (cell_alloc_oldp kX).trans rX⟩ | assumption))
      clear hK K
      (try simp only [Act.put, qa_, qb_, qc_])
      refine wpAnyH_ready (rs := [16]) (by kernel_rfl) (by simp) ?_
      refine AllReadyH.cons (o := ⟨some 34, _, _, _, _, _⟩) rfl (fun K hK => ?hT17x18) ?hM17x18
      case hM17x18 => exact AllReadyH.nil
      go_simp
      (first | (go_at_call 20; obtain ⟨g0, gX⟩ := ‹Below wr.heap.size wr _ ∧ _›; ((with_reducible refine (pick7E x 12 p0 HXI.out (by omega) _ HP.out.1).mono ?_));  rintro e w5 ⟨rfl, hb_⟩; have j0 := below_step g0 hb_; have s5 := j0.size; have jX := (j0.cell (p := (ad.add z.toNat)) kX).trans rX) | (go_at_call 20; obtain ⟨g0, gX⟩ := ‹Below wr.heap.size wr _ ∧ _›; ((with_reducible refine (pick7E y 3 p1 HYI.out (by omega) _ HP.out.2).mono ?_));  rintro e w6 ⟨rfl, hb_⟩; have j0 := below_step g0 hb_; have s6 := j0.size; have jX := (j0.cell (p := (ad.add z.toNat)) kX).trans rX) | (go_at_call 19; obtain ⟨g0, gX⟩ := ‹Below wr.heap.size wr _ ∧ _›; ((with_reducible refine (rAddE Ao lt_ co t _ ⟨p0, p1⟩ 1 x _ (Kd.C_below HCO.out g0) hao (C_oneP Box.new) (by omega) HPE.out).mono ?_));  rintro e w7 ⟨v7, y7, rfl, hR_, hb_⟩; have j0 := below_step g0 hb_; have s7 := j0.size; have jX := (j0.cell (p := (ad.add z.toNat)) kX).trans rX))
      (try go_wp2_with fail)
      refine hK.out _ _ ?hS17x18 (fun hHeld => ?hR17x18)
      case hS17x18 => ((try dsimp only); (first | exact ⟨below_drew1 (Below.refl _ _), rX⟩ | exact ⟨below_drew1 b0_, rX⟩ | exact ⟨j0, jX⟩ | exact ⟨below_alloc j0 _, (cell_alloc_oldp (Nat.lt_of_lt_of_le kX j0.size)).trans jX⟩ | exact ⟨below_alloc (below_drew1 (Below.refl _ _)) _, (cell_alloc_oldp kX).trans rX⟩ | assumption))
      clear hK K
      (try simp only [Act.put, qa_, qb_, qc_])
      refine wpAnyH_take (i := 17) (oi := ⟨some 17, _, _, _, _, _⟩) (v := ?_) rfl (by kernel_rfl) (by kernel_rfl) (by kernel_rfl) (fun _ _ _ h => h) (Or.inl ⟨by rfl, ?hY17x19⟩) (by assumption) ?hR17x19
      case hY17x19 => (intro w hSw; (try dsimp only at hSw); go_simp; try with_reducible rfl)
      (try simp only [Act.put, qa_, qb_, qc_])
      refine wpAnyH_take (i := 18) (oi := ⟨some 35, _, _, _, _, _⟩) (v := ?_) rfl (by kernel_rfl) (by kernel_rfl) (by kernel_rfl) (fun _ _ _ h => h) (Or.inl ⟨by rfl, ?hY17x20⟩) (by assumption) ?hR17x20
      case hY17x20 => (intro w hSw; (try dsimp only at hSw); go_simp; try with_reducible rfl)
      (try simp only [Act.put, qa_, qb_, qc_])
      refine wpAnyH_take (i := 19) (oi := ⟨some 36, _, _, _, _, _⟩) (v := ?_) rfl (by kernel_rfl) (by kernel_rfl) (by kernel_rfl) (fun _ _ _ h => h) (Or.inl ⟨by rfl, ?hY17x21⟩) (by assumption) ?hR17x21
      case hY17x21 => (intro w hSw; (try dsimp only at hSw); go_simp; try with_reducible rfl)
      (try simp only [Act.put, qa_, qb_, qc_])
      refine wpAnyH_take (i := 20) (oi := ⟨some 5, _, _, _, _, _⟩) (v := ?_) rfl (by kernel_rfl) (by kernel_rfl) (by kernel_rfl) (fun _ _ _ h => h) (Or.inl ⟨by rfl, ?hY17x22⟩) (by assumption) ?hR17x22
      case hY17x22 => (intro w hSw; (try dsimp only at hSw); go_simp; try with_reducible rfl)
      (try simp only [Act.put, qa_, qb_, qc_])
      refine wpAnyH_take (i := 21) (oi := ⟨some 6, _, _, _, _, _⟩) (v := ?_) rfl (by kernel_rfl) (by kernel_rfl) (by kernel_rfl) (fun _ _ _ h => h) (Or.inl ⟨by rfl, ?hY17x23⟩) (by assumption) ?hR17x23
      case hY17x23 => (intro w hSw; (try dsimp only at hSw); go_simp; try with_reducible rfl)
      (try simp only [Act.put, qa_, qb_, qc_])
      refine wpAnyH_done (by kernel_rfl) ?_ _
      go_wp2
      go_roundw
      case rel => exact ⟨i + 1, by have := HZ.out; omega, by have := HZ.out; omega, by have := HZ.out; subst this; go_num, by rw [HF.out]; exact Kd.R_lower hR_ (Nat.le_trans HB.out.size g0.size), below_step HB.out j0⟩
      case measure =>
        have := HZ.out
        simp [intOf]
        omega
    · have hd : (decide ((i : Int) < (n : Int)) = false ∧ decide (i < n) = false) ∨ ((decide ((i : Int) < (n : Int)) = true ∧ decide (i < n) = true) ∧ decide ((i : Int) < 60) = false ∧ decide (i < 60) = false) := by
        by_cases h1 : i < n
        · exact Or.inr ⟨⟨decide_eq_true (by omega), decide_eq_true h1⟩, decide_eq_false (by omega), decide_eq_false (by omega)⟩
        · exact Or.inl ⟨decide_eq_false (by omega), decide_eq_false h1⟩
      have HE := Aside0.mk (show raw.take i = raw.take 60 by
        by_cases h1 : i < n
        · rw [show i = 60 by omega]
        · rw [List.take_of_length_le (by rw [← HN.out]; omega), List.take_of_length_le (by rw [← HN.out]; omega)])
      have HO := Aside0.mk hO
      have HB := Aside0.mk hb
      clear hO hb
      rcases hd with ⟨hd, hd1⟩ | ⟨⟨hd, hd1⟩, hd2, hd3⟩
      · go_wp2
        go_ret
        refine ⟨_, rfl, ?_, HB.out⟩
        have e := HO.out
        rw [HE.out] at e
        exact e
      · go_wp2
        go_ret
        refine ⟨_, rfl, ?_, HB.out⟩
        have e := HO.out
        rw [HE.out] at e
        exact e
end Go.Proofs.Ytnfglkgkdechlaa


/- What is signed, and whether it is an item's token: Check by the document and by the code are one (chapter 7), in plain Lean. -/
namespace Go.Proofs.Ytnfglkgkdechlaa
open Go.RowKit Go.Proofs.YtnfglkgkdechlaaW.PrintWords Go.Proofs.YtnfglkgkdechlaaW.PrintLast Go.Proofs.YtnfglkgkdechlaaW.PrintMore
open Go.Proofs.Ytnfglkgkdechlaa.PQ

abbrev sortP (l : List Pr) : Prop := l.Pairwise (fun a b => ltP a b = true)
theorem sorted_ext : ∀ (a b : List Pr), sortP a → sortP b → (∀ x, x ∈ a ↔ x ∈ b) → a = b
  | [], [], _, _, _ => rfl
  | [], y :: b, _, _, h => absurd ((h y).2 List.mem_cons_self) (by simp)
  | x :: a, [], _, _, h => absurd ((h x).1 List.mem_cons_self) (by simp)
  | x :: a, y :: b, ha, hb, h => by
    have ha := List.pairwise_cons.1 ha
    have hb := List.pairwise_cons.1 hb
    have e : x = y := by
      rcases List.mem_cons.1 ((h x).1 List.mem_cons_self) with e | hx
      · exact e
      · rcases List.mem_cons.1 ((h y).2 List.mem_cons_self) with e | hy
        · exact e.symm
        · have h1 := hb.1 x hx
          have h2 := ha.1 y hy
          have := ltP_trans h1 h2
          rw [ltP_irr] at this
          cases this
    subst e
    rw [sorted_ext a b ha.2 hb.2 (fun z => by
      constructor
      · intro hz
        rcases List.mem_cons.1 ((h z).1 (List.mem_cons_of_mem _ hz)) with e | hz2
        · subst e
          have := ha.1 z hz
          rw [ltP_irr] at this
          cases this
        · exact hz2
      · intro hz
        rcases List.mem_cons.1 ((h z).2 (List.mem_cons_of_mem _ hz)) with e | hz2
        · subst e
          have := hb.1 z hz
          rw [ltP_irr] at this
          cases this
        · exact hz2)]
theorem sorted_adj (l : List Pr) (h : ∀ j : Nat, j + 1 < l.length → ltP (rdP l (j : Int)) (rdP l ((j + 1 : Nat) : Int)) = true) : sortP l := by
  induction l with
  | nil => exact List.Pairwise.nil
  | cons x r ih =>
    have ih := ih (fun j hj => by
      have := h (j + 1) (by simp; omega)
      rw [rdP_eq (l := x :: r) (i := j + 1) (by simp; omega), rdP_eq (l := x :: r) (i := j + 1 + 1) (by simp; omega)] at this
      rw [rdP_eq (l := r) (i := j) (by omega), rdP_eq (l := r) (i := j + 1) hj]
      simpa using this)
    refine List.pairwise_cons.2 ⟨fun y hy => ?_, ih⟩
    cases r with
    | nil => cases hy
    | cons z r =>
      have h0 := h 0 (by simp)
      rw [rdP_eq (l := x :: z :: r) (i := 0) (by simp), rdP_eq (l := x :: z :: r) (i := 0 + 1) (by simp)] at h0
      simp only [List.getElem_cons_zero, List.getElem_cons_succ, Nat.zero_add] at h0
      rcases List.mem_cons.1 hy with rfl | hy
      · exact h0
      · exact ltP_trans h0 ((List.pairwise_cons.1 ih).1 y hy)
theorem adj_sorted (l : List Pr) (h : sortP l) (j : Nat) (hj : j + 1 < l.length) : ltP (rdP l (j : Int)) (rdP l ((j + 1 : Nat) : Int)) = true := by
  rw [rdP_eq (l := l) (i := j) (by omega), rdP_eq (l := l) (i := j + 1) hj]
  exact List.pairwise_iff_getElem.1 h j (j + 1) (by omega) hj (by omega)
theorem posP_max (l : List Pr) (p : Pr) : ∀ (k : Nat), k ≤ l.length → ∀ j : Nat, posP l p k ≤ j → j < k → ltP (rdP l (j : Int)) p = false
  | 0, _, j, _, h => absurd h (by omega)
  | k + 1, hk, j, h1, h2 => by
    unfold posP at h1
    split at h1
    · omega
    · rename_i hn
      rcases Nat.lt_or_ge j k with hj | hj
      · exact posP_max l p k (by omega) j h1 hj
      · obtain rfl : j = k := by omega
        simpa using hn
theorem posP_min (l : List Pr) (p : Pr) : ∀ (k : Nat), posP l p k = 0 ∨ ∃ j : Nat, j + 1 = posP l p k ∧ ltP (rdP l (j : Int)) p = true
  | 0 => Or.inl rfl
  | k + 1 => by
    unfold posP
    split
    · rename_i h
      exact Or.inr ⟨k, rfl, h⟩
    · exact posP_min l p k
theorem mem_withP (l : List Pr) (p x : Pr) : x ∈ withP l p ↔ x = p ∨ x ∈ l := by
  unfold withP
  rw [List.mem_append, List.mem_cons]
  conv => rhs; rw [← List.take_append_drop (posP l p l.length) l, List.mem_append]
  constructor
  · rintro (h | h | h)
    · exact Or.inr (Or.inl h)
    · exact Or.inl h
    · exact Or.inr (Or.inr h)
  · rintro (h | h | h)
    · exact Or.inr (Or.inl h)
    · exact Or.inl h
    · exact Or.inr (Or.inr h)
theorem withP_sorted (l : List Pr) (p : Pr) (h : sortP l) (hp : p ∉ l) : sortP (withP l p) := by
  have hle := posP_le l p l.length
  obtain ⟨q, hq⟩ : ∃ q, posP l p l.length = q := ⟨_, rfl⟩
  have hlt : ∀ j : Nat, ∀ hj : j < l.length, j < q → ltP l[j] p = true := fun j hj hjq => by
    rcases posP_min l p l.length with h0 | ⟨i, h1, h2⟩
    · omega
    · rw [rdP_eq (l := l) (i := i) (by omega)] at h2
      rcases Nat.lt_or_ge j i with hji | hji
      · exact ltP_trans (List.pairwise_iff_getElem.1 h j i hj (by omega) hji) h2
      · obtain rfl : j = i := by omega
        exact h2
  have hgt : ∀ j : Nat, ∀ hj : j < l.length, q ≤ j → ltP p l[j] = true := fun j hj hjq => by
    have h1 := posP_max l p l.length (Nat.le_refl _) j (by omega) hj
    rw [rdP_eq (l := l) (i := j) hj] at h1
    rcases hb : ltP p l[j] with _ | _
    · have e := ltP_tri l[j] p h1 hb
      exact absurd (e ▸ List.getElem_mem hj) hp
    · rfl
  unfold withP
  rw [hq] at hle ⊢
  refine List.pairwise_append.2 ⟨h.sublist (List.take_sublist _ _), List.pairwise_cons.2 ⟨fun y hy => ?_, h.sublist (List.drop_sublist _ _)⟩, fun x hx y hy => ?_⟩
  · obtain ⟨j, hj, rfl⟩ := List.getElem_of_mem hy
    rw [List.length_drop] at hj
    rw [List.getElem_drop]
    exact hgt (q + j) (by omega) (by omega)
  · obtain ⟨i, hi, rfl⟩ := List.getElem_of_mem hx
    rw [List.length_take] at hi
    rw [List.getElem_take]
    rcases List.mem_cons.1 hy with rfl | hy
    · exact hlt i (by omega) (by omega)
    · obtain ⟨j, hj, rfl⟩ := List.getElem_of_mem hy
      rw [List.length_drop] at hj
      rw [List.getElem_drop]
      exact ltP_trans (hlt i (by omega) (by omega)) (hgt (q + j) (by omega) (by omega))
theorem signR_mem (root : Int) : ∀ (ks : List Int) (l : List Pr) (x : Pr), x ∈ ks.foldl (fun l k => withP l ⟨k, root⟩) l ↔ x ∈ l ∨ ∃ k ∈ ks, x = ⟨k, root⟩
  | [], l, x => by simp
  | k :: r, l, x => by
    rw [List.foldl_cons, signR_mem root r, mem_withP]
    simp only [List.mem_cons, exists_eq_or_imp]
    constructor
    · rintro ((h | h) | h)
      · exact Or.inr (Or.inl h)
      · exact Or.inl h
      · exact Or.inr (Or.inr h)
    · rintro (h | h | h)
      · exact Or.inl (Or.inr h)
      · exact Or.inl (Or.inl h)
      · exact Or.inr h
theorem signR_sorted (root : Int) : ∀ (ks : List Int) (l : List Pr), ks.Nodup → sortP l → (∀ k ∈ ks, (⟨k, root⟩ : Pr) ∉ l) → sortP (ks.foldl (fun l k => withP l ⟨k, root⟩) l)
  | [], l, _, h, _ => h
  | k :: r, l, hn, h, hl => by
    rw [List.foldl_cons]
    rw [List.nodup_cons] at hn
    refine signR_sorted root r _ hn.2 (withP_sorted l _ h (hl k List.mem_cons_self)) (fun q hq hm => ?_)
    rcases (mem_withP _ _ _).1 hm with e | hm
    · injection e with e1 e2
      subst e1
      exact hn.1 hq
    · exact hl q (List.mem_cons_of_mem _ hq) hm
theorem uniq_le : ∀ (ks acc : List Int), (ks.foldl (fun acc x => if acc.contains x then acc else acc ++ [x]) acc).length ≤ acc.length + ks.length
  | [], acc => by simp
  | k :: r, acc => by
    rw [List.foldl_cons]
    have h := uniq_le r (if acc.contains k then acc else acc ++ [k])
    have h2 : (if acc.contains k then acc else acc ++ [k]).length ≤ acc.length + 1 := by split <;> simp
    simp only [List.length_cons]
    omega
theorem uniq_nodup : ∀ (ks acc : List Int), (ks.foldl (fun acc x => if acc.contains x then acc else acc ++ [x]) acc).length = acc.length + ks.length ↔ ks.Nodup ∧ ∀ k ∈ ks, k ∉ acc
  | [], acc => by simp
  | k :: r, acc => by
    rw [List.foldl_cons]
    by_cases hc : acc.contains k = true
    · rw [if_pos hc]
      have h := uniq_le r acc
      constructor
      · intro he
        simp only [List.length_cons] at he
        omega
      · intro h2
        exact absurd (List.contains_iff_mem.1 hc) (h2.2 k List.mem_cons_self)
    · rw [if_neg hc]
      have h := uniq_nodup r (acc ++ [k])
      have hk : k ∉ acc := fun hm => hc (List.contains_iff_mem.2 hm)
      rw [List.length_append, List.length_singleton] at h
      simp only [List.length_cons, List.nodup_cons, List.mem_cons, forall_eq_or_imp]
      constructor
      · intro he
        obtain ⟨h1, h2⟩ := h.1 (by omega)
        exact ⟨⟨fun hm => (h2 k hm) (List.mem_append_right _ List.mem_cons_self), h1⟩, hk, fun x hx hm => h2 x hx (List.mem_append_left _ hm)⟩
      · rintro ⟨⟨h1, h2⟩, h3, h4⟩
        have := h.2 ⟨h2, fun x hx hm => by
          rcases List.mem_append.1 hm with hm | hm
          · exact h4 x hx hm
          · obtain rfl := List.mem_singleton.1 hm
            exact h1 hx⟩
        omega
theorem uniq_iff (ks : List Int) : (uniq ks).length = ks.length ↔ ks.Nodup := by
  have h := uniq_nodup ks []
  simp only [List.length_nil, Nat.zero_add, List.not_mem_nil, not_false_eq_true, implies_true, and_true] at h
  exact h
theorem nodup_len : ∀ (a b : List Int), a.Nodup → (∀ x ∈ a, x ∈ b) → a.length ≤ b.length
  | [], b, _, _ => by simp
  | x :: a, b, hn, hs => by
    rw [List.nodup_cons] at hn
    have hx := hs x List.mem_cons_self
    have h1 := nodup_len a (b.erase x) hn.2 (fun y hy => (List.mem_erase_of_ne (fun e => by subst e; exact hn.1 hy)).2 (hs y (List.mem_cons_of_mem _ hy)))
    rw [List.length_erase_of_mem hx] at h1
    have := List.length_pos_of_mem hx
    simp only [List.length_cons]
    omega
theorem nodup_all (a b : List Int) (ha : a.Nodup) (hs : ∀ x ∈ a, x ∈ b) (hl : b.length ≤ a.length) : ∀ x ∈ b, x ∈ a := by
  intro x hx
  rcases Classical.em (x ∈ a) with h | h
  · exact h
  · have h1 := nodup_len a (b.erase x) ha (fun y hy => (List.mem_erase_of_ne (fun e => by subst e; exact h hy)).2 (hs y hy))
    rw [List.length_erase_of_mem hx] at h1
    have := List.length_pos_of_mem hx
    omega
/-- What the document says of an item. -/
def chkR (t : List Pr) (it : It) : Bool :=
  decide it.f0.Nodup && (decide (it.f2.f0 = false ∧ signR it.f1 it.f0 = it.f2.f1) && decide (it.f0.length ≠ 0) && (signR it.f1 it.f0).all fun p => tabB t && t.contains p)
theorem signR_f1 (root : Int) (ks : List Int) : ∀ x ∈ signR root ks, x.f1 = root := fun x hx => by
  rcases (signR_mem root ks [] x).1 hx with h | ⟨k, _, rfl⟩
  · cases h
  · rfl
theorem signR_f0 (root : Int) (ks : List Int) : ∀ x ∈ signR root ks, x.f0 ∈ ks := fun x hx => by
  rcases (signR_mem root ks [] x).1 hx with h | ⟨k, h, rfl⟩
  · cases h
  · exact h
theorem signR_length (root : Int) (ks : List Int) : (signR root ks).length = ks.length := by
  have := signR_len root ks []
  unfold signR
  rw [this]
  simp
theorem chk_R (t : List Pr) (it : It) (hl : it.f0.length ≤ 2048) : chk t it = chkR t it := by
  rw [Bool.eq_iff_iff]
  unfold chk chkR
  constructor
  · intro h
    split at h
    · cases h
    · rename_i h1
      split at h
      · cases h
      · rename_i h2
        split at h
        · cases h
        · rename_i h3
          obtain ⟨hf, hk0, hpk⟩ : it.f2.f0 = false ∧ it.f0.length ≠ 0 ∧ it.f2.f1.length = it.f0.length := by
            refine ⟨?_, fun e => h2 (Or.inr (Or.inl e)), ?_⟩
            · rcases hb : it.f2.f0 with _ | _
              · rfl
              · exact absurd (Or.inl hb) h2
            · rcases Nat.decEq it.f2.f1.length it.f0.length with e | e
              · exact absurd (Or.inr (Or.inr e)) h2
              · exact e
          obtain ⟨ht, hu⟩ : tabB t = true ∧ (uniq it.f0).length = it.f2.f1.length := by
            refine ⟨?_, ?_⟩
            · rcases hb : tabB t with _ | _
              · exact absurd (Or.inl hb) h3
              · rfl
            · rcases Nat.decEq (uniq it.f0).length it.f2.f1.length with e | e
              · exact absurd (Or.inr e) h3
              · exact e
          have hnd : it.f0.Nodup := (uniq_iff _).1 (by omega)
          unfold keysF at h1
          split at h1
          · rename_i h4
            obtain ⟨g1, g2, g3⟩ := h4
            unfold rightT at g1
            rw [Bool.and_eq_true, decide_eq_true_iff] at g1
            have hs : sortP it.f2.f1 := sorted_adj _ fun j hj => by
              have s1 := sortB_iff.1 g1.2 j hj
              have s2 := List.all_eq_true.1 g3 j (List.mem_range.2 (by omega))
              have s2 := of_decide_eq_true s2
              rcases hb : ltP (rdP it.f2.f1 (j : Int)) (rdP it.f2.f1 ((j + 1 : Nat) : Int)) with _ | _
              · exact absurd (ltP_tri _ _ hb s1) s2
              · rfl
            have hroot : ∀ x ∈ it.f2.f1, x.f1 = it.f1 := fun x hx => of_decide_eq_true (List.all_eq_true.1 g2 x hx)
            have hall : ∀ p ∈ it.f2.f1, p.f0 ∈ it.f0 ∧ p ∈ t := fun p hp => by
              have := List.all_eq_true.1 h p hp
              rw [Bool.and_eq_true, decide_eq_true_iff] at this
              exact ⟨List.contains_iff_mem.1 this.1, this.2⟩
            have hnk : (it.f2.f1.map (·.f0)).Nodup := by
              rw [List.nodup_iff_pairwise_ne, List.pairwise_map]
              refine List.Pairwise.imp_of_mem (fun {a b} ha hb hlt e => ?_) hs
              have ea := hroot a ha
              have eb := hroot b hb
              rw [ltP_iff] at hlt
              omega
            have hback := nodup_all (it.f2.f1.map (·.f0)) it.f0 hnk (fun x hx => by
              obtain ⟨p, hp, rfl⟩ := List.mem_map.1 hx
              exact (hall p hp).1) (by rw [List.length_map]; omega)
            have he : signR it.f1 it.f0 = it.f2.f1 := sorted_ext _ _ (signR_sorted it.f1 it.f0 [] hnd List.Pairwise.nil (fun _ _ h => by cases h)) hs (fun x => by
              constructor
              · intro hx
                obtain ⟨p, hp, e⟩ := List.mem_map.1 (hback x.f0 (signR_f0 _ _ x hx))
                rw [pr_ext (a := x) (b := p) e.symm (by rw [signR_f1 _ _ x hx, hroot p hp])]
                exact hp
              · intro hx
                refine (signR_mem it.f1 it.f0 [] x).2 (Or.inr ⟨x.f0, (hall x hx).1, pr_ext rfl (hroot x hx)⟩))
            rw [decide_eq_true hnd, decide_eq_true (show it.f2.f0 = false ∧ signR it.f1 it.f0 = it.f2.f1 from ⟨hf, he⟩), decide_eq_true hk0, he, ht]
            simp only [Bool.true_and]
            exact List.all_eq_true.2 fun p hp => List.contains_iff_mem.2 (hall p hp).2
          · exact absurd rfl h1
  · intro h
    simp only [Bool.and_eq_true, decide_eq_true_iff] at h
    obtain ⟨hnd, ⟨⟨hf, he⟩, hk0⟩, hall⟩ := h
    have hlen := signR_length it.f1 it.f0
    rw [he] at hlen hall
    have hs : sortP it.f2.f1 := he ▸ signR_sorted it.f1 it.f0 [] hnd List.Pairwise.nil (fun _ _ h => by cases h)
    have hroot : ∀ x ∈ it.f2.f1, x.f1 = it.f1 := he ▸ signR_f1 it.f1 it.f0
    have hkey : ∀ x ∈ it.f2.f1, x.f0 ∈ it.f0 := he ▸ signR_f0 it.f1 it.f0
    have ht : tabB t = true := by
      have := List.all_eq_true.1 hall it.f2.f1[0] (List.getElem_mem (by omega))
      rw [Bool.and_eq_true] at this
      exact this.1
    have hk : keysF it.f2.f1 it.f1 ≠ none := by
      unfold keysF
      rw [if_pos]
      · simp
      refine ⟨?_, List.all_eq_true.2 fun x hx => decide_eq_true (hroot x hx), List.all_eq_true.2 fun j hj => decide_eq_true fun e => ?_⟩
      · unfold rightT
        rw [Bool.and_eq_true]
        refine ⟨decide_eq_true (by omega), sortB_iff.2 fun j hj => ltP_asymm (adj_sorted _ hs j hj)⟩
      · have hj := List.mem_range.1 hj
        have := adj_sorted _ hs j (by omega)
        rw [e, ltP_irr] at this
        cases this
    rw [if_neg hk, if_neg, if_neg]
    · refine List.all_eq_true.2 fun p hp => ?_
      have := List.all_eq_true.1 hall p hp
      rw [Bool.and_eq_true] at this
      rw [Bool.and_eq_true]
      exact ⟨List.contains_iff_mem.2 (hkey p hp), decide_eq_true (List.contains_iff_mem.1 this.2)⟩
    · rintro (h | h)
      · rw [ht] at h
        cases h
      · exact h (by rw [(uniq_iff _).2 hnd, hlen])
    · rintro (h | h | h)
      · rw [hf] at h
        cases h
      · exact hk0 h
      · exact h hlen
end Go.Proofs.Ytnfglkgkdechlaa

namespace Go.Proofs.Ytnfglkgkdechlaa.PQ
open Go.RowKit Go.Proofs.YtnfglkgkdechlaaW.PrintWords Go.Proofs.YtnfglkgkdechlaaW.PrintLast Go.Proofs.YtnfglkgkdechlaaW.PrintMore
attribute [local go_sem] max2_int min2_int max_two min_two max_three min_three max_four min_four   -- for this text's walks alone

attribute [local go_sem high] eqA52

/-! ### mootbellref05_Same: function 41 -/
mutual
def mootbellref05_Same.j0 : Nat → Bool → Bool → List (S52) → Bool → List (S52) → Option (Bool)
  | 0, _, _, _, _, _ => none
  | k + 1, x19, x155000, x155001, x156000, x156001 => if x19 = true then (some false) else (mootbellref05_Same.l0 k 0 x155000 x155001 x156000 x156001)
def mootbellref05_Same.l0 : Nat → Int → Bool → List (S52) → Bool → List (S52) → Option (Bool)
  | 0, _, _, _, _, _ => none
  | k + 1, x5, x155000, x155001, x156000, x156001 => if x5 < (x155001.length : Int) then (if 0 ≤ x5 then (if x5 < (x156001.length : Int) then (if (!(((rd_T52 x155001 x5).f0) == ((rd_T52 x156001 x5).f0)) || (!(((rd_T52 x155001 x5).f1) == ((rd_T52 x156001 x5).f1)))) = true then (some false) else (mootbellref05_Same.l0 k (wrap64 (x5 + 1)) x155000 x155001 x156000 x156001)) else (none)) else (none)) else (some true)
end
def mootbellref05_Same.f (k : Nat) (a0_0 : Bool) (l0_1 : List (S52)) (a1_0 : Bool) (l1_1 : List (S52)) : Option (Bool) := if (a0_0 != a1_0) = true then (mootbellref05_Same.j0 k true a0_0 l0_1 a1_0 l1_1) else (mootbellref05_Same.j0 k ((l0_1.length : Int) != (l1_1.length : Int)) a0_0 l0_1 a1_0 l1_1)
theorem mootbellref05_Same.mono_l : ∀ k, (∀ y0 y1 y2 y3 y4, LeO (mootbellref05_Same.j0 k y0 y1 y2 y3 y4) (mootbellref05_Same.j0 (k + 1) y0 y1 y2 y3 y4)) ∧ (∀ y0 y1 y2 y3 y4, LeO (mootbellref05_Same.l0 k y0 y1 y2 y3 y4) (mootbellref05_Same.l0 (k + 1) y0 y1 y2 y3 y4))
  | 0 => ⟨fun _ _ _ _ _ r h => by simp [mootbellref05_Same.j0] at h, fun _ _ _ _ _ r h => by simp [mootbellref05_Same.l0] at h⟩
  | k + 1 => by
    obtain ⟨ih0, ih1⟩ := mootbellref05_Same.mono_l k
    refine ⟨?_, ?_⟩
    · intro y0 y1 y2 y3 y4
      unfold mootbellref05_Same.j0
      repeat' first
      | (with_reducible exact ih0 _ _ _ _ _)
      | (with_reducible exact ih1 _ _ _ _ _)
      | (with_reducible exact LeO.refl _)
      | (with_reducible exact LeO.none _)
      | (with_reducible refine LeO.ite ?_ ?_)
      | (with_reducible refine LeO.bind ?_ (fun _ => ?_))
      | exact ih0 _ _ _ _ _
      | exact ih1 _ _ _ _ _
      | exact LeO.none _
      | refine LeO.ite ?_ ?_
      | refine LeO.bind ?_ (fun _ => ?_)
    · intro y0 y1 y2 y3 y4
      unfold mootbellref05_Same.l0
      repeat' first
      | (with_reducible exact ih0 _ _ _ _ _)
      | (with_reducible exact ih1 _ _ _ _ _)
      | (with_reducible exact LeO.refl _)
      | (with_reducible exact LeO.none _)
      | (with_reducible refine LeO.ite ?_ ?_)
      | (with_reducible refine LeO.bind ?_ (fun _ => ?_))
      | exact ih0 _ _ _ _ _
      | exact ih1 _ _ _ _ _
      | exact LeO.none _
      | refine LeO.ite ?_ ?_
      | refine LeO.bind ?_ (fun _ => ?_)
theorem mootbellref05_Same.mono : ∀ a0 a1 a2 a3 k, LeO (mootbellref05_Same.f k a0 a1 a2 a3) (mootbellref05_Same.f (k + 1) a0 a1 a2 a3) := by
  intro a0 a1 a2 a3 k
  obtain ⟨ih0, ih1⟩ := mootbellref05_Same.mono_l k
  unfold mootbellref05_Same.f
  repeat' first
      | (with_reducible exact ih0 _ _ _ _ _)
      | (with_reducible exact ih1 _ _ _ _ _)
      | (with_reducible exact LeO.refl _)
      | (with_reducible exact LeO.none _)
      | (with_reducible refine LeO.ite ?_ ?_)
      | (with_reducible refine LeO.bind ?_ (fun _ => ?_))
      | exact ih0 _ _ _ _ _
      | exact ih1 _ _ _ _ _
      | exact LeO.none _
      | refine LeO.ite ?_ ?_
      | refine LeO.bind ?_ (fun _ => ?_)
set_option maxHeartbeats 8000000 in
set_option maxRecDepth 100000 in
theorem mootbellref05_Same.calls (k : Nat) (a0_0 : Bool) (A0_1 : Option Addr) (c0_1 : Nat) (l0_1 : List (S52)) (a1_0 : Bool) (A1_1 : Option Addr) (c1_1 : Nat) (l1_1 : List (S52)) (r : Bool) (w : World) (hr0_1 : Kd.C k52 w A0_1 l0_1.length l0_1) (hc0_1 : l0_1.length ≤ c0_1) (hr1_1 : Kd.C k52 w A1_1 l1_1.length l1_1) (hc1_1 : l1_1.length ≤ c1_1) (h : mootbellref05_Same.f k a0_0 l0_1 a1_0 l1_1 = some r) :
    Calls Try.prog 41 #[.agg #[.bool a0_0, .slice A0_1 l0_1.length c0_1], .agg #[.bool a1_0, .slice A1_1 l1_1.length c1_1]] w fun e w' => e = .returned (.bool r) ∧ Below w.heap.size w w' := by
  have hu30 := Try.underlying30
  have hu52 := Try.underlying52
  have HR0_1 := Aside0.mk hr0_1
  have HC0_1 := Aside0.mk hc0_1
  clear hr0_1 hc0_1
  have HR1_1 := Aside0.mk hr1_1
  have HC1_1 := Aside0.mk hc1_1
  clear hr1_1 hc1_1
  have HB := Aside0.mk (Below.refl w.heap.size w)
  have H : (if (a0_0 != a1_0) = true then (mootbellref05_Same.j0 k true a0_0 l0_1 a1_0 l1_1) else (mootbellref05_Same.j0 k ((l0_1.length : Int) != (l1_1.length : Int)) a0_0 l0_1 a1_0 l1_1)) = some r := h
  clear h
  have HC3 := Aside0.mk H
  clear H
  go_enter Try.func41, Try.ntmps41
  go_upto_region 1 with (first | ((with_reducible refine gate_dst (N := 2) rfl ?_); (try (refine gate_guard (by rfl) ?_; dsimp only)); refine box_event ?hg (N := 2) ?hd (cs := #[.bool a0_0, .slice A0_1 l0_1.length c0_1]) (t := 30) ?hr ?_; (case hd => rfl); (case hg => rfl); (case hr => first | (go_simp; done) | (go_simp; rfl)); intro gb154 hg w4 hbox hb; have n0_ := Aside0.mk (below_step (by repeat (first | (with_reducible first | exact HB.out | apply below_alloc | apply pw_below_drewN | apply below_drew1) | exact HB.out)) hb); have n1_ := Aside0.mk (hbox); have n2_ := Aside0.mk ((by rw [hg]; exact (below_size (by repeat (first | (with_reducible first | exact HB.out | apply below_alloc | apply pw_below_drewN | apply below_drew1) | exact HB.out))) : w.heap.size ≤ gb154)); have n3_ := Aside0.mk ((by rw [hg]; exact (below_size (by repeat (first | (with_reducible first | exact HB.out | apply below_alloc | apply pw_below_drewN | apply below_drew1) | exact HB.out))) : w.heap.size ≤ gb154)); clear HB; have HB := n0_; have BK154 := n1_; have GW154 := n2_; have GE154 := n3_; clear n0_ n1_ n2_ n3_; clear hb hbox hg) | ((with_reducible refine gate_dst (N := 3) rfl ?_); (try (refine gate_guard (by rfl) ?_; dsimp only)); refine box_event ?hg (N := 3) ?hd (cs := #[.bool a1_0, .slice A1_1 l1_1.length c1_1]) (t := 30) ?hr ?_; (case hd => rfl); (case hg => rfl); (case hr => first | (go_simp; done) | (go_simp; rfl)); intro gb155 hg w5 hbox hb; have n0_ := Aside0.mk (blk_below (g := gb154) (o := .cells #[.bool a0_0, .slice A0_1 l0_1.length c0_1] 30 (0, 0)) (by (with_reducible repeat (first | refine blk_drewN ?_ _ | refine blk_drew ?_ | refine blk_alloc ?_ _)); exact BK154.out) hb); have n1_ := Aside0.mk (below_step (by repeat (first | (with_reducible first | exact HB.out | apply below_alloc | apply pw_below_drewN | apply below_drew1 | refine below_set ?_ GE154.out) | exact HB.out)) hb); have n2_ := Aside0.mk (hbox); have n3_ := Aside0.mk ((by rw [hg]; exact (below_size (by repeat (first | (with_reducible first | exact HB.out | apply below_alloc | apply pw_below_drewN | apply below_drew1 | refine below_set ?_ GE154.out) | exact HB.out))) : w.heap.size ≤ gb155)); have n4_ := Aside0.mk ((by rw [hg]; exact (below_size (by repeat (first | (with_reducible first | exact HB.out | apply below_alloc | apply pw_below_drewN | apply below_drew1 | refine below_set ?_ GE154.out) | exact HB.out))) : w.heap.size ≤ gb155)); have n5_ := Aside0.mk ((by rw [hg]; exact Nat.ne_of_lt (blk_lt (g := gb154) (o := .cells #[.bool a0_0, .slice A0_1 l0_1.length c0_1] 30 (0, 0)) (by (with_reducible repeat (first | refine blk_drewN ?_ _ | refine blk_drew ?_ | refine blk_alloc ?_ _)); exact BK154.out)) : gb154 ≠ gb155)); have n6_ := Aside0.mk ((by rw [hg]; exact Nat.ne_of_gt (blk_lt (g := gb154) (o := .cells #[.bool a0_0, .slice A0_1 l0_1.length c0_1] 30 (0, 0)) (by (with_reducible repeat (first | refine blk_drewN ?_ _ | refine blk_drew ?_ | refine blk_alloc ?_ _)); exact BK154.out)) : gb155 ≠ gb154)); clear BK154; clear HB; have BK154 := n0_; have HB := n1_; have BK155 := n2_; have GW155 := n3_; have GE155 := n4_; have NB154_155 := n5_; have NB155_154 := n6_; clear n0_ n1_ n2_ n3_ n4_ n5_ n6_; clear hb hbox hg))
  repeat (go_quiet (first | ((with_reducible refine gate_dst (N := 2) rfl ?_); (try (refine gate_guard (by rfl) ?_; dsimp only)); refine box_event ?hg (N := 2) ?hd (cs := #[.bool a0_0, .slice A0_1 l0_1.length c0_1]) (t := 30) ?hr ?_; (case hd => rfl); (case hg => rfl); (case hr => first | (go_simp; done) | (go_simp; rfl)); intro gb154 hg w4 hbox hb; have n0_ := Aside0.mk (below_step (by repeat (first | (with_reducible first | exact HB.out | apply below_alloc | apply pw_below_drewN | apply below_drew1) | exact HB.out)) hb); have n1_ := Aside0.mk (hbox); have n2_ := Aside0.mk ((by rw [hg]; exact (below_size (by repeat (first | (with_reducible first | exact HB.out | apply below_alloc | apply pw_below_drewN | apply below_drew1) | exact HB.out))) : w.heap.size ≤ gb154)); have n3_ := Aside0.mk ((by rw [hg]; exact (below_size (by repeat (first | (with_reducible first | exact HB.out | apply below_alloc | apply pw_below_drewN | apply below_drew1) | exact HB.out))) : w.heap.size ≤ gb154)); clear HB; have HB := n0_; have BK154 := n1_; have GW154 := n2_; have GE154 := n3_; clear n0_ n1_ n2_ n3_; clear hb hbox hg) | ((with_reducible refine gate_dst (N := 3) rfl ?_); (try (refine gate_guard (by rfl) ?_; dsimp only)); refine box_event ?hg (N := 3) ?hd (cs := #[.bool a1_0, .slice A1_1 l1_1.length c1_1]) (t := 30) ?hr ?_; (case hd => rfl); (case hg => rfl); (case hr => first | (go_simp; done) | (go_simp; rfl)); intro gb155 hg w5 hbox hb; have n0_ := Aside0.mk (blk_below (g := gb154) (o := .cells #[.bool a0_0, .slice A0_1 l0_1.length c0_1] 30 (0, 0)) (by (with_reducible repeat (first | refine blk_drewN ?_ _ | refine blk_drew ?_ | refine blk_alloc ?_ _)); exact BK154.out) hb); have n1_ := Aside0.mk (below_step (by repeat (first | (with_reducible first | exact HB.out | apply below_alloc | apply pw_below_drewN | apply below_drew1 | refine below_set ?_ GE154.out) | exact HB.out)) hb); have n2_ := Aside0.mk (hbox); have n3_ := Aside0.mk ((by rw [hg]; exact (below_size (by repeat (first | (with_reducible first | exact HB.out | apply below_alloc | apply pw_below_drewN | apply below_drew1 | refine below_set ?_ GE154.out) | exact HB.out))) : w.heap.size ≤ gb155)); have n4_ := Aside0.mk ((by rw [hg]; exact (below_size (by repeat (first | (with_reducible first | exact HB.out | apply below_alloc | apply pw_below_drewN | apply below_drew1 | refine below_set ?_ GE154.out) | exact HB.out))) : w.heap.size ≤ gb155)); have n5_ := Aside0.mk ((by rw [hg]; exact Nat.ne_of_lt (blk_lt (g := gb154) (o := .cells #[.bool a0_0, .slice A0_1 l0_1.length c0_1] 30 (0, 0)) (by (with_reducible repeat (first | refine blk_drewN ?_ _ | refine blk_drew ?_ | refine blk_alloc ?_ _)); exact BK154.out)) : gb154 ≠ gb155)); have n6_ := Aside0.mk ((by rw [hg]; exact Nat.ne_of_gt (blk_lt (g := gb154) (o := .cells #[.bool a0_0, .slice A0_1 l0_1.length c0_1] 30 (0, 0)) (by (with_reducible repeat (first | refine blk_drewN ?_ _ | refine blk_drew ?_ | refine blk_alloc ?_ _)); exact BK154.out)) : gb155 ≠ gb154)); clear BK154; clear HB; have BK154 := n0_; have HB := n1_; have BK155 := n2_; have GW155 := n3_; have GE155 := n4_; have NB154_155 := n5_; have NB155_154 := n6_; clear n0_ n1_ n2_ n3_ n4_ n5_ n6_; clear hb hbox hg)); go_upto_region 1 with (first | ((with_reducible refine gate_dst (N := 2) rfl ?_); (try (refine gate_guard (by rfl) ?_; dsimp only)); refine box_event ?hg (N := 2) ?hd (cs := #[.bool a0_0, .slice A0_1 l0_1.length c0_1]) (t := 30) ?hr ?_; (case hd => rfl); (case hg => rfl); (case hr => first | (go_simp; done) | (go_simp; rfl)); intro gb154 hg w4 hbox hb; have n0_ := Aside0.mk (below_step (by repeat (first | (with_reducible first | exact HB.out | apply below_alloc | apply pw_below_drewN | apply below_drew1) | exact HB.out)) hb); have n1_ := Aside0.mk (hbox); have n2_ := Aside0.mk ((by rw [hg]; exact (below_size (by repeat (first | (with_reducible first | exact HB.out | apply below_alloc | apply pw_below_drewN | apply below_drew1) | exact HB.out))) : w.heap.size ≤ gb154)); have n3_ := Aside0.mk ((by rw [hg]; exact (below_size (by repeat (first | (with_reducible first | exact HB.out | apply below_alloc | apply pw_below_drewN | apply below_drew1) | exact HB.out))) : w.heap.size ≤ gb154)); clear HB; have HB := n0_; have BK154 := n1_; have GW154 := n2_; have GE154 := n3_; clear n0_ n1_ n2_ n3_; clear hb hbox hg) | ((with_reducible refine gate_dst (N := 3) rfl ?_); (try (refine gate_guard (by rfl) ?_; dsimp only)); refine box_event ?hg (N := 3) ?hd (cs := #[.bool a1_0, .slice A1_1 l1_1.length c1_1]) (t := 30) ?hr ?_; (case hd => rfl); (case hg => rfl); (case hr => first | (go_simp; done) | (go_simp; rfl)); intro gb155 hg w5 hbox hb; have n0_ := Aside0.mk (blk_below (g := gb154) (o := .cells #[.bool a0_0, .slice A0_1 l0_1.length c0_1] 30 (0, 0)) (by (with_reducible repeat (first | refine blk_drewN ?_ _ | refine blk_drew ?_ | refine blk_alloc ?_ _)); exact BK154.out) hb); have n1_ := Aside0.mk (below_step (by repeat (first | (with_reducible first | exact HB.out | apply below_alloc | apply pw_below_drewN | apply below_drew1 | refine below_set ?_ GE154.out) | exact HB.out)) hb); have n2_ := Aside0.mk (hbox); have n3_ := Aside0.mk ((by rw [hg]; exact (below_size (by repeat (first | (with_reducible first | exact HB.out | apply below_alloc | apply pw_below_drewN | apply below_drew1 | refine below_set ?_ GE154.out) | exact HB.out))) : w.heap.size ≤ gb155)); have n4_ := Aside0.mk ((by rw [hg]; exact (below_size (by repeat (first | (with_reducible first | exact HB.out | apply below_alloc | apply pw_below_drewN | apply below_drew1 | refine below_set ?_ GE154.out) | exact HB.out))) : w.heap.size ≤ gb155)); have n5_ := Aside0.mk ((by rw [hg]; exact Nat.ne_of_lt (blk_lt (g := gb154) (o := .cells #[.bool a0_0, .slice A0_1 l0_1.length c0_1] 30 (0, 0)) (by (with_reducible repeat (first | refine blk_drewN ?_ _ | refine blk_drew ?_ | refine blk_alloc ?_ _)); exact BK154.out)) : gb154 ≠ gb155)); have n6_ := Aside0.mk ((by rw [hg]; exact Nat.ne_of_gt (blk_lt (g := gb154) (o := .cells #[.bool a0_0, .slice A0_1 l0_1.length c0_1] 30 (0, 0)) (by (with_reducible repeat (first | refine blk_drewN ?_ _ | refine blk_drew ?_ | refine blk_alloc ?_ _)); exact BK154.out)) : gb155 ≠ gb154)); clear BK154; clear HB; have BK154 := n0_; have HB := n1_; have BK155 := n2_; have GW155 := n3_; have GE155 := n4_; have NB154_155 := n5_; have NB155_154 := n6_; clear n0_ n1_ n2_ n3_ n4_ n5_ n6_; clear hb hbox hg)))
  (try simp only [Act.put, qa_, qb_, qc_])
  go_cut [19] (fun v19 wc => ∃ (kq : Nat) (x19_2 : Bool), v19 = .bool x19_2 ∧ Aside0 (mootbellref05_Same.j0 kq x19_2 a0_0 l0_1 a1_0 l1_1 = some r) ∧ Aside0 (kq ≤ k) ∧ Aside0 (wc.heap[gb154]? = some (.cells #[.bool a0_0, (.slice A0_1 l0_1.length c0_1)] 30 (0, 0))) ∧ Aside0 (wc.heap[gb155]? = some (.cells #[.bool a1_0, (.slice A1_1 l1_1.length c1_1)] 30 (0, 0))) ∧ Aside0 (Below w.heap.size w wc))
  case first =>
    have H := HC3.out
    clear HC3
    by_cases c6 : (a0_0 != a1_0) = true
    · rw [if_pos c6] at H
      have c6b0 : (a0_0 != a1_0) = true := c6
      (try (have c6b1 : decide (a0_0 = a1_0) = false := by simpa using c6))
      (try (have c6b2 : (a0_0 == a1_0) = false := by simpa using c6))
      (try (have c6b3 : ¬ (a0_0 = a1_0) := by simpa using c6))
      clear c6
      (first | rw [c6b0] | (simp only [i64_w, i32_w]; rw [c6b0]) | skip)
      have H' := Aside0.mk H
      clear H
      have hnb7 := NB154_155.out
      have hnc7 := NB155_154.out
      have hcz8_0 : w5.cell? ⟨gb154, 0, none⟩ = some (.bool a0_0) := (blk_cell BK154.out 0).trans rfl
      have hcz8_1 : w5.cell? ⟨gb154, 1, none⟩ = some (.slice A0_1 l0_1.length c0_1) := (blk_cell BK154.out 1).trans rfl
      have hfz8_0 := blk_frozen BK154.out 0
      have hfz8_1 := blk_frozen BK154.out 1
      have hcz9_0 : w5.cell? ⟨gb155, 0, none⟩ = some (.bool a1_0) := (blk_cell BK155.out 0).trans rfl
      have hcz9_1 : w5.cell? ⟨gb155, 1, none⟩ = some (.slice A1_1 l1_1.length c1_1) := (blk_cell BK155.out 1).trans rfl
      have hfz9_0 := blk_frozen BK155.out 0
      have hfz9_1 := blk_frozen BK155.out 1
      go_wp2
      repeat (go_quiet (fail); try go_wp2)
      go_meet
      case rel => exact ⟨_, (true), (by first | rfl | (simp; done) | (simp [*]; done)), H', ⟨by first | omega | exact Nat.le_refl _⟩, ⟨by (with_reducible repeat (first | refine blk_drewN ?_ _ | refine blk_drew ?_ | refine blk_alloc ?_ _)); exact BK154.out⟩, ⟨by (with_reducible repeat (first | refine blk_drewN ?_ _ | refine blk_drew ?_ | refine blk_alloc ?_ _)); exact BK155.out⟩, ⟨by repeat (first | (with_reducible first | exact HB.out | apply below_alloc | apply pw_below_drewN | apply below_drew1 | refine below_set ?_ GE154.out | refine below_set ?_ GE155.out) | exact HB.out)⟩⟩
    · rw [if_neg c6] at H
      have c6b0 : (a0_0 != a1_0) = false := by simpa using c6
      (try (have c6b1 : decide (a0_0 = a1_0) = true := by simpa using c6))
      (try (have c6b2 : (a0_0 == a1_0) = true := by simpa using c6))
      clear c6
      (first | rw [c6b0] | (simp only [i64_w, i32_w]; rw [c6b0]) | skip)
      have H' := Aside0.mk H
      clear H
      have hnb10 := NB154_155.out
      have hnc10 := NB155_154.out
      have hcz11_0 : w5.cell? ⟨gb154, 0, none⟩ = some (.bool a0_0) := (blk_cell BK154.out 0).trans rfl
      have hcz11_1 : w5.cell? ⟨gb154, 1, none⟩ = some (.slice A0_1 l0_1.length c0_1) := (blk_cell BK154.out 1).trans rfl
      have hfz11_0 := blk_frozen BK154.out 0
      have hfz11_1 := blk_frozen BK154.out 1
      have hcz12_0 : w5.cell? ⟨gb155, 0, none⟩ = some (.bool a1_0) := (blk_cell BK155.out 0).trans rfl
      have hcz12_1 : w5.cell? ⟨gb155, 1, none⟩ = some (.slice A1_1 l1_1.length c1_1) := (blk_cell BK155.out 1).trans rfl
      have hfz12_0 := blk_frozen BK155.out 0
      have hfz12_1 := blk_frozen BK155.out 1
      go_wp2
      repeat (go_quiet (fail); try go_wp2)
      go_meet
      case rel => exact ⟨_, (((l0_1.length : Int) != (l1_1.length : Int))), (by first | rfl | (simp; done) | (simp [*]; done)), H', ⟨by first | omega | exact Nat.le_refl _⟩, ⟨by (with_reducible repeat (first | refine blk_drewN ?_ _ | refine blk_drew ?_ | refine blk_alloc ?_ _)); exact BK154.out⟩, ⟨by (with_reducible repeat (first | refine blk_drewN ?_ _ | refine blk_drew ?_ | refine blk_alloc ?_ _)); exact BK155.out⟩, ⟨by repeat (first | (with_reducible first | exact HB.out | apply below_alloc | apply pw_below_drewN | apply below_drew1 | refine below_set ?_ GE154.out | refine below_set ?_ GE155.out) | exact HB.out)⟩⟩
  case rest =>
    clear HC3
    try clear c1
    try clear p2
    try clear c4
    try clear c6
    try clear c6b0
    try clear c6b1
    try clear c6b2
    try clear c7
    try clear c10
    try clear hcz11_0
    try clear hcz11_1
    try clear hcz12_0
    try clear hcz12_1
    try clear hcz8_0
    try clear hcz8_1
    try clear hcz9_0
    try clear hcz9_1
    try clear hfz11_0
    try clear hfz11_1
    try clear hfz12_0
    try clear hfz12_1
    try clear hfz8_0
    try clear hfz8_1
    try clear hfz9_0
    try clear hfz9_1
    obtain ⟨kq, x19_2, rfl, HA, HJ2, BK154, BK155, HB⟩ := hcut
    cases kq with
    | zero => exact absurd HA.out (by simp [mootbellref05_Same.j0])
    | succ kj2 =>
      have H := HA.out
      clear HA
      simp only [mootbellref05_Same.j0] at H
      by_cases c13 : x19_2 = true
      · subst c13
        have H1 : (some false) = some r := by rw [if_pos rfl] at H; exact H
        clear H
        have H := H1
        clear H1
        obtain rfl := Option.some.inj H
        go_wp2
        repeat (go_quiet (fail); try go_wp2)
        go_ret
        exact ⟨by first | rfl | (simp [errW_none, errW_some] <;> rfl) | (simp [*, errW_none, errW_some] <;> rfl), by repeat (first | (with_reducible first | exact HB.out | apply below_alloc | apply pw_below_drewN | apply below_drew1 | refine below_set ?_ GE154.out | refine below_set ?_ GE155.out) | exact HB.out)⟩
      · replace c13 := Bool.eq_false_iff.mpr c13
        subst c13
        have H1 : (mootbellref05_Same.l0 kj2 0 a0_0 l0_1 a1_0 l1_1) = some r := by rw [if_neg (show ¬ (false = true) by decide)] at H; exact H
        clear H
        have H := H1
        clear H1
        have H' := Aside0.mk H
        clear H
        go_wp2
        repeat (go_quiet (fail); try go_wp2)
        go_loopg [5] kj2 (fun kq v5 w' => ∃ (x5_2 : Int), v5 = .int .i64 x5_2 ∧ Aside0 (mootbellref05_Same.l0 kq x5_2 a0_0 l0_1 a1_0 l1_1 = some r) ∧ Aside0 (kq ≤ kj2) ∧ Aside0 (w'.heap[gb154]? = some (.cells #[.bool a0_0, (.slice A0_1 l0_1.length c0_1)] 30 (0, 0))) ∧ Aside0 (w'.heap[gb155]? = some (.cells #[.bool a1_0, (.slice A1_1 l1_1.length c1_1)] 30 (0, 0))) ∧ Aside0 (Below w.heap.size w w'))
        case atStart => exact ⟨(0), (by first | rfl | (simp; done) | (simp [*]; done)), H', ⟨Nat.le_refl _⟩, ⟨by (with_reducible repeat (first | refine blk_drewN ?_ _ | refine blk_drew ?_ | refine blk_alloc ?_ _)); exact BK154.out⟩, ⟨by (with_reducible repeat (first | refine blk_drewN ?_ _ | refine blk_drew ?_ | refine blk_alloc ?_ _)); exact BK155.out⟩, ⟨by repeat (first | (with_reducible first | exact HB.out | apply below_alloc | apply pw_below_drewN | apply below_drew1 | refine below_set ?_ GE154.out | refine below_set ?_ GE155.out) | exact HB.out)⟩⟩
        case round =>
          clear H'
          try clear c1
          try clear p2
          try clear c4
          try clear c6
          try clear c6b0
          try clear c6b1
          try clear c6b2
          try clear c7
          try clear c10
          try clear c13
          try clear hcz11_0
          try clear hcz11_1
          try clear hcz12_0
          try clear hcz12_1
          try clear hcz8_0
          try clear hcz8_1
          try clear hcz9_0
          try clear hcz9_1
          try clear hfz11_0
          try clear hfz11_1
          try clear hfz12_0
          try clear hfz12_1
          try clear hfz8_0
          try clear hfz8_1
          try clear hfz9_0
          try clear hfz9_1
          try clear p2
          obtain ⟨x5_2, rfl, HA, HK2, BK154, BK155, HB⟩ := hrel
          cases gk with
          | zero => exact absurd HA.out (by simp [mootbellref05_Same.l0])
          | succ k2 =>
            have H := HA.out
            clear HA
            simp only [mootbellref05_Same.l0] at H
            by_cases c14 : x5_2 < (l0_1.length : Int)
            · rw [if_pos c14] at H
              have c14b0 : decide (x5_2 < (l0_1.length : Int)) = true := decide_eq_true c14
              clear c14
              by_cases c15 : 0 ≤ x5_2
              · rw [if_pos c15] at H
                have c15b0 : decide (0 ≤ x5_2) = true := decide_eq_true c15
                clear c15
                by_cases c16 : x5_2 < (l1_1.length : Int)
                · rw [if_pos c16] at H
                  have c16b0 : decide (x5_2 < (l1_1.length : Int)) = true := decide_eq_true c16
                  clear c16
                  by_cases c17 : (!(((rd_T52 l0_1 x5_2).f0) == ((rd_T52 l1_1 x5_2).f0)) || (!(((rd_T52 l0_1 x5_2).f1) == ((rd_T52 l1_1 x5_2).f1)))) = true
                  · rw [if_pos c17] at H
                    have c17b0 : (!(((rd_T52 l0_1 x5_2).f0) == ((rd_T52 l1_1 x5_2).f0)) || (!(((rd_T52 l0_1 x5_2).f1) == ((rd_T52 l1_1 x5_2).f1)))) = true := c17
                    clear c17
                    obtain rfl := Option.some.inj H
                    have hnb18 := NB154_155.out
                    have hnc18 := NB155_154.out
                    have hcz19_0 : wr.cell? ⟨gb154, 0, none⟩ = some (.bool a0_0) := (blk_cell BK154.out 0).trans rfl
                    have hcz19_1 : wr.cell? ⟨gb154, 1, none⟩ = some (.slice A0_1 l0_1.length c0_1) := (blk_cell BK154.out 1).trans rfl
                    have hfz19_0 := blk_frozen BK154.out 0
                    have hfz19_1 := blk_frozen BK154.out 1
                    have p156 : 0 ≤ (x5_2 : Int) := of_decide_eq_true (by first | (with_reducible assumption) | assumption)
                    have q156 : x5_2 < (l0_1.length : Int) := of_decide_eq_true (by first | (with_reducible assumption) | assumption)
                    obtain ⟨ad156, e156, hx156_0, hx156_1⟩ := at_T52 HR0_1.out x5_2 p156 q156
                    cases e156
                    replace hx156_0 := (HB.out.cell (World.block_lt_of_cell? w _ hx156_0)).trans hx156_0
                    replace hx156_1 := (HB.out.cell (World.block_lt_of_cell? w _ hx156_1)).trans hx156_1
                    replace p156 := eq_true p156
                    replace q156 := eq_true q156
                    have hcz20_0 : wr.cell? ⟨gb155, 0, none⟩ = some (.bool a1_0) := (blk_cell BK155.out 0).trans rfl
                    have hcz20_1 : wr.cell? ⟨gb155, 1, none⟩ = some (.slice A1_1 l1_1.length c1_1) := (blk_cell BK155.out 1).trans rfl
                    have hfz20_0 := blk_frozen BK155.out 0
                    have hfz20_1 := blk_frozen BK155.out 1
                    have p157 : 0 ≤ (x5_2 : Int) := of_decide_eq_true (by first | (with_reducible assumption) | assumption)
                    have q157 : x5_2 < (l1_1.length : Int) := of_decide_eq_true (by first | (with_reducible assumption) | assumption)
                    obtain ⟨ad157, e157, hx157_0, hx157_1⟩ := at_T52 HR1_1.out x5_2 p157 q157
                    cases e157
                    replace hx157_0 := (HB.out.cell (World.block_lt_of_cell? w _ hx157_0)).trans hx157_0
                    replace hx157_1 := (HB.out.cell (World.block_lt_of_cell? w _ hx157_1)).trans hx157_1
                    replace p157 := eq_true p157
                    replace q157 := eq_true q157
                    go_wp2
                    repeat (go_quiet (fail); try go_wp2)
                    go_ret
                    exact ⟨by first | rfl | (simp [errW_none, errW_some] <;> rfl) | (simp [*, errW_none, errW_some] <;> rfl), by repeat (first | (with_reducible first | exact HB.out | apply below_alloc | apply pw_below_drewN | apply below_drew1 | refine below_set ?_ GE154.out | refine below_set ?_ GE155.out) | exact HB.out)⟩
                  · rw [if_neg c17] at H
                    have c17b0 : (!(((rd_T52 l0_1 x5_2).f0) == ((rd_T52 l1_1 x5_2).f0)) || (!(((rd_T52 l0_1 x5_2).f1) == ((rd_T52 l1_1 x5_2).f1)))) = false := by simpa using c17
                    clear c17
                    have H' := Aside0.mk H
                    clear H
                    have hnb21 := NB154_155.out
                    have hnc21 := NB155_154.out
                    have hcz22_0 : wr.cell? ⟨gb154, 0, none⟩ = some (.bool a0_0) := (blk_cell BK154.out 0).trans rfl
                    have hcz22_1 : wr.cell? ⟨gb154, 1, none⟩ = some (.slice A0_1 l0_1.length c0_1) := (blk_cell BK154.out 1).trans rfl
                    have hfz22_0 := blk_frozen BK154.out 0
                    have hfz22_1 := blk_frozen BK154.out 1
                    have p156 : 0 ≤ (x5_2 : Int) := of_decide_eq_true (by first | (with_reducible assumption) | assumption)
                    have q156 : x5_2 < (l0_1.length : Int) := of_decide_eq_true (by first | (with_reducible assumption) | assumption)
                    obtain ⟨ad156, e156, hx156_0, hx156_1⟩ := at_T52 HR0_1.out x5_2 p156 q156
                    cases e156
                    replace hx156_0 := (HB.out.cell (World.block_lt_of_cell? w _ hx156_0)).trans hx156_0
                    replace hx156_1 := (HB.out.cell (World.block_lt_of_cell? w _ hx156_1)).trans hx156_1
                    replace p156 := eq_true p156
                    replace q156 := eq_true q156
                    have hcz23_0 : wr.cell? ⟨gb155, 0, none⟩ = some (.bool a1_0) := (blk_cell BK155.out 0).trans rfl
                    have hcz23_1 : wr.cell? ⟨gb155, 1, none⟩ = some (.slice A1_1 l1_1.length c1_1) := (blk_cell BK155.out 1).trans rfl
                    have hfz23_0 := blk_frozen BK155.out 0
                    have hfz23_1 := blk_frozen BK155.out 1
                    have p157 : 0 ≤ (x5_2 : Int) := of_decide_eq_true (by first | (with_reducible assumption) | assumption)
                    have q157 : x5_2 < (l1_1.length : Int) := of_decide_eq_true (by first | (with_reducible assumption) | assumption)
                    obtain ⟨ad157, e157, hx157_0, hx157_1⟩ := at_T52 HR1_1.out x5_2 p157 q157
                    cases e157
                    replace hx157_0 := (HB.out.cell (World.block_lt_of_cell? w _ hx157_0)).trans hx157_0
                    replace hx157_1 := (HB.out.cell (World.block_lt_of_cell? w _ hx157_1)).trans hx157_1
                    replace p157 := eq_true p157
                    replace q157 := eq_true q157
                    go_wp2
                    repeat (go_quiet (fail); try go_wp2)
                    go_roundg k2
                    case measure => have := HJ2.out; have := HK2.out; omega
                    case rel => exact ⟨(wrap64 (x5_2 + 1)), (by first | rfl | (simp; done) | (simp [*]; done)), H', ⟨by have := HJ2.out; have := HK2.out; omega⟩, ⟨by (with_reducible repeat (first | refine blk_drewN ?_ _ | refine blk_drew ?_ | refine blk_alloc ?_ _)); exact BK154.out⟩, ⟨by (with_reducible repeat (first | refine blk_drewN ?_ _ | refine blk_drew ?_ | refine blk_alloc ?_ _)); exact BK155.out⟩, ⟨by repeat (first | (with_reducible first | exact HB.out | apply below_alloc | apply pw_below_drewN | apply below_drew1 | refine below_set ?_ GE154.out | refine below_set ?_ GE155.out) | exact HB.out)⟩⟩
                · rw [if_neg c16] at H
                  exact absurd H (by simp)
              · rw [if_neg c15] at H
                exact absurd H (by simp)
            · rw [if_neg c14] at H
              have c14b0 : decide (x5_2 < (l0_1.length : Int)) = false := decide_eq_false c14
              clear c14
              obtain rfl := Option.some.inj H
              have hnb24 := NB154_155.out
              have hnc24 := NB155_154.out
              have hcz25_0 : wr.cell? ⟨gb154, 0, none⟩ = some (.bool a0_0) := (blk_cell BK154.out 0).trans rfl
              have hcz25_1 : wr.cell? ⟨gb154, 1, none⟩ = some (.slice A0_1 l0_1.length c0_1) := (blk_cell BK154.out 1).trans rfl
              have hfz25_0 := blk_frozen BK154.out 0
              have hfz25_1 := blk_frozen BK154.out 1
              go_wp2
              repeat (go_quiet (fail); try go_wp2)
              go_ret
              exact ⟨by first | rfl | (simp [errW_none, errW_some] <;> rfl) | (simp [*, errW_none, errW_some] <;> rfl), by repeat (first | (with_reducible first | exact HB.out | apply below_alloc | apply pw_below_drewN | apply below_drew1 | refine below_set ?_ GE154.out | refine below_set ?_ GE155.out) | exact HB.out)⟩
end Go.Proofs.Ytnfglkgkdechlaa.PQ

namespace Go.Proofs.Ytnfglkgkdechlaa.PQ
open Go.RowKit Go.Proofs.YtnfglkgkdechlaaW.PrintWords Go.Proofs.YtnfglkgkdechlaaW.PrintLast Go.Proofs.YtnfglkgkdechlaaW.PrintMore
attribute [local go_sem] max2_int min2_int max_two min_two max_three min_three max_four min_four   -- for this text's walks alone

attribute [local go_sem high] eqA52

/-! ### mootbellref07_Valid: function 42 -/
def mootbellref07_Valid.f (k : Nat) (l0 : List (S52)) (a1_0 : Int) (a1_1 : Int) : Option (Bool) := (mootbellref07_Right.f k l0).bind fun t159 => (if t159 = true then ((mootbellref07_in.f k l0 a1_0 a1_1).bind fun t160 => (some t160)) else (some false))
theorem mootbellref07_Valid.mono : ∀ a0 a1 a2 k, LeO (mootbellref07_Valid.f k a0 a1 a2) (mootbellref07_Valid.f (k + 1) a0 a1 a2) := by
  intro a0 a1 a2 k
  unfold mootbellref07_Valid.f
  repeat' first
      | (with_reducible exact mootbellref07_Right.mono _ _)
      | (with_reducible exact mootbellref07_in.mono _ _ _ _)
      | (with_reducible exact LeO.refl _)
      | (with_reducible exact LeO.none _)
      | (with_reducible refine LeO.ite ?_ ?_)
      | (with_reducible refine LeO.bind ?_ (fun _ => ?_))
      | exact mootbellref07_Right.mono _ _
      | exact mootbellref07_in.mono _ _ _ _
      | exact LeO.none _
      | refine LeO.ite ?_ ?_
      | refine LeO.bind ?_ (fun _ => ?_)
set_option maxHeartbeats 8000000 in
set_option maxRecDepth 100000 in
theorem mootbellref07_Valid.calls (k : Nat) (A0 : Option Addr) (c0 : Nat) (l0 : List (S52)) (a1_0 : Int) (a1_1 : Int) (r : Bool) (w : World) (hr0 : Kd.C k52 w A0 l0.length l0) (hc0 : l0.length ≤ c0) (h : mootbellref07_Valid.f k l0 a1_0 a1_1 = some r) :
    Calls Try.prog 42 #[.slice A0 l0.length c0, .agg #[.int .u64 a1_0, .int .u64 a1_1]] w fun e w' => e = .returned (.bool r) ∧ Below w.heap.size w w' := by
  have hu52 := Try.underlying52
  have HR0 := Aside0.mk hr0
  have HC0 := Aside0.mk hc0
  clear hr0 hc0
  have HB := Aside0.mk (Below.refl w.heap.size w)
  have H : ((mootbellref07_Right.f k l0).bind fun t159 => (if t159 = true then ((mootbellref07_in.f k l0 a1_0 a1_1).bind fun t160 => (some t160)) else (some false))) = some r := h
  clear h
  replace H := Option.bind_eq_some_iff.mp H
  obtain ⟨t159, A30, H⟩ := H
  replace H : (if t159 = true then ((mootbellref07_in.f k l0 a1_0 a1_1).bind fun t160 => (some t160)) else (some false)) = some r := H
  have A3 := Aside0.mk A30
  clear A30
  by_cases c4 : t159 = true
  · subst c4
    have H1 : ((mootbellref07_in.f k l0 a1_0 a1_1).bind fun t160 => (some t160)) = some r := by rw [if_pos rfl] at H; exact H
    clear H
    have H := H1
    clear H1
    replace H := Option.bind_eq_some_iff.mp H
    obtain ⟨t160, A50, H⟩ := H
    replace H : (some t160) = some r := H
    have A5 := Aside0.mk A50
    clear A50
    obtain rfl := Option.some.inj H
    go_enter Try.func42, Try.ntmps42
    go_wp2_with (first | ((with_reducible refine gate_dst (N := 3) rfl ?_); refine box_event ?hg (N := 3) ?hd (cs := #[.int .u64 a1_0, .int .u64 a1_1]) (t := 52) ?hr ?_; (case hd => rfl); (case hg => rfl); (case hr => first | (go_simp; done) | (go_simp; rfl)); intro gb158 hg w6 hbox hb; have n0_ := Aside0.mk (below_step (by repeat (first | (with_reducible first | exact HB.out | apply below_alloc | apply pw_below_drewN | apply below_drew1) | exact HB.out)) hb); have n1_ := Aside0.mk (hbox); have n2_ := Aside0.mk ((by rw [hg]; exact (below_size (by repeat (first | (with_reducible first | exact HB.out | apply below_alloc | apply pw_below_drewN | apply below_drew1) | exact HB.out))) : w.heap.size ≤ gb158)); have n3_ := Aside0.mk ((by rw [hg]; exact (below_size (by repeat (first | (with_reducible first | exact HB.out | apply below_alloc | apply pw_below_drewN | apply below_drew1) | exact HB.out))) : w.heap.size ≤ gb158)); clear HB; have HB := n0_; have BK158 := n1_; have GW158 := n2_; have GE158 := n3_; clear n0_ n1_ n2_ n3_; clear hb hbox hg) | ((with_reducible refine gate_callee (f := 30) rfl ?_); refine goesL_ (some 7) rfl rfl Try.func30 (by kernel_rfl) rfl #[.slice A0 l0.length c0] rfl (by (try simp only [List.map_toArray, List.map_cons, List.map_nil]); first | done | rfl | (simp only [List.length_drop, List.length_take]; rfl)) ?_; (with_reducible refine (mootbellref07_Right.calls k _ _ l0 true _ ?side1 ?side2 A3.out).mono ?_); (case side1 => repeat (first | exact (Kd.C_below HR0.out HB.out) | (with_reducible refine Kd.C_alloc ?_ _) | (with_reducible refine Kd.C_drewN ?_ _) | (with_reducible refine Kd.C_drew ?_))); (case side2 => exact HC0.out); rintro e w7 ⟨rfl, hb⟩; refine ⟨_, rfl, ?_⟩; have n0_ := Aside0.mk (blk_below (g := gb158) (o := .cells #[.int .u64 a1_0, .int .u64 a1_1] 52 (0, 0)) (by (with_reducible repeat (first | refine blk_drewN ?_ _ | refine blk_drew ?_ | refine blk_alloc ?_ _)); exact BK158.out) hb); have n1_ := Aside0.mk (below_step (by repeat (first | (with_reducible first | exact HB.out | apply below_alloc | apply pw_below_drewN | apply below_drew1 | refine below_set ?_ GE158.out) | exact HB.out)) hb); clear BK158; clear HB; have BK158 := n0_; have HB := n1_; clear n0_ n1_; (try clear hb); (try clear hb2); (try clear hk); (try clear hi); have hcz8_0 : w7.cell? ⟨gb158, 0, none⟩ = some (.int .u64 a1_0) := (blk_cell BK158.out 0).trans rfl; have hcz8_1 : w7.cell? ⟨gb158, 1, none⟩ = some (.int .u64 a1_1) := (blk_cell BK158.out 1).trans rfl; have hfz8_0 := blk_frozen BK158.out 0; have hfz8_1 := blk_frozen BK158.out 1) | (go_at_call 31; (with_reducible refine (mootbellref07_in.calls k _ _ l0 a1_0 a1_1 t160 _ ?side1 ?side2 A5.out).mono ?_); (case side1 => repeat (first | exact (Kd.C_below HR0.out HB.out) | (with_reducible refine Kd.C_alloc ?_ _) | (with_reducible refine Kd.C_drewN ?_ _) | (with_reducible refine Kd.C_drew ?_))); (case side2 => exact HC0.out); rintro e w9 ⟨rfl, hb⟩; have n0_ := Aside0.mk (blk_below (g := gb158) (o := .cells #[.int .u64 a1_0, .int .u64 a1_1] 52 (0, 0)) (by (with_reducible repeat (first | refine blk_drewN ?_ _ | refine blk_drew ?_ | refine blk_alloc ?_ _)); exact BK158.out) hb); have n1_ := Aside0.mk (below_step (by repeat (first | (with_reducible first | exact HB.out | apply below_alloc | apply pw_below_drewN | apply below_drew1 | refine below_set ?_ GE158.out) | exact HB.out)) hb); clear BK158; clear HB; have BK158 := n0_; have HB := n1_; clear n0_ n1_; (try clear hb); (try clear hb2); (try clear hk); (try clear hi)))
    go_ret
    exact ⟨by first | rfl | (simp [errW_none, errW_some] <;> rfl) | (simp [*, errW_none, errW_some] <;> rfl), by repeat (first | (with_reducible first | exact HB.out | apply below_alloc | apply pw_below_drewN | apply below_drew1 | refine below_set ?_ GE158.out) | exact HB.out)⟩
  · replace c4 := Bool.eq_false_iff.mpr c4
    subst c4
    have H1 : (some false) = some r := by rw [if_neg (show ¬ (false = true) by decide)] at H; exact H
    clear H
    have H := H1
    clear H1
    obtain rfl := Option.some.inj H
    go_enter Try.func42, Try.ntmps42
    go_wp2_with (first | ((with_reducible refine gate_dst (N := 3) rfl ?_); refine box_event ?hg (N := 3) ?hd (cs := #[.int .u64 a1_0, .int .u64 a1_1]) (t := 52) ?hr ?_; (case hd => rfl); (case hg => rfl); (case hr => first | (go_simp; done) | (go_simp; rfl)); intro gb158 hg w10 hbox hb; have n0_ := Aside0.mk (below_step (by repeat (first | (with_reducible first | exact HB.out | apply below_alloc | apply pw_below_drewN | apply below_drew1) | exact HB.out)) hb); have n1_ := Aside0.mk (hbox); have n2_ := Aside0.mk ((by rw [hg]; exact (below_size (by repeat (first | (with_reducible first | exact HB.out | apply below_alloc | apply pw_below_drewN | apply below_drew1) | exact HB.out))) : w.heap.size ≤ gb158)); have n3_ := Aside0.mk ((by rw [hg]; exact (below_size (by repeat (first | (with_reducible first | exact HB.out | apply below_alloc | apply pw_below_drewN | apply below_drew1) | exact HB.out))) : w.heap.size ≤ gb158)); clear HB; have HB := n0_; have BK158 := n1_; have GW158 := n2_; have GE158 := n3_; clear n0_ n1_ n2_ n3_; clear hb hbox hg) | ((with_reducible refine gate_callee (f := 30) rfl ?_); refine goesL_ (some 7) rfl rfl Try.func30 (by kernel_rfl) rfl #[.slice A0 l0.length c0] rfl (by (try simp only [List.map_toArray, List.map_cons, List.map_nil]); first | done | rfl | (simp only [List.length_drop, List.length_take]; rfl)) ?_; (with_reducible refine (mootbellref07_Right.calls k _ _ l0 false _ ?side1 ?side2 A3.out).mono ?_); (case side1 => repeat (first | exact (Kd.C_below HR0.out HB.out) | (with_reducible refine Kd.C_alloc ?_ _) | (with_reducible refine Kd.C_drewN ?_ _) | (with_reducible refine Kd.C_drew ?_))); (case side2 => exact HC0.out); rintro e w11 ⟨rfl, hb⟩; refine ⟨_, rfl, ?_⟩; have n0_ := Aside0.mk (blk_below (g := gb158) (o := .cells #[.int .u64 a1_0, .int .u64 a1_1] 52 (0, 0)) (by (with_reducible repeat (first | refine blk_drewN ?_ _ | refine blk_drew ?_ | refine blk_alloc ?_ _)); exact BK158.out) hb); have n1_ := Aside0.mk (below_step (by repeat (first | (with_reducible first | exact HB.out | apply below_alloc | apply pw_below_drewN | apply below_drew1 | refine below_set ?_ GE158.out) | exact HB.out)) hb); clear BK158; clear HB; have BK158 := n0_; have HB := n1_; clear n0_ n1_; (try clear hb); (try clear hb2); (try clear hk); (try clear hi)))
    go_ret
    exact ⟨by first | rfl | (simp [errW_none, errW_some] <;> rfl) | (simp [*, errW_none, errW_some] <;> rfl), by repeat (first | (with_reducible first | exact HB.out | apply below_alloc | apply pw_below_drewN | apply below_drew1 | refine below_set ?_ GE158.out) | exact HB.out)⟩
end Go.Proofs.Ytnfglkgkdechlaa.PQ

