
/- A number behind rounds (chapter 9). -/
import Derived.Test.YtdepmbnoecpccaaDoorShufBy
set_option linter.unusedVariables false
set_option linter.unusedSimpArgs false
namespace Go.Proofs.YtdepmbnoecpccaaDoor
open Go.RowKit Go.Proofs.YtdepmbnoecpccaaDoorW.PrintWords Go.Proofs.YtdepmbnoecpccaaDoorW.PrintLast Go.Proofs.YtdepmbnoecpccaaDoorW.PrintMore
open Go.Shelf
attribute [local go_sem] Oper.semAt_some

set_option maxRecDepth 100000 in
set_option maxHeartbeats 4000000 in
theorem by_calls (n seed i : Int) (L : List Int) (gf : Nat) (lb : Array Value) (N : Nat) (w : World) (hn : 1 ≤ n ∧ n ≤ 65536) (hi : 0 ≤ i ∧ i < n) (hs : 0 ≤ seed) (hG : ChurnLaid w)
    (eg : ∀ args w, (callFunc gf args).run Tryd.prog w = .ok (.enter gf args) w)
    (hseq : ∀ w1, Below w.heap.size w w1 → SeqStopsK Fence.wide 2 Tryd.prog gf lb (fun x : R90 => #[Value.int .i64 x.1]) (Below w.heap.size) (fun ys => vals ys = L) (fun _ => True) N w1) :
    Calls Tryd.prog 53 #[.int .i64 n, .int .u64 seed, .int .i64 i, .func (.func gf) #[] lb] w fun e w' => e = .returned (.int .i64 (runF n seed L i)) ∧ Below w.heap.size w w' := by
  have HG := Aside0.mk hG
  clear hG
  refine (callsIn_wide (n := 3)).1 ?_
  refine callsIn_of_wp_marks Tryd.func53 rfl trivial ?_ rfl
  simp only [Tryd.ntmps53, List.size_toArray, List.length_cons, List.length_nil, Nat.reduceAdd, Nat.reduceSub, Array.replicate_succ, Array.replicate_zero, List.push_toArray, List.append_toArray, List.nil_append, List.cons_append]
  gi_wp2
  have hB0 : Below w.heap.size w (((w.alloc (.cells #[.int .i64 n] 3)).alloc (.cells #[.int .u64 seed] 22)).alloc (.cells #[.int .i64 i] 3)) := (by repeat (with_reducible first | assumption | exact Below.refl _ _ | apply below_alloc | refine below_set ?_ (by first | omega | (simp; omega)) | apply pw_below_drewN | apply below_drew1))
  refine wpIn_rangeFunc_ownF rfl (by decide) (gf := gf) (lb := lb) rfl trivial eg (hseq _ hB0) belowK_t (belowK_b hB0.size) (Below.refl _ _) (fun _ => rfl)
    (fun pre W => (Box W (w.heap.size + 1 + 1) #[.int .i64 (runF n seed (vals pre) i)] 3 ∧ Box W w.heap.size #[.int .i64 n] 3 ∧ Box W (w.heap.size + 1) #[.int .u64 seed] 22) ∧ Below w.heap.size w W)
    (fun _ _ _ => False)
    (OwnFrom.and (Own.from (fun s A B row hs hg hr => ⟨hs.1.kept hg hr, hs.2.1.kept hg hr, hs.2.2.kept hg hr⟩) _) (ownFrom_below (Nat.le_refl _) hB0.size))
    (fun _ _ _ _ _ hs _ _ => hs)
    ⟨⟨Box.new2, Box.alloc (Box.alloc Box.new), Box.alloc Box.new1⟩, hB0⟩
    (fun x => { tmps := #[.int .i64 n, .int .u64 seed, .int .i64 i, .func (.func gf) #[] lb, .pointer (some ⟨w.heap.size, 0, none⟩), .pointer (some ⟨w.heap.size + 1, 0, none⟩), .pointer (some ⟨w.heap.size + 1 + 1, 0, none⟩), undef, .int .i64 0, .int .i64 x.1, .func (.func gf) #[] lb, .int .i64 x.1, undef, undef, undef, undef, undef, undef, undef], defers := [] }) ?assign ?body ?done ?stop
  case assign =>
    intro l x W K hK
    gi_wp2
    exact hK
  case body =>
    rintro l pre ⟨x, hx0, hx1⟩ W ⟨⟨b6, b4, b5⟩, hbl⟩ _
    dsimp only
    have hr := run_bd n seed (vals pre) i hi
    have hsn : runF n seed (vals (pre ++ [⟨x, hx0, hx1⟩])) i = swapF n seed x (runF n seed (vals pre) i) := by rw [vals_snoc, run_snoc]
    have HSN := Aside0.mk hsn
    clear hsn
    generalize runF n seed (vals pre) i = cur at *
    have r4 := b4.cell
    have r5 := b5.cell
    have r6 := b6.cell
    have f6 := b6.frozen
    have k6 := b6.lt
    have X6 := Aside0.mk b6
    have HGW := Aside0.mk (HG.out.below hbl)
    have HL := Aside0.mk (And.intro b4 (And.intro b5 hbl))
    have hwz := hbl.size
    clear b6 b4 b5 hbl
    have HB := Aside0.mk (Below.refl W.heap.size W)
    have hmix : Tryd.prog.follows .mixedOrders = true := by kernel_rfl
    gi_wp2
    gi_region_with_o (first
      | ((try (refine ⟨trivial, ?_⟩)); gi_at_call 50; refine (CallsIn.inRound l (callsIn_wide.2 (swapper_calls n seed x _ (by omega) hs (by omega) ?hG))).mono ?_; (case hG => exact HGW.out.below (by repeat (first | exact HB.out | apply below_alloc | apply pw_below_drewN | apply below_drew1 | refine below_set ?_ (by first | omega | (simp; omega))))); rintro e w2 ⟨fv, rfl, ⟨b1, b2, b3, b4, rfl, h1, h2, h3, h4, hlo⟩, hb_⟩; have HF := Aside0.mk (And.intro h1 (And.intro h2 (And.intro h3 h4))); clear h1 h2 h3 h4; have Y6 : Box _ (w.heap.size + 1 + 1) _ _ := Box.below (by repeat (with_reducible first | exact X6.out | apply Box.drew | apply Box.drewN | apply Box.alloc)) hb_; clear X6 r6 f6 k6; have X6 := Aside0.mk Y6; have r6 := Y6.cell; have f6 := Y6.frozen; have k6 := Y6.lt; clear Y6; have n_ := Aside0.mk (below_step (by repeat (first | exact HB.out | apply below_alloc | apply pw_below_drewN | apply below_drew1 | refine below_set ?_ (by first | omega | (simp; omega)))) hb_); clear HB hb_; have HB := n_; clear n_)
      | ((try (refine ⟨trivial, ?_⟩)); gi_at_call 64; refine (CallsIn.inRound l (callsIn_wide.2 (swap1_calls n seed x cur _ _ _ _ _ HF.out.1 HF.out.2.1 HF.out.2.2.1 HF.out.2.2.2 hn hr hs hx0 ?hG))).mono ?_; (case hG => exact HGW.out.below (by repeat (first | exact HB.out | apply below_alloc | apply pw_below_drewN | apply below_drew1 | refine below_set ?_ (by first | omega | (simp; omega))))); rintro e w3 ⟨rfl, hb_⟩; have Y6 : Box _ (w.heap.size + 1 + 1) _ _ := Box.below (by repeat (with_reducible first | exact X6.out | apply Box.drew | apply Box.drewN | apply Box.alloc)) hb_; clear X6 r6 f6 k6; have X6 := Aside0.mk Y6; have r6 := Y6.cell; have f6 := Y6.frozen; have k6 := Y6.lt; clear Y6; have n_ := Aside0.mk (below_step (by repeat (first | exact HB.out | apply below_alloc | apply pw_below_drewN | apply below_drew1 | refine below_set ?_ (by first | omega | (simp; omega)))) hb_); clear HB hb_; have HB := n_; clear n_))
    all_goals gi_wp2
    all_goals (try go_bits)
    all_goals exact ⟨(keeps_below HB.out).trans (KeepsOthers.setCell _ _ _), (HB.out.mono hwz).setCell (p := ⟨w.heap.size + 1 + 1, 0, none⟩) (show w.heap.size ≤ w.heap.size + 1 + 1 by omega) _, ⟨by rw [HSN.out]; exact Box.set X6.out, Box.other (HL.out.1.below HB.out) (by omega), Box.other (HL.out.2.1.below HB.out) (by omega)⟩, below_set (below_step HL.out.2.2 HB.out) (by omega)⟩
  case done =>
    rintro D ys W hD rfl ⟨⟨b6, b4, b5⟩, hbl⟩ hK
    have r6 := b6.cell
    gi_wp2
    refine ⟨by simp, .inl ⟨_, _, rfl, run_takeDeferred hK, ?_⟩⟩
    exact ⟨_, results_tmp rfl _ _ _, rfl, hbl.trans (belowK_b (w := w) (Nat.le_refl _) W D _ _ (by simp at hD; omega) hK rfl rfl)⟩
  case stop =>
    rintro D c pre W _ _ h _
    exact h.elim

theorem by_forth (n seed i : Int) (m : Nat) (hm : m ≤ 90) (Bs : Nat) (w : World) (hB : Box w Bs #[.int .i64 m] 3) (hn : 1 ≤ n ∧ n ≤ 65536) (hi : 0 ≤ i ∧ i < n) (hs : 0 ≤ seed) (hG : ChurnLaid w) :
    Calls Tryd.prog 53 #[.int .i64 n, .int .u64 seed, .int .i64 i, .func (.func 62) #[] #[.pointer (some ⟨Bs, 0, none⟩)]] w fun e w' => e = .returned (.int .i64 (placeF n seed m i)) ∧ Below w.heap.size w w' :=
  by_calls n seed i (upF m) _ _ m w hn hi hs hG (enters_of Tryd.func62 (by kernel_rfl) rfl) (fun w1 h1 => forth_stops Fence.wide 2 trivial rfl (by decide) Bs m hm (Below w.heap.size) w1 (Nat.lt_of_lt_of_le hB.lt h1.size) ((hB.below h1).cell 0))
theorem by_back (n seed i : Int) (m : Nat) (hm : m ≤ 90) (Bs : Nat) (w : World) (hB : Box w Bs #[.int .i64 m] 3) (hn : 1 ≤ n ∧ n ≤ 65536) (hi : 0 ≤ i ∧ i < n) (hs : 0 ≤ seed) (hG : ChurnLaid w) :
    Calls Tryd.prog 53 #[.int .i64 n, .int .u64 seed, .int .i64 i, .func (.func 68) #[] #[.pointer (some ⟨Bs, 0, none⟩)]] w fun e w' => e = .returned (.int .i64 (backF9 n seed m i)) ∧ Below w.heap.size w w' :=
  by_calls n seed i (downF m) _ _ m w hn hi hs hG (enters_of Tryd.func68 (by kernel_rfl) rfl) (fun w1 h1 => back_stops Fence.wide 2 trivial rfl (by decide) Bs w.heap.size m hm w1 (Nat.lt_of_lt_of_le hB.lt h1.size) hB.lt ((hB.below h1).cell 0))

set_option maxHeartbeats 1000000 in
theorem Place_yes (n seed i : Int) (m : Nat) (w : World) (h : mayB n m i = true) (hs : 0 ≤ seed) (hG : ChurnLaid w) : Calls Tryd.prog 30 #[.int .i64 n, .int .i64 m, .int .u64 seed, .int .i64 i] w fun e w' =>
    e = .returned (.tuple #[.int .i64 (placeF n seed m i), .int .i64 0]) ∧ Below w.heap.size w w' := by
  have HB := Aside0.mk (Below.refl w.heap.size w)
  have HG := Aside0.mk hG
  clear hG
  obtain ⟨hn, hm, hi⟩ := (may_iff n m i).1 h
  go_enter Tryd.func30, Tryd.ntmps30
  go_wp2_with fail
  refine (fits9_calls n m i _).mono ?_
  rintro e w1 ⟨rfl, hb_⟩
  have n_ := Aside0.mk (below_step (by repeat (first | exact HB.out | apply below_alloc | apply pw_below_drewN | apply below_drew1 | refine below_set ?_ (by first | omega | (simp; omega)))) hb_); clear HB hb_; have HB := n_; clear n_
  go_wp2_with (first
    | (go_at_call 49; ((with_reducible refine (forth_calls m _).mono ?_)); rintro e w2 ⟨rfl, hx, hb_⟩; have HX := Aside0.mk hx; clear hx; have n_ := Aside0.mk (below_step (by repeat (first | exact HB.out | apply below_alloc | apply pw_below_drewN | apply below_drew1 | refine below_set ?_ (by first | omega | (simp; omega)))) hb_); clear HB hb_; have HB := n_; clear n_)
    | (go_at_call 53; ((with_reducible refine (by_forth n seed i m (by omega) _ _ HX.out hn hi hs ?hG).mono ?_)); (case hG => exact HG.out.below (by repeat (first | exact HB.out | apply below_alloc | apply pw_below_drewN | apply below_drew1 | refine below_set ?_ (by first | omega | (simp; omega))))); rintro e w3 ⟨rfl, hb_⟩; have n_ := Aside0.mk (below_step (by repeat (first | exact HB.out | apply below_alloc | apply pw_below_drewN | apply below_drew1 | refine below_set ?_ (by first | omega | (simp; omega)))) hb_); clear HB hb_; have HB := n_; clear n_))
  go_ret2
  exact ⟨rfl, HB.out⟩
set_option maxHeartbeats 1000000 in
theorem Back_yes (n seed i : Int) (m : Nat) (w : World) (h : mayB n m i = true) (hs : 0 ≤ seed) (hG : ChurnLaid w) : Calls Tryd.prog 38 #[.int .i64 n, .int .i64 m, .int .u64 seed, .int .i64 i] w fun e w' =>
    e = .returned (.tuple #[.int .i64 (backF9 n seed m i), .int .i64 0]) ∧ Below w.heap.size w w' := by
  have HB := Aside0.mk (Below.refl w.heap.size w)
  have HG := Aside0.mk hG
  clear hG
  obtain ⟨hn, hm, hi⟩ := (may_iff n m i).1 h
  go_enter Tryd.func38, Tryd.ntmps38
  go_wp2_with fail
  refine (fits9_calls n m i _).mono ?_
  rintro e w1 ⟨rfl, hb_⟩
  have n_ := Aside0.mk (below_step (by repeat (first | exact HB.out | apply below_alloc | apply pw_below_drewN | apply below_drew1 | refine below_set ?_ (by first | omega | (simp; omega)))) hb_); clear HB hb_; have HB := n_; clear n_
  go_wp2_with (first
    | (go_at_call 58; ((with_reducible refine (back_calls9 m _).mono ?_)); rintro e w2 ⟨rfl, hx, hb_⟩; have HX := Aside0.mk hx; clear hx; have n_ := Aside0.mk (below_step (by repeat (first | exact HB.out | apply below_alloc | apply pw_below_drewN | apply below_drew1 | refine below_set ?_ (by first | omega | (simp; omega)))) hb_); clear HB hb_; have HB := n_; clear n_)
    | (go_at_call 53; ((with_reducible refine (by_back n seed i m (by omega) _ _ HX.out hn hi hs ?hG).mono ?_)); (case hG => exact HG.out.below (by repeat (first | exact HB.out | apply below_alloc | apply pw_below_drewN | apply below_drew1 | refine below_set ?_ (by first | omega | (simp; omega))))); rintro e w3 ⟨rfl, hb_⟩; have n_ := Aside0.mk (below_step (by repeat (first | exact HB.out | apply below_alloc | apply pw_below_drewN | apply below_drew1 | refine below_set ?_ (by first | omega | (simp; omega)))) hb_); clear HB hb_; have HB := n_; clear n_))
  go_ret2
  exact ⟨rfl, HB.out⟩
theorem Place_no (n m seed i : Int) (w : World) (h : mayB n m i = false) : Calls Tryd.prog 30 #[.int .i64 n, .int .i64 m, .int .u64 seed, .int .i64 i] w fun e w' =>
    e = .returned (.tuple #[.int .i64 0, .int .i64 1]) ∧ Below w.heap.size w w' := by
  have HB := Aside0.mk (Below.refl w.heap.size w)
  go_enter Tryd.func30, Tryd.ntmps30
  go_wp2_with fail
  refine (fits9_calls n m i _).mono ?_
  rintro e w1 ⟨rfl, hb_⟩
  have n_ := Aside0.mk (below_step (by repeat (first | exact HB.out | apply below_alloc | apply pw_below_drewN | apply below_drew1 | refine below_set ?_ (by first | omega | (simp; omega)))) hb_); clear HB hb_; have HB := n_; clear n_
  go_wp2
  go_ret2
  exact ⟨rfl, HB.out⟩
theorem Back_no (n m seed i : Int) (w : World) (h : mayB n m i = false) : Calls Tryd.prog 38 #[.int .i64 n, .int .i64 m, .int .u64 seed, .int .i64 i] w fun e w' =>
    e = .returned (.tuple #[.int .i64 0, .int .i64 1]) ∧ Below w.heap.size w w' := by
  have HB := Aside0.mk (Below.refl w.heap.size w)
  go_enter Tryd.func38, Tryd.ntmps38
  go_wp2_with fail
  refine (fits9_calls n m i _).mono ?_
  rintro e w1 ⟨rfl, hb_⟩
  have n_ := Aside0.mk (below_step (by repeat (first | exact HB.out | apply below_alloc | apply pw_below_drewN | apply below_drew1 | refine below_set ?_ (by first | omega | (simp; omega)))) hb_); clear HB hb_; have HB := n_; clear n_
  go_wp2
  go_ret2
  exact ⟨rfl, HB.out⟩
end Go.Proofs.YtdepmbnoecpccaaDoor
