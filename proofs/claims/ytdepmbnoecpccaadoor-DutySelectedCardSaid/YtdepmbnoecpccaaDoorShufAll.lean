
/- All of a shuffle (chapter 9). -/
import Derived.Test.YtdepmbnoecpccaaDoorShufBy
set_option linter.unusedVariables false
set_option linter.unusedSimpArgs false
namespace Go.Proofs.YtdepmbnoecpccaaDoor
open Go.RowKit Go.Proofs.YtdepmbnoecpccaaDoorW.PrintWords Go.Proofs.YtdepmbnoecpccaaDoorW.PrintLast Go.Proofs.YtdepmbnoecpccaaDoorW.PrintMore
open Go.Shelf
attribute [local go_sem] Oper.semAt_some

theorem info_int : (Tryd.prog.info? 3).map (fun i => (i.zero, i.size, i.bytes)) = some (some (.int .i64 0), 1, 8) := by kernel_rfl

/-- A row that is being made of another one. -/
def stepRow (f g : Nat → Int) (N k : Nat) : List Int := (List.range N).map fun j => if j < k then g j else f j
theorem stepRow_len (f g : Nat → Int) (N k : Nat) : (stepRow f g N k).length = N := by simp [stepRow]
theorem stepRow_zero (f g : Nat → Int) (N : Nat) : stepRow f g N 0 = (List.range N).map f := by simp [stepRow]
theorem stepRow_all (f g : Nat → Int) (N : Nat) : stepRow f g N N = (List.range N).map g := by
  unfold stepRow
  apply List.map_congr_left
  intro i hi
  rw [if_pos (List.mem_range.1 hi)]
theorem stepRow_set (f g : Nat → Int) (N k : Nat) : (stepRow f g N k).set k (g k) = stepRow f g N (k + 1) := by
  apply List.ext_getElem (by simp [stepRow])
  intro i h1 h2
  rw [List.getElem_set]
  by_cases e : k = i
  · subst e; simp [stepRow]
  · rw [if_neg e]
    simp only [stepRow, List.getElem_map, List.getElem_range]
    by_cases hi : i < k
    · rw [if_pos hi, if_pos (by omega)]
    · rw [if_neg hi, if_neg (by omega)]
theorem stepRow_at (f g : Nat → Int) (N k : Nat) (h : k < N) : (stepRow f g N k).getD k 0 = f k := by
  simp [stepRow, List.getD_eq_getElem?_getD, h]
def allF (N : Nat) (seed : Int) (m : Nat) : List Int := (List.range N).map fun (j : Nat) => placeF N seed m j

set_option maxRecDepth 100000 in
set_option maxHeartbeats 4000000 in
theorem All_yes (N : Nat) (seed : Int) (m : Nat) (w : World) (hN : 1 ≤ N ∧ N ≤ 65536) (hm : m ≤ 90) (hs : 0 ≤ seed) (hG : ChurnLaid w) :
    Calls Tryd.prog 24 #[.int .i64 N, .int .i64 m, .int .u64 seed] w fun e w' => ∃ (g cap : Nat), e = .returned (.tuple #[.slice (some ⟨g, 0, none⟩) N cap, .int .i64 0]) ∧ (Kd.int .i64).R 3 w' w.heap.size (fun _ => True) (.slice (some ⟨g, 0, none⟩) N cap) (allF N seed m) ∧ Below w.heap.size w w' := by
  have HG := Aside0.mk hG
  clear hG
  have hmay : mayB N m 0 = true := (may_iff _ _ _).2 (by omega)
  have HB := Aside0.mk (Below.refl w.heap.size w)
  refine (callsIn_wide (n := 3)).1 ?_
  refine callsIn_of_wp_marks Tryd.func24 rfl trivial ?_ rfl
  simp only [Tryd.ntmps24, List.size_toArray, List.length_cons, List.length_nil, Nat.reduceAdd, Nat.reduceSub, Array.replicate_succ, Array.replicate_zero, List.push_toArray, List.append_toArray, List.nil_append, List.cons_append]
  refine (wpIn_wide (n := 3)).2 ?_
  go_wp2_with fail
  refine (fits9_calls N m 0 _).mono ?_
  rintro e w1 ⟨rfl, hb_⟩
  have Y3 : Box w1 (w.heap.size) _ _ := Box.below (by repeat (with_reducible first | exact X3.out | exact Box.new | exact Box.new1 | exact Box.new2 | exact Box.new3 | apply Box.alloc | apply Box.drew | apply Box.drewN | apply Box.set)) hb_
  (try clear X3 r3 k3 f3); have X3 := Aside0.mk Y3; have r3 := Y3.cell; have f3 := Y3.frozen; have k3 := Y3.lt; clear Y3
  have Y5 : Box w1 (w.heap.size + 1) _ _ := Box.below (by repeat (with_reducible first | exact X5.out | exact Box.new | exact Box.new1 | exact Box.new2 | exact Box.new3 | apply Box.alloc | apply Box.drew | apply Box.drewN | apply Box.set)) hb_
  (try clear X5 r5 k5 f5); have X5 := Aside0.mk Y5; have r5 := Y5.cell; have f5 := Y5.frozen; have k5 := Y5.lt; clear Y5
  have n_ := Aside0.mk (below_step (by repeat (first | exact HB.out | apply below_alloc | apply pw_below_drewN | apply below_drew1 | refine below_set ?_ (by first | omega | (simp; omega)))) hb_); clear HB hb_; have HB := n_; clear n_
  rw [hmay]
  go_wp2_with (first | ((with_reducible refine gate_dst (N := 19) rfl ?_); refine Kd.R_make (Kd.int .i64) (w0 := w) w.heap.size 3 rfl (N := 19) rfl 29 _ _ rfl ((N : Int)) rfl rfl Tryd.underlying29 (.int .i64 0) 8 info_int rfl (by decide) (by omega) 0 (ok := fun _ => True) (okp := fun _ => True) rfl (fun _ hk => hk) trivial (by omega) ?hl (?hB) (?hz) ?_; (case hl => omega); (case hB => exact (by repeat (first | exact HB.out | apply below_alloc | apply pw_below_drewN | apply below_drew1 | refine below_set ?_ (by first | omega | (simp; omega))))); (case hz => exact below_size (by repeat (first | exact HB.out | apply below_alloc | apply pw_below_drewN | apply below_drew1 | refine below_set ?_ (by first | omega | (simp; omega))))); intro v1 w2 hR hb_ hg_ hnew_; clear HB; have HB := Aside0.mk hb_; clear hb_; rw [Int.toNat_natCast] at hR; obtain ⟨g, cap, rfl, hgb, hgl, -⟩ := Kd.R_form hR (by rw [List.length_replicate]; omega); rw [List.length_replicate] at hR; simp only [List.length_replicate]; have HR := Aside0.mk hR; clear hR))
  have hgw : w1.heap.size ≤ g := by
    obtain ⟨b, hb1, hb2⟩ := hnew_
    simp [Value.ownBlock] at hb1
    omega
  have b3 : Box w2 w.heap.size #[.int .i64 N] 3 := (hg_.block _ X3.out.lt (by simp)).trans X3.out
  have b5 : Box w2 (w.heap.size + 1) #[.int .u64 seed] 22 := (hg_.block _ X5.out.lt (by simp)).trans X5.out
  clear hnew_ hg_ X3 r3 f3 X5 r5 f5
  have hz2 := HB.out.size
  have e0 : stepRow (fun _ => 0) (fun (j : Nat) => (j : Int)) N 0 = List.replicate N 0 := by
    rw [stepRow_zero]
    apply List.ext_getElem (by simp)
    intro i h1 h2
    simp
  go_loopw [22] (fun i wx => ∃ k : Nat, k ≤ N ∧ i = .int .i64 k ∧ (Kd.int .i64).R 3 wx w.heap.size (fun _ => True) (.slice (some ⟨g, 0, none⟩) N cap) (stepRow (fun _ => 0) (fun (j : Nat) => (j : Int)) N k) ∧ Box wx w2.heap.size #[.slice (some ⟨g, 0, none⟩) N cap] 29 ∧ Box wx w.heap.size #[.int .i64 N] 3 ∧ Box wx (w.heap.size + 1) #[.int .u64 seed] 22 ∧ Below w.heap.size w wx) (fun i _ => N - (intOf i).toNat)
  case atStart =>
    exact ⟨0, by omega, rfl, by rw [e0]; exact Kd.R_alloc HR.out _, Box.new, Box.alloc b3, Box.alloc b5, below_alloc HB.out _⟩
  case round =>
    clear HR HB b3 b5 e0
    obtain ⟨k, hk, rfl, hR, b8, b3, b5, hbl⟩ := hrel
    have r8 := b8.cell
    have f8 := b8.frozen
    have k8 := b8.lt
    by_cases hlt : k < N
    · have hc := (Kd.R_celln 0 hR (k : Int) (by omega) (by omega))
      obtain ⟨hx1, hx2⟩ := hc
      have hs2 := (Kd.R_putg hR (k : Int) (k : Int)).1
      simp only [Int.toNat_natCast] at hx1 hx2 hs2
      have e1 := stepRow_set (fun _ => 0) (fun (j : Nat) => (j : Int)) N k
      (try simp only at e1)
      rw [e1] at hs2
      have HR := Aside0.mk hs2
      have HL := Aside0.mk (And.intro b8 (And.intro b3 (And.intro b5 hbl)))
      clear hR hs2 b8 b3 b5 hbl e1
      go_wp2
      go_roundw
      case rel => exact ⟨k + 1, by omega, by go_num, HR.out, Box.other HL.out.1 (by omega), Box.other HL.out.2.1 (by omega), Box.other HL.out.2.2.1 (by omega), below_set HL.out.2.2.2 (by omega)⟩
      case measure => simp [intOf]; omega
    · obtain rfl : N = k := by omega
      rw [stepRow_all] at hR
      have HR := Aside0.mk hR
      have HB := Aside0.mk hbl
      have X8 := Aside0.mk b8
      have X3 := Aside0.mk b3
      have r3 := b3.cell
      have X5 := Aside0.mk b5
      have r5 := b5.cell
      clear hR hbl b8 b3 b5
      go_wp2_with (go_at_call 49; ((with_reducible refine (forth_calls m _).mono ?_)); rintro e w3 ⟨rfl, hx, hb_⟩; have HX := Aside0.mk hx; have Y8 := X8.out.below hb_; have Y3 := X3.out.below hb_; have Y5 := X5.out.below hb_; have YR := Kd.R_below HR.out hb_; clear X8 r8 f8 k8 X3 r3 X5 r5 HR; have X8 := Aside0.mk Y8; have r8 := Y8.cell; have k8 := Y8.lt; have X3 := Aside0.mk Y3; have r3 := Y3.cell; have X5 := Aside0.mk Y5; have r5 := Y5.cell; have HR := Aside0.mk YR; clear Y8 Y3 Y5 YR hx; have n_ := Aside0.mk (below_step (by repeat (first | exact HB.out | apply below_alloc | apply pw_below_drewN | apply below_drew1 | refine below_set ?_ (by first | omega | (simp; omega)))) hb_); clear HB hb_; have HB := n_; clear n_)
      refine (wpIn_wide (n := 3)).1 ?_
      refine wpIn_rangeFunc_ownF rfl (by decide) (gf := 62) (lb := #[.pointer (some ⟨wr.heap.size, 0, none⟩)]) rfl trivial (enters_of Tryd.func62 (by kernel_rfl) rfl)
        (forth_stops Fence.wide 2 trivial rfl (by decide) wr.heap.size m hm (fun _ _ => True) w3 HX.out.lt (HX.out.cell 0)) (fun _ _ => trivial) (fun _ _ _ _ _ _ _ _ => trivial) (Below.refl _ _) (fun _ => rfl)
        (fun pre W => ((Kd.int .i64).R 3 W w.heap.size (fun _ => True) (.slice (some ⟨g, 0, none⟩) N cap) ((List.range N).map fun (j : Nat) => runF N seed (vals pre) j) ∧ Box W w2.heap.size #[.slice (some ⟨g, 0, none⟩) N cap] 29 ∧ Box W w.heap.size #[.int .i64 N] 3 ∧ Box W (w.heap.size + 1) #[.int .u64 seed] 22) ∧ Below w.heap.size w W)
        (fun _ _ _ => False)
        (OwnFrom.and (Own.from (fun s A B row hs hg hr => ⟨row_kept hs.1 hg hr, hs.2.1.kept hg hr, hs.2.2.1.kept hg hr, hs.2.2.2.kept hg hr⟩) _) (ownFrom_below (Nat.le_refl _) HB.out.size))
        (fun _ _ _ _ _ hs _ _ => hs)
        ⟨⟨HR.out, X8.out, X3.out, X5.out⟩, HB.out⟩
        (fun x => { tmps := #[.int .i64 N, .int .i64 m, .int .u64 seed, .pointer (some ⟨w.heap.size, 0, none⟩), undef, .pointer (some ⟨w.heap.size + 1, 0, none⟩), .slice none 0 0, .int .i64 0, .pointer (some ⟨w2.heap.size, 0, none⟩), u9, .int .i64 x.1, undef, undef, undef, .int .i64 N, .int .i64 m, .bool true, .bool false, .int .i64 N, .slice (some ⟨g, 0, none⟩) N cap, .slice (some ⟨g, 0, none⟩) N cap, .int .i64 N, .int .i64 N, .bool false, u24, u25, u26, u27, u28, u29, .int .i64 m, .func (.func 62) #[] #[.pointer (some ⟨wr.heap.size, 0, none⟩)], .int .i64 x.1, undef, undef, undef, undef, undef, undef, undef, undef, undef, undef, undef, undef, undef, undef, undef, undef, undef, undef, undef], defers := [] }) ?assign ?body ?done ?stop
      case assign =>
        intro l x W K hK
        gi_wp2
        exact hK
      case body =>
        rintro l pre ⟨x, hx0, hx1⟩ W ⟨⟨hR, b8, b3, b5⟩, hbl⟩ _
        dsimp only
        have hsn : ∀ j, runF N seed (vals (pre ++ [⟨x, hx0, hx1⟩])) j = swapF N seed x (runF N seed (vals pre) j) := fun j => by rw [vals_snoc, run_snoc]
        have HSN := Aside0.mk hsn
        have hcur : ∀ j : Nat, j < N → 0 ≤ runF N seed (vals pre) j ∧ runF N seed (vals pre) j < N := fun j hj => run_bd N seed (vals pre) j ⟨by omega, by omega⟩
        have HC := Aside0.mk hcur
        clear hsn hcur X8 r8 k8 X3 r3 X5 r5 HR HX
        generalize hcur : (fun (j : Nat) => runF N seed (vals pre) j) = cur at *
        have hcur2 : ∀ j : Nat, runF N seed (vals pre) j = cur j := fun j => by rw [← hcur]
        have HD := Aside0.mk hcur2
        clear hcur hcur2
        have HR := Aside0.mk hR
        have HG2 := Aside0.mk (HG.out.below hbl)
        have HB := Aside0.mk (Below.refl W.heap.size W)
        have HL := Aside0.mk hbl
        have r8 := b8.cell
        have k8 := b8.lt
        have X8 := Aside0.mk b8
        have r3 := b3.cell
        have X3 := Aside0.mk b3
        have r5 := b5.cell
        have X5 := Aside0.mk b5
        have hwz := hbl.size
        have hgW : g < W.heap.size := by omega
        clear hR b8 b3 b5 hbl
        have hmix : Tryd.prog.follows .mixedOrders = true := by kernel_rfl
        gi_wp2_with (first
          | ((try (refine ⟨trivial, ?_⟩)); gi_at_call 50; refine (CallsIn.inRound l (callsIn_wide.2 (swapper_calls N seed x _ (by omega) hs (by omega) ?hG))).mono ?_; (case hG => exact HG2.out.below (by repeat (first | exact HB.out | apply below_alloc | apply pw_below_drewN | apply below_drew1 | refine below_set ?_ (by first | omega | (simp; omega))))); rintro e w4 ⟨fv, rfl, ⟨b1, b2, b3, b4, rfl, h1, h2, h3, h4, hlo⟩, hb_⟩; have HF := Aside0.mk (And.intro h1 (And.intro h2 (And.intro h3 h4))); clear h1 h2 h3 h4; have Y8 := X8.out.below hb_; clear X8 r8 k8; have X8 := Aside0.mk Y8; have r8 := Y8.cell; have k8 := Y8.lt; clear Y8; have n_ := Aside0.mk (below_step HB.out hb_); clear HB hb_; have HB := n_; clear n_))
        have h4s := HB.out.size
        gi_loopw [39] (fun i wx => ∃ k : Nat, k ≤ N ∧ i = .int .i64 k ∧ (Kd.int .i64).R 3 wx w.heap.size (fun _ => True) (.slice (some ⟨g, 0, none⟩) N cap) (stepRow cur (fun (j : Nat) => swapF N seed x (cur j)) N k) ∧ Box wx w2.heap.size #[.slice (some ⟨g, 0, none⟩) N cap] 29 ∧
          Box wx b1 #[.int .i64 (drawF N [seed, x])] 3 ∧ Box wx b2 #[.int .i64 N] 3 ∧ Box wx b3 #[.int .u64 seed] 22 ∧ Box wx b4 #[.int .u64 x] 22 ∧ Box wx w.heap.size #[.int .i64 N] 3 ∧ Box wx (w.heap.size + 1) #[.int .u64 seed] 22 ∧ Below w.heap.size w wx ∧ KeepsOthers W wx) (fun i _ => N - (intOf i).toNat)
        case atStart =>
          exact ⟨0, by omega, rfl, by rw [stepRow_zero]; exact Kd.R_below HR.out HB.out, X8.out, HF.out.1, HF.out.2.1, HF.out.2.2.1, HF.out.2.2.2, X3.out.below HB.out, X5.out.below HB.out, below_step HL.out HB.out, keeps_below HB.out⟩
        case round =>
          clear HB X8 r8 k8 X3 r3 X5 r5 HR HF
          obtain ⟨k, hk, rfl, hR, c8, c1, c2, c3, c4, d3, d5, hbl, hko⟩ := hrel
          by_cases hlt : k < N
          · obtain ⟨hx1, hx2⟩ := (Kd.R_celln 0 hR (k : Int) (by omega) (by omega))
            have hrd : rdOf (0 : Int) (stepRow cur (fun (j : Nat) => swapF N seed x (cur j)) N k) (k : Int) = cur k := by
              unfold rdOf
              rw [Int.toNat_natCast]
              exact stepRow_at _ _ N k hlt
            rw [hrd] at hx1
            simp only [Int.toNat_natCast] at hx1 hx2
            have hcb := HC.out k hlt
            rw [HD.out] at hcb
            have r8 := c8.cell
            have hgx := cell_lt hx1
            have HR := Aside0.mk hR
            have X8 := Aside0.mk c8
            have HF := Aside0.mk (And.intro c1 (And.intro c2 (And.intro c3 c4)))
            have HQ := Aside0.mk (And.intro d3 (And.intro d5 (And.intro hbl hko)))
            have HB := Aside0.mk (Below.refl wr.heap.size wr)
            have HG3 := Aside0.mk (HG.out.below hbl)
            clear hR c8 c1 c2 c3 c4 d3 d5 hbl hko hrd
            generalize hcc : cur k = c at hx1 hcb
            have HCC := Aside0.mk hcc
            clear hcc
            gi_wp2
            gi_region_with_o ((try (refine ⟨trivial, ?_⟩)); gi_at_call 64; refine (CallsIn.inRound l (callsIn_wide.2 (swap1_calls N seed x c b1 b2 b3 b4 _ (Box.drew HF.out.1) (Box.drew HF.out.2.1) (Box.drew HF.out.2.2.1) (Box.drew HF.out.2.2.2) (by omega) hcb hs hx0 ?hG))).mono ?_; (case hG => exact HG3.out.below (by repeat (first | exact HB.out | apply below_alloc | apply pw_below_drewN | apply below_drew1 | refine below_set ?_ (by first | omega | (simp; omega))))); rintro e w5 ⟨rfl, hb_⟩; have Y8 : Box w5 w2.heap.size _ _ := Box.below (by repeat (with_reducible first | exact X8.out | apply Box.drew | apply Box.drewN | apply Box.alloc)) hb_; clear r8; have Y8 := Aside0.mk Y8; have r8 := Y8.out.cell; replace hx1 := (hb_.cell (p := ⟨g, k, none⟩) hgx).trans hx1; replace hx2 := (hb_.frozen (p := ⟨g, k, none⟩) hgx).trans hx2; have n_ := Aside0.mk (below_step (by repeat (first | exact HB.out | apply below_alloc | apply pw_below_drewN | apply below_drew1 | refine below_set ?_ (by first | omega | (simp; omega)))) hb_); clear HB hb_; have HB := n_; clear n_)
            all_goals gi_wp2
            all_goals (try go_bits)
            all_goals
              have hs2 := (Kd.R_putg (Kd.R_below HR.out HB.out) (k : Int) (swapF N seed x (cur k))).1
              have e1 := stepRow_set cur (fun (j : Nat) => swapF N seed x (cur j)) N k
              (try simp only at e1)
              rw [Int.toNat_natCast, e1, HCC.out] at hs2
              exact ⟨⟨k + 1, by omega, by go_num, hs2, Box.other Y8.out (by omega), Box.other (HF.out.1.below HB.out) (by omega), Box.other (HF.out.2.1.below HB.out) (by omega), Box.other (HF.out.2.2.1.below HB.out) (by omega), Box.other (HF.out.2.2.2.below HB.out) (by omega), Box.other (HQ.out.1.below HB.out) (by omega), Box.other (HQ.out.2.1.below HB.out) (by omega), below_set (below_step HQ.out.2.2.1 HB.out) (by omega), HQ.out.2.2.2.trans ((keeps_below HB.out).trans (KeepsOthers.setCell _ _ _))⟩, by simp [intOf]; omega⟩
          · obtain rfl : N = k := by omega
            have er : ((List.range N).map fun (j : Nat) => runF N seed (vals (pre ++ [⟨x, hx0, hx1⟩])) j) = stepRow cur (fun (j : Nat) => swapF N seed x (cur j)) N N := by
              rw [stepRow_all]
              congr 1
              funext j
              rw [HSN.out, HD.out]
            gi_wp2
            exact ⟨hko, trivial, ⟨by rw [er]; exact hR, c8, d3, d5⟩, hbl⟩
      case done =>
        rintro D ys W hD hys ⟨⟨hR, b8, b3, b5⟩, hbl⟩ hK
        rw [hys] at hR
        have r8 := b8.cell
        go_wp2
        refine ⟨by simp, .inl ⟨_, _, rfl, run_takeDeferred hK, ?_⟩⟩
        refine ⟨.tuple #[.slice (some ⟨g, 0, none⟩) N cap, .int .i64 0], by simp [results, Tryd.results24, go_sem], g, cap, rfl, ?_, hbl.trans (belowK_b (w := w) (Nat.le_refl _) W D _ _ (Nat.le_trans HB.out.size hD) hK rfl rfl)⟩
        exact row_kept hR (grownBy_putObj' W D _) (fun r e => by cases e; exact ⟨_, hK, rfl⟩)
      case stop =>
        rintro D c pre W _ _ h _
        exact h.elim
end Go.Proofs.YtdepmbnoecpccaaDoor
