
/- DutyParts: for every input the call of the statement returns true and leaves its arguments as they were, over the program whose tables lie as its own text lays them (the tied card). Conditions: none beyond the card's own. -/
import Derived.Test.YtdepmbnoecpccaaDoorCards
import Derived.Test.YtdepmbnoecpccaaDoorTie
import Derived.Test.YtdepmbnoecpccaaDoorShellD
import Derived.Test.YtdepmbnoecpccaaDoorHadRow
set_option linter.unusedVariables false
set_option linter.unusedSimpArgs false
namespace Go.Proofs.YtdepmbnoecpccaaDoor
open Go.RowKit Go.Proofs.YtdepmbnoecpccaaDoorW.PrintWords Go.Proofs.YtdepmbnoecpccaaDoorW.PrintLast Go.Proofs.YtdepmbnoecpccaaDoorW.PrintMore
open Go.ChangeShapes Go.WideShapes Go.ChangeAt
open Go.ChangeMaps (open_string shut_string)
attribute [local go_sem] max2_int min2_int max_two min_two

set_option maxRecDepth 100000 in
set_option maxHeartbeats 8000000 in
theorem DutyParts_calls (n : Six) (seed p : Int) (hp : i64ok p) (hse : 0 ≤ seed) (w : World) (hG : DutyLaid w) : Calls Tryd.prog 5 #[.agg #[.int .i64 n.a, .int .i64 n.b, .int .i64 n.c, .int .i64 n.d, .int .i64 n.e, .int .i64 n.f], .int .u64 seed, .int .i64 p] w fun e w' =>
    e = .returned (.bool true) ∧ Below w.heap.size w w' := by
  obtain ⟨hp0, hp1⟩ := hp
  have HB := Aside0.mk (Below.refl w.heap.size w)
  have HG := Aside0.mk hG
  clear hG
  have HN := Aside0.mk (chainF_fits n seed)
  have hcse : 0 ≤ (chainF n seed).se := hse
  go_enter Tryd.func5, Tryd.ntmps5
  go_wp2_with fail
  refine (dawake_calls _ ?hG).mono ?_
  case hG => exact HG.out.below (by repeat (first | exact HB.out | apply below_alloc | apply pw_below_drewN | apply below_drew1 | refine below_set ?_ (by first | omega | (simp; omega))))
  rintro e w1 ⟨rfl, hb_⟩
  have YN : Box w1 (w.heap.size) _ _ := Box.below (by repeat (with_reducible first | exact XN.out | exact Box.new | exact Box.new1 | exact Box.new2 | exact Box.new3 | apply Box.alloc | apply Box.drew | apply Box.drewN | apply Box.set)) hb_
  (try clear XN rN kN fN); have XN := Aside0.mk YN; have rN := YN.cell; have fN := YN.frozen; have kN := YN.lt; clear YN
  have n_ := Aside0.mk (below_step (by repeat (first | exact HB.out | apply below_alloc | apply pw_below_drewN | apply below_drew1 | refine below_set ?_ (by first | omega | (simp; omega)))) hb_); clear HB hb_; have HB := n_; clear n_
  go_wp2_with fail
  refine (Chain_calls n seed _).mono ?_
  rintro e w2 ⟨rfl, hb_⟩
  have n_ := Aside0.mk (below_step (by repeat (first | exact HB.out | apply below_alloc | apply pw_below_drewN | apply below_drew1 | refine below_set ?_ (by first | omega | (simp; omega)))) hb_); clear HB hb_; have HB := n_; clear n_
  generalize chainF n seed = c at *
  have pe := pickF_bd p 1073741824 (by omega)
  obtain ⟨h1, h2, h3, h4, h5, h6, h7, h8, h9⟩ := (fitsC_iff c).1 HN.out
  obtain ⟨a1, a2, a3, a4⟩ := chain_A c HN.out
  go_upto_region 4 with (go_at_call 11; ((with_reducible refine (pick10_calls _ _ _ (by omega) (by omega) (by omega) (by omega)).mono ?_)); rintro e w_ ⟨rfl, rfl⟩)
  generalize pickF p 1073741824 = e at *
  clear hp0 hp1
  have gm := mul_bd pe.1 (show e ≤ 1073741823 by omega) (show 0 ≤ c.sl by omega) h2.2
  have z2 := HB.out.size
  go_wp2_with (first | ((with_reducible refine gate_dst (N := 27) rfl ?_); refine Kd.R_make (Kd.bool) (w0 := w) w.heap.size 4 rfl (N := 27) rfl 50 _ _ rfl (c.va) rfl rfl Tryd.underlying50 (.bool false) 1 info_bool rfl (by decide) (by omega) false (ok := fun _ => True) (okp := fun _ => True) rfl (fun _ hk => hk) trivial (by omega) ?hl (?hB) (?hz) ?_; (case hl => omega); (case hB => exact (by repeat (first | exact HB.out | apply below_alloc | apply pw_below_drewN | apply below_drew1 | refine below_set ?_ (by first | omega | (simp; omega))))); (case hz => exact below_size (by repeat (first | exact HB.out | apply below_alloc | apply pw_below_drewN | apply below_drew1 | refine below_set ?_ (by first | omega | (simp; omega))))); intro v1 w4 hR hb_ hg_ hnew_; clear HB; have HB := Aside0.mk hb_; clear hb_; obtain ⟨gh, cap, rfl, hgb, hgl, -⟩ := Kd.R_form hR (by rw [List.length_replicate]; omega); rw [List.length_replicate] at hR; simp only [List.length_replicate]; have HR := Aside0.mk hR; clear hR; have bC : Box w4 w2.heap.size #[.int .i64 c.va, .int .i64 c.sl, .int .i64 c.co, .int .i64 c.su, .int .i64 c.ti, .int .i64 c.di, .int .i64 c.ra, .int .i64 c.ro, .int .i64 c.ag, .int .u64 c.se] 24 := (hg_.block _ Box.new.lt (by simp)).trans Box.new; have rC := bC.cell; have kC := bC.lt))
  have hgw : w2.heap.size + 1 ≤ gh := by
    obtain ⟨b, hb1, hb2⟩ := hnew_
    simp [Value.ownBlock] at hb1 hb2
    omega
  clear hg_ hnew_
  have q0 := Int.ediv_nonneg (show 0 ≤ c.va by omega) (show 0 ≤ c.sl * c.co by omega)
  have q1 := Int.ediv_le_self (c.sl * c.co) (show 0 ≤ c.va by omega)
  have hcv : ((c.va.toNat : Nat) : Int) = c.va := by omega
  have e0 : fromK c (0 * c.co) = 0 := by rw [Int.zero_mul]; exact from_zero _ _
  go_loopw [11, 12, 13, 14] (fun av lv mv sv wx => ∃ s l m : Int, 0 ≤ s ∧ s ≤ c.sl ∧ sv = .int .i64 s ∧ av = .int .i64 (fromK c (s * c.co)) ∧ lv = .int .i64 l ∧ mv = .int .i64 m ∧ (c.va / (c.sl * c.co) ≤ l ∧ l ≤ c.va) ∧ (0 ≤ m ∧ m ≤ c.va / (c.sl * c.co) + 1) ∧ Kd.bool.R 4 wx w.heap.size (fun _ => True) (.slice (some ⟨gh, 0, none⟩) c.va.toNat cap) (hadRow c.va.toNat (fun (j : Nat) => placeF c.va (seedF c e) c.ro.toNat j) (fromK c (s * c.co)).toNat) ∧ Box wx w2.heap.size #[.int .i64 c.va, .int .i64 c.sl, .int .i64 c.co, .int .i64 c.su, .int .i64 c.ti, .int .i64 c.di, .int .i64 c.ra, .int .i64 c.ro, .int .i64 c.ag, .int .u64 c.se] 24 ∧ Below w.heap.size w wx) (fun _ _ _ sv _ => (c.sl - intOf sv).toNat)
  case atStart => exact ⟨0, c.va, 0, by omega, by omega, rfl, by rw [e0], rfl, rfl, ⟨q1, Int.le_refl _⟩, by omega, by rw [e0, show (0 : Int).toNat = 0 from rfl, hadRow_zero]; exact HR.out, bC, HB.out⟩
  case round =>
    clear HB HR bC rC kC e0
    obtain ⟨s, l, m, hs0, hs1, rfl, rfl, rfl, rfl, hl, hm, hR, bC, hbl⟩ := hrel
    have HR := Aside0.mk hR
    have HB := Aside0.mk hbl
    clear hR hbl
    have XC := Aside0.mk bC; have rC := bC.cell; have fC := bC.frozen; have kC := bC.lt; clear bC
    rcases Int.lt_or_le s c.sl with hs | hs
    · have gs := mul_bd hs0 (show s ≤ c.sl - 1 by omega) (show 0 ≤ c.co by omega) (Int.le_refl c.co)
      rw [Int.sub_mul, Int.one_mul] at gs
      have HS := Aside0.mk (show (s + 1) * c.co = s * c.co + c.co by rw [Int.add_mul, Int.one_mul])
      generalize hX : s * c.co = X at *
      have HX := Aside0.mk hX
      clear hX
      go_wp2
      go_loopw [11, 12, 13, 15] (fun av lv mv iv wx => ∃ i l m : Int, 0 ≤ i ∧ i ≤ c.co ∧ iv = .int .i64 i ∧ av = .int .i64 (fromK c (X + i)) ∧ lv = .int .i64 l ∧ mv = .int .i64 m ∧ (c.va / (c.sl * c.co) ≤ l ∧ l ≤ c.va) ∧ (0 ≤ m ∧ m ≤ c.va / (c.sl * c.co) + 1) ∧ Kd.bool.R 4 wx w.heap.size (fun _ => True) (.slice (some ⟨gh, 0, none⟩) c.va.toNat cap) (hadRow c.va.toNat (fun (j : Nat) => placeF c.va (seedF c e) c.ro.toNat j) (fromK c (X + i)).toNat) ∧ Box wx w2.heap.size #[.int .i64 c.va, .int .i64 c.sl, .int .i64 c.co, .int .i64 c.su, .int .i64 c.ti, .int .i64 c.di, .int .i64 c.ra, .int .i64 c.ro, .int .i64 c.ag, .int .u64 c.se] 24 ∧ Below w.heap.size w wx) (fun _ _ _ iv _ => (c.co - intOf iv).toNat)
      case atStart => exact ⟨0, l, m, by omega, by omega, rfl, by rw [Int.add_zero], rfl, rfl, hl, hm, by rw [Int.add_zero]; exact HR.out, XC.out, HB.out⟩
      case round =>
        clear HB HR XC rC fC kC hl hm
        obtain ⟨i, l, m, hi0, hi1, rfl, rfl, rfl, rfl, hl, hm, hR, bC, hbl⟩ := hrel
        have HR := Aside0.mk hR
        have HB := Aside0.mk hbl
        clear hR hbl
        have XC := Aside0.mk bC; have rC := bC.cell; have fC := bC.frozen; have kC := bC.lt; clear bC
        rcases Int.lt_or_le i c.co with hi | hi
        · have HM := Aside0.mk ((maySlot_iff c (e * c.sl + s) i).2 ⟨HN.out, by omega, by omega⟩)
          obtain ⟨t1, t2, t3, t4⟩ := fromK_facts c HN.out (X + i) (by omega)
          have t5 := from_step (V := c.va) (k := X + i) a3
          change c.va / (c.sl * c.co) ≤ fromK c (X + i + 1) - fromK c (X + i) ∧ fromK c (X + i + 1) - fromK c (X + i) ≤ _ at t5
          go_wp2_with fail
          refine (Members_yes c (e * c.sl + s) i _ HM.out hcse ?hG).mono ?_
          case hG => exact HG.out.below (by repeat (first | exact HB.out | apply below_alloc | apply pw_below_drewN | apply below_drew1 | refine below_set ?_ (by first | omega | (simp; omega))))
          rintro e' w5 ⟨v, rfl, hRm, hb_⟩
          rw [epoch_at c e s ⟨hs0, hs⟩, comm_at c e s i ⟨hs0, hs⟩, HX.out] at hRm
          have hlen : (memF c e (X + i)).length = cntF c (X + i) := memPart_len _ _ _ _
          obtain ⟨A, mc, rfl⟩ := Kd.R_slice hRm
          have hgl2 := HB.out.size
          have hws := hb_.size
          have hrg : gh < wr.heap.size := (Kd.R_celln false HR.out 0 (by omega) (by omega)).1 |> cell_lt
          have hcell : ∀ (k : Nat), k < cntF c (X + i) → ∃ g, A = some ⟨g, 0, none⟩ ∧ gh < g ∧ ∀ j : Nat, j < cntF c (X + i) → w5.cell? ⟨g, j, none⟩ = some (.int .i64 (placeF c.va (seedF c e) c.ro.toNat (fromK c (X + i) + j))) := by
            intro k hk
            obtain ⟨g, cap2, he, hgb, hgl, -⟩ := Kd.R_form hRm (by rw [hlen]; omega)
            obtain ⟨rfl, rfl⟩ : A = some ⟨g, 0, none⟩ ∧ mc = cap2 := by
              injection he with a1 a2 a3
              exact ⟨a1, a3⟩
            refine ⟨g, rfl, by omega, fun j hj => ?_⟩
            have h := (Kd.R_celln 0 hRm (j : Int) (by omega) (by rw [hlen]; omega)).1
            rw [Int.toNat_natCast] at h
            rw [h]
            congr 2
            unfold rdOf memF memPart
            rw [Int.toNat_natCast]
            simp [List.getD_eq_getElem?_getD, hj]
          rw [hlen]
          have HCL := Aside0.mk hcell
          have HR2 := Aside0.mk (Kd.R_below HR.out hb_)
          have YC := XC.out.below hb_
          have HB2 := Aside0.mk (below_step HB.out hb_)
          clear HR HB hcell hRm hlen hb_ XC rC fC kC HM hgl2 hws hrg
          have HR := HR2
          have HB := HB2
          clear HR2 HB2
          have XC := Aside0.mk YC
          have rC := YC.cell
          have kC := YC.lt
          clear YC
          have hfb : ∀ j : Int, 0 ≤ j → j < c.va → 0 ≤ placeF c.va (seedF c e) c.ro.toNat j ∧ placeF c.va (seedF c e) c.ro.toNat j < c.va := fun j hj hl => place_bd _ _ _ _ ⟨hj, hl⟩
          have hfi : ∀ j k : Int, 0 ≤ j → j < c.va → 0 ≤ k → k < c.va → placeF c.va (seedF c e) c.ro.toNat j = placeF c.va (seedF c e) c.ro.toNat k → j = k := fun j k hj hj1 hk hk1 h => (place_inj _ _ _ _ _ ⟨hj, hj1⟩ ⟨hk, hk1⟩).1 h
          have HF := Aside0.mk (And.intro hfb hfi)
          clear hfb hfi
          have HS2 := Aside0.mk (show X + i + 1 = X + (i + 1) by omega)
          rw [HS2.out] at t2 t3 t4 t5
          generalize cntF c (X + i) = n at *
          obtain ⟨F1, hF1⟩ : ∃ F1, fromK c (X + (i + 1)) = F1 := ⟨_, rfl⟩
          obtain ⟨q, hq⟩ : ∃ q, c.va / (c.sl * c.co) = q := ⟨_, rfl⟩
          rw [hF1] at t2 t3 t4 t5
          rw [hq] at t5 hl hm
          generalize fromK c (X + i) = F at *
          have HF1 := Aside0.mk hF1
          have HQ := Aside0.mk hq
          clear hF1 hq q0 q1
          obtain ⟨mn, hmn, hmb⟩ : ∃ mn : Int, (if (n : Int) < l then (n : Int) else l) = mn ∧ q ≤ mn ∧ mn ≤ c.va := ⟨_, rfl, by split <;> omega⟩
          obtain ⟨mx, hmx, hmxb⟩ : ∃ mx : Int, (if m < (n : Int) then (n : Int) else m) = mx ∧ 0 ≤ mx ∧ mx ≤ q + 1 := ⟨_, rfl, by split <;> omega⟩
          go_wp2
          go_loopw [18] (fun kv wx => ∃ k : Nat, k ≤ n ∧ kv = .int .i64 k ∧ Kd.bool.R 4 wx w.heap.size (fun _ => True) (.slice (some ⟨gh, 0, none⟩) c.va.toNat cap) (hadRow c.va.toNat (fun (j : Nat) => placeF c.va (seedF c e) c.ro.toNat j) (F.toNat + k)) ∧ (∀ g, A = some ⟨g, 0, none⟩ → gh < g → ∀ j : Nat, j < n → wx.cell? ⟨g, j, none⟩ = w5.cell? ⟨g, j, none⟩) ∧ Box wx w2.heap.size #[.int .i64 c.va, .int .i64 c.sl, .int .i64 c.co, .int .i64 c.su, .int .i64 c.ti, .int .i64 c.di, .int .i64 c.ra, .int .i64 c.ro, .int .i64 c.ag, .int .u64 c.se] 24 ∧ Below w.heap.size w wx) (fun kv _ => n - (intOf kv).toNat)
          case atStart => exact ⟨0, by omega, rfl, HR.out, fun _ _ _ _ _ => rfl, XC.out, HB.out⟩
          case round =>
            clear HB HR XC rC kC
            obtain ⟨k, hk, rfl, hR, hg, bC, hbl⟩ := hrel
            have HB := Aside0.mk hbl
            have XC := Aside0.mk bC
            have rC := bC.cell
            have kC := bC.lt
            have hz := hbl.size
            clear bC
            rcases Nat.lt_or_ge k n with hlt | hge
            · obtain ⟨g, rfl, hgg, hc5⟩ := HCL.out k hlt
              obtain ⟨q0, q1⟩ := HF.out.1 (F + k) (by omega) (by omega)
              obtain ⟨v, hv⟩ : ∃ v : Nat, placeF c.va (seedF c e) c.ro.toNat (F + k) = (v : Int) := ⟨(placeF c.va (seedF c e) c.ro.toNat (F + k)).toNat, by omega⟩
              have hvN : v < c.va.toNat := by omega
              have hvV : (v : Int) < c.va := by omega
              have hv0 : ¬ (v : Int) < 0 := by omega
              have hv1 : ¬ c.va ≤ (v : Int) := by omega
              have hd0 : decide ((v : Int) < 0) = false := decide_eq_false hv0
              have hd1 : decide (c.va ≤ (v : Int)) = false := decide_eq_false hv1
              have hd2 : (decide ((v : Int) < 0) || decide (c.va ≤ (v : Int))) = false := by rw [hd0, hd1]; rfl
              have hlk := (hg g rfl hgg k hlt).trans (hc5 k hlt)
              rw [hv] at hlk
              obtain ⟨hx1, hx2⟩ := (Kd.R_celln false hR (v : Int) (by omega) (by omega))
              have hfk : ((F.toNat + k : Nat) : Int) = F + k := by omega
              have hrd : rdOf false (hadRow c.va.toNat (fun (j : Nat) => placeF c.va (seedF c e) c.ro.toNat j) (F.toNat + k)) (v : Int) = false := by
                unfold rdOf
                rw [Int.toNat_natCast]
                exact hadRow_at _ _ _ _ hvN (fun j hj h => by
                  have := HF.out.2 j (F + k) (by omega) (by omega) (by omega) (by omega) (h.trans hv.symm)
                  omega)
              rw [hrd] at hx1
              have hs2 := (Kd.R_putg hR (v : Int) true).1
              rw [Int.toNat_natCast] at hx1 hx2 hs2
              rw [hadRow_set c.va.toNat (fun (j : Nat) => placeF c.va (seedF c e) c.ro.toNat j) (F.toNat + k) v (by rw [hfk]; exact hv)] at hs2
              have HR := Aside0.mk hs2
              have HG5 := Aside0.mk hg
              clear hR hs2 hbl hrd hv q0 q1 hg hc5
              go_upto_region 20 with (fail)
              go_region
              go_wp2
              go_roundw
              case rel =>
                refine ⟨k + 1, by omega, by go_num, HR.out, fun g' he hgg' j hj => ?_, Box.far XC.out (by simp only; omega), below_drew1 (below_set HB.out (by omega))⟩
                obtain rfl : g = g' := by simpa using he
                rw [← HG5.out g rfl hgg j hj]
                exact cell_far (by simp only; omega)
              case measure => simp [intOf]; omega
            · obtain rfl : k = n := by omega
              have HR := Aside0.mk hR
              clear hR hbl hg
              go_wp2
              have en : (k : Int) = F1 - F := t4
              refine ⟨⟨i + 1, _, _, by omega, by omega, rfl, ?_, rfl, rfl, ?_, ?_, ?_, XC.out, HB.out⟩, ?_⟩
              · rw [HF1.out]
                congr 1
                omega
              · rw [HQ.out]
                split <;> omega
              · rw [HQ.out]
                split <;> omega
              · rw [HF1.out, show F1.toNat = F.toNat + k by omega]
                exact HR.out
              · simp [intOf]
                omega
        · obtain rfl : i = c.co := by omega
          go_wp2
          refine ⟨⟨s + 1, l, m, by omega, by omega, rfl, ?_, rfl, rfl, hl, hm, ?_, XC.out, HB.out⟩, ?_⟩
          · rw [HS.out]
          · rw [HS.out]
            exact HR.out
          · simp [intOf]
            omega
    · obtain rfl : s = c.sl := by omega
      rw [show fromK c (c.sl * c.co) = c.va from from_all a3]
      have hml : m ≤ l + 1 := by omega
      have hd : decide (m ≤ l + 1) = true := decide_eq_true hml
      go_wp2
      go_ret
      exact ⟨rfl, HB.out⟩

set_option maxRecDepth 100000 in
theorem dutyParts_lifted (os : Os) (started : os.Started) (H : Type) (enc : TypeId × Value → H) :
    ReturnsInHanded {} Tryd.checked os 5 .any (fun w args => (Rows.dutyPartsSpec.pre enc Tryd.prog Tryd.f5 [] false w args ∧ laidMetH Tryd.prog [("mootbell/clock.bounds", Rows.laid_mootbell_clock_bounds), ("mootbell/churn.sum", Rows.laid_mootbell_churn_sum)] w) ∧ sizedMet enc Tryd.prog Tryd.f5 (OpenSpec.ofChange Rows.dutyPartsSpec) false w args)
      (Rows.dutyPartsSpec.post enc Tryd.prog Tryd.f5 false true false false) := by
  refine returnsInHanded_of_change_and (C := Tryd.checked) (X := fun w _ => laidMetH Tryd.prog [("mootbell/clock.bounds", Rows.laid_mootbell_clock_bounds), ("mootbell/churn.sum", Rows.laid_mootbell_churn_sum)] w) (fun _ _ _ hh h => h.of_heap hh) own started (by kernel_rfl) Tryd.func5
    (ChangeSpec.witness_shaped (enc := enc) (C := Tryd.checked) (os := os) (X := fun w _ => laidMetH Tryd.prog [("mootbell/clock.bounds", Rows.laid_mootbell_clock_bounds), ("mootbell/churn.sum", Rows.laid_mootbell_churn_sum)] w) false (World.doorLaid Tryd.prog 400 os) #[.agg #[.int .i64 0, .int .i64 0, .int .i64 0, .int .i64 0, .int .i64 0, .int .i64 0], .int .u64 0, .int .i64 0] 8 rfl (World.shaped_of_RefB (by kernel_rfl) (by kernel_rfl)) (by kernel_rfl) (by kernel_rfl) (by kernel_rfl) (door_met os _)) ?_
  intro W base args ds gs before hval0 hW hcnd hsz0 hL _
  have hsz : (DataW.weightsEach Tryd.prog (Tryd.f5.params.toList ++ Rows.dutyPartsSpec.plain.varTypes Tryd.prog) (ds ++ gs)).all (· ≤ reachBytes) = true := hsz0
  have hval : ∀ (j : Nat) t v, Tryd.f5.params[j]? = some t → args[j]? = some v → Value.okWide Tryd.prog W .any base t v := hval0
  have hW' := hW
  obtain ⟨p, q, hA0, hV, rfl, hfz, hnd⟩ := hW
  have hA : DataW.TrodAll enc Tryd.prog W 0 (fun _ => true) true Tryd.f5.params.toList args.toList ds p := hA0
  have hAll := hA
  rw [Tryd.params5] at hA hval hsz
  obtain ⟨v0, vs0, d0, ds0, p0, q0, hargs, rfl, rfl, h0, r0⟩ := trodAll_cons hA
  obtain ⟨v1, vs1, d1, ds1, p1, q1, rfl, rfl, rfl, h1, r1⟩ := trodAll_cons r0
  obtain ⟨v2, vs2, d2, ds2, p2, q2, rfl, rfl, rfl, h2, r2⟩ := trodAll_cons r1
  obtain ⟨rfl, rfl, rfl⟩ := trodAll_nil r2
  obtain rfl : args = #[v0, v1, v2] := by cases args; simp_all
  obtain ⟨rfl, rfl⟩ := trodVars_none hV
  have hlt := trodAll_lt hAll
  obtain ⟨n, rfl⟩ := six_came (hval 0 25 v0 rfl rfl)
  obtain ⟨s, rfl, rfl, rfl, w1⟩ := open_int Tryd.underlying22 (hval 1 22 v1 rfl rfl) h1
  obtain ⟨p, rfl, rfl, rfl, w2⟩ := open_int Tryd.underlying3 (hval 2 3 v2 rfl rfl) h2
  clear hA0 hval0 hsz0 hsz
  refine (DutyParts_calls n s p (bounds_i64 w2) (bounds_u64 w1).1 W (laid_two hL)).mono fun e W' ⟨he, bel⟩ => ?_
  subst he
  exact ⟨_, rfl, _, _, _, [], _, [], hW', trodAll_mk1 (shut_bool Tryd.underlying4 _), below_trodAll laidOut bel (by kernel_rfl) hAll hlt, rfl, bel.frame _, fun h => by cases h⟩
theorem dutyParts_over : Rows.dutyPartsRow.holds Tryd.pinned (OpenSpec.ofChange Rows.dutyPartsSpec) :=
  OpenClaim.holds_of_wide 5 Tryd.f5 rfl rfl rfl rfl rfl rfl rfl ⟨rfl, rfl, rfl, rfl, rfl⟩ rfl rfl rfl rfl rfl (by kernel_rfl) Tryd.func5 (by kernel_rfl)
    (of_decide_eq_true (by kernel_rfl)) (by unfold Func.isWrapper; first | (rw [if_pos (by decide +kernel)]; kernel_rfl) | (rw [if_neg (by decide +kernel)]; exact ⟨rfl, rfl⟩))
    (fun os started H enc _ => dutyParts_lifted os started H enc)
theorem dutyParts_holds : Rows.DutyPartsCardSaid :=
  Claim7.holds_tied_plain_at .later [] [.data, .data] true (true, "2c5e98a607cbcae62023d210d94be34bd3150b76f193fa61f209550e3e68dd04") false
    dutyParts_over (fun _ h => by cases h) (by kernel_rfl) (fun _ h => by cases h) dutyParts_row_tie rfl ⟨rfl, rfl⟩ (by kernel_rfl) rfl
    (fun f fn hf hfn => by
      obtain rfl : f = 5 := Option.some.inj ((show Tryd.prog.funcNamed "mootbell/mootbelllaw10.DutyParts" = some 5 by kernel_rfl).symm.trans hf) |>.symm
      obtain rfl : fn = Tryd.f5 := (Option.some.inj (Tryd.func5.symm.trans hfn)).symm
      exact ⟨by kernel_rfl, fun j t ht => by
        have hm : t ∈ Tryd.f5.params.toList := by simpa using Array.mem_of_getElem? ht
        have hall : (Tryd.f5.params.toList.all fun u => !Tryd.prog.wantsStandIn u) = true := by kernel_rfl
        exact (show Tryd.prog.wantsStandIn t = false by simpa using List.all_eq_true.1 hall t hm)⟩)
    (by kernel_rfl)
#print axioms dutyParts_holds
end Go.Proofs.YtdepmbnoecpccaaDoor
