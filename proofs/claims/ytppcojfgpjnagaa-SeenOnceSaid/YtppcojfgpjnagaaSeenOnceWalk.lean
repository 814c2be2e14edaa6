
/- SeenOnce (chapter 13): the walk. -/
import Derived.Test.YtppcojfgpjnagaaSeenOncePure
set_option linter.unusedVariables false
set_option linter.unusedSimpArgs false
namespace Go.Proofs.Ytppcojfgpjnagaa
open Go.RowKit Go.Proofs.YtppcojfgpjnagaaW.PrintWords Go.Proofs.YtppcojfgpjnagaaW.PrintLast Go.Proofs.YtppcojfgpjnagaaW.PrintMore

open Go.Proofs.Ytppcojfgpjnagaa.PQ

theorem mark_v (a b c : Int) (m : Mk) (ha : In64 a) (hb : In64 b) (hc : In64 c) (w : World) (h : markM a b c = m) : Calls Try.prog 10 #[.agg #[.int .i64 a, .int .i64 b, .int .i64 c]] w fun e w' => e = .returned (.agg #[.int .i64 m.f0, .int .i64 m.f1, .int .i64 m.f2]) ∧ Below w.heap.size w w' := by
  subst h
  exact mootbelllaw13_Mark.calls a b c _ _ _ w (mark_f a b c ha hb hc)
theorem pick_v (c n r : Int) (hc : In64 c) (hn : 0 < n) (w : World) (h : pickZ c n = r) : Calls Try.prog 11 #[.int .i64 c, .int .i64 n] w fun e w' => e = .returned (.int .i64 r) ∧ Below w.heap.size w w' :=
  (mootbelllaw13_pick.calls c n r w (by rw [pick_f c n hc hn, h])).mono fun e w' hh => ⟨hh.1, hh.2.below⟩
theorem SAdd_v (v : Value) (l : List Mk) (m : Mk) (l' : List Mk) (e' : Int) (g : Nat) (w : World) (hl : ListV w g v l) (hn : l.length ≤ 1000) (h : addM l 200 m = (l', e')) : Calls Try.prog 12 #[v, .int .i64 200, .agg #[.int .i64 m.f0, .int .i64 m.f1, .int .i64 m.f2]] w
    fun r w' => ∃ v', r = .returned (.tuple #[v', .int .i64 e']) ∧ kM.R 25 w' w.heap.size (fun _ => True) v' l' ∧ Below w.heap.size w w' := by
  obtain ⟨A, n, c, rfl, hc, hC, _⟩ := hl
  have e := SAdd_calls A n c l 200 m w hC (by rw [← Kd.C_len hC]; omega)
  rw [h] at e
  exact e
theorem SHas_v (v : Value) (l : List Mk) (m : Mk) (b : Bool) (g : Nat) (w : World) (hl : ListV w g v l) (h : hasM l m = b) : Calls Try.prog 15 #[v, .agg #[.int .i64 m.f0, .int .i64 m.f1, .int .i64 m.f2]] w fun e w' => e = .returned (.bool b) ∧ Below w.heap.size w w' := by
  obtain ⟨A, n, c, rfl, hc, hC, _⟩ := hl
  exact h ▸ SHas_calls A n c l m w hC
theorem SRight_w (v : Value) (l : List Mk) (g : Nat) (w : World) (hl : ListV w g v l) (h : rightM l = true) : Calls Try.prog 22 #[v] w fun e w' => e = .returned (.bool true) ∧ Below w.heap.size w w' := by
  obtain ⟨A, n, c, rfl, hc, hC, _⟩ := hl
  exact SRight_v A n c l true w hC h
theorem SPrune_v (v : Value) (l : List Mk) (p : Int) (g : Nat) (w : World) (hl : ListV w g v l) (hn : l.length ≤ 1000) : Calls Try.prog 17 #[v, .int .i64 p] w fun r w' => ∃ v', r = .returned v' ∧ kM.R 25 w' w.heap.size (fun _ => True) v' (pruneM l p) ∧ Below w.heap.size w w' := by
  obtain ⟨A, n, c, rfl, hc, hC, _⟩ := hl
  exact SPrune_calls A n c l p w hC (by rw [← Kd.C_len hC]; omega)
def rowF : Array Value := (List.replicate 18 (Value.bool false)).toArray
theorem row_len : rowF.size = 18 := rfl
theorem row_zero (u : World) : (zeroValue 46).run Try.prog u = .ok (.agg rowF) u := by kernel_rfl
theorem row_size : (Try.prog.info? 46).map (·.size) = some rowF.size := by kernel_rfl
theorem row_one : rowF.all (·.oneCell') = true := by simp [rowF, Value.oneCell']
theorem prune_len (l : List Mk) (p : Int) : (pruneM l p).length ≤ l.length := by
  unfold pruneM
  split
  · exact List.length_filter_le _ _
  · simp
theorem had_zero (u : World) : (zeroValue 47).run Try.prog u = .ok (.agg (hadC (fun _ => false))) u := by kernel_rfl
set_option maxRecDepth 100000 in
set_option maxHeartbeats 8000000 in
theorem SeenOnce_calls (A : Option Addr) (n c : Nat) (raw : List Rw) (P : Option Addr) (np cp : Nat) (pr : List Int) (w : World) (hr : Kd.C k26 w A n raw) (hc : n ≤ c) (ho : OkR raw) (hp : (Kd.int .i64).C w P np pr) (hpc : np ≤ cp) (hpo : ∀ x ∈ pr, In64 x) : Calls Try.prog 4 #[.slice A n c, .slice P np cp] w
    fun e w' => e = .returned (.bool true) ∧ Below w.heap.size w w' := by
  have HN := Aside0.mk (show n = raw.length from (Kd.C_len hr).symm)
  have HNP := Aside0.mk (show np = pr.length from (Kd.C_len hp).symm)
  have hn63 : n ≤ 9223372036854775807 := by rw [HN.out]; exact Kd.C_len hr ▸ Kd.C_max hr
  have hnp63 : np ≤ 9223372036854775807 := by rw [HNP.out]; exact Kd.C_len hp ▸ Kd.C_max hp
  have HO := Aside0.mk (And.intro ho hpo)
  have HX := Aside0.mk hr
  have HP := Aside0.mk hp
  clear hr hp ho hpo
  have HB := Aside0.mk (Below.refl w.heap.size w)
  go_enter Try.func4, Try.ntmps4
  have HX0 := HX
  have HP0 := HP
  go_wp2_with fail
  refine (awake_calls _).mono ?_
  rintro e w3 ⟨rfl, hb_⟩
  have ZHX := Aside0.mk (Kd.C_below (by repeat (with_reducible first | exact HX.out | apply C_alloc | apply C_drew)) hb_); clear HX; have HX := ZHX; clear ZHX
  have ZHP := Aside0.mk (Kd.C_below (by repeat (with_reducible first | exact HP.out | apply C_alloc | apply C_drew)) hb_); clear HP; have HP := ZHP; clear ZHP
  have n_ := Aside0.mk (below_step (by repeat (first | exact HB.out | apply below_alloc | apply pw_below_drewN | apply below_drew1 | refine below_set ?_ (by first | omega | (simp; omega)))) hb_); clear HB hb_; have HB := n_; clear n_
  clear HX HP
  have hz := had_zero
  go_wp2
  obtain ⟨g, hg⟩ : ∃ g, w3.heap.size = g := ⟨_, rfl⟩
  have hgw : w.heap.size ≤ g := hg ▸ HB.out.size
  have XD := Aside0.mk (hg ▸ (Box.new : Box (w3.alloc (.cells (hadC fun _ => false) 47)) w3.heap.size (hadC fun _ => false) 47))
  have HB4 := Aside0.mk (HB.out.alloc HB.out.size (.cells (hadC fun _ => false) 47))
  rw [hg]
  generalize (w3.alloc (Obj.cells (hadC fun _ => false) 47)) = w4 at *
  clear hz hg HB
  go_loopw [6, 8] (fun v6 v8 wx => ∃ (i : Nat) (l : List Mk) (H : Nat → Bool), i ≤ n ∧ i ≤ 40 ∧ v8 = .int .i64 i ∧ l.length ≤ i ∧ InvO l H ∧ ListV wx g v6 l ∧ Box wx g (hadC H) 47 ∧ Below w.heap.size w wx) (fun _ v8 _ => 40 - (intOf v8).toNat)
  case atStart => exact ⟨0, [], _, by omega, by omega, rfl, by simp, InvO.nil, ListV.nil _ _, XD.out, HB4.out⟩
  case round =>
    obtain ⟨i, l, H, hin, hi40, rfl, hll, hinv, hl, hx, hb⟩ := hrel
    rename World => wo
    clear XD HB4
    have HB := Aside0.mk hb
    have XD := Aside0.mk hx
    have HL := Aside0.mk hl
    have HI := Aside0.mk hinv
    have HXW := Aside0.mk (Kd.C_below HX0.out hb)
    have HPW := Aside0.mk (Kd.C_below HP0.out hb)
    clear hb hx hl hinv
    by_cases hlt : i < n ∧ i < 40
    · obtain ⟨hlt, h40⟩ := hlt
      have hd1 : decide (i < n) = true := decide_eq_true hlt
      have hd2 : decide (i < 40) = true := decide_eq_true h40
      have hd1i : decide ((i : Int) < (n : Int)) = true := decide_eq_true (by omega)
      have hd2i : decide ((i : Int) < 40) = true := decide_eq_true (by omega)
      have hi0 : 0 ≤ (i : Int) := by omega
      have hik : (i : Int) < (n : Int) := by omega
      have hnx : IntKind.i64.wrap ((i : Int) + 1) = (i : Int) + 1 := by rw [IntKind.wrap_i64]; omega
      obtain ⟨ad, rfl, c0, c1, c2⟩ := at_T26 HXW.out (i : Int) (by omega) (by omega)
      rw [Int.toNat_natCast] at c0 c1 c2
      have hrd := (HO.out.1).rd (show i < raw.length by rw [← HN.out]; exact hlt)
      unfold rdR at hrd
      obtain ⟨x, hx⟩ : ∃ x, rd_T26 raw (i : Int) = x := ⟨_, rfl⟩
      rw [hx] at c0 c1 c2 hrd
      clear hx
      have HRD := Aside0.mk hrd
      clear hrd
      obtain ⟨e, he, he5⟩ : ∃ e : Nat, pickZ x.f0 5 = (e : Int) ∧ e < 5 := ⟨(pickZ x.f0 5).toNat, by have := pickZ_lt x.f0 5 (by omega); omega, by have := pickZ_lt x.f0 5 (by omega); omega⟩
      obtain ⟨k, hk, hk3⟩ : ∃ k : Nat, pickZ x.f1 3 = (k : Int) ∧ k < 3 := ⟨(pickZ x.f1 3).toNat, by have := pickZ_lt x.f1 3 (by omega); omega, by have := pickZ_lt x.f1 3 (by omega); omega⟩
      obtain ⟨q, hq, hq6⟩ : ∃ q : Nat, pickZ x.f2 6 = (q : Int) ∧ q < 6 := ⟨(pickZ x.f2 6).toNat, by have := pickZ_lt x.f2 6 (by omega); omega, by have := pickZ_lt x.f2 6 (by omega); omega⟩
      have HM := Aside0.mk (show markM x.f0 x.f1 x.f2 = ⟨e, k, q⟩ by unfold markM; rw [he, hk, hq])
      clear he hk hq
      have e0i : 0 ≤ (e : Int) := by omega
      have e5i : (e : Int) < 5 := by omega
      have k0i : 0 ≤ (k : Int) := by omega
      have k3i : (k : Int) < 3 := by omega
      have q0i : 0 ≤ (q : Int) := by omega
      have q6i : (q : Int) < 6 := by omega
      have HMM := Aside0.mk (show mayM (⟨(e : Int), (k : Int), (q : Int)⟩ : Mk) = true by rw [← HM.out]; exact mark_may _ _ _)
      go_wp2_with fail
      refine (mark_v x.f0 x.f1 x.f2 ⟨e, k, q⟩ HRD.out.1 HRD.out.2.1 HRD.out.2.2 _ HM.out).mono ?_
      rintro e w10 ⟨rfl, hb_⟩
      have YD : Box w10 (g) _ _ := Box.below (by repeat (with_reducible first | exact XD.out | exact Box.new | exact Box.new1 | exact Box.new2 | exact Box.new3 | apply Box.alloc | apply Box.drew | apply Box.drewN | apply Box.set)) hb_
      (try clear XD rD kD fD); have XD := Aside0.mk YD; have rD := YD.cell; have fD := YD.frozen; have kD := YD.lt; clear YD
      have ZHXW := Aside0.mk (Kd.C_below (by repeat (with_reducible first | exact HXW.out | apply C_alloc | apply C_drew)) hb_); clear HXW; have HXW := ZHXW; clear ZHXW
      have ZHPW := Aside0.mk (Kd.C_below (by repeat (with_reducible first | exact HPW.out | apply C_alloc | apply C_drew)) hb_); clear HPW; have HPW := ZHPW; clear ZHPW
      have ZHL := Aside0.mk (ListV.below (by repeat (with_reducible first | exact HL.out | apply ListV.drew)) hb_); clear HL; have HL := ZHL; clear ZHL
      have n_ := Aside0.mk (below_step (by repeat (first | exact HB.out | apply below_alloc | apply pw_below_drewN | apply below_drew1 | refine below_set ?_ (by first | omega | (simp; omega)))) hb_); clear HB hb_; have HB := n_; clear n_
      clear c0 c1 c2 hd1 hd2 hd1i hd2i
      go_upto_region 8 with (fail)
      have XM := Aside0.mk (Box.new : Box (w10.alloc (.cells #[.int .i64 e, .int .i64 k, .int .i64 q] 25)) w10.heap.size #[.int .i64 e, .int .i64 k, .int .i64 q] 25)
      have j11 := below_alloc (Below.refl w10.heap.size w10) (.cells #[.int .i64 e, .int .i64 k, .int .i64 q] 25)
      have YD := Aside0.mk (Box.below XD.out j11)
      have YL := Aside0.mk (HL.out.below j11)
      have YX := Aside0.mk (Kd.C_below HXW.out j11)
      have YP := Aside0.mk (Kd.C_below HPW.out j11)
      have YB := Aside0.mk (below_step HB.out j11)
      have hgM : g < w10.heap.size := XD.out.lt
      clear XD HL HXW HPW HB j11 rD kD fD
      generalize (w10.alloc (.cells #[.int .i64 e, .int .i64 k, .int .i64 q] 25)) = w11 at *
      generalize w10.heap.size = M at *
      have XD := YD
      have HL := YL
      have HXW := YX
      have HPW := YP
      have HB := YB
      clear YD YL YX YP YB
      have rN := XM.out.cell
      have kN := XM.out.lt
      have XN := XM
      clear XM
      by_cases hmem : (⟨(e : Int), (k : Int), (q : Int)⟩ : Mk) ∈ l
      · have HADD := Aside0.mk (add_twice (room := 200) HI.out.1 HMM.out hmem)
        have HHAS := Aside0.mk (show hasM l ⟨e, k, q⟩ = true by rw [has_of HI.out.1]; exact decide_eq_true hmem)
        have HH := Aside0.mk (show H (e * 18 + k * 6 + q) = true by rw [HI.out.2 e k q he5 hk3 hq6]; exact decide_eq_true hmem)
        clear hmem
        go_wp2_with fail
        refine (SAdd_v u6 l ⟨e, k, q⟩ [] 7 g _ ?hL1 (by omega) HADD.out).mono ?_
        case hL1 => (repeat (with_reducible first | exact HL.out | apply ListV.drew))
        rintro e w12 ⟨v', rfl, hR_, hb_⟩
        have YD : Box w12 (g) _ _ := Box.below (by repeat (with_reducible first | exact XD.out | exact Box.new | exact Box.new1 | exact Box.new2 | exact Box.new3 | apply Box.alloc | apply Box.drew | apply Box.drewN | apply Box.set)) hb_
        (try clear XD rD kD fD); have XD := Aside0.mk YD; have rD := YD.cell; have fD := YD.frozen; have kD := YD.lt; clear YD
        have YN : Box w12 (M) _ _ := Box.below (by repeat (with_reducible first | exact XN.out | exact Box.new | exact Box.new1 | exact Box.new2 | exact Box.new3 | apply Box.alloc | apply Box.drew | apply Box.drewN | apply Box.set)) hb_
        (try clear XN rN kN fN); have XN := Aside0.mk YN; have rN := YN.cell; have fN := YN.frozen; have kN := YN.lt; clear YN
        have ZHXW := Aside0.mk (Kd.C_below (by repeat (with_reducible first | exact HXW.out | apply C_alloc | apply C_drew)) hb_); clear HXW; have HXW := ZHXW; clear ZHXW
        have ZHPW := Aside0.mk (Kd.C_below (by repeat (with_reducible first | exact HPW.out | apply C_alloc | apply C_drew)) hb_); clear HPW; have HPW := ZHPW; clear ZHPW
        have ZHL := Aside0.mk (ListV.below (by repeat (with_reducible first | exact HL.out | apply ListV.drew)) hb_); clear HL; have HL := ZHL; clear ZHL
        have n_ := Aside0.mk (below_step (by repeat (first | exact HB.out | apply below_alloc | apply pw_below_drewN | apply below_drew1 | refine below_set ?_ (by first | omega | (simp; omega)))) hb_); clear HB hb_; have HB := n_; clear n_
        obtain ⟨A', c', rfl, hc', _⟩ := Kd.R_reads hR_
        clear hR_
        go_upto_region 9 with (fail)
        have rC : w12.cell? ⟨g, e * 18 + k * 6 + q, none⟩ = some (.bool true) := by rw [rD, hadC_get _ (by omega), HH.out]
        have kC : g < w12.heap.size := kD
        clear rD
        go_region_held3 (fun w' => Below w12.heap.size w12 w' ∧ (w'.cell? ((⟨g, e * 18 + k * 6 + q, none⟩ : Addr)) = some (.bool true)) ∧ (∀ j, w'.cell? ⟨M, j, none⟩ = (#[.int .i64 e, .int .i64 k, .int .i64 q] : Array Value)[j]?)) (first | exact ⟨below_drew1 (Below.refl _ _), rC, rN⟩ | exact ⟨below_drew1 b0_, rC, rN⟩ | exact ⟨j0, jC, jN⟩ | exact ⟨below_alloc j0 _, (cell_alloc_oldp (Nat.lt_of_lt_of_le kC j0.size)).trans jC, fun j => (cell_alloc_old (Nat.lt_of_lt_of_le kN j0.size)).trans (jN j)⟩ | exact ⟨below_alloc (below_drew1 (Below.refl _ _)) _, (cell_alloc_oldp kC).trans rC, fun j => (cell_alloc_old kN).trans (rN j)⟩ | assumption) (fail)
        go_wp2_with fail
        refine (SHas_v u6 l ⟨e, k, q⟩ true g _ ?hL2 HHAS.out).mono ?_
        case hL2 => (repeat (with_reducible first | exact HL.out | apply ListV.drew))
        rintro e w13 ⟨rfl, hb_⟩
        have YD : Box w13 (g) _ _ := Box.below (by repeat (with_reducible first | exact XD.out | exact Box.new | exact Box.new1 | exact Box.new2 | exact Box.new3 | apply Box.alloc | apply Box.drew | apply Box.drewN | apply Box.set)) hb_
        (try clear XD rD kD fD); have XD := Aside0.mk YD; have rD := YD.cell; have fD := YD.frozen; have kD := YD.lt; clear YD
        have YN : Box w13 (M) _ _ := Box.below (by repeat (with_reducible first | exact XN.out | exact Box.new | exact Box.new1 | exact Box.new2 | exact Box.new3 | apply Box.alloc | apply Box.drew | apply Box.drewN | apply Box.set)) hb_
        (try clear XN rN kN fN); have XN := Aside0.mk YN; have rN := YN.cell; have fN := YN.frozen; have kN := YN.lt; clear YN
        have ZHXW := Aside0.mk (Kd.C_below (by repeat (with_reducible first | exact HXW.out | apply C_alloc | apply C_drew)) hb_); clear HXW; have HXW := ZHXW; clear ZHXW
        have ZHPW := Aside0.mk (Kd.C_below (by repeat (with_reducible first | exact HPW.out | apply C_alloc | apply C_drew)) hb_); clear HPW; have HPW := ZHPW; clear ZHPW
        have ZHL := Aside0.mk (ListV.below (by repeat (with_reducible first | exact HL.out | apply ListV.drew)) hb_); clear HL; have HL := ZHL; clear ZHL
        have n_ := Aside0.mk (below_step (by repeat (first | exact HB.out | apply below_alloc | apply pw_below_drewN | apply below_drew1 | refine below_set ?_ (by first | omega | (simp; omega)))) hb_); clear HB hb_; have HB := n_; clear n_
        clear rC kC
        have HIR := HI
        have hLL : l.length ≤ i + 1 := by omega
        have HD := XD
        have hpl0 : 0 ≤ (i : Int) := by omega
        by_cases hpi : i < np
        · have hpii : (i : Int) < (np : Int) := by omega
          have hdp : decide (i < np) = true := decide_eq_true hpi
          have hdpi : decide ((i : Int) < (np : Int)) = true := decide_eq_true hpii
          obtain ⟨pd, rfl, p0⟩ := Kd.at_int HPW.out (i : Int) hpl0 hpii
          obtain ⟨y, hy⟩ : ∃ y, rd pr (i : Int) = y := ⟨_, rfl⟩
          have hyo : In64 y := by
            have hil : i < pr.length := by rw [← HNP.out]; exact hpi
            rw [← hy]
            have := HO.out.2 (pr[i]) (List.getElem_mem hil)
            simpa [rd, hil] using this
          rw [hy, Int.toNat_natCast] at p0
          have HY := Aside0.mk hyo
          have HYE := Aside0.mk hy
          clear hy hyo
          obtain ⟨r4, hr4⟩ : ∃ r4, pickZ y 4 = r4 := ⟨_, rfl⟩
          obtain ⟨p7, hp7, hp7b⟩ : ∃ p : Nat, pickZ y 7 = (p : Int) ∧ p < 7 := ⟨(pickZ y 7).toNat, by have := pickZ_lt y 7 (by omega); omega, by have := pickZ_lt y 7 (by omega); omega⟩
          have HR4 := Aside0.mk hr4
          have HP7 := Aside0.mk hp7
          clear hr4 hp7
          have hp0 := p0
          by_cases hr0 : r4 = 0
          · subst hr0
            go_wp2_with fail
            refine (pick_v y 4 0 HY.out (by omega) _ HR4.out).mono ?_
            rintro e w15 ⟨rfl, hb_⟩
            have YD : Box w15 (g) _ _ := Box.below (by repeat (with_reducible first | exact XD.out | exact Box.new | exact Box.new1 | exact Box.new2 | exact Box.new3 | apply Box.alloc | apply Box.drew | apply Box.drewN | apply Box.set)) hb_
            (try clear XD rD kD fD); have XD := Aside0.mk YD; have rD := YD.cell; have fD := YD.frozen; have kD := YD.lt; clear YD
            have ZHXW := Aside0.mk (Kd.C_below (by repeat (with_reducible first | exact HXW.out | apply C_alloc | apply C_drew)) hb_); clear HXW; have HXW := ZHXW; clear ZHXW
            have ZHPW := Aside0.mk (Kd.C_below (by repeat (with_reducible first | exact HPW.out | apply C_alloc | apply C_drew)) hb_); clear HPW; have HPW := ZHPW; clear ZHPW
            have ZHL := Aside0.mk (ListV.below (by repeat (with_reducible first | exact HL.out | apply ListV.drew)) hb_); clear HL; have HL := ZHL; clear ZHL
            have n_ := Aside0.mk (below_step (by repeat (first | exact HB.out | apply below_alloc | apply pw_below_drewN | apply below_drew1 | refine below_set ?_ (by first | omega | (simp; omega)))) hb_); clear HB hb_; have HB := n_; clear n_
            clear p0
            obtain ⟨pd2, e2, p1⟩ := Kd.at_int HPW.out (i : Int) hpl0 hpii
            cases e2
            rw [HYE.out, Int.toNat_natCast] at p1
            go_wp2_with fail
            refine (pick_v y 7 p7 HY.out (by omega) _ HP7.out).mono ?_
            rintro e w16 ⟨rfl, hb_⟩
            have YD : Box w16 (g) _ _ := Box.below (by repeat (with_reducible first | exact XD.out | exact Box.new | exact Box.new1 | exact Box.new2 | exact Box.new3 | apply Box.alloc | apply Box.drew | apply Box.drewN | apply Box.set)) hb_
            (try clear XD rD kD fD); have XD := Aside0.mk YD; have rD := YD.cell; have fD := YD.frozen; have kD := YD.lt; clear YD
            have ZHXW := Aside0.mk (Kd.C_below (by repeat (with_reducible first | exact HXW.out | apply C_alloc | apply C_drew)) hb_); clear HXW; have HXW := ZHXW; clear ZHXW
            have ZHPW := Aside0.mk (Kd.C_below (by repeat (with_reducible first | exact HPW.out | apply C_alloc | apply C_drew)) hb_); clear HPW; have HPW := ZHPW; clear ZHPW
            have ZHL := Aside0.mk (ListV.below (by repeat (with_reducible first | exact HL.out | apply ListV.drew)) hb_); clear HL; have HL := ZHL; clear ZHL
            have n_ := Aside0.mk (below_step (by repeat (first | exact HB.out | apply below_alloc | apply pw_below_drewN | apply below_drew1 | refine below_set ?_ (by first | omega | (simp; omega)))) hb_); clear HB hb_; have HB := n_; clear n_
            clear p1
            have hg16 := kD
            go_wp2_with fail
            refine (SPrune_v u6 l (p7 : Int) g _ ?hL3 (by omega)).mono ?_
            case hL3 => (repeat (with_reducible first | exact HL.out | apply ListV.drew))
            rintro e w17 ⟨v2, rfl, hR_, hb_⟩
            have YD : Box w17 (g) _ _ := Box.below (by repeat (with_reducible first | exact XD.out | exact Box.new | exact Box.new1 | exact Box.new2 | exact Box.new3 | apply Box.alloc | apply Box.drew | apply Box.drewN | apply Box.set)) hb_
            (try clear XD rD kD fD); have XD := Aside0.mk YD; have rD := YD.cell; have fD := YD.frozen; have kD := YD.lt; clear YD
            have ZHXW := Aside0.mk (Kd.C_below (by repeat (with_reducible first | exact HXW.out | apply C_alloc | apply C_drew)) hb_); clear HXW; have HXW := ZHXW; clear ZHXW
            have ZHPW := Aside0.mk (Kd.C_below (by repeat (with_reducible first | exact HPW.out | apply C_alloc | apply C_drew)) hb_); clear HPW; have HPW := ZHPW; clear ZHPW
            have n_ := Aside0.mk (below_step (by repeat (first | exact HB.out | apply below_alloc | apply pw_below_drewN | apply below_drew1 | refine below_set ?_ (by first | omega | (simp; omega)))) hb_); clear HB hb_; have HB := n_; clear n_
            have HL2 := Aside0.mk (ListV.ofR hR_ hg16)
            have hpl := (prune_len l (p7 : Int))
            clear hR_ HL
            go_wp2
            go_loopw [14] (fun v14 wx => ∃ x : Nat, x ≤ min p7 5 ∧ v14 = .int .i64 x ∧ ListV wx g v2 (pruneM l (p7 : Int)) ∧ Box wx g (hadC (fun j => if j < x * 18 then false else H j)) 47 ∧ Below w.heap.size w wx) (fun v14 _ => 5 - (intOf v14).toNat)
            case atStart => exact ⟨0, by omega, rfl, HL2.out, (by rw [show (fun j => if j < 0 * 18 then false else H j) = H from funext fun j => if_neg (by omega)]; exact XD.out), HB.out⟩
            case round =>
              obtain ⟨x2, hx2, rfl, hl2, hd2, hb2⟩ := hrel
              rename World => wz
              clear XD HL2 HB HXW HPW HD rD kD fD
              have XD := Aside0.mk hd2
              have HL := Aside0.mk hl2
              have HB := Aside0.mk hb2
              clear hd2 hl2 hb2
              by_cases hx5 : x2 < p7 ∧ x2 < 5
              · obtain ⟨hx5a, hx5b⟩ := hx5
                have hda : decide (x2 < p7) = true := decide_eq_true hx5a
                have hdb : decide (x2 < 5) = true := decide_eq_true hx5b
                have hdai : decide ((x2 : Int) < (p7 : Int)) = true := decide_eq_true (by omega)
                have hdbi : decide ((x2 : Int) < 5) = true := decide_eq_true (by omega)
                have hx0i : 0 ≤ (x2 : Int) := by omega
                have hx5i : (x2 : Int) < 5 := by omega
                have hxn : IntKind.i64.wrap ((x2 : Int) + 1) = (x2 : Int) + 1 := by rw [IntKind.wrap_i64]; omega
                have HTH := Aside0.mk (show wz.there g (x2 * 18) rowF.size from fun j hj => ⟨by rw [XD.out.cell, hadC_get _ (by rw [row_len] at hj; omega)]; rfl, XD.out.frozen _⟩)
                have hz := row_zero
                have hst : (storeCells ⟨g, x2 * 18, none⟩ rowF.toList).run Try.prog wz = .ok () (wz.setCells g (x2 * 18) rowF.toList) := by
                  have h9 := run_storeCells_cells (P := Try.prog) g (x2 * 18) rowF.toList 0 wz (fun j hj => by simpa using (HTH.out j (by simpa using hj)).1) (fun j hj => by simpa using (HTH.out j (by simpa using hj)).2) (fun v hv => (Array.all_eq_true_iff_forall_mem.1 row_one) v (by simpa using hv))
                  simpa only [Nat.add_zero] using h9
                go_wp2
                have h1 : Box (wz.setCells g (x2 * 18) rowF.toList) g _ _ := had_cells 18 (x2 * 18) _ _ XD.out
                have h2 : (fun j => if x2 * 18 ≤ j ∧ j < x2 * 18 + 18 then false else if j < x2 * 18 then false else H j) = (fun j => if j < (x2 + 1) * 18 then false else H j) := by
                  funext j
                  (repeat' split) <;> first | rfl | omega
                rw [h2] at h1
                exact ⟨⟨x2 + 1, by omega, (show Value.int .i64 ((x2 : Int) + 1) = .int .i64 ((x2 + 1 : Nat) : Int) by rw [Int.natCast_add]; rfl), HL.out.cells _ _, h1, below_cells hgw _ _ _ HB.out⟩, by simp [intOf]; omega⟩
              · have hx5c : x2 = min p7 5 := by omega
                have HIR2 := Aside0.mk (InvO.prune HIR.out p7 x2 hx5c)
                clear HIR
                have HIR := HIR2
                replace hLL : (pruneM l (p7 : Int)).length ≤ i + 1 := by omega
                by_cases hx5a : x2 < p7
                · have hda : decide (x2 < p7) = true := decide_eq_true hx5a
                  have hdai : decide ((x2 : Int) < (p7 : Int)) = true := decide_eq_true (by omega)
                  have hdb : decide (x2 < 5) = false := decide_eq_false (by omega)
                  have hdbi : decide ((x2 : Int) < 5) = false := decide_eq_false (by omega)
                  go_wp2
                  exact ⟨⟨i + 1, pruneM l (p7 : Int), fun j => if j < x2 * 18 then false else H j, by omega, by omega, (show Value.int .i64 ((i : Int) + 1) = .int .i64 ((i + 1 : Nat) : Int) by rw [Int.natCast_add]; rfl), hLL, HIR.out, HL.out, XD.out, HB.out⟩, by simp [intOf]; omega⟩
                · have hda : decide (x2 < p7) = false := decide_eq_false hx5a
                  have hdai : decide ((x2 : Int) < (p7 : Int)) = false := decide_eq_false (by omega)
                  go_wp2
                  exact ⟨⟨i + 1, pruneM l (p7 : Int), fun j => if j < x2 * 18 then false else H j, by omega, by omega, (show Value.int .i64 ((i : Int) + 1) = .int .i64 ((i + 1 : Nat) : Int) by rw [Int.natCast_add]; rfl), hLL, HIR.out, HL.out, XD.out, HB.out⟩, by simp [intOf]; omega⟩
          · have hrb : (r4 == 0) = false := by rw [beq_eq_false_iff_ne]; exact hr0
            go_wp2_with fail
            refine (pick_v y 4 r4 HY.out (by omega) _ HR4.out).mono ?_
            rintro e w15 ⟨rfl, hb_⟩
            have YD : Box w15 (g) _ _ := Box.below (by repeat (with_reducible first | exact XD.out | exact Box.new | exact Box.new1 | exact Box.new2 | exact Box.new3 | apply Box.alloc | apply Box.drew | apply Box.drewN | apply Box.set)) hb_
            (try clear XD rD kD fD); have XD := Aside0.mk YD; have rD := YD.cell; have fD := YD.frozen; have kD := YD.lt; clear YD
            have ZHXW := Aside0.mk (Kd.C_below (by repeat (with_reducible first | exact HXW.out | apply C_alloc | apply C_drew)) hb_); clear HXW; have HXW := ZHXW; clear ZHXW
            have ZHPW := Aside0.mk (Kd.C_below (by repeat (with_reducible first | exact HPW.out | apply C_alloc | apply C_drew)) hb_); clear HPW; have HPW := ZHPW; clear ZHPW
            have ZHL := Aside0.mk (ListV.below (by repeat (with_reducible first | exact HL.out | apply ListV.drew)) hb_); clear HL; have HL := ZHL; clear ZHL
            have n_ := Aside0.mk (below_step (by repeat (first | exact HB.out | apply below_alloc | apply pw_below_drewN | apply below_drew1 | refine below_set ?_ (by first | omega | (simp; omega)))) hb_); clear HB hb_; have HB := n_; clear n_
            clear p0
            go_wp2
            exact ⟨⟨i + 1, l, H, by omega, by omega, (show Value.int .i64 ((i : Int) + 1) = .int .i64 ((i + 1 : Nat) : Int) by rw [Int.natCast_add]; rfl), hLL, HIR.out, HL.out, XD.out, HB.out⟩, by simp [intOf]; omega⟩
        · have hdp : decide (i < np) = false := decide_eq_false hpi
          have hdpi : decide ((i : Int) < (np : Int)) = false := decide_eq_false (by omega)
          go_wp2
          exact ⟨⟨i + 1, l, H, by omega, by omega, (show Value.int .i64 ((i : Int) + 1) = .int .i64 ((i + 1 : Nat) : Int) by rw [Int.natCast_add]; rfl), hLL, HIR.out, HL.out, XD.out, HB.out⟩, by simp [intOf]; omega⟩
      · obtain ⟨A6, n6, c6, rfl, hn6, hC6, _⟩ := HL.out
        obtain rfl : n6 = l.length := (Kd.C_len hC6).symm
        clear hC6
        have HADD := Aside0.mk (add_ok (room := 200) HI.out.1 HMM.out hmem (by omega))
        have HHAS := Aside0.mk (show hasM l ⟨e, k, q⟩ = false by rw [has_of HI.out.1]; exact decide_eq_false hmem)
        have HH := Aside0.mk (show H (e * 18 + k * 6 + q) = false by rw [HI.out.2 e k q he5 hk3 hq6]; exact decide_eq_false hmem)
        have HIR := Aside0.mk (InvO.add HI.out he5 hk3 hq6 hmem)
        have HLN := Aside0.mk (insAt_len l (posM l ⟨e, k, q⟩) ⟨e, k, q⟩ (posM_le l _))
        have HME := Aside0.mk ((insAt_mem l (posM l ⟨e, k, q⟩) ⟨e, k, q⟩ ⟨e, k, q⟩).2 (.inl rfl))
        clear hmem HI
        generalize insAt l (posM l ⟨e, k, q⟩) ⟨e, k, q⟩ = l2 at *
        have HHA2 := Aside0.mk (show hasM l2 ⟨e, k, q⟩ = true by rw [has_of HIR.out.1]; exact decide_eq_true HME.out)
        have hg11 := XD.out.lt
        go_wp2_with fail
        refine (SAdd_v (.slice A6 l.length c6) l ⟨e, k, q⟩ l2 0 g _ ?hL4 (by omega) HADD.out).mono ?_
        case hL4 => (repeat (with_reducible first | exact HL.out | apply ListV.drew))
        rintro e w12 ⟨v', rfl, hR_, hb_⟩
        have YD : Box w12 (g) _ _ := Box.below (by repeat (with_reducible first | exact XD.out | exact Box.new | exact Box.new1 | exact Box.new2 | exact Box.new3 | apply Box.alloc | apply Box.drew | apply Box.drewN | apply Box.set)) hb_
        (try clear XD rD kD fD); have XD := Aside0.mk YD; have rD := YD.cell; have fD := YD.frozen; have kD := YD.lt; clear YD
        have YN : Box w12 (M) _ _ := Box.below (by repeat (with_reducible first | exact XN.out | exact Box.new | exact Box.new1 | exact Box.new2 | exact Box.new3 | apply Box.alloc | apply Box.drew | apply Box.drewN | apply Box.set)) hb_
        (try clear XN rN kN fN); have XN := Aside0.mk YN; have rN := YN.cell; have fN := YN.frozen; have kN := YN.lt; clear YN
        have ZHXW := Aside0.mk (Kd.C_below (by repeat (with_reducible first | exact HXW.out | apply C_alloc | apply C_drew)) hb_); clear HXW; have HXW := ZHXW; clear ZHXW
        have ZHPW := Aside0.mk (Kd.C_below (by repeat (with_reducible first | exact HPW.out | apply C_alloc | apply C_drew)) hb_); clear HPW; have HPW := ZHPW; clear ZHPW
        have ZHL := Aside0.mk (ListV.below (by repeat (with_reducible first | exact HL.out | apply ListV.drew)) hb_); clear HL; have HL := ZHL; clear ZHL
        have n_ := Aside0.mk (below_step (by repeat (first | exact HB.out | apply below_alloc | apply pw_below_drewN | apply below_drew1 | refine below_set ?_ (by first | omega | (simp; omega)))) hb_); clear HB hb_; have HB := n_; clear n_
        obtain ⟨A', c', rfl, hc', _⟩ := Kd.R_reads hR_
        have hl2_ := ListV.ofR hR_ hg11
        rw [HLN.out] at hl2_ ⊢
        have HL2 := Aside0.mk hl2_
        clear hR_ hl2_
        go_upto_region 9 with (fail)
        have rC : w12.cell? ⟨g, e * 18 + k * 6 + q, none⟩ = some (.bool false) := by rw [rD, hadC_get _ (by omega), HH.out]
        have kC : g < w12.heap.size := kD
        clear rD
        go_region_held3 (fun w' => Below w12.heap.size w12 w' ∧ (w'.cell? ((⟨g, e * 18 + k * 6 + q, none⟩ : Addr)) = some (.bool false)) ∧ (∀ j, w'.cell? ⟨M, j, none⟩ = (#[.int .i64 e, .int .i64 k, .int .i64 q] : Array Value)[j]?)) (first | exact ⟨below_drew1 (Below.refl _ _), rC, rN⟩ | exact ⟨below_drew1 b0_, rC, rN⟩ | exact ⟨j0, jC, jN⟩ | exact ⟨below_alloc j0 _, (cell_alloc_oldp (Nat.lt_of_lt_of_le kC j0.size)).trans jC, fun j => (cell_alloc_old (Nat.lt_of_lt_of_le kN j0.size)).trans (jN j)⟩ | exact ⟨below_alloc (below_drew1 (Below.refl _ _)) _, (cell_alloc_oldp kC).trans rC, fun j => (cell_alloc_old kN).trans (rN j)⟩ | assumption) (fail)
        have hlw : IntKind.i64.wrap ((l.length : Int) + 1) = (l.length : Int) + 1 := by rw [IntKind.wrap_i64]; omega
        go_wp2_with fail
        refine (SHas_v (.slice A6 l.length c6) l ⟨e, k, q⟩ false g _ ?hL5 HHAS.out).mono ?_
        case hL5 => (repeat (with_reducible first | exact HL.out | apply ListV.drew))
        rintro e w13 ⟨rfl, hb_⟩
        have YD : Box w13 (g) _ _ := Box.below (by repeat (with_reducible first | exact XD.out | exact Box.new | exact Box.new1 | exact Box.new2 | exact Box.new3 | apply Box.alloc | apply Box.drew | apply Box.drewN | apply Box.set)) hb_
        (try clear XD rD kD fD); have XD := Aside0.mk YD; have rD := YD.cell; have fD := YD.frozen; have kD := YD.lt; clear YD
        have YN : Box w13 (M) _ _ := Box.below (by repeat (with_reducible first | exact XN.out | exact Box.new | exact Box.new1 | exact Box.new2 | exact Box.new3 | apply Box.alloc | apply Box.drew | apply Box.drewN | apply Box.set)) hb_
        (try clear XN rN kN fN); have XN := Aside0.mk YN; have rN := YN.cell; have fN := YN.frozen; have kN := YN.lt; clear YN
        have ZHXW := Aside0.mk (Kd.C_below (by repeat (with_reducible first | exact HXW.out | apply C_alloc | apply C_drew)) hb_); clear HXW; have HXW := ZHXW; clear ZHXW
        have ZHPW := Aside0.mk (Kd.C_below (by repeat (with_reducible first | exact HPW.out | apply C_alloc | apply C_drew)) hb_); clear HPW; have HPW := ZHPW; clear ZHPW
        have ZHL := Aside0.mk (ListV.below (by repeat (with_reducible first | exact HL.out | apply ListV.drew)) hb_); clear HL; have HL := ZHL; clear ZHL
        have ZHL2 := Aside0.mk (ListV.below (by repeat (with_reducible first | exact HL2.out | apply ListV.drew)) hb_); clear HL2; have HL2 := ZHL2; clear ZHL2
        have n_ := Aside0.mk (below_step (by repeat (first | exact HB.out | apply below_alloc | apply pw_below_drewN | apply below_drew1 | refine below_set ?_ (by first | omega | (simp; omega)))) hb_); clear HB hb_; have HB := n_; clear n_
        go_wp2_with fail
        refine (SHas_v (.slice A' (l.length + 1) c') l2 ⟨e, k, q⟩ true g _ ?hL6 HHA2.out).mono ?_
        case hL6 => (repeat (with_reducible first | exact HL2.out | apply ListV.drew))
        rintro e w14 ⟨rfl, hb_⟩
        have YD : Box w14 (g) _ _ := Box.below (by repeat (with_reducible first | exact XD.out | exact Box.new | exact Box.new1 | exact Box.new2 | exact Box.new3 | apply Box.alloc | apply Box.drew | apply Box.drewN | apply Box.set)) hb_
        (try clear XD rD kD fD); have XD := Aside0.mk YD; have rD := YD.cell; have fD := YD.frozen; have kD := YD.lt; clear YD
        have YN : Box w14 (M) _ _ := Box.below (by repeat (with_reducible first | exact XN.out | exact Box.new | exact Box.new1 | exact Box.new2 | exact Box.new3 | apply Box.alloc | apply Box.drew | apply Box.drewN | apply Box.set)) hb_
        (try clear XN rN kN fN); have XN := Aside0.mk YN; have rN := YN.cell; have fN := YN.frozen; have kN := YN.lt; clear YN
        have ZHXW := Aside0.mk (Kd.C_below (by repeat (with_reducible first | exact HXW.out | apply C_alloc | apply C_drew)) hb_); clear HXW; have HXW := ZHXW; clear ZHXW
        have ZHPW := Aside0.mk (Kd.C_below (by repeat (with_reducible first | exact HPW.out | apply C_alloc | apply C_drew)) hb_); clear HPW; have HPW := ZHPW; clear ZHPW
        have ZHL := Aside0.mk (ListV.below (by repeat (with_reducible first | exact HL.out | apply ListV.drew)) hb_); clear HL; have HL := ZHL; clear ZHL
        have ZHL2 := Aside0.mk (ListV.below (by repeat (with_reducible first | exact HL2.out | apply ListV.drew)) hb_); clear HL2; have HL2 := ZHL2; clear ZHL2
        have n_ := Aside0.mk (below_step (by repeat (first | exact HB.out | apply below_alloc | apply pw_below_drewN | apply below_drew1 | refine below_set ?_ (by first | omega | (simp; omega)))) hb_); clear HB hb_; have HB := n_; clear n_
        clear HL
        have HL := HL2
        clear HL2
        go_upto_region 14 with (fail)
        have rC : w14.cell? ⟨g, e * 18 + k * 6 + q, none⟩ = some (.bool false) := by rw [rD, hadC_get _ (by omega), HH.out]
        clear rD
        go_region
        clear rC
        have YD := Aside0.mk (Box.drew (hadC_put H true ▸ Box.put (v := .bool true) (j := e * 18 + k * 6 + q) XD.out))
        have YB := Aside0.mk (below_drew1 (show Below w.heap.size w (w14.setCell ⟨g, e * 18 + k * 6 + q, none⟩ (.bool true)) from below_set HB.out hgw))
        have YL := Aside0.mk (HL.out.set (o := e * 18 + k * 6 + q) (u := .bool true)).drew
        generalize (w14.setCell ⟨g, e * 18 + k * 6 + q, none⟩ (.bool true)).drew = w15 at *
        clear XD HB HL HXW HPW rN kN fN XN kD fD
        generalize (fun j => if j = e * 18 + k * 6 + q then true else H j) = H2 at *
        have XD := YD
        have HB := YB
        have HL := YL
        clear YD YB YL
        have HXW := Aside0.mk (Kd.C_below HX0.out HB.out)
        have HPW := Aside0.mk (Kd.C_below HP0.out HB.out)
        have hLL : l2.length ≤ i + 1 := by rw [HLN.out]; omega
        have HD := XD
        have hpl0 : 0 ≤ (i : Int) := by omega
        by_cases hpi : i < np
        · have hpii : (i : Int) < (np : Int) := by omega
          have hdp : decide (i < np) = true := decide_eq_true hpi
          have hdpi : decide ((i : Int) < (np : Int)) = true := decide_eq_true hpii
          obtain ⟨pd, rfl, p0⟩ := Kd.at_int HPW.out (i : Int) hpl0 hpii
          obtain ⟨y, hy⟩ : ∃ y, rd pr (i : Int) = y := ⟨_, rfl⟩
          have hyo : In64 y := by
            have hil : i < pr.length := by rw [← HNP.out]; exact hpi
            rw [← hy]
            have := HO.out.2 (pr[i]) (List.getElem_mem hil)
            simpa [rd, hil] using this
          rw [hy, Int.toNat_natCast] at p0
          have HY := Aside0.mk hyo
          have HYE := Aside0.mk hy
          clear hy hyo
          obtain ⟨r4, hr4⟩ : ∃ r4, pickZ y 4 = r4 := ⟨_, rfl⟩
          obtain ⟨p7, hp7, hp7b⟩ : ∃ p : Nat, pickZ y 7 = (p : Int) ∧ p < 7 := ⟨(pickZ y 7).toNat, by have := pickZ_lt y 7 (by omega); omega, by have := pickZ_lt y 7 (by omega); omega⟩
          have HR4 := Aside0.mk hr4
          have HP7 := Aside0.mk hp7
          clear hr4 hp7
          have hp0 := p0
          by_cases hr0 : r4 = 0
          · subst hr0
            go_wp2_with fail
            refine (pick_v y 4 0 HY.out (by omega) _ HR4.out).mono ?_
            rintro e w15 ⟨rfl, hb_⟩
            have YD : Box w15 (g) _ _ := Box.below (by repeat (with_reducible first | exact XD.out | exact Box.new | exact Box.new1 | exact Box.new2 | exact Box.new3 | apply Box.alloc | apply Box.drew | apply Box.drewN | apply Box.set)) hb_
            (try clear XD rD kD fD); have XD := Aside0.mk YD; have rD := YD.cell; have fD := YD.frozen; have kD := YD.lt; clear YD
            have ZHXW := Aside0.mk (Kd.C_below (by repeat (with_reducible first | exact HXW.out | apply C_alloc | apply C_drew)) hb_); clear HXW; have HXW := ZHXW; clear ZHXW
            have ZHPW := Aside0.mk (Kd.C_below (by repeat (with_reducible first | exact HPW.out | apply C_alloc | apply C_drew)) hb_); clear HPW; have HPW := ZHPW; clear ZHPW
            have ZHL := Aside0.mk (ListV.below (by repeat (with_reducible first | exact HL.out | apply ListV.drew)) hb_); clear HL; have HL := ZHL; clear ZHL
            have n_ := Aside0.mk (below_step (by repeat (first | exact HB.out | apply below_alloc | apply pw_below_drewN | apply below_drew1 | refine below_set ?_ (by first | omega | (simp; omega)))) hb_); clear HB hb_; have HB := n_; clear n_
            clear p0
            obtain ⟨pd2, e2, p1⟩ := Kd.at_int HPW.out (i : Int) hpl0 hpii
            cases e2
            rw [HYE.out, Int.toNat_natCast] at p1
            go_wp2_with fail
            refine (pick_v y 7 p7 HY.out (by omega) _ HP7.out).mono ?_
            rintro e w16 ⟨rfl, hb_⟩
            have YD : Box w16 (g) _ _ := Box.below (by repeat (with_reducible first | exact XD.out | exact Box.new | exact Box.new1 | exact Box.new2 | exact Box.new3 | apply Box.alloc | apply Box.drew | apply Box.drewN | apply Box.set)) hb_
            (try clear XD rD kD fD); have XD := Aside0.mk YD; have rD := YD.cell; have fD := YD.frozen; have kD := YD.lt; clear YD
            have ZHXW := Aside0.mk (Kd.C_below (by repeat (with_reducible first | exact HXW.out | apply C_alloc | apply C_drew)) hb_); clear HXW; have HXW := ZHXW; clear ZHXW
            have ZHPW := Aside0.mk (Kd.C_below (by repeat (with_reducible first | exact HPW.out | apply C_alloc | apply C_drew)) hb_); clear HPW; have HPW := ZHPW; clear ZHPW
            have ZHL := Aside0.mk (ListV.below (by repeat (with_reducible first | exact HL.out | apply ListV.drew)) hb_); clear HL; have HL := ZHL; clear ZHL
            have n_ := Aside0.mk (below_step (by repeat (first | exact HB.out | apply below_alloc | apply pw_below_drewN | apply below_drew1 | refine below_set ?_ (by first | omega | (simp; omega)))) hb_); clear HB hb_; have HB := n_; clear n_
            clear p1
            have hg16 := kD
            go_wp2_with fail
            refine (SPrune_v (.slice A' (l.length + 1) c') l2 (p7 : Int) g _ ?hL3 (by omega)).mono ?_
            case hL3 => (repeat (with_reducible first | exact HL.out | apply ListV.drew))
            rintro e w17 ⟨v2, rfl, hR_, hb_⟩
            have YD : Box w17 (g) _ _ := Box.below (by repeat (with_reducible first | exact XD.out | exact Box.new | exact Box.new1 | exact Box.new2 | exact Box.new3 | apply Box.alloc | apply Box.drew | apply Box.drewN | apply Box.set)) hb_
            (try clear XD rD kD fD); have XD := Aside0.mk YD; have rD := YD.cell; have fD := YD.frozen; have kD := YD.lt; clear YD
            have ZHXW := Aside0.mk (Kd.C_below (by repeat (with_reducible first | exact HXW.out | apply C_alloc | apply C_drew)) hb_); clear HXW; have HXW := ZHXW; clear ZHXW
            have ZHPW := Aside0.mk (Kd.C_below (by repeat (with_reducible first | exact HPW.out | apply C_alloc | apply C_drew)) hb_); clear HPW; have HPW := ZHPW; clear ZHPW
            have n_ := Aside0.mk (below_step (by repeat (first | exact HB.out | apply below_alloc | apply pw_below_drewN | apply below_drew1 | refine below_set ?_ (by first | omega | (simp; omega)))) hb_); clear HB hb_; have HB := n_; clear n_
            have HL2 := Aside0.mk (ListV.ofR hR_ hg16)
            have hpl := (prune_len l2 (p7 : Int))
            clear hR_ HL
            go_wp2
            go_loopw [14] (fun v14 wx => ∃ x : Nat, x ≤ min p7 5 ∧ v14 = .int .i64 x ∧ ListV wx g v2 (pruneM l2 (p7 : Int)) ∧ Box wx g (hadC (fun j => if j < x * 18 then false else H2 j)) 47 ∧ Below w.heap.size w wx) (fun v14 _ => 5 - (intOf v14).toNat)
            case atStart => exact ⟨0, by omega, rfl, HL2.out, (by rw [show (fun j => if j < 0 * 18 then false else H2 j) = H2 from funext fun j => if_neg (by omega)]; exact XD.out), HB.out⟩
            case round =>
              obtain ⟨x2, hx2, rfl, hl2, hd2, hb2⟩ := hrel
              rename World => wz
              clear XD HL2 HB HXW HPW HD rD kD fD
              have XD := Aside0.mk hd2
              have HL := Aside0.mk hl2
              have HB := Aside0.mk hb2
              clear hd2 hl2 hb2
              by_cases hx5 : x2 < p7 ∧ x2 < 5
              · obtain ⟨hx5a, hx5b⟩ := hx5
                have hda : decide (x2 < p7) = true := decide_eq_true hx5a
                have hdb : decide (x2 < 5) = true := decide_eq_true hx5b
                have hdai : decide ((x2 : Int) < (p7 : Int)) = true := decide_eq_true (by omega)
                have hdbi : decide ((x2 : Int) < 5) = true := decide_eq_true (by omega)
                have hx0i : 0 ≤ (x2 : Int) := by omega
                have hx5i : (x2 : Int) < 5 := by omega
                have hxn : IntKind.i64.wrap ((x2 : Int) + 1) = (x2 : Int) + 1 := by rw [IntKind.wrap_i64]; omega
                have HTH := Aside0.mk (show wz.there g (x2 * 18) rowF.size from fun j hj => ⟨by rw [XD.out.cell, hadC_get _ (by rw [row_len] at hj; omega)]; rfl, XD.out.frozen _⟩)
                have hz := row_zero
                have hst : (storeCells ⟨g, x2 * 18, none⟩ rowF.toList).run Try.prog wz = .ok () (wz.setCells g (x2 * 18) rowF.toList) := by
                  have h9 := run_storeCells_cells (P := Try.prog) g (x2 * 18) rowF.toList 0 wz (fun j hj => by simpa using (HTH.out j (by simpa using hj)).1) (fun j hj => by simpa using (HTH.out j (by simpa using hj)).2) (fun v hv => (Array.all_eq_true_iff_forall_mem.1 row_one) v (by simpa using hv))
                  simpa only [Nat.add_zero] using h9
                go_wp2
                have h1 : Box (wz.setCells g (x2 * 18) rowF.toList) g _ _ := had_cells 18 (x2 * 18) _ _ XD.out
                have h2 : (fun j => if x2 * 18 ≤ j ∧ j < x2 * 18 + 18 then false else if j < x2 * 18 then false else H2 j) = (fun j => if j < (x2 + 1) * 18 then false else H2 j) := by
                  funext j
                  (repeat' split) <;> first | rfl | omega
                rw [h2] at h1
                exact ⟨⟨x2 + 1, by omega, (show Value.int .i64 ((x2 : Int) + 1) = .int .i64 ((x2 + 1 : Nat) : Int) by rw [Int.natCast_add]; rfl), HL.out.cells _ _, h1, below_cells hgw _ _ _ HB.out⟩, by simp [intOf]; omega⟩
              · have hx5c : x2 = min p7 5 := by omega
                have HIR2 := Aside0.mk (InvO.prune HIR.out p7 x2 hx5c)
                clear HIR
                have HIR := HIR2
                replace hLL : (pruneM l2 (p7 : Int)).length ≤ i + 1 := by omega
                by_cases hx5a : x2 < p7
                · have hda : decide (x2 < p7) = true := decide_eq_true hx5a
                  have hdai : decide ((x2 : Int) < (p7 : Int)) = true := decide_eq_true (by omega)
                  have hdb : decide (x2 < 5) = false := decide_eq_false (by omega)
                  have hdbi : decide ((x2 : Int) < 5) = false := decide_eq_false (by omega)
                  go_wp2
                  exact ⟨⟨i + 1, pruneM l2 (p7 : Int), fun j => if j < x2 * 18 then false else H2 j, by omega, by omega, (show Value.int .i64 ((i : Int) + 1) = .int .i64 ((i + 1 : Nat) : Int) by rw [Int.natCast_add]; rfl), hLL, HIR.out, HL.out, XD.out, HB.out⟩, by simp [intOf]; omega⟩
                · have hda : decide (x2 < p7) = false := decide_eq_false hx5a
                  have hdai : decide ((x2 : Int) < (p7 : Int)) = false := decide_eq_false (by omega)
                  go_wp2
                  exact ⟨⟨i + 1, pruneM l2 (p7 : Int), fun j => if j < x2 * 18 then false else H2 j, by omega, by omega, (show Value.int .i64 ((i : Int) + 1) = .int .i64 ((i + 1 : Nat) : Int) by rw [Int.natCast_add]; rfl), hLL, HIR.out, HL.out, XD.out, HB.out⟩, by simp [intOf]; omega⟩
          · have hrb : (r4 == 0) = false := by rw [beq_eq_false_iff_ne]; exact hr0
            go_wp2_with fail
            refine (pick_v y 4 r4 HY.out (by omega) _ HR4.out).mono ?_
            rintro e w15 ⟨rfl, hb_⟩
            have YD : Box w15 (g) _ _ := Box.below (by repeat (with_reducible first | exact XD.out | exact Box.new | exact Box.new1 | exact Box.new2 | exact Box.new3 | apply Box.alloc | apply Box.drew | apply Box.drewN | apply Box.set)) hb_
            (try clear XD rD kD fD); have XD := Aside0.mk YD; have rD := YD.cell; have fD := YD.frozen; have kD := YD.lt; clear YD
            have ZHXW := Aside0.mk (Kd.C_below (by repeat (with_reducible first | exact HXW.out | apply C_alloc | apply C_drew)) hb_); clear HXW; have HXW := ZHXW; clear ZHXW
            have ZHPW := Aside0.mk (Kd.C_below (by repeat (with_reducible first | exact HPW.out | apply C_alloc | apply C_drew)) hb_); clear HPW; have HPW := ZHPW; clear ZHPW
            have ZHL := Aside0.mk (ListV.below (by repeat (with_reducible first | exact HL.out | apply ListV.drew)) hb_); clear HL; have HL := ZHL; clear ZHL
            have n_ := Aside0.mk (below_step (by repeat (first | exact HB.out | apply below_alloc | apply pw_below_drewN | apply below_drew1 | refine below_set ?_ (by first | omega | (simp; omega)))) hb_); clear HB hb_; have HB := n_; clear n_
            clear p0
            go_wp2
            exact ⟨⟨i + 1, l2, H2, by omega, by omega, (show Value.int .i64 ((i : Int) + 1) = .int .i64 ((i + 1 : Nat) : Int) by rw [Int.natCast_add]; rfl), hLL, HIR.out, HL.out, XD.out, HB.out⟩, by simp [intOf]; omega⟩
        · have hdp : decide (i < np) = false := decide_eq_false hpi
          have hdpi : decide ((i : Int) < (np : Int)) = false := decide_eq_false (by omega)
          go_wp2
          exact ⟨⟨i + 1, l2, H2, by omega, by omega, (show Value.int .i64 ((i : Int) + 1) = .int .i64 ((i + 1 : Nat) : Int) by rw [Int.natCast_add]; rfl), hLL, HIR.out, HL.out, XD.out, HB.out⟩, by simp [intOf]; omega⟩
    · by_cases hlt1 : i < n
      · have hd1 : decide (i < n) = true := decide_eq_true hlt1
        have hd2 : decide (i < 40) = false := decide_eq_false (by omega)
        have hd1i : decide ((i : Int) < (n : Int)) = true := decide_eq_true (by omega)
        have hd2i : decide ((i : Int) < 40) = false := decide_eq_false (by omega)
        go_wp2_with fail
        refine (SRight_w u6 l g _ ?hL7 HI.out.1).mono ?_
        case hL7 => (repeat (with_reducible first | exact HL.out | apply ListV.drew))
        rintro e w20 ⟨rfl, hb_⟩
        have n_ := Aside0.mk (below_step (by repeat (first | exact HB.out | apply below_alloc | apply pw_below_drewN | apply below_drew1 | refine below_set ?_ (by first | omega | (simp; omega)))) hb_); clear HB hb_; have HB := n_; clear n_
        go_wp2
        go_ret
        exact ⟨rfl, HB.out⟩
      · have hd1 : decide (i < n) = false := decide_eq_false hlt1
        have hd1i : decide ((i : Int) < (n : Int)) = false := decide_eq_false (by omega)
        go_wp2_with fail
        refine (SRight_w u6 l g _ ?hL8 HI.out.1).mono ?_
        case hL8 => (repeat (with_reducible first | exact HL.out | apply ListV.drew))
        rintro e w20 ⟨rfl, hb_⟩
        have n_ := Aside0.mk (below_step (by repeat (first | exact HB.out | apply below_alloc | apply pw_below_drewN | apply below_drew1 | refine below_set ?_ (by first | omega | (simp; omega)))) hb_); clear HB hb_; have HB := n_; clear n_
        go_wp2
        go_ret
        exact ⟨rfl, HB.out⟩
end Go.Proofs.Ytppcojfgpjnagaa
