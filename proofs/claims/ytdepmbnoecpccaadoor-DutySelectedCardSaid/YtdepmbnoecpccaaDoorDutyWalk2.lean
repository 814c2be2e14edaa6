
/- What duty's functions (chapter 10) tell of committees. -/
import Derived.StillTailTactics
import Derived.Deep.RegionHeld3
import Derived.Test.YtdepmbnoecpccaaDoorDutyWalk
set_option linter.unusedVariables false
set_option linter.unusedSimpArgs false
namespace Go.Proofs.YtdepmbnoecpccaaDoor
open Go.RowKit Go.Proofs.YtdepmbnoecpccaaDoorW.PrintWords Go.Proofs.YtdepmbnoecpccaaDoorW.PrintLast Go.Proofs.YtdepmbnoecpccaaDoorW.PrintMore

def fromK (c : ChainV) (k : Int) : Int := fromF c.va (c.sl * c.co) k
def seedF (c : ChainV) (e : Int) : Int := foldF [c.se, e]
def memPart (c : ChainV) (e k : Int) (t : Nat) : List Int := (List.range t).map fun (j : Nat) => placeF c.va (seedF c e) c.ro.toNat (fromK c k + j)
def cntF (c : ChainV) (k : Int) : Nat := (fromK c (k + 1) - fromK c k).toNat
def memF (c : ChainV) (e k : Int) : List Int := memPart c e k (cntF c k)
theorem memPart_snoc (c : ChainV) (e k : Int) (t : Nat) : memPart c e k (t + 1) = memPart c e k t ++ [placeF c.va (seedF c e) c.ro.toNat (fromK c k + t)] := by
  unfold memPart; rw [List.range_succ, List.map_append]; rfl
theorem memPart_len (c : ChainV) (e k : Int) (t : Nat) : (memPart c e k t).length = t := by simp [memPart]
theorem chain_A (c : ChainV) (hf : fitsC c = true) : 1 ≤ c.va ∧ c.va ≤ 1024 ∧ 1 ≤ c.sl * c.co ∧ c.sl * c.co ≤ 256 := by
  obtain ⟨h1, h2, h3, h4, h5, h6, h7, h8, h9⟩ := (fitsC_iff c).1 hf
  have g := mul_bd (show 0 ≤ c.sl by omega) h2.2 (show 0 ≤ c.co by omega) h3.2
  have hA : 1 * 1 ≤ c.sl * c.co := Int.mul_le_mul h2.1 h3.1 (by omega) (show 0 ≤ c.sl by omega)
  omega
theorem fromK_facts (c : ChainV) (hf : fitsC c = true) (k : Int) (hk : 0 ≤ k ∧ k < c.sl * c.co) : 0 ≤ fromK c k ∧ fromK c k ≤ fromK c (k + 1) ∧ fromK c (k + 1) ≤ c.va ∧ ((cntF c k : Nat) : Int) = fromK c (k + 1) - fromK c k := by
  obtain ⟨h1, h2, h3, h4⟩ := chain_A c hf
  have a := from_bd h1 h3 (k := k) ⟨hk.1, by omega⟩
  have b := from_bd h1 h3 (k := k + 1) ⟨by omega, by omega⟩
  have d := from_mono h1 h3 (show k ≤ k + 1 by omega)
  unfold cntF fromK
  omega

set_option maxHeartbeats 1000000 in
theorem Subnet_yes (c : ChainV) (s i : Int) (w : World) (h : maySlot c s i = true) (hG : DutyLaid w) : Calls Tryd.prog 14 #[.agg #[.int .i64 c.va, .int .i64 c.sl, .int .i64 c.co, .int .i64 c.su, .int .i64 c.ti, .int .i64 c.di, .int .i64 c.ra, .int .i64 c.ro, .int .i64 c.ag, .int .u64 c.se], .int .i64 s, .int .i64 i] w fun e w' =>
    e = .returned (.tuple #[.int .i64 (commF c s i % c.su), .int .i64 0]) ∧ Below w.heap.size w w' := by
  obtain ⟨hf, hs, hi⟩ := (maySlot_iff c s i).1 h
  obtain ⟨k1, k2, k3, k4, k5, k6, k7, k8, k9⟩ := commF_bd c s i h
  obtain ⟨h1, h2, h3, h4, h5, h6, h7, h8, h9⟩ := (fitsC_iff c).1 hf
  have hm : (commF c s i).tmod c.su = commF c s i % c.su := Int.tmod_eq_emod_of_nonneg k8
  have hm1 := Int.emod_nonneg (commF c s i) (show c.su ≠ 0 by omega)
  have hm2 := Int.emod_lt_of_pos (commF c s i) (show 0 < c.su by omega)
  have hsu0 : ¬ c.su = 0 := by omega
  have HB := Aside0.mk (Below.refl w.heap.size w)
  have HG := Aside0.mk hG
  have HH := Aside0.mk h
  clear hG h k1 k2 k3 k4 k5 k6 k7 hs hi h1 h2 h3 h5 h6 h7 h8 h9
  go_enter Tryd.func14, Tryd.ntmps14
  go_wp2_with fail
  refine (committee_yes c s i _ HH.out ?hG).mono ?_
  case hG => exact HG.out.below (by repeat (first | exact HB.out | apply below_alloc | apply pw_below_drewN | apply below_drew1 | refine below_set ?_ (by first | omega | (simp; omega))))
  rintro e w1 ⟨rfl, hb_⟩
  have YA : Box w1 (w.heap.size) _ _ := Box.below (by repeat (with_reducible first | exact XA.out | exact Box.new | exact Box.new1 | exact Box.new2 | exact Box.new3 | apply Box.alloc | apply Box.drew | apply Box.drewN | apply Box.set)) hb_
  (try clear XA rA kA fA); have XA := Aside0.mk YA; have rA := YA.cell; have fA := YA.frozen; have kA := YA.lt; clear YA
  have n_ := Aside0.mk (below_step (by repeat (first | exact HB.out | apply below_alloc | apply pw_below_drewN | apply below_drew1 | refine below_set ?_ (by first | omega | (simp; omega)))) hb_); clear HB hb_; have HB := n_; clear n_
  go_wp2
  go_ret2
  exact ⟨rfl, (by repeat (first | exact HB.out | apply below_alloc | apply pw_below_drewN | apply below_drew1 | refine below_set ?_ (by first | omega | (simp; omega))))⟩

set_option maxHeartbeats 4000000 in
theorem Members_yes (c : ChainV) (s i : Int) (w : World) (h : maySlot c s i = true) (hse : 0 ≤ c.se) (hG : DutyLaid w) : Calls Tryd.prog 12 #[.agg #[.int .i64 c.va, .int .i64 c.sl, .int .i64 c.co, .int .i64 c.su, .int .i64 c.ti, .int .i64 c.di, .int .i64 c.ra, .int .i64 c.ro, .int .i64 c.ag, .int .u64 c.se], .int .i64 s, .int .i64 i] w fun e w' =>
    ∃ v, e = .returned (.tuple #[v, .int .i64 0]) ∧ (Kd.int .i64).R 3 w' w.heap.size (fun _ => True) v (memF c (s / c.sl) (commF c s i)) ∧ Below w.heap.size w w' := by
  obtain ⟨hf, hs, hi⟩ := (maySlot_iff c s i).1 h
  obtain ⟨k1, k2, k3, k4, k5, k6, k7, k8, k9⟩ := commF_bd c s i h
  obtain ⟨h1, h2, h3, h4, h5, h6, h7, h8, h9⟩ := (fitsC_iff c).1 hf
  obtain ⟨q1, q2, q3, q4⟩ := fromK_facts c hf _ ⟨k8, k9⟩
  have hsd := foldF_ok [c.se, s / c.sl]
  have HB := Aside0.mk (Below.refl w.heap.size w)
  have HG := Aside0.mk hG
  have HH := Aside0.mk h
  have HS := Aside0.mk (show 0 ≤ foldF [c.se, s / c.sl] from hsd.1)
  have HF := Aside0.mk hf
  clear hG h k3 k4 k5 k6 hs hi hsd
  go_enter Tryd.func12, Tryd.ntmps12
  go_wp2_with fail
  refine (committee_yes c s i _ HH.out ?hG).mono ?_
  case hG => exact HG.out.below (by repeat (first | exact HB.out | apply below_alloc | apply pw_below_drewN | apply below_drew1 | refine below_set ?_ (by first | omega | (simp; omega))))
  rintro e w1 ⟨rfl, hb_⟩
  have n_ := Aside0.mk (below_step (by repeat (first | exact HB.out | apply below_alloc | apply pw_below_drewN | apply below_drew1 | refine below_set ?_ (by first | omega | (simp; omega)))) hb_); clear HB hb_; have HB := n_; clear n_
  generalize hke : commF c s i = k at *
  generalize hpe : s / c.sl = ep at *
  have HK := Aside0.mk (And.intro hke hpe)
  clear hke hpe
  go_wp2_with fail
  refine (seed_calls c ep _ hse ⟨k1, k2⟩ ?hG).mono ?_
  case hG => exact HG.out.below (by repeat (first | exact HB.out | apply below_alloc | apply pw_below_drewN | apply below_drew1 | refine below_set ?_ (by first | omega | (simp; omega))))
  rintro e w2 ⟨rfl, hb_⟩
  have YE : Box w2 (w1.heap.size) _ _ := Box.below (by repeat (with_reducible first | exact XE.out | exact Box.new | exact Box.new1 | exact Box.new2 | exact Box.new3 | apply Box.alloc | apply Box.drew | apply Box.drewN | apply Box.set)) hb_
  (try clear XE rE kE fE); have XE := Aside0.mk YE; have rE := YE.cell; have fE := YE.frozen; have kE := YE.lt; clear YE
  have n_ := Aside0.mk (below_step (by repeat (first | exact HB.out | apply below_alloc | apply pw_below_drewN | apply below_drew1 | refine below_set ?_ (by first | omega | (simp; omega)))) hb_); clear HB hb_; have HB := n_; clear n_
  go_wp2_with fail
  refine (from_calls c ep k _ HF.out ⟨k8, by omega⟩).mono ?_
  rintro e w3 ⟨rfl, hb_⟩
  have YE : Box w3 (w1.heap.size) _ _ := Box.below (by repeat (with_reducible first | exact XE.out | exact Box.new | exact Box.new1 | exact Box.new2 | exact Box.new3 | apply Box.alloc | apply Box.drew | apply Box.drewN | apply Box.set)) hb_
  (try clear XE rE kE fE); have XE := Aside0.mk YE; have rE := YE.cell; have fE := YE.frozen; have kE := YE.lt; clear YE
  have n_ := Aside0.mk (below_step (by repeat (first | exact HB.out | apply below_alloc | apply pw_below_drewN | apply below_drew1 | refine below_set ?_ (by first | omega | (simp; omega)))) hb_); clear HB hb_; have HB := n_; clear n_
  have z3 := HB.out.size
  have dE := kE
  have HW3 := HB
  clear HB
  have HB := Aside0.mk (Below.refl w3.heap.size w3)
  have hA3 := chain_A c HF.out
  go_wp2
  go_loopw [6, 12] (fun ov jv wx => ∃ t : Nat, t ≤ cntF c k ∧ jv = .int .i64 (fromK c k + t) ∧ (Kd.int .i64).R 3 wx w3.heap.size (fun _ => True) ov (memPart c ep k t) ∧ Below w3.heap.size w3 wx) (fun _ jv _ => (fromK c (k + 1) - intOf jv).toNat)
  case atStart => exact ⟨0, by omega, by simp [fromK], Kd.R_nil _ _ _ _ _, HB.out⟩
  case round =>
    clear HB rE fE kE
    obtain ⟨t, ht, rfl, hR, hbl⟩ := hrel
    have bE := XE.out.below hbl
    have rE := bE.cell
    have kE := bE.lt
    have XE2 := Aside0.mk bE
    have HO := Aside0.mk hR
    have HB := Aside0.mk hbl
    have HG3 := Aside0.mk (HG.out.below (below_step HW3.out hbl))
    have hl := memPart_len c ep k t
    clear hR hbl bE
    have ef : fromK c k = fromF c.va (c.sl * c.co) k := rfl
    have ef1 : fromK c (k + 1) = fromF c.va (c.sl * c.co) (k + 1) := rfl
    rw [ef1] at q2 q3 q4
    rw [ef] at q1 q2 q4
    have HE := Aside0.mk (And.intro ef ef1)
    clear ef ef1
    rcases Nat.lt_or_ge t (cntF c k) with hlt | hge
    · have hj : fromF c.va (c.sl * c.co) k + t < fromF c.va (c.sl * c.co) (k + 1) := by omega
      have hmy : mayB c.va c.ro (fromF c.va (c.sl * c.co) k + t) = true := (may_iff _ _ _).2 (by omega)
      have HS2 := Aside0.mk (memPart_snoc c ep k t)
      have hcc : fromF c.va (c.sl * c.co) k + t ≤ 1024 := by omega
      rw [HE.out.1]
      go_wp2_with fail
      refine (from_calls c ep (k + 1) _ HF.out ⟨by omega, by omega⟩).mono ?_
      rintro e w4 ⟨rfl, hb_⟩
      have Y := XE2.out.below hb_
      have HO2 := Aside0.mk (Kd.R_below HO.out hb_)
      have HG4 := Aside0.mk (HG3.out.below hb_)
      have HB2 := Aside0.mk (below_step HB.out hb_)
      clear HB HO HG3 XE2 rE kE hb_
      have HO := HO2
      have HB := HB2
      have XE2 := Aside0.mk Y
      have rE := Y.cell
      have kE := Y.lt
      clear HO2 HB2 Y
      go_wp2_with (first
        | (go_at_call 30; go_loud (((with_reducible refine (Place_y c.va c.ro (foldF [c.se, ep]) (fromF c.va (c.sl * c.co) k + t) _ hmy HS.out ?hG).mono ?_)); (case hG => exact HG4.out.ch)); rintro e w5 ⟨rfl, hb_⟩; have HO2 := Aside0.mk (Kd.R_below HO.out hb_); have HB2 := Aside0.mk (below_step HB.out hb_); clear HB HO hb_; have HO := HO2; have HB := HB2; clear HO2 HB2)
        | ((with_reducible refine gate_builtin (b := .append) (xs := #[.tmp 50, .tmp 52]) rfl ?_); at_builtin; refine Kd.R_append (Kd.int .i64) (w0 := w3) w3.heap.size rfl (.tmp 50) (.tmp 52) 29 3 (.int .i64 0) 8 rfl Tryd.underlying29 info_int rfl (by decide) (by omega) (_) (memPart c ep k t) (placeF c.va (foldF [c.se, ep]) c.ro.toNat (fromF c.va (c.sl * c.co) k + t)) [.int .i64 (placeF c.va (foldF [c.se, ep]) c.ro.toNat (fromF c.va (c.sl * c.co) k + t))] (fun _ => True) (fun _ => False) rfl rfl ?aP (fun _ hk => hk.elim) ?aF ?aO ?aB ?aS ?aL ?_; (case aP => exact rfl); (case aB => exact (by repeat (first | exact HB.out | apply below_alloc | apply pw_below_drewN | apply below_drew1 | refine below_set ?_ (by first | omega | (simp; omega))))); (case aF => exact (fun _ _ => trivial)); (case aO => exact (by (with_reducible repeat (first | apply Kd.R_alloc | apply Kd.R_drewN | apply Kd.R_drew)); exact HO.out)); (case aS => exact below_size (by repeat (first | exact HB.out | apply below_alloc | apply pw_below_drewN | apply below_drew1 | refine below_set ?_ (by first | omega | (simp; omega))))); (case aL => first | omega | (simp; omega)); intro v1 w1 ho_ hb_ hg_ hat_; clear HB; clear HO; have HB := Aside0.mk hb_; have HO := Aside0.mk ho_; clear ho_ hb_ hg_ hat_; ))
      go_roundw
      case rel => exact ⟨t + 1, by omega, by go_num, by rw [HS2.out]; exact HO.out, HB.out⟩
      case measure => (try rw [HE.out.2]); simp [intOf]; omega
    · have hj : ¬ fromF c.va (c.sl * c.co) k + t < fromF c.va (c.sl * c.co) (k + 1) := by omega
      have hcc : fromF c.va (c.sl * c.co) k + t ≤ 1024 := by omega
      rw [HE.out.1]
      go_wp2_with fail
      refine (from_calls c ep (k + 1) _ HF.out ⟨by omega, by omega⟩).mono ?_
      rintro e w4 ⟨rfl, hb_⟩
      have HO2 := Aside0.mk (Kd.R_below HO.out hb_)
      have HB2 := Aside0.mk (below_step HB.out hb_)
      clear HB HO hb_
      have HB := HB2
      clear HB2
      go_wp2
      go_ret2
      refine ⟨_, rfl, ?_, below_step HW3.out HB.out⟩
      obtain rfl : t = cntF c k := by omega
      rw [HK.out.1, HK.out.2]
      exact Kd.R_lower HO2.out z3
end Go.Proofs.YtdepmbnoecpccaaDoor
