
/- SchedMany: for every input the call of the statement returns true and leaves its arguments as they were, over the program whose tables lie as its own text lays them (the tied card). Conditions: none beyond the card's own. -/
import Derived.Deep.RegionHeld3
import Derived.Test.YtejfjbfkbdcmnaaDoorCards
import Derived.Test.YtejfjbfkbdcmnaaDoorTie
import Derived.Test.YtejfjbfkbdcmnaaDoorShellD
import Derived.Test.YtejfjbfkbdcmnaaDoorSchedLawBase
import Derived.Test.YtejfjbfkbdcmnaaDoorSchedPure2
import Derived.Test.YtejfjbfkbdcmnaaDoorBitsSub
set_option linter.unusedVariables false
set_option linter.unusedSimpArgs false
namespace Go.Proofs.YtejfjbfkbdcmnaaDoor
open Go.RowKit Go.Proofs.YtejfjbfkbdcmnaaDoorW.PrintWords Go.Proofs.YtejfjbfkbdcmnaaDoorW.PrintLast Go.Proofs.YtejfjbfkbdcmnaaDoorW.PrintMore
open Go.ChangeShapes Go.WideShapes Go.ChangeAt
open Go.ChangeMaps (open_string shut_string)
attribute [local go_sem] max2_int min2_int max_two min_two

def begF (f t s k : Int) : Int := if f < k ∧ 0 < t ∧ t < s then 1 else 0
theorem begF_zero {f t s : Int} (h : 0 ≤ f) : begF f t s ((0 : Nat) : Int) = 0 := by unfold begF; rw [if_neg (by omega)]
theorem begF_yes {f t s k : Int} (h : k = f ∧ 0 < t ∧ t < s) : begF f t s k + 1 = begF f t s (k + 1) ∧ begF f t s k = 0 := by unfold begF; rw [if_neg (by omega), if_pos (by omega)]; omega
theorem begF_no {f t s k : Int} (h : ¬ (k = f ∧ 0 < t ∧ t < s)) : begF f t s k = begF f t s (k + 1) := by
  unfold begF
  by_cases h1 : f < k ∧ 0 < t ∧ t < s
  · rw [if_pos h1, if_pos (by omega)]
  · rw [if_neg h1, if_neg (by omega)]
set_option maxRecDepth 100000 in
set_option maxHeartbeats 8000000 in
theorem SchedMany_calls (n : Six) (node k q x0 : Int) (hno : 0 ≤ node) (hk : i64ok k) (hq : i64ok q) (hx : i64ok x0) (w : World) (hG : DutyLaid w) : Calls Tryd.prog 5 #[.agg #[.int .i64 n.a, .int .i64 n.b, .int .i64 n.c, .int .i64 n.d, .int .i64 n.e, .int .i64 n.f], .int .u64 node, .int .i64 k, .int .i64 q, .int .i64 x0] w fun e w' =>
    e = .returned (.bool true) ∧ Below w.heap.size w w' := by
  obtain ⟨hx0, hx1⟩ := hx
  have HB := Aside0.mk (Below.refl w.heap.size w)
  have HG := Aside0.mk hG
  clear hG
  have HN := Aside0.mk (chainF_fits n 3)
  have HP := Aside0.mk (planF_fits node k q)
  have hpn : 0 ≤ (planF node k q).no := hno
  have px := pickF_bd x0 1073741824 (by omega)
  go_enter Tryd.func5, Tryd.ntmps5
  go_wp2_with fail
  refine (sawake_calls _ ?hG).mono ?_
  case hG => exact HG.out.below (by repeat (first | exact HB.out | apply below_alloc | apply pw_below_drewN | apply below_drew1 | refine below_set ?_ (by first | omega | (simp; omega))))
  rintro e w1 ⟨rfl, hb_⟩
  have YN : Box w1 (w.heap.size) _ _ := Box.below (by repeat (with_reducible first | exact XN.out | exact Box.new | exact Box.new1 | exact Box.new2 | exact Box.new3 | apply Box.alloc | apply Box.drew | apply Box.drewN | apply Box.set)) hb_
  (try clear XN rN kN fN); have XN := Aside0.mk YN; have rN := YN.cell; have fN := YN.frozen; have kN := YN.lt; clear YN
  have n_ := Aside0.mk (below_step (by repeat (first | exact HB.out | apply below_alloc | apply pw_below_drewN | apply below_drew1 | refine below_set ?_ (by first | omega | (simp; omega)))) hb_); clear HB hb_; have HB := n_; clear n_
  go_wp2_with fail
  refine (Chain_calls n 3 _).mono ?_
  rintro e w2 ⟨rfl, hb_⟩
  have n_ := Aside0.mk (below_step (by repeat (first | exact HB.out | apply below_alloc | apply pw_below_drewN | apply below_drew1 | refine below_set ?_ (by first | omega | (simp; omega)))) hb_); clear HB hb_; have HB := n_; clear n_
  generalize chainF n 3 = c at *
  go_wp2_with fail
  refine (Plan_calls node k q hk hq _).mono ?_
  rintro e w3 ⟨rfl, hb_⟩
  have YC : Box w3 (w2.heap.size) _ _ := Box.below (by repeat (with_reducible first | exact XC.out | exact Box.new | exact Box.new1 | exact Box.new2 | exact Box.new3 | apply Box.alloc | apply Box.drew | apply Box.drewN | apply Box.set)) hb_
  (try clear XC rC kC fC); have XC := Aside0.mk YC; have rC := YC.cell; have fC := YC.frozen; have kC := YC.lt; clear YC
  have n_ := Aside0.mk (below_step (by repeat (first | exact HB.out | apply below_alloc | apply pw_below_drewN | apply below_drew1 | refine below_set ?_ (by first | omega | (simp; omega)))) hb_); clear HB hb_; have HB := n_; clear n_
  have hpp : fitsP (planF node k q) = true := HP.out
  generalize planF node k q = p at *
  obtain ⟨p1, p2⟩ := (fitsP_iff p).1 hpp
  obtain ⟨g1, g2, g3, g4, g5, g6, g7, g8, g9⟩ := (fitsC_iff c).1 HN.out
  have PK : ∀ w, Calls Tryd.prog 13 #[.int .i64 x0, .int .i64 1073741824] w fun e w' => e = .returned (.int .i64 (pickF x0 1073741824)) ∧ Below w.heap.size w w' := fun w => pickB11 x0 1073741824 w hx0 hx1 (by omega) (by omega)
  generalize pickF x0 1073741824 = x at *
  have HPK := Aside0.mk PK
  have HMX := Aside0.mk ((mayP_iff c p x).2 ⟨HN.out, hpp, by omega⟩)
  clear PK hx0 hx1
  go_upto_region 4 with (fail)
  obtain ⟨W, hW⟩ : ∃ W, w3.alloc (.cells #[.int .u64 p.no, .int .i64 p.ke, .int .i64 p.pe] 26) = W := ⟨_, rfl⟩
  have bP : Box W w3.heap.size #[.int .u64 p.no, .int .i64 p.ke, .int .i64 p.pe] 26 := hW ▸ Box.new
  have bC : Box W w2.heap.size #[.int .i64 c.va, .int .i64 c.sl, .int .i64 c.co, .int .i64 c.su, .int .i64 c.ti, .int .i64 c.di, .int .i64 c.ra, .int .i64 c.ro, .int .i64 c.ag, .int .u64 c.se] 24 := hW ▸ XC.out.alloc
  have hbl : Below w.heap.size w W := hW ▸ below_alloc HB.out _
  rw [hW]
  clear hW HB XC rC kC fC
  have HB := Aside0.mk hbl
  have HGW := Aside0.mk (HG.out.below hbl)
  clear hbl
  have XC := Aside0.mk bC; have rC := bC.cell; have fC := bC.frozen; have kC := bC.lt; clear bC
  have XP := Aside0.mk bP; have rP := bP.cell; have fP := bP.frozen; have kP := bP.lt; clear bP
  generalize hL : onList (onP c.su (firstP c p (blockP p x)) p.ke) 64 = l at *
  have NR : ∀ w, DutyLaid w → Calls Tryd.prog 14 #[.agg #[.int .i64 c.va, .int .i64 c.sl, .int .i64 c.co, .int .i64 c.su, .int .i64 c.ti, .int .i64 c.di, .int .i64 c.ra, .int .i64 c.ro, .int .i64 c.ag, .int .u64 c.se], .agg #[.int .u64 p.no, .int .i64 p.ke, .int .i64 p.pe], .int .i64 x] w fun e' w' =>
    ∃ A mc, e' = .returned (.tuple #[.agg #[.int .i64 c.su, .slice A l.length mc], .int .i64 0]) ∧ (Kd.int .i64).R 3 w' w.heap.size (fun k => w.heap.size ≤ k ∧ k < w'.heap.size) (.slice A l.length mc) l ∧ Below w.heap.size w w' := fun w hw => by
    rw [← hL]
    exact Nets_R c p x w HMX.out hpn hw
  have HNR := Aside0.mk NR
  have HLL := Aside0.mk hL
  clear NR hL
  go_cut [14, 15] (fun bv ev wc => ∃ B A1 m1, bv = .pointer (some ⟨B, 0, none⟩) ∧ ev = .int .i64 0 ∧ Box wc B #[.int .i64 c.su, .slice A1 l.length m1] 37 ∧ (Kd.int .i64).C wc A1 l.length l ∧ Box wc w2.heap.size #[.int .i64 c.va, .int .i64 c.sl, .int .i64 c.co, .int .i64 c.su, .int .i64 c.ti, .int .i64 c.di, .int .i64 c.ra, .int .i64 c.ro, .int .i64 c.ag, .int .u64 c.se] 24 ∧ Box wc w3.heap.size #[.int .u64 p.no, .int .i64 p.ke, .int .i64 p.pe] 26 ∧ Below w.heap.size w wc)
  case first =>
    go_region_held3 (fun w' => Below W.heap.size W w' ∧ (∀ j, w'.cell? ⟨w2.heap.size, j, none⟩ = (#[.int .i64 c.va, .int .i64 c.sl, .int .i64 c.co, .int .i64 c.su, .int .i64 c.ti, .int .i64 c.di, .int .i64 c.ra, .int .i64 c.ro, .int .i64 c.ag, .int .u64 c.se] : Array Value)[j]?) ∧ (∀ j, w'.cell? ⟨w3.heap.size, j, none⟩ = (#[.int .u64 p.no, .int .i64 p.ke, .int .i64 p.pe] : Array Value)[j]?)) (first | exact ⟨below_drew1 (Below.refl _ _), rC, rP⟩ | exact ⟨j0, jC, jP⟩ | exact ⟨below_alloc j0 _, fun j => (cell_alloc_old (Nat.lt_of_lt_of_le kC j0.size)).trans (jC j), fun j => (cell_alloc_old (Nat.lt_of_lt_of_le kP j0.size)).trans (jP j)⟩ | exact ⟨below_alloc (below_drew1 (Below.refl _ _)) _, fun j => (cell_alloc_old kC).trans (rC j), fun j => (cell_alloc_old kP).trans (rP j)⟩ | exact ⟨below_set (below_alloc j0 _) (by first | omega | (simp only; omega)), fun j => (cell_far (by first | omega | (simp only; omega))).trans ((cell_alloc_old (Nat.lt_of_lt_of_le kC j0.size)).trans (jC j)), fun j => (cell_far (by first | omega | (simp only; omega))).trans ((cell_alloc_old (Nat.lt_of_lt_of_le kP j0.size)).trans (jP j))⟩ | exact ⟨below_set (j0) (by first | omega | (simp only; omega)), fun j => (cell_far (by first | omega | (simp only; omega))).trans ((jC j)), fun j => (cell_far (by first | omega | (simp only; omega))).trans ((jP j))⟩ | exact ⟨below_set (below_set (below_alloc j0 _) (by first | omega | (simp only; omega))) (by first | omega | (simp only; omega)), fun j => (cell_far (by first | omega | (simp only; omega))).trans ((cell_far (by first | omega | (simp only; omega))).trans ((cell_alloc_old (Nat.lt_of_lt_of_le kC j0.size)).trans (jC j))), fun j => (cell_far (by first | omega | (simp only; omega))).trans ((cell_far (by first | omega | (simp only; omega))).trans ((cell_alloc_old (Nat.lt_of_lt_of_le kP j0.size)).trans (jP j)))⟩ | exact ⟨below_set (below_set (j0) (by first | omega | (simp only; omega))) (by first | omega | (simp only; omega)), fun j => (cell_far (by first | omega | (simp only; omega))).trans ((cell_far (by first | omega | (simp only; omega))).trans ((jC j))), fun j => (cell_far (by first | omega | (simp only; omega))).trans ((cell_far (by first | omega | (simp only; omega))).trans ((jP j)))⟩ | exact ⟨below_set (below_set (below_set (below_alloc j0 _) (by first | omega | (simp only; omega))) (by first | omega | (simp only; omega))) (by first | omega | (simp only; omega)), fun j => (cell_far (by first | omega | (simp only; omega))).trans ((cell_far (by first | omega | (simp only; omega))).trans ((cell_far (by first | omega | (simp only; omega))).trans ((cell_alloc_old (Nat.lt_of_lt_of_le kC j0.size)).trans (jC j)))), fun j => (cell_far (by first | omega | (simp only; omega))).trans ((cell_far (by first | omega | (simp only; omega))).trans ((cell_far (by first | omega | (simp only; omega))).trans ((cell_alloc_old (Nat.lt_of_lt_of_le kP j0.size)).trans (jP j))))⟩ | exact ⟨below_set (below_set (below_set (j0) (by first | omega | (simp only; omega))) (by first | omega | (simp only; omega))) (by first | omega | (simp only; omega)), fun j => (cell_far (by first | omega | (simp only; omega))).trans ((cell_far (by first | omega | (simp only; omega))).trans ((cell_far (by first | omega | (simp only; omega))).trans ((jC j)))), fun j => (cell_far (by first | omega | (simp only; omega))).trans ((cell_far (by first | omega | (simp only; omega))).trans ((cell_far (by first | omega | (simp only; omega))).trans ((jP j))))⟩ | assumption) (first | (go_at_call 13; obtain ⟨g0, gC, gP⟩ := ‹Below W.heap.size W _ ∧ _›; ((with_reducible refine (HPK.out _).mono ?_));  rintro e w5 ⟨rfl, hb_⟩; have j0 := below_step g0 hb_; have s5 := j0.size; have jC := fun j => (hb_.cell (p := ⟨w2.heap.size, j, none⟩) (Nat.lt_of_lt_of_le kC g0.size)).trans (gC j); have jP := fun j => (hb_.cell (p := ⟨w3.heap.size, j, none⟩) (Nat.lt_of_lt_of_le kP g0.size)).trans (gP j); (try first | have bq5 := Box.below Box.new hb_ | have bq5 := Box.below (Box.drew Box.new) hb_); (try have rq5 := bq5.cell); (try have fq5 := bq5.frozen)) | (go_at_call 14; obtain ⟨g0, gC, gP⟩ := ‹Below W.heap.size W _ ∧ _›; ((with_reducible refine (HNR.out _ (HGW.out.below g0)).mono ?_));  rintro e w6 ⟨A1, m1, rfl, hR, hb_⟩; have j0 := below_step g0 hb_; have s6 := j0.size; have jC := fun j => (hb_.cell (p := ⟨w2.heap.size, j, none⟩) (Nat.lt_of_lt_of_le kC g0.size)).trans (gC j); have jP := fun j => (hb_.cell (p := ⟨w3.heap.size, j, none⟩) (Nat.lt_of_lt_of_le kP g0.size)).trans (gP j); (first | (have bq6 := Box.below bq5 hb_; have rq6 := bq6.cell; have fq6 := bq6.frozen) | (have bq6 := Box.below Box.new hb_; have rq6 := bq6.cell; have fq6 := bq6.frozen) | skip)))
    all_goals
      go_wp2
      go_meet
      case rel =>
        have bC6 := XC.out.below j0
        have bP6 := XP.out.below j0
        have hb6 := below_step HB.out j0
        have kC6 := bC6.lt
        have kP6 := bP6.lt
        have z6 := HB.out.size
        (try have k5 := bq5.lt)
        (try simp only [size_alloc] at s6)
        first
          | exact ⟨w6.heap.size, A1, m1, rfl, rfl, Box.new, (Kd.R_reads' (Kd.R_alloc hR _)).2.2, bC6.alloc, bP6.alloc, below_alloc hb6 _⟩
          | exact ⟨w5.heap.size, A1, m1, rfl, rfl, Box.two bq6, (Kd.R_reads' (Kd.R_far (Kd.R_far hR (fun k hk => by have e := hk.1; (try simp at e); (try simp only); omega) _) (fun k hk => by have e := hk.1; (try simp at e); (try simp only); omega) _)).2.2, (bC6.far (by simp only; omega)).far (by simp only; omega), (bP6.far (by simp only; omega)).far (by simp only; omega), below_set (below_set hb6 (by omega)) (by omega)⟩
          | exact ⟨W.heap.size, A1, m1, rfl, rfl, Box.two bq6, (Kd.R_reads' (Kd.R_far (Kd.R_far hR (fun k hk => by have e := hk.1; (try simp at e); (try simp only); omega) _) (fun k hk => by have e := hk.1; (try simp at e); (try simp only); omega) _)).2.2, (bC6.far (by simp only; omega)).far (by simp only; omega), (bP6.far (by simp only; omega)).far (by simp only; omega), below_set (below_set hb6 (by omega)) (by omega)⟩
  case rest =>
    obtain ⟨B, A1, m1, rfl, rfl, bB, hc, bC, bP, hbl⟩ := hcut
    clear HB XC rC fC kC XP rP fP kP HGW
    have HB := Aside0.mk hbl
    have HC := Aside0.mk hc
    clear hbl hc
    have XC := Aside0.mk bC; have rC := bC.cell; have fC := bC.frozen; have kC := bC.lt; clear bC
    have XP := Aside0.mk bP; have rP := bP.cell; have fP := bP.frozen; have kP := bP.lt; clear bP
    have XB := Aside0.mk bB; have rB := bB.cell; have fB := bB.frozen; have kB := bB.lt; clear bB
    obtain ⟨f1, f2, f3, f4⟩ := first_bd c p (blockP p x) HN.out
    have hlen := onP_len c.su (firstP c p (blockP p x)) p.ke ⟨f3, f4⟩ g4.2 p1.1
    have hrt := right_onList (onP c.su (firstP c p (blockP p x)) p.ke) c.su 64 (by omega) (by omega) (fun j hj => onP_lt _ _ _ _ hj)
    have hhs := fun (i : Nat) (hi : i < 64) => has_onList (onP c.su (firstP c p (blockP p x)) p.ke) c.su 64 i (by omega) (by omega) (fun j hj => onP_lt _ _ _ _ hj) hi
    rw [HLL.out] at hlen hrt hhs
    generalize firstP c p (blockP p x) = f at *
    have hbg := fun (i v : Nat) (hi : (i : Int) < c.su) (hv : ((i : Int) + c.su - 1) % c.su = (v : Int)) => onP_begin c.su f p.ke ⟨f3, f4⟩ p1.1 i v hi hv
    generalize onP c.su f p.ke = F at *
    have HRT := Aside0.mk hrt
    have HHS := Aside0.mk hhs
    have HBG := Aside0.mk hbg
    clear hrt hhs hbg HLL
    have hmin : (if c.su < p.ke then c.su else p.ke) = (l.length : Int) := hlen.symm
    have hnl : (l.length : Int) ≤ c.su ∧ ((l.length : Int) = p.ke ∨ (c.su < p.ke ∧ (l.length : Int) = c.su)) := by
      rw [hlen]
      split <;> omega
    clear hlen
    generalize l.length = ln at *
    go_wp2_with fail
    refine (Right_v c.su A1 ln m1 l true _ HC.out HRT.out).mono ?_
    rintro e w7 ⟨rfl, hb_⟩
    have YC : Box w7 (w2.heap.size) _ _ := Box.below (by repeat (with_reducible first | exact XC.out | exact Box.new | exact Box.new1 | exact Box.new2 | exact Box.new3 | apply Box.alloc | apply Box.drew | apply Box.drewN | apply Box.set)) hb_
    (try clear XC rC kC fC); have XC := Aside0.mk YC; have rC := YC.cell; have fC := YC.frozen; have kC := YC.lt; clear YC
    have YP : Box w7 (w3.heap.size) _ _ := Box.below (by repeat (with_reducible first | exact XP.out | exact Box.new | exact Box.new1 | exact Box.new2 | exact Box.new3 | apply Box.alloc | apply Box.drew | apply Box.drewN | apply Box.set)) hb_
    (try clear XP rP kP fP); have XP := Aside0.mk YP; have rP := YP.cell; have fP := YP.frozen; have kP := YP.lt; clear YP
    have YB : Box w7 (B) _ _ := Box.below (by repeat (with_reducible first | exact XB.out | exact Box.new | exact Box.new1 | exact Box.new2 | exact Box.new3 | apply Box.alloc | apply Box.drew | apply Box.drewN | apply Box.set)) hb_
    (try clear XB rB kB fB); have XB := Aside0.mk YB; have rB := YB.cell; have fB := YB.frozen; have kB := YB.lt; clear YB
    have ZHC := Aside0.mk (Kd.C_below (by repeat (with_reducible first | exact HC.out | apply C_alloc)) hb_); clear HC; have HC := ZHC; clear ZHC
    have n_ := Aside0.mk (below_step (by repeat (first | exact HB.out | apply below_alloc | apply pw_below_drewN | apply below_drew1 | refine below_set ?_ (by first | omega | (simp; omega)))) hb_); clear HB hb_; have HB := n_; clear n_
    have HC2 := Aside0.mk (show (Kd.int .i64).C w7 A1 ln l from HC.out)
    have HW7 := Aside0.mk (Below.refl w7.heap.size w7)
    go_wp2
    go_loopw [16, 17] (fun bv iv wx => ∃ k : Nat, (k : Int) ≤ c.su ∧ iv = .int .i64 k ∧ bv = .int .i64 (begF f p.ke c.su k) ∧ Box wx w2.heap.size #[.int .i64 c.va, .int .i64 c.sl, .int .i64 c.co, .int .i64 c.su, .int .i64 c.ti, .int .i64 c.di, .int .i64 c.ra, .int .i64 c.ro, .int .i64 c.ag, .int .u64 c.se] 24 ∧ Box wx B #[.int .i64 c.su, .slice A1 ln m1] 37 ∧ Below w7.heap.size w7 wx) (fun _ iv _ => (c.su - intOf iv).toNat)
    case atStart => exact ⟨0, by omega, rfl, by rw [begF_zero f3], XC.out, XB.out, HW7.out⟩
    case round =>
      clear XC rC fC kC XB rB fB kB XP rP fP kP
      obtain ⟨k, hk, rfl, rfl, bC, bB, hb7⟩ := hrel
      have HWB := Aside0.mk (below_step HB.out hb7)
      have HCW := Aside0.mk (Kd.C_below HC2.out hb7)
      have HB7 := Aside0.mk hb7
      clear HB hb7
      have HB := HWB
      clear HWB
      have XC := Aside0.mk bC; have rC := bC.cell; have fC := bC.frozen; have kC := bC.lt; clear bC
      have XB := Aside0.mk bB; have rB := bB.cell; have fB := bB.frozen; have kB := bB.lt; clear bB
      rcases Int.lt_or_le (k : Int) c.su with hlt | hge
      · obtain ⟨v, hv⟩ : ∃ v : Nat, ((k : Int) + c.su - 1) % c.su = (v : Int) := ⟨(((k : Int) + c.su - 1) % c.su).toNat, by have := Int.emod_nonneg ((k : Int) + c.su - 1) (show c.su ≠ 0 by omega); omega⟩
        have hvs : (v : Int) < c.su := by rw [← hv]; exact Int.emod_lt_of_pos _ (by omega)
        have hq : ((k : Int) + c.su - 1).tmod c.su = (v : Int) := by rw [Int.tmod_eq_emod_of_nonneg (by omega)]; exact hv
        have hsu0 : ¬ c.su = 0 := by omega
        have HBK := Aside0.mk (HBG.out k v (by omega) hv)
        have HK := Aside0.mk (HHS.out k (by omega))
        have HV := Aside0.mk (HHS.out v (by omega))
        clear hv
        rcases Bool.eq_false_or_eq_true (F k) with h1 | h1
        · rcases Bool.eq_false_or_eq_true (F v) with h2 | h2
          ·
            rw [h1, h2] at HBK
            rw [h1] at HK
            rw [h2] at HV
            clear h1 h2
            go_upto_region 11 with (fail)
            have e1 : IntKind.i64.wrap ((k : Int) + c.su) = (k : Int) + c.su := IntWalk.i64_in _ (by omega)
            have e2 : IntKind.i64.wrap ((k : Int) + c.su - 1) = (k : Int) + c.su - 1 := IntWalk.i64_in _ (by omega)
            have e3 : IntKind.i64.wrap (v : Int) = (v : Int) := IntWalk.i64_in _ (by omega)
            go_region_held3 (fun w' => Below wr.heap.size wr w' ∧ (∀ j, w'.cell? ⟨w2.heap.size, j, none⟩ = (#[.int .i64 c.va, .int .i64 c.sl, .int .i64 c.co, .int .i64 c.su, .int .i64 c.ti, .int .i64 c.di, .int .i64 c.ra, .int .i64 c.ro, .int .i64 c.ag, .int .u64 c.se] : Array Value)[j]?) ∧ (∀ j, w'.cell? ⟨B, j, none⟩ = (#[.int .i64 c.su, .slice A1 ln m1] : Array Value)[j]?)) (first | exact ⟨below_drew1 (Below.refl _ _), rC, rB⟩ | exact ⟨j0, jC, jB⟩ | exact ⟨below_alloc j0 _, fun j => (cell_alloc_old (Nat.lt_of_lt_of_le kC j0.size)).trans (jC j), fun j => (cell_alloc_old (Nat.lt_of_lt_of_le kB j0.size)).trans (jB j)⟩ | exact ⟨below_alloc (below_drew1 (Below.refl _ _)) _, fun j => (cell_alloc_old kC).trans (rC j), fun j => (cell_alloc_old kB).trans (rB j)⟩ | assumption) (first | (go_at_call 22; obtain ⟨g0, gC, gB⟩ := ‹Below wr.heap.size wr _ ∧ _›; ((with_reducible refine (Has_v c.su A1 ln m1 l k true _ (Kd.C_below HCW.out g0) HK.out).mono ?_)); rintro e w8 ⟨rfl, hb_⟩; have j0 := below_step g0 hb_; have jC := fun j => (hb_.cell (p := ⟨w2.heap.size, j, none⟩) (Nat.lt_of_lt_of_le kC g0.size)).trans (gC j); have jB := fun j => (hb_.cell (p := ⟨B, j, none⟩) (Nat.lt_of_lt_of_le kB g0.size)).trans (gB j)) | (go_at_call 22; obtain ⟨g0, gC, gB⟩ := ‹Below wr.heap.size wr _ ∧ _›; ((with_reducible refine (Has_v c.su A1 ln m1 l v true _ (Kd.C_below HCW.out g0) HV.out).mono ?_)); rintro e w9 ⟨rfl, hb_⟩; have j0 := below_step g0 hb_; have jC := fun j => (hb_.cell (p := ⟨w2.heap.size, j, none⟩) (Nat.lt_of_lt_of_le kC g0.size)).trans (gC j); have jB := fun j => (hb_.cell (p := ⟨B, j, none⟩) (Nat.lt_of_lt_of_le kB g0.size)).trans (gB j)))
            clear e1 e2 e3
            have hbj := HB7.out
            have hb8 := below_step HB7.out j0
            have bC8 := XC.out.below j0
            have bB8 := XB.out.below j0
            have HY := Aside0.mk (begF_no (of_decide_eq_false HBK.out.symm))
            go_wp2
            go_roundw
            case rel => exact ⟨k + 1, by omega, by go_num, by rw [HY.out]; rfl, bC8, bB8, hb8⟩
            case measure => simp [intOf]; omega
          ·
            rw [h1, h2] at HBK
            rw [h1] at HK
            rw [h2] at HV
            clear h1 h2
            go_upto_region 11 with (fail)
            have e1 : IntKind.i64.wrap ((k : Int) + c.su) = (k : Int) + c.su := IntWalk.i64_in _ (by omega)
            have e2 : IntKind.i64.wrap ((k : Int) + c.su - 1) = (k : Int) + c.su - 1 := IntWalk.i64_in _ (by omega)
            have e3 : IntKind.i64.wrap (v : Int) = (v : Int) := IntWalk.i64_in _ (by omega)
            go_region_held3 (fun w' => Below wr.heap.size wr w' ∧ (∀ j, w'.cell? ⟨w2.heap.size, j, none⟩ = (#[.int .i64 c.va, .int .i64 c.sl, .int .i64 c.co, .int .i64 c.su, .int .i64 c.ti, .int .i64 c.di, .int .i64 c.ra, .int .i64 c.ro, .int .i64 c.ag, .int .u64 c.se] : Array Value)[j]?) ∧ (∀ j, w'.cell? ⟨B, j, none⟩ = (#[.int .i64 c.su, .slice A1 ln m1] : Array Value)[j]?)) (first | exact ⟨below_drew1 (Below.refl _ _), rC, rB⟩ | exact ⟨j0, jC, jB⟩ | exact ⟨below_alloc j0 _, fun j => (cell_alloc_old (Nat.lt_of_lt_of_le kC j0.size)).trans (jC j), fun j => (cell_alloc_old (Nat.lt_of_lt_of_le kB j0.size)).trans (jB j)⟩ | exact ⟨below_alloc (below_drew1 (Below.refl _ _)) _, fun j => (cell_alloc_old kC).trans (rC j), fun j => (cell_alloc_old kB).trans (rB j)⟩ | assumption) (first | (go_at_call 22; obtain ⟨g0, gC, gB⟩ := ‹Below wr.heap.size wr _ ∧ _›; ((with_reducible refine (Has_v c.su A1 ln m1 l k true _ (Kd.C_below HCW.out g0) HK.out).mono ?_)); rintro e w8 ⟨rfl, hb_⟩; have j0 := below_step g0 hb_; have jC := fun j => (hb_.cell (p := ⟨w2.heap.size, j, none⟩) (Nat.lt_of_lt_of_le kC g0.size)).trans (gC j); have jB := fun j => (hb_.cell (p := ⟨B, j, none⟩) (Nat.lt_of_lt_of_le kB g0.size)).trans (gB j)) | (go_at_call 22; obtain ⟨g0, gC, gB⟩ := ‹Below wr.heap.size wr _ ∧ _›; ((with_reducible refine (Has_v c.su A1 ln m1 l v false _ (Kd.C_below HCW.out g0) HV.out).mono ?_)); rintro e w9 ⟨rfl, hb_⟩; have j0 := below_step g0 hb_; have jC := fun j => (hb_.cell (p := ⟨w2.heap.size, j, none⟩) (Nat.lt_of_lt_of_le kC g0.size)).trans (gC j); have jB := fun j => (hb_.cell (p := ⟨B, j, none⟩) (Nat.lt_of_lt_of_le kB g0.size)).trans (gB j)))
            clear e1 e2 e3
            have hbj := HB7.out
            have hb8 := below_step HB7.out j0
            have bC8 := XC.out.below j0
            have bB8 := XB.out.below j0
            have hy := begF_yes (of_decide_eq_true HBK.out.symm)
            have hg1 : (begF f p.ke c.su k + 1 : Int) ≤ 1 ∧ (0 : Int) ≤ begF f p.ke c.su k := by omega
            have HY := Aside0.mk hy.1
            clear hy
            go_wp2
            go_roundw
            case rel => exact ⟨k + 1, by omega, by go_num, by rw [HY.out]; rfl, bC8, bB8, hb8⟩
            case measure => simp [intOf]; omega
        ·
          rw [h1] at HBK HK
          clear h1
          go_upto_region 11 with (fail)
          have e1 : IntKind.i64.wrap ((k : Int) + c.su) = (k : Int) + c.su := IntWalk.i64_in _ (by omega)
          have e2 : IntKind.i64.wrap ((k : Int) + c.su - 1) = (k : Int) + c.su - 1 := IntWalk.i64_in _ (by omega)
          have e3 : IntKind.i64.wrap (v : Int) = (v : Int) := IntWalk.i64_in _ (by omega)
          refine wp_region_held_drew (S := (fun w' => Below wr.heap.size wr w' ∧ (∀ j, w'.cell? ⟨w2.heap.size, j, none⟩ = (#[.int .i64 c.va, .int .i64 c.sl, .int .i64 c.co, .int .i64 c.su, .int .i64 c.ti, .int .i64 c.di, .int .i64 c.ra, .int .i64 c.ro, .int .i64 c.ag, .int .u64 c.se] : Array Value)[j]?) ∧ (∀ j, w'.cell? ⟨B, j, none⟩ = (#[.int .i64 c.su, .slice A1 ln m1] : Array Value)[j]?))) (by kernel_rfl) ?hS0 (fun hHeld => ?hR0)
          case hS0 => ((try dsimp only); (first | exact ⟨below_drew1 (Below.refl _ _), rC, rB⟩ | exact ⟨j0, jC, jB⟩ | exact ⟨below_alloc j0 _, fun j => (cell_alloc_old (Nat.lt_of_lt_of_le kC j0.size)).trans (jC j), fun j => (cell_alloc_old (Nat.lt_of_lt_of_le kB j0.size)).trans (jB j)⟩ | exact ⟨below_alloc (below_drew1 (Below.refl _ _)) _, fun j => (cell_alloc_old kC).trans (rC j), fun j => (cell_alloc_old kB).trans (rB j)⟩ | exact ⟨below_set (below_alloc j0 _) (by first | omega | (simp only; omega)), fun j => (cell_far (by first | omega | (simp only; omega))).trans ((cell_alloc_old (Nat.lt_of_lt_of_le kC j0.size)).trans (jC j)), fun j => (cell_far (by first | omega | (simp only; omega))).trans ((cell_alloc_old (Nat.lt_of_lt_of_le kB j0.size)).trans (jB j))⟩ | exact ⟨below_set (j0) (by first | omega | (simp only; omega)), fun j => (cell_far (by first | omega | (simp only; omega))).trans ((jC j)), fun j => (cell_far (by first | omega | (simp only; omega))).trans ((jB j))⟩ | exact ⟨below_set (below_set (below_alloc j0 _) (by first | omega | (simp only; omega))) (by first | omega | (simp only; omega)), fun j => (cell_far (by first | omega | (simp only; omega))).trans ((cell_far (by first | omega | (simp only; omega))).trans ((cell_alloc_old (Nat.lt_of_lt_of_le kC j0.size)).trans (jC j))), fun j => (cell_far (by first | omega | (simp only; omega))).trans ((cell_far (by first | omega | (simp only; omega))).trans ((cell_alloc_old (Nat.lt_of_lt_of_le kB j0.size)).trans (jB j)))⟩ | exact ⟨below_set (below_set (j0) (by first | omega | (simp only; omega))) (by first | omega | (simp only; omega)), fun j => (cell_far (by first | omega | (simp only; omega))).trans ((cell_far (by first | omega | (simp only; omega))).trans ((jC j))), fun j => (cell_far (by first | omega | (simp only; omega))).trans ((cell_far (by first | omega | (simp only; omega))).trans ((jB j)))⟩ | exact ⟨below_set (below_set (below_set (below_alloc j0 _) (by first | omega | (simp only; omega))) (by first | omega | (simp only; omega))) (by first | omega | (simp only; omega)), fun j => (cell_far (by first | omega | (simp only; omega))).trans ((cell_far (by first | omega | (simp only; omega))).trans ((cell_far (by first | omega | (simp only; omega))).trans ((cell_alloc_old (Nat.lt_of_lt_of_le kC j0.size)).trans (jC j)))), fun j => (cell_far (by first | omega | (simp only; omega))).trans ((cell_far (by first | omega | (simp only; omega))).trans ((cell_far (by first | omega | (simp only; omega))).trans ((cell_alloc_old (Nat.lt_of_lt_of_le kB j0.size)).trans (jB j))))⟩ | exact ⟨below_set (below_set (below_set (j0) (by first | omega | (simp only; omega))) (by first | omega | (simp only; omega))) (by first | omega | (simp only; omega)), fun j => (cell_far (by first | omega | (simp only; omega))).trans ((cell_far (by first | omega | (simp only; omega))).trans ((cell_far (by first | omega | (simp only; omega))).trans ((jC j)))), fun j => (cell_far (by first | omega | (simp only; omega))).trans ((cell_far (by first | omega | (simp only; omega))).trans ((cell_far (by first | omega | (simp only; omega))).trans ((jB j))))⟩ | assumption))
          refine wpAnyH_take (i := 0) (oi := ⟨some 64, _, _, _, _, _⟩) (v := ?_) rfl (by kernel_rfl) (by kernel_rfl) (by kernel_rfl) (fun _ _ _ h => h) (Or.inl ⟨by rfl, ?hY1⟩) (by assumption) ?hR1
          case hY1 => (intro w hSw; (try dsimp only at hSw); go_simp; try with_reducible rfl)
          (try simp only [Act.put, List.setIfInBounds_toArray, List.set_cons_zero, List.set_cons_succ])
          refine wpAnyH_take (i := 1) (oi := ⟨some 65, _, _, _, _, _⟩) (v := ?_) rfl (by kernel_rfl) (by kernel_rfl) (by kernel_rfl) (fun _ _ _ h => h) (Or.inl ⟨by rfl, ?hY2⟩) (by assumption) ?hR2
          case hY2 => (intro w hSw; (try dsimp only at hSw); go_simp; try with_reducible rfl)
          (try simp only [Act.put, List.setIfInBounds_toArray, List.set_cons_zero, List.set_cons_succ])
          refine wpAnyH_ready (rs := [2]) (by kernel_rfl) (by simp) ?_
          refine AllReadyH.cons (o := ⟨some 66, _, _, _, _, _⟩) rfl (fun K hK => ?hT3) ?hM3
          case hM3 => exact AllReadyH.nil
          go_simp
          (first | (go_at_call 22; obtain ⟨g0, gC, gB⟩ := ‹Below wr.heap.size wr _ ∧ _›; ((with_reducible refine (Has_v c.su A1 ln m1 l k false _ (Kd.C_below HCW.out g0) HK.out).mono ?_));  rintro e w8 ⟨rfl, hb_⟩; have j0 := below_step g0 hb_; have s8 := j0.size; have jC := fun j => (hb_.cell (p := ⟨w2.heap.size, j, none⟩) (Nat.lt_of_lt_of_le kC g0.size)).trans (gC j); have jB := fun j => (hb_.cell (p := ⟨B, j, none⟩) (Nat.lt_of_lt_of_le kB g0.size)).trans (gB j)))
          (try go_wp2_with fail)
          refine hK.out _ _ ?hS3 (fun hHeld => ?hR3)
          case hS3 => ((try dsimp only); (first | exact ⟨below_drew1 (Below.refl _ _), rC, rB⟩ | exact ⟨j0, jC, jB⟩ | exact ⟨below_alloc j0 _, fun j => (cell_alloc_old (Nat.lt_of_lt_of_le kC j0.size)).trans (jC j), fun j => (cell_alloc_old (Nat.lt_of_lt_of_le kB j0.size)).trans (jB j)⟩ | exact ⟨below_alloc (below_drew1 (Below.refl _ _)) _, fun j => (cell_alloc_old kC).trans (rC j), fun j => (cell_alloc_old kB).trans (rB j)⟩ | exact ⟨below_set (below_alloc j0 _) (by first | omega | (simp only; omega)), fun j => (cell_far (by first | omega | (simp only; omega))).trans ((cell_alloc_old (Nat.lt_of_lt_of_le kC j0.size)).trans (jC j)), fun j => (cell_far (by first | omega | (simp only; omega))).trans ((cell_alloc_old (Nat.lt_of_lt_of_le kB j0.size)).trans (jB j))⟩ | exact ⟨below_set (j0) (by first | omega | (simp only; omega)), fun j => (cell_far (by first | omega | (simp only; omega))).trans ((jC j)), fun j => (cell_far (by first | omega | (simp only; omega))).trans ((jB j))⟩ | exact ⟨below_set (below_set (below_alloc j0 _) (by first | omega | (simp only; omega))) (by first | omega | (simp only; omega)), fun j => (cell_far (by first | omega | (simp only; omega))).trans ((cell_far (by first | omega | (simp only; omega))).trans ((cell_alloc_old (Nat.lt_of_lt_of_le kC j0.size)).trans (jC j))), fun j => (cell_far (by first | omega | (simp only; omega))).trans ((cell_far (by first | omega | (simp only; omega))).trans ((cell_alloc_old (Nat.lt_of_lt_of_le kB j0.size)).trans (jB j)))⟩ | exact ⟨below_set (below_set (j0) (by first | omega | (simp only; omega))) (by first | omega | (simp only; omega)), fun j => (cell_far (by first | omega | (simp only; omega))).trans ((cell_far (by first | omega | (simp only; omega))).trans ((jC j))), fun j => (cell_far (by first | omega | (simp only; omega))).trans ((cell_far (by first | omega | (simp only; omega))).trans ((jB j)))⟩ | exact ⟨below_set (below_set (below_set (below_alloc j0 _) (by first | omega | (simp only; omega))) (by first | omega | (simp only; omega))) (by first | omega | (simp only; omega)), fun j => (cell_far (by first | omega | (simp only; omega))).trans ((cell_far (by first | omega | (simp only; omega))).trans ((cell_far (by first | omega | (simp only; omega))).trans ((cell_alloc_old (Nat.lt_of_lt_of_le kC j0.size)).trans (jC j)))), fun j => (cell_far (by first | omega | (simp only; omega))).trans ((cell_far (by first | omega | (simp only; omega))).trans ((cell_far (by first | omega | (simp only; omega))).trans ((cell_alloc_old (Nat.lt_of_lt_of_le kB j0.size)).trans (jB j))))⟩ | exact ⟨below_set (below_set (below_set (j0) (by first | omega | (simp only; omega))) (by first | omega | (simp only; omega))) (by first | omega | (simp only; omega)), fun j => (cell_far (by first | omega | (simp only; omega))).trans ((cell_far (by first | omega | (simp only; omega))).trans ((cell_far (by first | omega | (simp only; omega))).trans ((jC j)))), fun j => (cell_far (by first | omega | (simp only; omega))).trans ((cell_far (by first | omega | (simp only; omega))).trans ((cell_far (by first | omega | (simp only; omega))).trans ((jB j))))⟩ | assumption))
          clear hK K
          (try simp only [Act.put, List.setIfInBounds_toArray, List.set_cons_zero, List.set_cons_succ])
          refine wpAnyH_take (i := 3) (oi := ⟨some 67, _, _, _, _, _⟩) (v := ?_) rfl (by kernel_rfl) (by kernel_rfl) (by kernel_rfl) (fun _ _ _ h => h) (Or.inl ⟨by rfl, ?hY4⟩) (by assumption) ?hR4
          case hY4 => (intro w hSw; (try dsimp only at hSw); go_simp; try with_reducible rfl)
          (try simp only [Act.put, List.setIfInBounds_toArray, List.set_cons_zero, List.set_cons_succ])
          refine wpAnyH_take (i := 4) (oi := ⟨some 68, _, _, _, _, _⟩) (v := undef) rfl (by kernel_rfl) (by kernel_rfl) (by kernel_rfl) (fun _ _ _ h => h) (Or.inr ⟨by rfl, rfl⟩) (by assumption) ?_
          (try simp only [Act.put, List.setIfInBounds_toArray, List.set_cons_zero, List.set_cons_succ])
          refine wpAnyH_take (i := 5) (oi := ⟨some 69, _, _, _, _, _⟩) (v := undef) rfl (by kernel_rfl) (by kernel_rfl) (by kernel_rfl) (fun _ _ _ h => h) (Or.inr ⟨by rfl, rfl⟩) (by assumption) ?_
          (try simp only [Act.put, List.setIfInBounds_toArray, List.set_cons_zero, List.set_cons_succ])
          refine wpAnyH_take (i := 6) (oi := ⟨some 70, _, _, _, _, _⟩) (v := undef) rfl (by kernel_rfl) (by kernel_rfl) (by kernel_rfl) (fun _ _ _ h => h) (Or.inr ⟨by rfl, rfl⟩) (by assumption) ?_
          (try simp only [Act.put, List.setIfInBounds_toArray, List.set_cons_zero, List.set_cons_succ])
          refine wpAnyH_take (i := 7) (oi := ⟨some 71, _, _, _, _, _⟩) (v := undef) rfl (by kernel_rfl) (by kernel_rfl) (by kernel_rfl) (fun _ _ _ h => h) (Or.inr ⟨by rfl, rfl⟩) (by assumption) ?_
          (try simp only [Act.put, List.setIfInBounds_toArray, List.set_cons_zero, List.set_cons_succ])
          refine wpAnyH_take (i := 8) (oi := ⟨some 72, _, _, _, _, _⟩) (v := undef) rfl (by kernel_rfl) (by kernel_rfl) (by kernel_rfl) (fun _ _ _ h => h) (Or.inr ⟨by rfl, rfl⟩) (by assumption) ?_
          (try simp only [Act.put, List.setIfInBounds_toArray, List.set_cons_zero, List.set_cons_succ])
          refine wpAnyH_take (i := 9) (oi := ⟨some 73, _, _, _, _, _⟩) (v := undef) rfl (by kernel_rfl) (by kernel_rfl) (by kernel_rfl) (fun _ _ _ h => h) (Or.inr ⟨by rfl, rfl⟩) (by assumption) ?_
          (try simp only [Act.put, List.setIfInBounds_toArray, List.set_cons_zero, List.set_cons_succ])
          refine wpAnyH_take (i := 10) (oi := ⟨some 74, _, _, _, _, _⟩) (v := undef) rfl (by kernel_rfl) (by kernel_rfl) (by kernel_rfl) (fun _ _ _ h => h) (Or.inr ⟨by rfl, rfl⟩) (by assumption) ?_
          (try simp only [Act.put, List.setIfInBounds_toArray, List.set_cons_zero, List.set_cons_succ])
          refine wpAnyH_take (i := 11) (oi := ⟨some 75, _, _, _, _, _⟩) (v := undef) rfl (by kernel_rfl) (by kernel_rfl) (by kernel_rfl) (fun _ _ _ h => h) (Or.inr ⟨by rfl, rfl⟩) (by assumption) ?_
          (try simp only [Act.put, List.setIfInBounds_toArray, List.set_cons_zero, List.set_cons_succ])
          refine wpAnyH_take (i := 12) (oi := ⟨some 76, _, _, _, _, _⟩) (v := undef) rfl (by kernel_rfl) (by kernel_rfl) (by kernel_rfl) (fun _ _ _ h => h) (Or.inr ⟨by rfl, rfl⟩) (by assumption) ?_
          (try simp only [Act.put, List.setIfInBounds_toArray, List.set_cons_zero, List.set_cons_succ])
          refine wpAnyH_take (i := 13) (oi := ⟨some 77, _, _, _, _, _⟩) (v := undef) rfl (by kernel_rfl) (by kernel_rfl) (by kernel_rfl) (fun _ _ _ h => h) (Or.inr ⟨by rfl, rfl⟩) (by assumption) ?_
          (try simp only [Act.put, List.setIfInBounds_toArray, List.set_cons_zero, List.set_cons_succ])
          refine wpAnyH_take (i := 14) (oi := ⟨some 78, _, _, _, _, _⟩) (v := undef) rfl (by kernel_rfl) (by kernel_rfl) (by kernel_rfl) (fun _ _ _ h => h) (Or.inr ⟨by rfl, rfl⟩) (by assumption) ?_
          (try simp only [Act.put, List.setIfInBounds_toArray, List.set_cons_zero, List.set_cons_succ])
          refine wpAnyH_take (i := 15) (oi := ⟨some 79, _, _, _, _, _⟩) (v := ?_) rfl (by kernel_rfl) (by kernel_rfl) (by kernel_rfl) (fun _ _ _ h => h) (Or.inl ⟨by rfl, ?hY16⟩) (by assumption) ?hR16
          case hY16 => (intro w hSw; (try dsimp only at hSw); go_simp; try with_reducible rfl)
          (try simp only [Act.put, List.setIfInBounds_toArray, List.set_cons_zero, List.set_cons_succ])
          refine wpAnyH_done (by kernel_rfl) ?_ _
          clear e1 e2 e3
          have hbj := HB7.out
          have hb8 := below_step HB7.out j0
          have bC8 := XC.out.below j0
          have bB8 := XB.out.below j0
          have HY := Aside0.mk (begF_no (of_decide_eq_false HBK.out.symm))
          go_wp2
          go_roundw
          case rel => exact ⟨k + 1, by omega, by go_num, by rw [HY.out]; rfl, bC8, bB8, hb8⟩
          case measure => simp [intOf]; omega
      · obtain hks : (k : Int) = c.su := by omega
        by_cases hg : 0 < p.ke ∧ p.ke < c.su
        · have hb1 : begF f p.ke c.su k = 1 := by unfold begF; rw [if_pos (by omega)]
          rw [hb1]
          have hl1 : (0 : Int) < ln := by omega
          have hl2 : (ln : Int) < c.su := by omega
          have hd1 : decide ((ln : Int) < c.su) = true := decide_eq_true hl2
          go_wp2
          go_ret
          exact ⟨rfl, HB.out⟩
        · have hb1 : begF f p.ke c.su k = 0 := by unfold begF; rw [if_neg (by omega)]
          rw [hb1]
          rcases Nat.eq_zero_or_pos ln with hl1 | hl1
          · subst hl1
            go_wp2
            go_ret
            exact ⟨rfl, HB.out⟩
          · have hl2 : ¬ (ln : Int) < c.su := by omega
            have hd1 : decide ((ln : Int) < c.su) = false := decide_eq_false hl2
            go_wp2
            go_ret
            exact ⟨rfl, HB.out⟩

set_option maxRecDepth 100000 in
theorem schedMany_lifted (os : Os) (started : os.Started) (H : Type) (enc : TypeId × Value → H) :
    ReturnsInHanded {} Tryd.checked os 5 .any (fun w args => (Rows.schedManySpec.pre enc Tryd.prog Tryd.f5 [] false w args ∧ laidMetH Tryd.prog [("mootbell/clock.bounds", Rows.laid_mootbell_clock_bounds), ("mootbell/churn.sum", Rows.laid_mootbell_churn_sum)] w) ∧ sizedMet enc Tryd.prog Tryd.f5 (OpenSpec.ofChange Rows.schedManySpec) false w args)
      (Rows.schedManySpec.post enc Tryd.prog Tryd.f5 false true false false) := by
  refine returnsInHanded_of_change_and (C := Tryd.checked) (X := fun w _ => laidMetH Tryd.prog [("mootbell/clock.bounds", Rows.laid_mootbell_clock_bounds), ("mootbell/churn.sum", Rows.laid_mootbell_churn_sum)] w) (fun _ _ _ hh h => h.of_heap hh) own started (by kernel_rfl) Tryd.func5
    (ChangeSpec.witness_shaped (enc := enc) (C := Tryd.checked) (os := os) (X := fun w _ => laidMetH Tryd.prog [("mootbell/clock.bounds", Rows.laid_mootbell_clock_bounds), ("mootbell/churn.sum", Rows.laid_mootbell_churn_sum)] w) false (World.doorLaid Tryd.prog 400 os) #[.agg #[.int .i64 0, .int .i64 0, .int .i64 0, .int .i64 0, .int .i64 0, .int .i64 0], .int .u64 0, .int .i64 0, .int .i64 0, .int .i64 0] 8 rfl (World.shaped_of_RefB (by kernel_rfl) (by kernel_rfl)) (by kernel_rfl) (by kernel_rfl) (by kernel_rfl) (door_met os _)) ?_
  intro W base args ds gs before hval0 hW hcnd hsz0 hL _
  have hsz : (DataW.weightsEach Tryd.prog (Tryd.f5.params.toList ++ Rows.schedManySpec.plain.varTypes Tryd.prog) (ds ++ gs)).all (· ≤ reachBytes) = true := hsz0
  have hval : ∀ (j : Nat) t v, Tryd.f5.params[j]? = some t → args[j]? = some v → Value.okWide Tryd.prog W .any base t v := hval0
  have hW' := hW
  obtain ⟨p, q, hA0, hV, rfl, hfz, hnd⟩ := hW
  have hA : DataW.TrodAll enc Tryd.prog W 0 (fun _ => true) true Tryd.f5.params.toList args.toList ds p := hA0
  have hAll := hA
  rw [Tryd.params5] at hA hval hsz
  obtain ⟨v0, vs0, d0, ds0, p0, q0, hargs, rfl, rfl, h0, r0⟩ := trodAll_cons hA
  obtain ⟨v1, vs1, d1, ds1, p1, q1, rfl, rfl, rfl, h1, r1⟩ := trodAll_cons r0
  obtain ⟨v2, vs2, d2, ds2, p2, q2, rfl, rfl, rfl, h2, r2⟩ := trodAll_cons r1
  obtain ⟨v3, vs3, d3, ds3, p3, q3, rfl, rfl, rfl, h3, r3⟩ := trodAll_cons r2
  obtain ⟨v4, vs4, d4, ds4, p4, q4, rfl, rfl, rfl, h4, r4⟩ := trodAll_cons r3
  obtain ⟨rfl, rfl, rfl⟩ := trodAll_nil r4
  obtain rfl : args = #[v0, v1, v2, v3, v4] := by cases args; simp_all
  obtain ⟨rfl, rfl⟩ := trodVars_none hV
  have hlt := trodAll_lt hAll
  obtain ⟨n, rfl⟩ := six_came (hval 0 27 v0 rfl rfl)
  obtain ⟨s, rfl, rfl, rfl, w1⟩ := open_int Tryd.underlying22 (hval 1 22 v1 rfl rfl) h1
  obtain ⟨k, rfl, rfl, rfl, w2⟩ := open_int Tryd.underlying3 (hval 2 3 v2 rfl rfl) h2
  obtain ⟨q, rfl, rfl, rfl, w3⟩ := open_int Tryd.underlying3 (hval 3 3 v3 rfl rfl) h3
  obtain ⟨x, rfl, rfl, rfl, w4⟩ := open_int Tryd.underlying3 (hval 4 3 v4 rfl rfl) h4
  clear hA0 hval0 hsz0 hsz
  refine (SchedMany_calls n s k q x (bounds_u64 w1).1 (bounds_i64 w2) (bounds_i64 w3) (bounds_i64 w4) W (laid_two hL)).mono fun e W' ⟨he, bel⟩ => ?_
  subst he
  exact ⟨_, rfl, _, _, _, [], _, [], hW', trodAll_mk1 (shut_bool Tryd.underlying4 _), below_trodAll laidOut bel (by kernel_rfl) hAll hlt, rfl, bel.frame _, fun h => by cases h⟩
theorem schedMany_over : Rows.schedManyRow.holds Tryd.pinned (OpenSpec.ofChange Rows.schedManySpec) :=
  OpenClaim.holds_of_wide 5 Tryd.f5 rfl rfl rfl rfl rfl rfl rfl ⟨rfl, rfl, rfl, rfl, rfl⟩ rfl rfl rfl rfl rfl (by kernel_rfl) Tryd.func5 (by kernel_rfl)
    (of_decide_eq_true (by kernel_rfl)) (by unfold Func.isWrapper; first | (rw [if_pos (by decide +kernel)]; kernel_rfl) | (rw [if_neg (by decide +kernel)]; exact ⟨rfl, rfl⟩))
    (fun os started H enc _ => schedMany_lifted os started H enc)
theorem schedMany_holds : Rows.SchedManyCardSaid :=
  Claim7.holds_tied_plain_at .later [] [.data, .data] true (true, "0ddeac45a7b70d49f8df9f462b7721ed8eafdaa6662d0bdb8e444e0da0cb2087") false
    schedMany_over (fun _ h => by cases h) (by kernel_rfl) (fun _ h => by cases h) schedMany_row_tie rfl ⟨rfl, rfl⟩ (by kernel_rfl) rfl
    (fun f fn hf hfn => by
      obtain rfl : f = 5 := Option.some.inj ((show Tryd.prog.funcNamed "mootbell/mootbelllaw11.SchedMany" = some 5 by kernel_rfl).symm.trans hf) |>.symm
      obtain rfl : fn = Tryd.f5 := (Option.some.inj (Tryd.func5.symm.trans hfn)).symm
      exact ⟨by kernel_rfl, fun j t ht => by
        have hm : t ∈ Tryd.f5.params.toList := by simpa using Array.mem_of_getElem? ht
        have hall : (Tryd.f5.params.toList.all fun u => !Tryd.prog.wantsStandIn u) = true := by kernel_rfl
        exact (show Tryd.prog.wantsStandIn t = false by simpa using List.all_eq_true.1 hall t hm)⟩)
    (by kernel_rfl)
#print axioms schedMany_holds
end Go.Proofs.YtejfjbfkbdcmnaaDoor
