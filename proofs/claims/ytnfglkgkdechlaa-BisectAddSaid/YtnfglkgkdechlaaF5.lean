import Derived.Test.YtnfglkgkdechlaaBase
import Derived.Test.YtnfglkgkdechlaaF0
import Derived.Test.YtnfglkgkdechlaaQx0
import Derived.Deep.RegionHeld3
import Derived.Test.YtnfglkgkdechlaaF4

/- Rows by their bare cells: what is appended by copying cells, whatever the cells point to. -/
set_option linter.unusedVariables false
set_option linter.unusedSimpArgs false
namespace Go.Proofs.Ytnfglkgkdechlaa
open Go.RowKit Go.Proofs.YtnfglkgkdechlaaW.PrintWords Go.Proofs.YtnfglkgkdechlaaW.PrintLast Go.Proofs.YtnfglkgkdechlaaW.PrintMore
open Go.Proofs.Ytnfglkgkdechlaa.PQ

def RowV (n : Nat) : Type := {cs : List Value // cs.length = n ∧ ∀ u ∈ cs, u.oneCell' = true}
/-- The kind whose elements are their cells. -/
def kV (n : Nat) : Kd (RowV n) where
  sz := n
  E := []
  K := fun _ x cs => cs = x.1
  M := fun _ _ _ x cs => cs = x.1
  K_len := fun {_ x cs} h => by subst h; exact x.2.1
  K_one := fun {_ x cs} h => by subst h; exact x.2.2
  K_below := fun _ h => h
  K_of_M := fun h => h
  M_mono := fun _ h => h
  M_bound := fun h => h
  M_move := fun _ h => h
  M_lower := fun _ h => h
/-- Bare rows that are such elements' rows. -/
def Fits {α : Type} (d : Kd α) (w : World) (xs : List α) (rs : List (RowV d.sz)) : Prop := xs.length = rs.length ∧ ∀ (i : Nat) (x : α), xs[i]? = some x → ∃ r, rs[i]? = some r ∧ d.K w x r.1
section
variable {α : Type} {d : Kd α} {w w1 : World} {xs ys : List α} {rs qs : List (RowV d.sz)}
theorem Fits.below (h : Fits d w xs rs) (hb : Below w.heap.size w w1) : Fits d w1 xs rs := ⟨h.1, fun i x hx => by
  obtain ⟨r, h1, h2⟩ := h.2 i x hx
  exact ⟨r, h1, d.K_below hb h2⟩⟩
theorem Fits.nil : Fits d w [] [] := ⟨rfl, fun i x hx => by cases hx⟩
theorem Fits.append (h : Fits d w xs rs) (g : Fits d w ys qs) : Fits d w (xs ++ ys) (rs ++ qs) := by
  refine ⟨by rw [List.length_append, List.length_append, h.1, g.1], fun i x hx => ?_⟩
  rcases Nat.lt_or_ge i xs.length with hi | hi
  · rw [List.getElem?_append_left hi] at hx
    obtain ⟨r, h1, h2⟩ := h.2 i x hx
    exact ⟨r, by rw [List.getElem?_append_left (by rw [← h.1]; exact hi)]; exact h1, h2⟩
  · rw [List.getElem?_append_right hi] at hx
    obtain ⟨r, h1, h2⟩ := g.2 _ x hx
    exact ⟨r, by rw [List.getElem?_append_right (by rw [← h.1]; exact hi), ← h.1]; exact h1, h2⟩
theorem Fits.one {x : α} {r : RowV d.sz} (h : d.K w x r.1) : Fits d w [x] [r] := ⟨rfl, fun i y hy => by
  match i, hy with
  | 0, hy =>
    obtain rfl : x = y := by simpa using hy
    exact ⟨r, rfl, h⟩
  | i + 1, hy => simp at hy⟩
theorem fits_lift {A : Option Addr} {n : Nat} (h : (kV d.sz).C w A n rs) (hf : Fits d w xs rs) : d.C w A n xs := by
  refine ⟨by rw [hf.1]; exact h.1, h.2.1, fun hn => ?_⟩
  obtain ⟨a, ha, hc⟩ := h.2.2 hn
  refine ⟨a, ha, fun j x hx => ?_⟩
  obtain ⟨r, h1, h2⟩ := hf.2 j x hx
  obtain ⟨row, g1, g2, g3⟩ := hc j r h1
  have g4 : row = r.1 := g2
  subst g4
  exact ⟨r.1, g1, h2, g3⟩
theorem fits_of {A : Option Addr} {n : Nat} (h : d.C w A n xs) : ∃ rs, (kV d.sz).C w A n rs ∧ Fits d w xs rs := by
  have hl := h.1
  rcases Nat.eq_zero_or_pos n with h0 | h0
  · subst h0
    have : xs = [] := List.eq_nil_of_length_eq_zero hl
    subst this
    exact ⟨[], ⟨rfl, by omega, fun hn => absurd hn (by omega)⟩, Fits.nil⟩
  · obtain ⟨a, ha, hc⟩ := h.2.2 h0
    have hrow : ∀ i : Nat, i < xs.length → ∃ r : RowV d.sz, (∀ x, xs[i]? = some x → d.K w x r.1) ∧ ∀ j u, r.1[j]? = some u → w.cell? (a.add (i * d.sz + j)) = some u := fun i hi => by
      obtain ⟨row, g1, g2, g3⟩ := hc i xs[i] (List.getElem?_eq_getElem hi)
      refine ⟨⟨row, g1, d.K_one g2⟩, fun x hx => ?_, g3⟩
      rw [List.getElem?_eq_getElem hi] at hx
      obtain rfl := Option.some.inj hx
      exact g2
    obtain ⟨r0, _⟩ := hrow 0 (by omega)
    have hget : ∀ (j : Nat) (p : RowV d.sz), ((List.range xs.length).map (fun i => if h : i < xs.length then (hrow i h).choose else r0))[j]? = some p → ∃ hj : j < xs.length, p = (hrow j hj).choose := fun j p hj => by
      rw [List.getElem?_map] at hj
      obtain ⟨i, hi1, rfl⟩ := Option.map_eq_some_iff.1 hj
      have hi2 : i = j ∧ j < xs.length := by
        rw [List.getElem?_eq_some_iff] at hi1
        obtain ⟨h1, h2⟩ := hi1
        rw [List.getElem_range] at h2
        rw [List.length_range] at h1
        exact ⟨h2.symm, h1⟩
      obtain ⟨rfl, hjn⟩ := hi2
      exact ⟨hjn, by rw [dif_pos hjn]⟩
    refine ⟨(List.range xs.length).map (fun i => if h : i < xs.length then (hrow i h).choose else r0), ⟨by simpa using hl, h.2.1, fun _ => ⟨a, ha, fun j p hj => ?_⟩⟩, by simp, fun i x hx => ?_⟩
    · obtain ⟨hjn, rfl⟩ := hget j p hj
      exact ⟨_, (hrow j hjn).choose.2.1, rfl, (hrow j hjn).choose_spec.2⟩
    · have hi := (List.getElem?_eq_some_iff.1 hx).1
      refine ⟨(hrow i hi).choose, ?_, (hrow i hi).choose_spec.1 x hx⟩
      rw [List.getElem?_map, List.getElem?_range hi, Option.map_some, dif_pos hi]
end
/-- One bare row in a box. -/
theorem C_oneV {n : Nat} {W : World} {vb : Nat} {cs : Array Value} {T : TypeId} (r : RowV n) (h : Box W vb cs T) (hr : r.1 = cs.toList) : (kV n).C W (some ⟨vb, 0, none⟩) 1 [r] := by
  refine ⟨rfl, by omega, fun _ => ⟨_, rfl, fun j p hj => ?_⟩⟩
  have hj0 : j = 0 := by
    rcases Nat.eq_zero_or_pos j with h | h
    · exact h
    · rw [List.getElem?_eq_none (by simp; omega)] at hj
      cases hj
  subst hj0
  obtain rfl : r = p := by simpa using hj
  refine ⟨r.1, r.2.1, rfl, fun i u hu => ?_⟩
  have h2 := h.cell i
  rw [show ((⟨vb, 0, none⟩ : Addr).add (0 * (kV n).sz + i)) = ⟨vb, i, none⟩ by rw [Nat.zero_mul, Nat.zero_add]; unfold Addr.add; split <;> simp_all, h2]
  rw [hr] at hu
  simpa using hu
end Go.Proofs.Ytnfglkgkdechlaa


/- BisectAdd (chapter 15): what its code does. -/
set_option linter.unusedVariables false
set_option linter.unusedSimpArgs false
namespace Go.Proofs.Ytnfglkgkdechlaa
open Go.RowKit Go.Proofs.YtnfglkgkdechlaaW.PrintWords Go.Proofs.YtnfglkgkdechlaaW.PrintLast Go.Proofs.YtnfglkgkdechlaaW.PrintMore

open Go.Proofs.Ytnfglkgkdechlaa.PQ

theorem itemC (K0 : Option Addr) (nk ck : Nat) (P : Option Addr) (np cp : Nat) (x : Rw) (it : It) (w : World) (hK : (Kd.int .i64).C w K0 nk x.f0) (hck : nk ≤ ck) (hP : (Kd.int .i64).C w P np x.f2) (hcp : np ≤ cp) (ho : OkR x) (h : itemR x = it) :
    Calls Try.prog 18 #[.agg #[.slice K0 nk ck, .int .i64 x.f1, .slice P np cp, .int .i64 x.f3]] w
      fun r w' => ∃ A0 c0 A3 c3, r = .returned (.agg #[.slice A0 it.f0.length c0, .int .u64 it.f1, .bool it.f2.f0, .slice A3 it.f2.f1.length c3]) ∧ kI.K w' it [.slice A0 it.f0.length c0, .int .u64 it.f1, .bool it.f2.f0, .slice A3 it.f2.f1.length c3] ∧ Below w.heap.size w w' := by
  refine (lItemE K0 nk ck P np cp x it w hK hck hP hcp ho h).mono fun r w' hh => ?_
  obtain ⟨v0, v3, rfl, h0, h3, hb⟩ := hh
  obtain ⟨A0, c0, rfl⟩ := Kd.R_slice h0
  obtain ⟨A3, c3, rfl⟩ := Kd.R_slice h3
  exact ⟨A0, c0, A3, c3, rfl, k32_mk w' it (Kd.R_reads' h0).2.1 (Kd.R_reads' h0).2.2 (Kd.R_reads' h3).2.1 (Kd.R_reads' h3).2.2, hb⟩
theorem findC2 (A : Option Addr) (n c : Nat) (t : List Pr) (I : Option Addr) (m mc : Nat) (its : List It) (bs : List Bool) (k : Nat) (w : World) (hA : kP.C w A n t) (hc : n ≤ c) (hI : kI.C w I m its) (hm : m ≤ mc) (ho : ∀ x ∈ its, okI x) (hm0 : m ≤ 1000000000000) (hb : its.map (chk t) = bs) (hk : cnt (chk t) its = k) :
    Calls Try.prog 11 #[.slice A n c, .slice I m mc] w fun e w' => ∃ B, e = .returned (.tuple #[.slice (some B) m m, .int .i64 (k : Int)]) ∧ Kd.bool.C w' (some B) m bs ∧ Below w.heap.size w w' ∧ Below w.heap.size w w' :=
  (findC A n c t I m mc its bs k w hA hc hI hm ho hm0 hb hk).mono fun e w' hh => by
    obtain ⟨B, h1, h2, h3⟩ := hh
    exact ⟨B, h1, h2, h3, h3⟩
def FitI (w : World) (its : List It) (rs : List (RowV 4)) : Prop := Fits kI w its rs
theorem FitI.below {w w1 : World} {its : List It} {rs : List (RowV 4)} (h : FitI w its rs) (hb : Below w.heap.size w w1) : FitI w1 its rs := Fits.below h hb
theorem FitI.append {w : World} {a b : List It} {rs qs : List (RowV 4)} (h : FitI w a rs) (g : FitI w b qs) : FitI w (a ++ b) (rs ++ qs) := Fits.append h g
theorem FitI.one {w : World} {x : It} {r : RowV 4} (h : kI.K w x r.1) : FitI w [x] [r] := Fits.one h
theorem fitI_of {w : World} {A : Option Addr} {n : Nat} {its : List It} (h : kI.C w A n its) : ∃ rs : List (RowV 4), (kV 4).C w A n rs ∧ FitI w its rs := fits_of h
theorem liftI {w : World} {A : Option Addr} {n : Nat} {its : List It} {rs : List (RowV 4)} (h : (kV 4).C w A n rs) (hf : FitI w its rs) : kI.C w A n its := fits_lift (d := kI) h hf
theorem cnt_one (f : It → Bool) (x : It) : cnt f [x] = 1 := by
  rw [cnt_eq, if_neg (by simp)]
  split
  · rfl
  · rw [if_pos (by simp)]
theorem findR (A : Option Addr) (n c : Nat) (t : List Pr) (I : Option Addr) (m mc : Nat) (its : List It) (bs : List Bool) (k : Nat) (w : World) (rs : List (RowV 4)) {e base : Nat} {ok : Nat → Prop} (hA : kP.C w A n t) (hc : n ≤ c) (hI : (kV 4).R e w base ok (.slice I m mc) rs) (hf : FitI w its rs) (ho : ∀ x ∈ its, okI x) (hm0 : rs.length ≤ 1000000000000) (hb : its.map (chk t) = bs) (hk : cnt (chk t) its = k) :
    Calls Try.prog 11 #[.slice A n c, .slice I m mc] w fun e w' => ∃ B, e = .returned (.tuple #[.slice (some B) m m, .int .i64 (k : Int)]) ∧ Kd.bool.C w' (some B) m bs ∧ Below w.heap.size w w' := by
  obtain ⟨h1, h2, h3⟩ := Kd.R_reads' hI
  subst h1
  exact findC A n c t I _ mc its bs k w hA hc (fits_lift (d := kI) h3 hf) h2 ho hm0 hb hk
set_option maxRecDepth 100000 in
set_option maxHeartbeats 8000000 in
theorem add_calls (A : Option Addr) (n c : Nat) (raw : List Int) (B : Option Addr) (m d : Nat) (items : List Rw) (K0 : Option Addr) (ck : Nat) (P : Option Addr) (cp : Nat) (x : Rw) (w : World) (hA : (Kd.int .i64).C w A n raw) (hc : n ≤ c) (hr : ∀ x ∈ raw, In64 x) (hB : kR.C w B m items) (hd : m ≤ d) (hi : ∀ x ∈ items, OkR x) (hK : (Kd.int .i64).C w K0 x.f0.length x.f0) (hck : x.f0.length ≤ ck) (hP : (Kd.int .i64).C w P x.f2.length x.f2) (hcp : x.f2.length ≤ cp) (ho : OkR x) :
    Calls Try.prog 6 #[.slice A n c, .slice B m d, .agg #[.slice K0 x.f0.length ck, .int .i64 x.f1, .slice P x.f2.length cp, .int .i64 x.f3]] w fun e w' => e = .returned (.bool true) ∧ Below w.heap.size w w' := by
  obtain ⟨its, hits⟩ : ∃ q, itemsR items = q := ⟨_, rfl⟩
  obtain ⟨t, ht⟩ : ∃ q, tabR raw = q := ⟨_, rfl⟩
  obtain ⟨it, hit⟩ : ∃ q, itemR x = q := ⟨_, rfl⟩
  have HLN := Aside0.mk (show its.length ≤ 20 by rw [← hits]; exact itemsR_len items)
  have HOK := Aside0.mk (show ∀ x ∈ its, okI x by rw [← hits]; exact okI_items items)
  have HOI := Aside0.mk (show okI it by rw [← hit]; exact okI_item x)
  have HA := Aside0.mk hA
  have HBC := Aside0.mk hB
  have HKC := Aside0.mk hK
  have HPC := Aside0.mk hP
  have HR := Aside0.mk hr
  have HI := Aside0.mk hi
  have HO := Aside0.mk ho
  have HT := Aside0.mk ht
  have HIT := Aside0.mk hits
  have HIX := Aside0.mk hit
  have HB := Aside0.mk (Below.refl w.heap.size w)
  clear hA hB hr hi ht hits hK hP ho hit
  go_enter Try.func6, Try.ntmps6
  go_wp2_with fail
  refine (awake_calls _).mono ?_
  rintro e w1 ⟨rfl, hb_⟩
  have YE : Box w1 (w.heap.size) _ _ := Box.below (by repeat (with_reducible first | exact XE.out | exact Box.new | exact Box.new1 | exact Box.new2 | exact Box.new3 | apply Box.alloc | apply Box.drew | apply Box.drewN | apply Box.set)) hb_
  (try clear XE rE kE fE); have XE := Aside0.mk YE; have rE := YE.cell; have fE := YE.frozen; have kE := YE.lt; clear YE
  have ZHA := Aside0.mk (Kd.C_below (by repeat (with_reducible first | exact HA.out | apply C_alloc | apply C_drew)) hb_); clear HA; have HA := ZHA; clear ZHA
  have ZHBC := Aside0.mk (Kd.C_below (by repeat (with_reducible first | exact HBC.out | apply C_alloc | apply C_drew)) hb_); clear HBC; have HBC := ZHBC; clear ZHBC
  have ZHKC := Aside0.mk (Kd.C_below (by repeat (with_reducible first | exact HKC.out | apply C_alloc | apply C_drew)) hb_); clear HKC; have HKC := ZHKC; clear ZHKC
  have ZHPC := Aside0.mk (Kd.C_below (by repeat (with_reducible first | exact HPC.out | apply C_alloc | apply C_drew)) hb_); clear HPC; have HPC := ZHPC; clear ZHPC
  have n_ := Aside0.mk (below_step (by repeat (first | exact HB.out | apply below_alloc | apply pw_below_drewN | apply below_drew1 | refine below_set ?_ (by first | omega | (simp; omega)))) hb_); clear HB hb_; have HB := n_; clear n_
  go_wp2_with fail
  refine (tableC A n c raw t _ HA.out hc HR.out HT.out).mono ?_
  rintro e w2 ⟨T, kt, rfl, hkt, hT, hb_⟩
  have YE : Box w2 (w.heap.size) _ _ := Box.below (by repeat (with_reducible first | exact XE.out | exact Box.new | exact Box.new1 | exact Box.new2 | exact Box.new3 | apply Box.alloc | apply Box.drew | apply Box.drewN | apply Box.set)) hb_
  (try clear XE rE kE fE); have XE := Aside0.mk YE; have rE := YE.cell; have fE := YE.frozen; have kE := YE.lt; clear YE
  have ZHBC := Aside0.mk (Kd.C_below (by repeat (with_reducible first | exact HBC.out | apply C_alloc | apply C_drew)) hb_); clear HBC; have HBC := ZHBC; clear ZHBC
  have ZHKC := Aside0.mk (Kd.C_below (by repeat (with_reducible first | exact HKC.out | apply C_alloc | apply C_drew)) hb_); clear HKC; have HKC := ZHKC; clear ZHKC
  have ZHPC := Aside0.mk (Kd.C_below (by repeat (with_reducible first | exact HPC.out | apply C_alloc | apply C_drew)) hb_); clear HPC; have HPC := ZHPC; clear ZHPC
  have n_ := Aside0.mk (below_step (by repeat (first | exact HB.out | apply below_alloc | apply pw_below_drewN | apply below_drew1 | refine below_set ?_ (by first | omega | (simp; omega)))) hb_); clear HB hb_; have HB := n_; clear n_
  have HTC := Aside0.mk hT
  clear hT HA HR HT
  go_wp2_with fail
  refine (itemsC B m d items its _ HBC.out hd HI.out HIT.out).mono ?_
  rintro e w3 ⟨I, ki, rfl, hki, hI, hb_⟩
  have YE : Box w3 (w.heap.size) _ _ := Box.below (by repeat (with_reducible first | exact XE.out | exact Box.new | exact Box.new1 | exact Box.new2 | exact Box.new3 | apply Box.alloc | apply Box.drew | apply Box.drewN | apply Box.set)) hb_
  (try clear XE rE kE fE); have XE := Aside0.mk YE; have rE := YE.cell; have fE := YE.frozen; have kE := YE.lt; clear YE
  have ZHTC := Aside0.mk (Kd.C_below (by repeat (with_reducible first | exact HTC.out | apply C_alloc | apply C_drew)) hb_); clear HTC; have HTC := ZHTC; clear ZHTC
  have ZHKC := Aside0.mk (Kd.C_below (by repeat (with_reducible first | exact HKC.out | apply C_alloc | apply C_drew)) hb_); clear HKC; have HKC := ZHKC; clear ZHKC
  have ZHPC := Aside0.mk (Kd.C_below (by repeat (with_reducible first | exact HPC.out | apply C_alloc | apply C_drew)) hb_); clear HPC; have HPC := ZHPC; clear ZHPC
  have n_ := Aside0.mk (below_step (by repeat (first | exact HB.out | apply below_alloc | apply pw_below_drewN | apply below_drew1 | refine below_set ?_ (by first | omega | (simp; omega)))) hb_); clear HB hb_; have HB := n_; clear n_
  have HIC := Aside0.mk hI
  clear hI HBC HI HIT
  go_wp2_with fail
  refine (itemC K0 _ ck P _ cp x it _ HKC.out hck HPC.out hcp HO.out HIX.out).mono ?_
  rintro e w4 ⟨A0, c0, A3, c3, rfl, hk, hb_⟩
  have ZHTC := Aside0.mk (Kd.C_below (by repeat (with_reducible first | exact HTC.out | apply C_alloc | apply C_drew)) hb_); clear HTC; have HTC := ZHTC; clear ZHTC
  have ZHIC := Aside0.mk (Kd.C_below (by repeat (with_reducible first | exact HIC.out | apply C_alloc | apply C_drew)) hb_); clear HIC; have HIC := ZHIC; clear ZHIC
  have n_ := Aside0.mk (below_step (by repeat (first | exact HB.out | apply below_alloc | apply pw_below_drewN | apply below_drew1 | refine below_set ?_ (by first | omega | (simp; omega)))) hb_); clear HB hb_; have HB := n_; clear n_
  have HKI := Aside0.mk hk
  clear hk HKC HPC HO HIX
  (try clear XE rE kE fE)
  obtain ⟨row, hrow⟩ : ∃ r : RowV 4, r.1 = [.slice A0 it.f0.length c0, .int .u64 it.f1, .bool it.f2.f0, .slice A3 it.f2.f1.length c3] := ⟨⟨_, rfl, by intro u hu; simp only [List.mem_cons, List.not_mem_nil, or_false] at hu; rcases hu with rfl | rfl | rfl | rfl <;> rfl⟩, rfl⟩
  have HROW := Aside0.mk hrow
  have HKR := Aside0.mk (show kI.K w4 it row.1 by rw [hrow]; exact HKI.out)
  clear hrow HKI
  obtain ⟨bs, hbs⟩ : ∃ q, its.map (chk t) = q := ⟨_, rfl⟩
  obtain ⟨r, hr⟩ : ∃ q, chk t it = q := ⟨_, rfl⟩
  have hl := HLN.out
  have HBS := Aside0.mk hbs
  have HRE := Aside0.mk hr
  clear hbs hr
  generalize hnn : its.length = N at *
  have HNN := Aside0.mk hnn
  clear hnn
  obtain ⟨vb, hvb⟩ : ∃ b, w4.heap.size = b := ⟨_, rfl⟩
  go_wp2_with fail
  refine (findC2 T _ kt t I N ki its bs _ _ (C_alloc HTC.out) hkt (C_alloc HIC.out) hki HOK.out (by omega) HBS.out rfl).mono ?_
  rintro e w15 ⟨Q, rfl, hQ, hb2, hb_⟩
  have YE : Box w15 (w4.heap.size) _ _ := Box.below (by repeat (with_reducible first | exact XE.out | exact Box.new | exact Box.new1 | exact Box.new2 | exact Box.new3 | apply Box.alloc | apply Box.drew | apply Box.drewN | apply Box.set)) hb_
  (try clear XE rE kE fE); have XE := Aside0.mk YE; have rE := YE.cell; have fE := YE.frozen; have kE := YE.lt; clear YE
  have ZHTC := Aside0.mk (Kd.C_below (by repeat (with_reducible first | exact HTC.out | apply C_alloc | apply C_drew)) hb_); clear HTC; have HTC := ZHTC; clear ZHTC
  have ZHIC := Aside0.mk (Kd.C_below (by repeat (with_reducible first | exact HIC.out | apply C_alloc | apply C_drew)) hb_); clear HIC; have HIC := ZHIC; clear ZHIC
  have n_ := Aside0.mk (below_step (by repeat (first | exact HB.out | apply below_alloc | apply pw_below_drewN | apply below_drew1 | refine below_set ?_ (by first | omega | (simp; omega)))) hb_); clear HB hb_; have HB := n_; clear n_
  have HQC := Aside0.mk hQ
  have HKW := Aside0.mk (show kI.K w15 it row.1 from kI.K_below hb2 (kI.K_below (below_alloc (Below.refl _ _) _) HKR.out))
  clear hQ hb2 HKR
  rw [hvb] at *
  clear hvb
  obtain ⟨rs, hrs, hf⟩ := fitI_of HIC.out
  have HRS := Aside0.mk (show (kV 4).C w15 I N rs from hrs)
  have HF := Aside0.mk hf
  have HFA := Aside0.mk (FitI.append HF.out (FitI.one HKW.out))
  have hrl : rs.length = N := Kd.C_len hrs
  have hrl2 : (rs ++ [row]).length ≤ 1000000000000 := by simp [hrl]; omega
  have HOA := Aside0.mk (show ∀ x ∈ its ++ [it], okI x by
    intro x hx
    rw [List.mem_append, List.mem_singleton] at hx
    rcases hx with hx | rfl
    · exact HOK.out x hx
    · exact HOI.out)
  have HMA := Aside0.mk (show (its ++ [it]).map (chk t) = bs ++ [r] by rw [List.map_append, HBS.out, ← HRE.out]; rfl)
  have hlen1 : (rs ++ [row]).length = N + 1 := by simp [hrl]
  clear hrs hf
  go_upto_region 6 with (fail)
  refine wp_region_held_drew (S := (fun w' => Below w15.heap.size w15 w' ∧ (∀ j, w'.cell? ⟨vb, j, none⟩ = (#[.slice A0 it.f0.length c0, .int .u64 it.f1, .bool it.f2.f0, .slice A3 it.f2.f1.length c3] : Array Value)[j]?))) (by kernel_rfl) ?hS1x0 (fun hHeld => ?hR1x0)
  case hS1x0 => ((try dsimp only); (first | exact ⟨below_drew1 (Below.refl _ _), rE⟩ | exact ⟨below_drew1 b0_, rE⟩ | exact ⟨j0, jE⟩ | exact ⟨below_alloc j0 _, fun j => (cell_alloc_old (Nat.lt_of_lt_of_le kE j0.size)).trans (jE j)⟩ | exact ⟨below_alloc (below_drew1 (Below.refl _ _)) _, fun j => (cell_alloc_old kE).trans (rE j)⟩ | assumption))
  refine wpAnyH_take (i := 0) (oi := ⟨some 33, _, _, _, _, _⟩) (v := ?_) rfl (by kernel_rfl) (by kernel_rfl) (by kernel_rfl) (fun _ _ _ h => h) (Or.inl ⟨by rfl, ?hY1x2⟩) (by assumption) ?hR1x2
  case hY1x2 => (intro w hSw; (try dsimp only at hSw); go_simp; try with_reducible rfl)
  (try simp only [Act.put, List.setIfInBounds_toArray, List.set_cons_zero, List.set_cons_succ])
  refine wpAnyH_take (i := 1) (oi := ⟨some 34, _, _, _, _, _⟩) (v := ?_) rfl (by kernel_rfl) (by kernel_rfl) (by kernel_rfl) (fun _ _ _ h => h) (Or.inl ⟨by rfl, ?hY1x3⟩) (by assumption) ?hR1x3
  case hY1x3 => (intro w hSw; (try dsimp only at hSw); go_simp; try with_reducible rfl)
  (try simp only [Act.put, List.setIfInBounds_toArray, List.set_cons_zero, List.set_cons_succ])
  refine wpAnyH_take (i := 3) (oi := ⟨some 36, _, _, _, _, _⟩) (v := ?_) rfl (by kernel_rfl) (by kernel_rfl) (by kernel_rfl) (fun _ _ _ h => h) (Or.inl ⟨by rfl, ?hY1x4⟩) (by assumption) ?hR1x4
  case hY1x4 => (intro w hSw; (try dsimp only at hSw); go_simp; try with_reducible rfl)
  (try simp only [Act.put, List.setIfInBounds_toArray, List.set_cons_zero, List.set_cons_succ])
  refine wpAnyH_ready (rs := [2, 4]) (by kernel_rfl) (by simp) ?_
  refine AllReadyH.cons (o := ⟨some 35, _, _, _, _, _⟩) rfl (fun K hK => ?hT1x5) (AllReadyH.cons (o := ⟨some 37, _, _, _, _, _⟩) rfl (fun K hK => ?hM1x5) AllReadyH.nil)
  case hT1x5 =>
    (obtain ⟨g0, gE⟩ := ‹Below w15.heap.size w15 _ ∧ _›; refine Kd.R_append_rows_step (kV 4) (w0 := w15) w15.heap.size (by rfl) (.const (.slice none 0 0)) (.tmp 34) 25 32 (.agg #[.slice none 0 0, .int .u64 0, .bool false, .slice none 0 0]) 64 rfl Try.underlying25 info32 rfl (by decide) (by omega) (.slice none 0 0) ([]) (rs) _ _ _ (fun _ => True) (fun _ => False) rfl rfl (Kd.R_nil _ _ _ _ _) (Kd.C_below HRS.out g0) (fun x cs h => (fun _ _ h => h) x cs h) (fun _ hk => hk.elim) (fun _ _ => trivial) g0 g0.size (by first | omega | (simp; omega)) ?_; (intro v2 w2 ho_ hb_ hg_ hat_; have HO2 := Aside0.mk ho_; have HG2 := Aside0.mk ((Below.refl _ _).grown (row := none) hg_ (Nat.le_refl _) (fun k hk => by cases hk)); clear ho_ hg_ hat_; have j0 := hb_; have jE := fun j => (j0.cell (p := ⟨vb, j, none⟩) kE).trans (rE j)))
    refine hK.out _ _ ?hS1x6 (fun hHeld => ?hR1x6)
    case hS1x6 => ((try dsimp only); (first | exact ⟨below_drew1 (Below.refl _ _), rE⟩ | exact ⟨below_drew1 b0_, rE⟩ | exact ⟨j0, jE⟩ | exact ⟨below_alloc j0 _, fun j => (cell_alloc_old (Nat.lt_of_lt_of_le kE j0.size)).trans (jE j)⟩ | exact ⟨below_alloc (below_drew1 (Below.refl _ _)) _, fun j => (cell_alloc_old kE).trans (rE j)⟩ | assumption))
    clear hK K
    (try simp only [Act.put, List.setIfInBounds_toArray, List.set_cons_zero, List.set_cons_succ])
    refine wpAnyH_ready (rs := [4]) (by kernel_rfl) (by simp) ?_
    refine AllReadyH.cons (o := ⟨some 37, _, _, _, _, _⟩) rfl (fun K hK => ?hT1x7) ?hM1x7
    case hM1x7 => exact AllReadyH.nil
    go_simp
    (try go_wp2_with fail)
    refine hK.out _ _ ?hS1x7 (fun hHeld => ?hR1x7)
    case hS1x7 => ((try dsimp only); (first | exact ⟨below_drew1 (Below.refl _ _), rE⟩ | exact ⟨below_drew1 b0_, rE⟩ | exact ⟨j0, jE⟩ | exact ⟨below_alloc j0 _, fun j => (cell_alloc_old (Nat.lt_of_lt_of_le kE j0.size)).trans (jE j)⟩ | exact ⟨below_alloc (below_drew1 (Below.refl _ _)) _, fun j => (cell_alloc_old kE).trans (rE j)⟩ | assumption))
    clear hK K
    (try simp only [Act.put, List.setIfInBounds_toArray, List.set_cons_zero, List.set_cons_succ])
    refine wpAnyH_ready (rs := [5]) (by kernel_rfl) (by simp) ?_
    refine AllReadyH.cons (o := ⟨some 38, _, _, _, _, _⟩) rfl (fun K hK => ?hT1x8) ?hM1x8
    case hM1x8 => exact AllReadyH.nil
    (obtain ⟨g0, gE⟩ := ‹Below w15.heap.size w15 _ ∧ _›; refine Kd.R_append_rows_step (kV 4) (w0 := w15) w15.heap.size (by rfl) (.tmp 35) (.tmp 37) 25 32 (.agg #[.slice none 0 0, .int .u64 0, .bool false, .slice none 0 0]) 64 rfl Try.underlying25 info32 rfl (by decide) (by omega) (v2) (rs) ([row]) _ _ _ (fun _ => True) (fun _ => False) rfl rfl ((by (with_reducible repeat (first | apply Kd.R_alloc | apply Kd.R_drewN | apply Kd.R_drew)); exact HO2.out)) (by first | exact (fun h => C_oneV row h HROW.out) Box.new | exact (fun h => C_oneV row h HROW.out) (Box.drew Box.new) | exact (fun h => C_oneV row h HROW.out) (Box.below (Box.drew Box.new) HG2.out) | exact (fun h => C_oneV row h HROW.out) (Box.below Box.new HG2.out)) (fun x cs h => (fun _ _ h => h) x cs h) (fun _ hk => hk.elim) (fun _ _ => trivial) g0 g0.size (by first | omega | (simp; omega)) ?_; (intro v5 w5 ho_ hb_ hg_ hat_; have HO5 := Aside0.mk ho_; clear ho_ hg_ hat_; have j0 := hb_; have jE := fun j => (j0.cell (p := ⟨vb, j, none⟩) kE).trans (rE j)); obtain ⟨A5, c5, rfl⟩ := Kd.R_slice HO5.out; rw [hlen1] at HO5)
    refine hK.out _ _ ?hS1x8 (fun hHeld => ?hR1x8)
    case hS1x8 => ((try dsimp only); (first | exact ⟨below_drew1 (Below.refl _ _), rE⟩ | exact ⟨below_drew1 b0_, rE⟩ | exact ⟨j0, jE⟩ | exact ⟨below_alloc j0 _, fun j => (cell_alloc_old (Nat.lt_of_lt_of_le kE j0.size)).trans (jE j)⟩ | exact ⟨below_alloc (below_drew1 (Below.refl _ _)) _, fun j => (cell_alloc_old kE).trans (rE j)⟩ | assumption))
    clear hK K
    (try simp only [Act.put, List.setIfInBounds_toArray, List.set_cons_zero, List.set_cons_succ])
    refine wpAnyH_ready (rs := [6]) (by kernel_rfl) (by simp) ?_
    refine AllReadyH.cons (o := ⟨some 39, _, _, _, _, _⟩) rfl (fun K hK => ?hT1x9) ?hM1x9
    case hM1x9 => exact AllReadyH.nil
    go_simp
    (first | (go_at_call 11; obtain ⟨g0, gE⟩ := ‹Below w15.heap.size w15 _ ∧ _›; ((with_reducible refine (findR T _ kt t A5 _ c5 (its ++ [it]) (bs ++ [r]) _ _ (rs ++ [row]) (Kd.C_below HTC.out g0) hkt (by (with_reducible repeat (first | apply Kd.R_alloc | apply Kd.R_drewN | apply Kd.R_drew)); exact HO5.out) (HFA.out.below g0) HOA.out hrl2 HMA.out rfl).mono ?_));  rintro e w6 ⟨Q6, rfl, hQ6, hb_⟩; have j0 := below_step g0 hb_; have s6 := j0.size; have jE := fun j => (j0.cell (p := ⟨vb, j, none⟩) kE).trans (rE j)))
    (try go_wp2_with fail)
    refine hK.out _ _ ?hS1x9 (fun hHeld => ?hR1x9)
    case hS1x9 => ((try dsimp only); (first | exact ⟨below_drew1 (Below.refl _ _), rE⟩ | exact ⟨below_drew1 b0_, rE⟩ | exact ⟨j0, jE⟩ | exact ⟨below_alloc j0 _, fun j => (cell_alloc_old (Nat.lt_of_lt_of_le kE j0.size)).trans (jE j)⟩ | exact ⟨below_alloc (below_drew1 (Below.refl _ _)) _, fun j => (cell_alloc_old kE).trans (rE j)⟩ | assumption))
    clear hK K
    (try simp only [Act.put, List.setIfInBounds_toArray, List.set_cons_zero, List.set_cons_succ])
    refine wpAnyH_take (i := 7) (oi := ⟨some 32, _, _, _, _, _⟩) (v := ?_) rfl (by kernel_rfl) (by kernel_rfl) (by kernel_rfl) (fun _ _ _ h => h) (Or.inl ⟨by rfl, ?hY1x10⟩) (by assumption) ?hR1x10
    case hY1x10 => (intro w hSw; (try dsimp only at hSw); go_simp; try with_reducible rfl)
    (try simp only [Act.put, List.setIfInBounds_toArray, List.set_cons_zero, List.set_cons_succ])
    refine wpAnyH_take (i := 8) (oi := ⟨some 40, _, _, _, _, _⟩) (v := ?_) rfl (by kernel_rfl) (by kernel_rfl) (by kernel_rfl) (fun _ _ _ h => h) (Or.inl ⟨by rfl, ?hY1x11⟩) (by assumption) ?hR1x11
    case hY1x11 => (intro w hSw; (try dsimp only at hSw); go_simp; try with_reducible rfl)
    (try simp only [Act.put, List.setIfInBounds_toArray, List.set_cons_zero, List.set_cons_succ])
    refine wpAnyH_take (i := 9) (oi := ⟨some 41, _, _, _, _, _⟩) (v := ?_) rfl (by kernel_rfl) (by kernel_rfl) (by kernel_rfl) (fun _ _ _ h => h) (Or.inl ⟨by rfl, ?hY1x12⟩) (by assumption) ?hR1x12
    case hY1x12 => (intro w hSw; (try dsimp only at hSw); go_simp; try with_reducible rfl)
    (try simp only [Act.put, List.setIfInBounds_toArray, List.set_cons_zero, List.set_cons_succ])
    refine wpAnyH_take (i := 10) (oi := ⟨some 13, _, _, _, _, _⟩) (v := ?_) rfl (by kernel_rfl) (by kernel_rfl) (by kernel_rfl) (fun _ _ _ h => h) (Or.inl ⟨by rfl, ?hY1x13⟩) (by assumption) ?hR1x13
    case hY1x13 => (intro w hSw; (try dsimp only at hSw); go_simp; try with_reducible rfl)
    (try simp only [Act.put, List.setIfInBounds_toArray, List.set_cons_zero, List.set_cons_succ])
    refine wpAnyH_take (i := 11) (oi := ⟨some 14, _, _, _, _, _⟩) (v := ?_) rfl (by kernel_rfl) (by kernel_rfl) (by kernel_rfl) (fun _ _ _ h => h) (Or.inl ⟨by rfl, ?hY1x14⟩) (by assumption) ?hR1x14
    case hY1x14 => (intro w hSw; (try dsimp only at hSw); go_simp; try with_reducible rfl)
    (try simp only [Act.put, List.setIfInBounds_toArray, List.set_cons_zero, List.set_cons_succ])
    refine wpAnyH_done (by kernel_rfl) ?_ _
    have HQ6 := Aside0.mk hQ6
    have HT6 := Aside0.mk (Kd.C_below HTC.out j0)
    have HQ0 := Aside0.mk (Kd.C_below HQC.out j0)
    have HK6 := Aside0.mk (kI.K_below j0 HKW.out)
    have HR6 := Aside0.mk (Kd.C_below HRS.out j0)
    have HF6 := Aside0.mk (HF.out.below j0)
    have n_ := Aside0.mk (below_step HB.out j0)
    clear HB hQ6 HTC HQC HKW HRS HF HIC XE rE fE kE
    have HB := n_
    clear n_
    have HOI1 := Aside0.mk (show ∀ x ∈ [it], okI x by intro x hx; obtain rfl := List.mem_singleton.1 hx; exact HOI.out)
    have HMI1 := Aside0.mk (show [it].map (chk t) = [r] by rw [← HRE.out]; rfl)
    go_wp2_with fail
    refine (findC T _ kt t _ 1 1 [it] [r] 1 _ (C_alloc HT6.out) hkt (liftI (C_oneV row Box.new HROW.out) (FitI.one (kI.K_below (below_alloc (Below.refl _ _) _) HK6.out))) (by omega) HOI1.out (by omega) HMI1.out (cnt_one _ _)).mono ?_
    rintro e w7 ⟨Q7, rfl, hQ7, hb_⟩
    have HT7 := Aside0.mk (Kd.C_below (C_alloc HT6.out) hb_)
    have HR7 := Aside0.mk (Kd.C_below (C_alloc HR6.out) hb_)
    have HQ07 := Aside0.mk (Kd.C_below (C_alloc HQ0.out) hb_)
    have HQ67 := Aside0.mk (Kd.C_below (C_alloc HQ6.out) hb_)
    have HQ7 := Aside0.mk hQ7
    have HF7 := Aside0.mk ((HF6.out.below (below_alloc (Below.refl _ _) _)).below hb_)
    have HW7 := Aside0.mk (below_step (below_alloc HB.out _) hb_)
    have HOD := Aside0.mk (show ∀ x ∈ its ++ its, okI x from fun x hx => by
      rcases List.mem_append.1 hx with hx | hx
      · exact HOK.out x hx
      · exact HOK.out x hx)
    have HMD := Aside0.mk (show (its ++ its).map (chk t) = bs ++ bs by rw [List.map_append, HBS.out])
    have hrl3 : (rs ++ rs).length ≤ 1000000000000 := by simp [hrl]; omega
    clear HB hb_ hQ7 HT6 HR6 HQ0 HQ6 HK6 HF6 HOI1 HMI1 HOA HMA HFA
    have HB := Aside0.mk (Below.refl w7.heap.size w7)
    have HO := Aside0.mk True.intro
    go_wp2_with (first | ((with_reducible refine gate_builtin (b := .append) (xs := #[.const (.slice none 0 0), .tmp 51]) rfl ?_); (try (refine gate_guard (by rfl) ?_; dsimp only)); at_builtin; go_must (refine Kd.R_append_rows (kV 4) (w0 := w7) w7.heap.size rfl (.const (.slice none 0 0)) (.tmp 51) 25 32 (.agg #[.slice none 0 0, .int .u64 0, .bool false, .slice none 0 0]) 64 rfl Try.underlying25 info32 rfl (by decide) (by omega) _ ([]) (rs) (_) (_) (_) (fun _ => True) (fun _ => False) rfl rfl ?aO HR7.out ?aK (fun _ hk => hk.elim) ?aF ?aB ?aS ?aL ?_; (case aK => exact (fun _ _ h => h)); (case aB => exact (by repeat (first | exact HB.out | apply below_alloc | apply pw_below_drewN | apply below_drew1 | refine below_set ?_ (by first | omega | (simp; omega))))); (case aF => exact (fun _ _ => trivial)); (case aO => exact (Kd.R_nil _ _ _ _ _)); (case aS => exact below_size (by repeat (first | exact HB.out | apply below_alloc | apply pw_below_drewN | apply below_drew1 | refine below_set ?_ (by first | omega | (simp; omega))))); (case aL => first | omega | (simp; omega)); intro v1 w1 ho_ hb_ hg_ hat_; skip; clear HB; clear HO; have HB := Aside0.mk hb_; have HO := Aside0.mk ho_; clear ho_ hb_ hg_ hat_; )) | ((with_reducible refine gate_builtin (b := .append) (xs := #[.tmp 52, .tmp 53]) rfl ?_); (try (refine gate_guard (by rfl) ?_; dsimp only)); at_builtin; go_must (refine Kd.R_append_rows (kV 4) (w0 := w7) w7.heap.size rfl (.tmp 52) (.tmp 53) 25 32 (.agg #[.slice none 0 0, .int .u64 0, .bool false, .slice none 0 0]) 64 rfl Try.underlying25 info32 rfl (by decide) (by omega) _ (rs) (rs) (_) (_) (_) (fun _ => True) (fun _ => False) rfl rfl ?aO (Aside0.mk (Kd.C_below HR7.out HB.out)).out ?aK (fun _ hk => hk.elim) ?aF ?aB ?aS ?aL ?_; (case aK => exact (fun _ _ hh => hh)); (case aB => exact (by repeat (first | exact HB.out | apply below_alloc | apply pw_below_drewN | apply below_drew1 | refine below_set ?_ (by first | omega | (simp; omega))))); (case aF => exact (fun _ _ => trivial)); (case aO => exact (by (with_reducible repeat (first | apply Kd.R_alloc | apply Kd.R_drewN | apply Kd.R_drew)); exact HO.out)); (case aS => exact below_size (by repeat (first | exact HB.out | apply below_alloc | apply pw_below_drewN | apply below_drew1 | refine below_set ?_ (by first | omega | (simp; omega))))); (case aL => first | omega | (simp; omega)); intro v1 w1 ho_ hb_ hg_ hat_; skip; clear HB; clear HO; have HB := Aside0.mk hb_; have HO := Aside0.mk ho_; clear ho_ hb_ hg_ hat_; )))
    obtain ⟨A8, c8, rfl⟩ := Kd.R_slice HO.out
    refine (findR T _ kt t A8 _ c8 (its ++ its) (bs ++ bs) _ _ (rs ++ rs) (Kd.C_below HT7.out HB.out) hkt HO.out ((HF7.out.below HB.out).append (HF7.out.below HB.out)) HOD.out hrl3 HMD.out rfl).mono ?_
    rintro e w8 ⟨Q8, rfl, hQ8, hb_⟩
    have hrl4 : (rs ++ rs).length = N + N := by simp [hrl]
    rw [hrl4] at hQ8 ⊢
    have HQ8 := Aside0.mk hQ8
    have HQ08 := Aside0.mk (Kd.C_below (Kd.C_below HQ07.out HB.out) hb_)
    have HQ68 := Aside0.mk (Kd.C_below (Kd.C_below HQ67.out HB.out) hb_)
    have HQ78 := Aside0.mk (Kd.C_below (Kd.C_below HQ7.out HB.out) hb_)
    have HB8 := Aside0.mk (below_step (below_step HW7.out HB.out) hb_)
    have hbl := Kd.C_len HQ08.out
    clear HB hb_ hQ8 HQ07 HQ67 HQ7 HT7 HR7 HF7 HW7 HO
    have HB := HB8
    clear HB8
    have HW := HB
    clear HB
    have HB := Aside0.mk (Below.refl w8.heap.size w8)
    have HO := Aside0.mk True.intro
    go_wp2_with (first | ((with_reducible refine gate_builtin (b := .append) (xs := #[.const (.slice none 0 0), .tmp 70]) rfl ?_); (try (refine gate_guard (by rfl) ?_; dsimp only)); at_builtin; go_must (refine Kd.R_append_rows (Kd.bool) (w0 := w8) w8.heap.size rfl (.const (.slice none 0 0)) (.tmp 70) 37 4 (.bool false) 1 rfl Try.underlying37 info4 rfl (by decide) (by omega) _ ([]) (bs) (_) (_) (_) (fun _ => True) (fun _ => False) rfl rfl ?aO HQ08.out ?aK (fun _ hk => hk.elim) ?aF ?aB ?aS ?aL ?_; (case aK => exact (fun x cs h => h)); (case aB => exact (by repeat (first | exact HB.out | apply below_alloc | apply pw_below_drewN | apply below_drew1 | refine below_set ?_ (by first | omega | (simp; omega))))); (case aF => exact (fun _ _ => trivial)); (case aO => exact (Kd.R_nil _ _ _ _ _)); (case aS => exact below_size (by repeat (first | exact HB.out | apply below_alloc | apply pw_below_drewN | apply below_drew1 | refine below_set ?_ (by first | omega | (simp; omega))))); (case aL => first | omega | (simp; omega)); intro v1 w1 ho_ hb_ hg_ hat_; skip; clear HB; clear HO; have HB := Aside0.mk hb_; have HO := Aside0.mk ho_; clear ho_ hb_ hg_ hat_; )) | ((with_reducible refine gate_builtin (b := .append) (xs := #[.tmp 71, .tmp 72]) rfl ?_); (try (refine gate_guard (by rfl) ?_; dsimp only)); at_builtin; go_must (refine Kd.R_append_rows (Kd.bool) (w0 := w8) w8.heap.size rfl (.tmp 71) (.tmp 72) 37 4 (.bool false) 1 rfl Try.underlying37 info4 rfl (by decide) (by omega) _ (bs) ([r]) (_) (_) (_) (fun _ => True) (fun _ => False) rfl rfl ?aO (Aside0.mk (Kd.C_below HQ78.out HB.out)).out ?aK (fun _ hk => hk.elim) ?aF ?aB ?aS ?aL ?_; (case aK => exact (fun _ _ hh => hh)); (case aB => exact (by repeat (first | exact HB.out | apply below_alloc | apply pw_below_drewN | apply below_drew1 | refine below_set ?_ (by first | omega | (simp; omega))))); (case aF => exact (fun _ _ => trivial)); (case aO => exact (by (with_reducible repeat (first | apply Kd.R_alloc | apply Kd.R_drewN | apply Kd.R_drew)); exact HO.out)); (case aS => exact below_size (by repeat (first | exact HB.out | apply below_alloc | apply pw_below_drewN | apply below_drew1 | refine below_set ?_ (by first | omega | (simp; omega))))); (case aL => first | omega | (simp; omega)); intro v1 w1 ho_ hb_ hg_ hat_; skip; clear HB; clear HO; have HB := Aside0.mk hb_; have HO := Aside0.mk ho_; clear ho_ hb_ hg_ hat_; )))
    obtain ⟨Av, cv, rfl⟩ := Kd.R_slice HO.out
    refine (boolsC (some Q6) Av (N + 1) (N + 1) _ cv _ _ _ (Kd.C_below HQ68.out HB.out) (Nat.le_refl _) (Kd.R_reads' HO.out).2.2 (Kd.R_reads' HO.out).2.1 (by omega) rfl).mono ?_
    rintro e w9 ⟨rfl, hb_⟩
    have HQ09 := Aside0.mk (Kd.C_below (Kd.C_below HQ08.out HB.out) hb_)
    have HQ89 := Aside0.mk (Kd.C_below (Kd.C_below HQ8.out HB.out) hb_)
    have HB9 := Aside0.mk (below_step (below_step HW.out HB.out) hb_)
    clear HB HW HO HQ08 HQ8 HQ68 HQ78 hb_
    have HB := HB9
    clear HB9
    have HW := HB
    clear HB
    have HB := Aside0.mk (Below.refl w9.heap.size w9)
    have HO := Aside0.mk True.intro
    go_wp2_with (first | ((with_reducible refine gate_builtin (b := .append) (xs := #[.const (.slice none 0 0), .tmp 78]) rfl ?_); (try (refine gate_guard (by rfl) ?_; dsimp only)); at_builtin; go_must (refine Kd.R_append_rows (Kd.bool) (w0 := w9) w9.heap.size rfl (.const (.slice none 0 0)) (.tmp 78) 37 4 (.bool false) 1 rfl Try.underlying37 info4 rfl (by decide) (by omega) _ ([]) (bs) (_) (_) (_) (fun _ => True) (fun _ => False) rfl rfl ?aO HQ09.out ?aK (fun _ hk => hk.elim) ?aF ?aB ?aS ?aL ?_; (case aK => exact (fun x cs h => h)); (case aB => exact (by repeat (first | exact HB.out | apply below_alloc | apply pw_below_drewN | apply below_drew1 | refine below_set ?_ (by first | omega | (simp; omega))))); (case aF => exact (fun _ _ => trivial)); (case aO => exact (Kd.R_nil _ _ _ _ _)); (case aS => exact below_size (by repeat (first | exact HB.out | apply below_alloc | apply pw_below_drewN | apply below_drew1 | refine below_set ?_ (by first | omega | (simp; omega))))); (case aL => first | omega | (simp; omega)); intro v1 w1 ho_ hb_ hg_ hat_; skip; clear HB; clear HO; have HB := Aside0.mk hb_; have HO := Aside0.mk ho_; clear ho_ hb_ hg_ hat_; )) | ((with_reducible refine gate_builtin (b := .append) (xs := #[.tmp 79, .tmp 80]) rfl ?_); (try (refine gate_guard (by rfl) ?_; dsimp only)); at_builtin; go_must (refine Kd.R_append_rows (Kd.bool) (w0 := w9) w9.heap.size rfl (.tmp 79) (.tmp 80) 37 4 (.bool false) 1 rfl Try.underlying37 info4 rfl (by decide) (by omega) _ (bs) (bs) (_) (_) (_) (fun _ => True) (fun _ => False) rfl rfl ?aO (Aside0.mk (Kd.C_below HQ09.out HB.out)).out ?aK (fun _ hk => hk.elim) ?aF ?aB ?aS ?aL ?_; (case aK => exact (fun _ _ hh => hh)); (case aB => exact (by repeat (first | exact HB.out | apply below_alloc | apply pw_below_drewN | apply below_drew1 | refine below_set ?_ (by first | omega | (simp; omega))))); (case aF => exact (fun _ _ => trivial)); (case aO => exact (by (with_reducible repeat (first | apply Kd.R_alloc | apply Kd.R_drewN | apply Kd.R_drew)); exact HO.out)); (case aS => exact below_size (by repeat (first | exact HB.out | apply below_alloc | apply pw_below_drewN | apply below_drew1 | refine below_set ?_ (by first | omega | (simp; omega))))); (case aL => first | omega | (simp; omega)); intro v1 w1 ho_ hb_ hg_ hat_; skip; clear HB; clear HO; have HB := Aside0.mk hb_; have HO := Aside0.mk ho_; clear ho_ hb_ hg_ hat_; )))
    obtain ⟨Av, cv, rfl⟩ := Kd.R_slice HO.out
    refine (boolsC (some Q8) Av (N + N) (N + N) _ cv _ _ _ (Kd.C_below HQ89.out HB.out) (Nat.le_refl _) (Kd.R_reads' HO.out).2.2 (Kd.R_reads' HO.out).2.1 (by omega) rfl).mono ?_
    rintro e w10 ⟨rfl, hb_⟩
    go_wp2
    go_ret
    exact ⟨rfl, below_step (below_step HW.out HB.out) hb_⟩
  case hM1x5 =>
    go_simp
    (try go_wp2_with fail)
    refine hK.out _ _ ?hS1x15 (fun hHeld => ?hR1x15)
    case hS1x15 => ((try dsimp only); (first | exact ⟨below_drew1 (Below.refl _ _), rE⟩ | exact ⟨below_drew1 b0_, rE⟩ | exact ⟨j0, jE⟩ | exact ⟨below_alloc j0 _, fun j => (cell_alloc_old (Nat.lt_of_lt_of_le kE j0.size)).trans (jE j)⟩ | exact ⟨below_alloc (below_drew1 (Below.refl _ _)) _, fun j => (cell_alloc_old kE).trans (rE j)⟩ | assumption))
    clear hK K
    (try simp only [Act.put, List.setIfInBounds_toArray, List.set_cons_zero, List.set_cons_succ])
    refine wpAnyH_ready (rs := [2]) (by kernel_rfl) (by simp) ?_
    refine AllReadyH.cons (o := ⟨some 35, _, _, _, _, _⟩) rfl (fun K hK => ?hT1x16) ?hM1x16
    case hM1x16 => exact AllReadyH.nil
    (obtain ⟨g0, gE⟩ := ‹Below w15.heap.size w15 _ ∧ _›; refine Kd.R_append_rows_step (kV 4) (w0 := w15) w15.heap.size (by rfl) (.const (.slice none 0 0)) (.tmp 34) 25 32 (.agg #[.slice none 0 0, .int .u64 0, .bool false, .slice none 0 0]) 64 rfl Try.underlying25 info32 rfl (by decide) (by omega) (.slice none 0 0) ([]) (rs) _ _ _ (fun _ => True) (fun _ => False) rfl rfl (Kd.R_nil _ _ _ _ _) (Kd.C_below HRS.out g0) (fun x cs h => (fun _ _ h => h) x cs h) (fun _ hk => hk.elim) (fun _ _ => trivial) g0 g0.size (by first | omega | (simp; omega)) ?_; (intro v2 w2 ho_ hb_ hg_ hat_; have HO2 := Aside0.mk ho_; have HG2 := Aside0.mk ((Below.refl _ _).grown (row := none) hg_ (Nat.le_refl _) (fun k hk => by cases hk)); clear ho_ hg_ hat_; have j0 := hb_; have jE := fun j => (j0.cell (p := ⟨vb, j, none⟩) kE).trans (rE j)))
    refine hK.out _ _ ?hS1x16 (fun hHeld => ?hR1x16)
    case hS1x16 => ((try dsimp only); (first | exact ⟨below_drew1 (Below.refl _ _), rE⟩ | exact ⟨below_drew1 b0_, rE⟩ | exact ⟨j0, jE⟩ | exact ⟨below_alloc j0 _, fun j => (cell_alloc_old (Nat.lt_of_lt_of_le kE j0.size)).trans (jE j)⟩ | exact ⟨below_alloc (below_drew1 (Below.refl _ _)) _, fun j => (cell_alloc_old kE).trans (rE j)⟩ | assumption))
    clear hK K
    (try simp only [Act.put, List.setIfInBounds_toArray, List.set_cons_zero, List.set_cons_succ])
    refine wpAnyH_ready (rs := [5]) (by kernel_rfl) (by simp) ?_
    refine AllReadyH.cons (o := ⟨some 38, _, _, _, _, _⟩) rfl (fun K hK => ?hT1x17) ?hM1x17
    case hM1x17 => exact AllReadyH.nil
    (obtain ⟨g0, gE⟩ := ‹Below w15.heap.size w15 _ ∧ _›; refine Kd.R_append_rows_step (kV 4) (w0 := w15) w15.heap.size (by rfl) (.tmp 35) (.tmp 37) 25 32 (.agg #[.slice none 0 0, .int .u64 0, .bool false, .slice none 0 0]) 64 rfl Try.underlying25 info32 rfl (by decide) (by omega) (v2) (rs) ([row]) _ _ _ (fun _ => True) (fun _ => False) rfl rfl ((by (with_reducible repeat (first | apply Kd.R_alloc | apply Kd.R_drewN | apply Kd.R_drew)); exact HO2.out)) (by first | exact (fun h => C_oneV row h HROW.out) Box.new | exact (fun h => C_oneV row h HROW.out) (Box.drew Box.new) | exact (fun h => C_oneV row h HROW.out) (Box.below (Box.drew Box.new) HG2.out) | exact (fun h => C_oneV row h HROW.out) (Box.below Box.new HG2.out)) (fun x cs h => (fun _ _ h => h) x cs h) (fun _ hk => hk.elim) (fun _ _ => trivial) g0 g0.size (by first | omega | (simp; omega)) ?_; (intro v5 w5 ho_ hb_ hg_ hat_; have HO5 := Aside0.mk ho_; clear ho_ hg_ hat_; have j0 := hb_; have jE := fun j => (j0.cell (p := ⟨vb, j, none⟩) kE).trans (rE j)); obtain ⟨A5, c5, rfl⟩ := Kd.R_slice HO5.out; rw [hlen1] at HO5)
    refine hK.out _ _ ?hS1x17 (fun hHeld => ?hR1x17)
    case hS1x17 => ((try dsimp only); (first | exact ⟨below_drew1 (Below.refl _ _), rE⟩ | exact ⟨below_drew1 b0_, rE⟩ | exact ⟨j0, jE⟩ | exact ⟨below_alloc j0 _, fun j => (cell_alloc_old (Nat.lt_of_lt_of_le kE j0.size)).trans (jE j)⟩ | exact ⟨below_alloc (below_drew1 (Below.refl _ _)) _, fun j => (cell_alloc_old kE).trans (rE j)⟩ | assumption))
    clear hK K
    (try simp only [Act.put, List.setIfInBounds_toArray, List.set_cons_zero, List.set_cons_succ])
    refine wpAnyH_ready (rs := [6]) (by kernel_rfl) (by simp) ?_
    refine AllReadyH.cons (o := ⟨some 39, _, _, _, _, _⟩) rfl (fun K hK => ?hT1x18) ?hM1x18
    case hM1x18 => exact AllReadyH.nil
    go_simp
    (first | (go_at_call 11; obtain ⟨g0, gE⟩ := ‹Below w15.heap.size w15 _ ∧ _›; ((with_reducible refine (findR T _ kt t A5 _ c5 (its ++ [it]) (bs ++ [r]) _ _ (rs ++ [row]) (Kd.C_below HTC.out g0) hkt (by (with_reducible repeat (first | apply Kd.R_alloc | apply Kd.R_drewN | apply Kd.R_drew)); exact HO5.out) (HFA.out.below g0) HOA.out hrl2 HMA.out rfl).mono ?_));  rintro e w6 ⟨Q6, rfl, hQ6, hb_⟩; have j0 := below_step g0 hb_; have s6 := j0.size; have jE := fun j => (j0.cell (p := ⟨vb, j, none⟩) kE).trans (rE j)))
    (try go_wp2_with fail)
    refine hK.out _ _ ?hS1x18 (fun hHeld => ?hR1x18)
    case hS1x18 => ((try dsimp only); (first | exact ⟨below_drew1 (Below.refl _ _), rE⟩ | exact ⟨below_drew1 b0_, rE⟩ | exact ⟨j0, jE⟩ | exact ⟨below_alloc j0 _, fun j => (cell_alloc_old (Nat.lt_of_lt_of_le kE j0.size)).trans (jE j)⟩ | exact ⟨below_alloc (below_drew1 (Below.refl _ _)) _, fun j => (cell_alloc_old kE).trans (rE j)⟩ | assumption))
    clear hK K
    (try simp only [Act.put, List.setIfInBounds_toArray, List.set_cons_zero, List.set_cons_succ])
    refine wpAnyH_take (i := 7) (oi := ⟨some 32, _, _, _, _, _⟩) (v := ?_) rfl (by kernel_rfl) (by kernel_rfl) (by kernel_rfl) (fun _ _ _ h => h) (Or.inl ⟨by rfl, ?hY1x19⟩) (by assumption) ?hR1x19
    case hY1x19 => (intro w hSw; (try dsimp only at hSw); go_simp; try with_reducible rfl)
    (try simp only [Act.put, List.setIfInBounds_toArray, List.set_cons_zero, List.set_cons_succ])
    refine wpAnyH_take (i := 8) (oi := ⟨some 40, _, _, _, _, _⟩) (v := ?_) rfl (by kernel_rfl) (by kernel_rfl) (by kernel_rfl) (fun _ _ _ h => h) (Or.inl ⟨by rfl, ?hY1x20⟩) (by assumption) ?hR1x20
    case hY1x20 => (intro w hSw; (try dsimp only at hSw); go_simp; try with_reducible rfl)
    (try simp only [Act.put, List.setIfInBounds_toArray, List.set_cons_zero, List.set_cons_succ])
    refine wpAnyH_take (i := 9) (oi := ⟨some 41, _, _, _, _, _⟩) (v := ?_) rfl (by kernel_rfl) (by kernel_rfl) (by kernel_rfl) (fun _ _ _ h => h) (Or.inl ⟨by rfl, ?hY1x21⟩) (by assumption) ?hR1x21
    case hY1x21 => (intro w hSw; (try dsimp only at hSw); go_simp; try with_reducible rfl)
    (try simp only [Act.put, List.setIfInBounds_toArray, List.set_cons_zero, List.set_cons_succ])
    refine wpAnyH_take (i := 10) (oi := ⟨some 13, _, _, _, _, _⟩) (v := ?_) rfl (by kernel_rfl) (by kernel_rfl) (by kernel_rfl) (fun _ _ _ h => h) (Or.inl ⟨by rfl, ?hY1x22⟩) (by assumption) ?hR1x22
    case hY1x22 => (intro w hSw; (try dsimp only at hSw); go_simp; try with_reducible rfl)
    (try simp only [Act.put, List.setIfInBounds_toArray, List.set_cons_zero, List.set_cons_succ])
    refine wpAnyH_take (i := 11) (oi := ⟨some 14, _, _, _, _, _⟩) (v := ?_) rfl (by kernel_rfl) (by kernel_rfl) (by kernel_rfl) (fun _ _ _ h => h) (Or.inl ⟨by rfl, ?hY1x23⟩) (by assumption) ?hR1x23
    case hY1x23 => (intro w hSw; (try dsimp only at hSw); go_simp; try with_reducible rfl)
    (try simp only [Act.put, List.setIfInBounds_toArray, List.set_cons_zero, List.set_cons_succ])
    refine wpAnyH_done (by kernel_rfl) ?_ _
    have HQ6 := Aside0.mk hQ6
    have HT6 := Aside0.mk (Kd.C_below HTC.out j0)
    have HQ0 := Aside0.mk (Kd.C_below HQC.out j0)
    have HK6 := Aside0.mk (kI.K_below j0 HKW.out)
    have HR6 := Aside0.mk (Kd.C_below HRS.out j0)
    have HF6 := Aside0.mk (HF.out.below j0)
    have n_ := Aside0.mk (below_step HB.out j0)
    clear HB hQ6 HTC HQC HKW HRS HF HIC XE rE fE kE
    have HB := n_
    clear n_
    have HOI1 := Aside0.mk (show ∀ x ∈ [it], okI x by intro x hx; obtain rfl := List.mem_singleton.1 hx; exact HOI.out)
    have HMI1 := Aside0.mk (show [it].map (chk t) = [r] by rw [← HRE.out]; rfl)
    go_wp2_with fail
    refine (findC T _ kt t _ 1 1 [it] [r] 1 _ (C_alloc HT6.out) hkt (liftI (C_oneV row Box.new HROW.out) (FitI.one (kI.K_below (below_alloc (Below.refl _ _) _) HK6.out))) (by omega) HOI1.out (by omega) HMI1.out (cnt_one _ _)).mono ?_
    rintro e w7 ⟨Q7, rfl, hQ7, hb_⟩
    have HT7 := Aside0.mk (Kd.C_below (C_alloc HT6.out) hb_)
    have HR7 := Aside0.mk (Kd.C_below (C_alloc HR6.out) hb_)
    have HQ07 := Aside0.mk (Kd.C_below (C_alloc HQ0.out) hb_)
    have HQ67 := Aside0.mk (Kd.C_below (C_alloc HQ6.out) hb_)
    have HQ7 := Aside0.mk hQ7
    have HF7 := Aside0.mk ((HF6.out.below (below_alloc (Below.refl _ _) _)).below hb_)
    have HW7 := Aside0.mk (below_step (below_alloc HB.out _) hb_)
    have HOD := Aside0.mk (show ∀ x ∈ its ++ its, okI x from fun x hx => by
      rcases List.mem_append.1 hx with hx | hx
      · exact HOK.out x hx
      · exact HOK.out x hx)
    have HMD := Aside0.mk (show (its ++ its).map (chk t) = bs ++ bs by rw [List.map_append, HBS.out])
    have hrl3 : (rs ++ rs).length ≤ 1000000000000 := by simp [hrl]; omega
    clear HB hb_ hQ7 HT6 HR6 HQ0 HQ6 HK6 HF6 HOI1 HMI1 HOA HMA HFA
    have HB := Aside0.mk (Below.refl w7.heap.size w7)
    have HO := Aside0.mk True.intro
    go_wp2_with (first | ((with_reducible refine gate_builtin (b := .append) (xs := #[.const (.slice none 0 0), .tmp 51]) rfl ?_); (try (refine gate_guard (by rfl) ?_; dsimp only)); at_builtin; go_must (refine Kd.R_append_rows (kV 4) (w0 := w7) w7.heap.size rfl (.const (.slice none 0 0)) (.tmp 51) 25 32 (.agg #[.slice none 0 0, .int .u64 0, .bool false, .slice none 0 0]) 64 rfl Try.underlying25 info32 rfl (by decide) (by omega) _ ([]) (rs) (_) (_) (_) (fun _ => True) (fun _ => False) rfl rfl ?aO HR7.out ?aK (fun _ hk => hk.elim) ?aF ?aB ?aS ?aL ?_; (case aK => exact (fun _ _ h => h)); (case aB => exact (by repeat (first | exact HB.out | apply below_alloc | apply pw_below_drewN | apply below_drew1 | refine below_set ?_ (by first | omega | (simp; omega))))); (case aF => exact (fun _ _ => trivial)); (case aO => exact (Kd.R_nil _ _ _ _ _)); (case aS => exact below_size (by repeat (first | exact HB.out | apply below_alloc | apply pw_below_drewN | apply below_drew1 | refine below_set ?_ (by first | omega | (simp; omega))))); (case aL => first | omega | (simp; omega)); intro v1 w1 ho_ hb_ hg_ hat_; skip; clear HB; clear HO; have HB := Aside0.mk hb_; have HO := Aside0.mk ho_; clear ho_ hb_ hg_ hat_; )) | ((with_reducible refine gate_builtin (b := .append) (xs := #[.tmp 52, .tmp 53]) rfl ?_); (try (refine gate_guard (by rfl) ?_; dsimp only)); at_builtin; go_must (refine Kd.R_append_rows (kV 4) (w0 := w7) w7.heap.size rfl (.tmp 52) (.tmp 53) 25 32 (.agg #[.slice none 0 0, .int .u64 0, .bool false, .slice none 0 0]) 64 rfl Try.underlying25 info32 rfl (by decide) (by omega) _ (rs) (rs) (_) (_) (_) (fun _ => True) (fun _ => False) rfl rfl ?aO (Aside0.mk (Kd.C_below HR7.out HB.out)).out ?aK (fun _ hk => hk.elim) ?aF ?aB ?aS ?aL ?_; (case aK => exact (fun _ _ hh => hh)); (case aB => exact (by repeat (first | exact HB.out | apply below_alloc | apply pw_below_drewN | apply below_drew1 | refine below_set ?_ (by first | omega | (simp; omega))))); (case aF => exact (fun _ _ => trivial)); (case aO => exact (by (with_reducible repeat (first | apply Kd.R_alloc | apply Kd.R_drewN | apply Kd.R_drew)); exact HO.out)); (case aS => exact below_size (by repeat (first | exact HB.out | apply below_alloc | apply pw_below_drewN | apply below_drew1 | refine below_set ?_ (by first | omega | (simp; omega))))); (case aL => first | omega | (simp; omega)); intro v1 w1 ho_ hb_ hg_ hat_; skip; clear HB; clear HO; have HB := Aside0.mk hb_; have HO := Aside0.mk ho_; clear ho_ hb_ hg_ hat_; )))
    obtain ⟨A8, c8, rfl⟩ := Kd.R_slice HO.out
    refine (findR T _ kt t A8 _ c8 (its ++ its) (bs ++ bs) _ _ (rs ++ rs) (Kd.C_below HT7.out HB.out) hkt HO.out ((HF7.out.below HB.out).append (HF7.out.below HB.out)) HOD.out hrl3 HMD.out rfl).mono ?_
    rintro e w8 ⟨Q8, rfl, hQ8, hb_⟩
    have hrl4 : (rs ++ rs).length = N + N := by simp [hrl]
    rw [hrl4] at hQ8 ⊢
    have HQ8 := Aside0.mk hQ8
    have HQ08 := Aside0.mk (Kd.C_below (Kd.C_below HQ07.out HB.out) hb_)
    have HQ68 := Aside0.mk (Kd.C_below (Kd.C_below HQ67.out HB.out) hb_)
    have HQ78 := Aside0.mk (Kd.C_below (Kd.C_below HQ7.out HB.out) hb_)
    have HB8 := Aside0.mk (below_step (below_step HW7.out HB.out) hb_)
    have hbl := Kd.C_len HQ08.out
    clear HB hb_ hQ8 HQ07 HQ67 HQ7 HT7 HR7 HF7 HW7 HO
    have HB := HB8
    clear HB8
    have HW := HB
    clear HB
    have HB := Aside0.mk (Below.refl w8.heap.size w8)
    have HO := Aside0.mk True.intro
    go_wp2_with (first | ((with_reducible refine gate_builtin (b := .append) (xs := #[.const (.slice none 0 0), .tmp 70]) rfl ?_); (try (refine gate_guard (by rfl) ?_; dsimp only)); at_builtin; go_must (refine Kd.R_append_rows (Kd.bool) (w0 := w8) w8.heap.size rfl (.const (.slice none 0 0)) (.tmp 70) 37 4 (.bool false) 1 rfl Try.underlying37 info4 rfl (by decide) (by omega) _ ([]) (bs) (_) (_) (_) (fun _ => True) (fun _ => False) rfl rfl ?aO HQ08.out ?aK (fun _ hk => hk.elim) ?aF ?aB ?aS ?aL ?_; (case aK => exact (fun x cs h => h)); (case aB => exact (by repeat (first | exact HB.out | apply below_alloc | apply pw_below_drewN | apply below_drew1 | refine below_set ?_ (by first | omega | (simp; omega))))); (case aF => exact (fun _ _ => trivial)); (case aO => exact (Kd.R_nil _ _ _ _ _)); (case aS => exact below_size (by repeat (first | exact HB.out | apply below_alloc | apply pw_below_drewN | apply below_drew1 | refine below_set ?_ (by first | omega | (simp; omega))))); (case aL => first | omega | (simp; omega)); intro v1 w1 ho_ hb_ hg_ hat_; skip; clear HB; clear HO; have HB := Aside0.mk hb_; have HO := Aside0.mk ho_; clear ho_ hb_ hg_ hat_; )) | ((with_reducible refine gate_builtin (b := .append) (xs := #[.tmp 71, .tmp 72]) rfl ?_); (try (refine gate_guard (by rfl) ?_; dsimp only)); at_builtin; go_must (refine Kd.R_append_rows (Kd.bool) (w0 := w8) w8.heap.size rfl (.tmp 71) (.tmp 72) 37 4 (.bool false) 1 rfl Try.underlying37 info4 rfl (by decide) (by omega) _ (bs) ([r]) (_) (_) (_) (fun _ => True) (fun _ => False) rfl rfl ?aO (Aside0.mk (Kd.C_below HQ78.out HB.out)).out ?aK (fun _ hk => hk.elim) ?aF ?aB ?aS ?aL ?_; (case aK => exact (fun _ _ hh => hh)); (case aB => exact (by repeat (first | exact HB.out | apply below_alloc | apply pw_below_drewN | apply below_drew1 | refine below_set ?_ (by first | omega | (simp; omega))))); (case aF => exact (fun _ _ => trivial)); (case aO => exact (by (with_reducible repeat (first | apply Kd.R_alloc | apply Kd.R_drewN | apply Kd.R_drew)); exact HO.out)); (case aS => exact below_size (by repeat (first | exact HB.out | apply below_alloc | apply pw_below_drewN | apply below_drew1 | refine below_set ?_ (by first | omega | (simp; omega))))); (case aL => first | omega | (simp; omega)); intro v1 w1 ho_ hb_ hg_ hat_; skip; clear HB; clear HO; have HB := Aside0.mk hb_; have HO := Aside0.mk ho_; clear ho_ hb_ hg_ hat_; )))
    obtain ⟨Av, cv, rfl⟩ := Kd.R_slice HO.out
    refine (boolsC (some Q6) Av (N + 1) (N + 1) _ cv _ _ _ (Kd.C_below HQ68.out HB.out) (Nat.le_refl _) (Kd.R_reads' HO.out).2.2 (Kd.R_reads' HO.out).2.1 (by omega) rfl).mono ?_
    rintro e w9 ⟨rfl, hb_⟩
    have HQ09 := Aside0.mk (Kd.C_below (Kd.C_below HQ08.out HB.out) hb_)
    have HQ89 := Aside0.mk (Kd.C_below (Kd.C_below HQ8.out HB.out) hb_)
    have HB9 := Aside0.mk (below_step (below_step HW.out HB.out) hb_)
    clear HB HW HO HQ08 HQ8 HQ68 HQ78 hb_
    have HB := HB9
    clear HB9
    have HW := HB
    clear HB
    have HB := Aside0.mk (Below.refl w9.heap.size w9)
    have HO := Aside0.mk True.intro
    go_wp2_with (first | ((with_reducible refine gate_builtin (b := .append) (xs := #[.const (.slice none 0 0), .tmp 78]) rfl ?_); (try (refine gate_guard (by rfl) ?_; dsimp only)); at_builtin; go_must (refine Kd.R_append_rows (Kd.bool) (w0 := w9) w9.heap.size rfl (.const (.slice none 0 0)) (.tmp 78) 37 4 (.bool false) 1 rfl Try.underlying37 info4 rfl (by decide) (by omega) _ ([]) (bs) (_) (_) (_) (fun _ => True) (fun _ => False) rfl rfl ?aO HQ09.out ?aK (fun _ hk => hk.elim) ?aF ?aB ?aS ?aL ?_; (case aK => exact (fun x cs h => h)); (case aB => exact (by repeat (first | exact HB.out | apply below_alloc | apply pw_below_drewN | apply below_drew1 | refine below_set ?_ (by first | omega | (simp; omega))))); (case aF => exact (fun _ _ => trivial)); (case aO => exact (Kd.R_nil _ _ _ _ _)); (case aS => exact below_size (by repeat (first | exact HB.out | apply below_alloc | apply pw_below_drewN | apply below_drew1 | refine below_set ?_ (by first | omega | (simp; omega))))); (case aL => first | omega | (simp; omega)); intro v1 w1 ho_ hb_ hg_ hat_; skip; clear HB; clear HO; have HB := Aside0.mk hb_; have HO := Aside0.mk ho_; clear ho_ hb_ hg_ hat_; )) | ((with_reducible refine gate_builtin (b := .append) (xs := #[.tmp 79, .tmp 80]) rfl ?_); (try (refine gate_guard (by rfl) ?_; dsimp only)); at_builtin; go_must (refine Kd.R_append_rows (Kd.bool) (w0 := w9) w9.heap.size rfl (.tmp 79) (.tmp 80) 37 4 (.bool false) 1 rfl Try.underlying37 info4 rfl (by decide) (by omega) _ (bs) (bs) (_) (_) (_) (fun _ => True) (fun _ => False) rfl rfl ?aO (Aside0.mk (Kd.C_below HQ09.out HB.out)).out ?aK (fun _ hk => hk.elim) ?aF ?aB ?aS ?aL ?_; (case aK => exact (fun _ _ hh => hh)); (case aB => exact (by repeat (first | exact HB.out | apply below_alloc | apply pw_below_drewN | apply below_drew1 | refine below_set ?_ (by first | omega | (simp; omega))))); (case aF => exact (fun _ _ => trivial)); (case aO => exact (by (with_reducible repeat (first | apply Kd.R_alloc | apply Kd.R_drewN | apply Kd.R_drew)); exact HO.out)); (case aS => exact below_size (by repeat (first | exact HB.out | apply below_alloc | apply pw_below_drewN | apply below_drew1 | refine below_set ?_ (by first | omega | (simp; omega))))); (case aL => first | omega | (simp; omega)); intro v1 w1 ho_ hb_ hg_ hat_; skip; clear HB; clear HO; have HB := Aside0.mk hb_; have HO := Aside0.mk ho_; clear ho_ hb_ hg_ hat_; )))
    obtain ⟨Av, cv, rfl⟩ := Kd.R_slice HO.out
    refine (boolsC (some Q8) Av (N + N) (N + N) _ cv _ _ _ (Kd.C_below HQ89.out HB.out) (Nat.le_refl _) (Kd.R_reads' HO.out).2.2 (Kd.R_reads' HO.out).2.1 (by omega) rfl).mono ?_
    rintro e w10 ⟨rfl, hb_⟩
    go_wp2
    go_ret
    exact ⟨rfl, below_step (below_step HW.out HB.out) hb_⟩
end Go.Proofs.Ytnfglkgkdechlaa

