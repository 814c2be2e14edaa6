
/- What churn's and octets' functions compute (chapters 1 and 4): each call by its plain Lean function. -/
import Derived.Test.YtdepmbnoecpccaaDoorChurnPure
import Derived.Test.YtdepmbnoecpccaaDoorBase
set_option linter.unusedVariables false
set_option linter.unusedSimpArgs false
namespace Go.Proofs.YtdepmbnoecpccaaDoor
open Go.RowKit Go.Proofs.YtdepmbnoecpccaaDoorW.PrintWords Go.Proofs.YtdepmbnoecpccaaDoorW.PrintLast Go.Proofs.YtdepmbnoecpccaaDoorW.PrintMore

theorem info_u8 : (Tryd.prog.info? 5).map (fun i => (i.zero, i.size, i.bytes)) = some (some (.int .u8 0), 1, 1) := by kernel_rfl

/-- The table that churn's sums are made by lies there. -/
structure ChurnLaid (w : World) : Prop where
  c0 : w.cell? ⟨0, 0, none⟩ = some (.int .u64 14695981039346656037)
  c1 : w.cell? ⟨0, 1, none⟩ = some (.int .u64 1099511628211)
  c2 : w.cell? ⟨0, 2, none⟩ = some (.int .u64 14886173955864302971)
theorem ChurnLaid.below {w w' : World} (h : ChurnLaid w) (hb : Below w.heap.size w w') : ChurnLaid w' :=
  ⟨(hb.cell (cell_lt h.c0)).trans h.c0, (hb.cell (cell_lt h.c1)).trans h.c1, (hb.cell (cell_lt h.c2)).trans h.c2⟩
theorem ChurnLaid.drewN {w : World} (h : ChurnLaid w) (n : Nat) : ChurnLaid (w.drewN n) := h.below (pw_below_drewN (Below.refl _ _) n)
theorem ChurnLaid.alloc {w : World} (h : ChurnLaid w) (o : Obj) : ChurnLaid (w.alloc o) := h.below (below_alloc (Below.refl _ _) o)

set_option maxHeartbeats 400000 in
theorem More_calls (h : Int) (s : ByteArray) (w : World) (hs : s.size ≤ maxLen) (hG : ChurnLaid w) :
    Calls Tryd.prog 51 #[.int .u64 h, .string s] w fun e w' => e = .returned (.int .u64 (moreF h s.data.toList)) ∧ ∃ n, w' = w.drewN n := by
  unfold maxLen at hs
  have hf := hG.c1
  go_enter Tryd.func51, Tryd.ntmps51
  go_wp2
  go_loopw [0, 8] (fun h' i wr => ∃ k : Nat, k ≤ s.size ∧ i = .int .i64 k ∧ h' = .int .u64 (moreF h (s.data.toList.take k)) ∧ ∃ n, wr = w.drewN n) (fun _ i _ => s.size - (intOf i).toNat)
  case atStart => exact ⟨0, Nat.zero_le _, rfl, rfl, 0, rfl⟩
  case round =>
    obtain ⟨k, hk, rfl, rfl, n, rfl⟩ := hrel
    by_cases hlt : k < s.size
    · have HS := Aside0.mk (show moreF h (s.data.toList.take (k + 1)) = stepF (moreF h (s.data.toList.take k)) s[k] by rw [take_snoc s k hlt, moreF_snoc])
      go_wp2
      go_quiet (fail)
      go_wp2
      go_roundw
      case rel => exact ⟨k + 1, by omega, by go_num, by rw [HS.out]; rfl, n + nq, by first | rfl | rw [World.drewN_drewN]⟩
      case measure => simp [intOf]; omega
    · go_wp2
      go_ret
      exact ⟨ret_int (by rw [List.take_of_length_le (by simp; omega)]), n, rfl⟩

theorem putF_eq (x : Int) (n : Nat) (h1 : 1 ≤ n) (h8 : n ≤ 8) : putF x n = (List.range n).map (byteAt x) := by unfold putF; rw [if_pos ⟨h1, h8⟩]

def putRow (x : Int) (n k : Nat) : List Int := (List.range n).map fun i => if i < k then (x / 2 ^ (8 * i)) % 256 else 0
theorem putRow_zero (x : Int) (n : Nat) : putRow x n 0 = List.replicate n 0 := by
  apply List.ext_getElem (by simp [putRow])
  intro i h1 h2
  simp [putRow]
theorem putRow_len (x : Int) (n k : Nat) : (putRow x n k).length = n := by simp [putRow]
theorem putRow_set (x : Int) (n k : Nat) : (putRow x n k).set k ((x / 2 ^ (8 * k)) % 256) = putRow x n (k + 1) := by
  apply List.ext_getElem (by simp [putRow])
  intro i h1 h2
  rw [List.getElem_set]
  by_cases e : k = i
  · subst e; simp [putRow]
  · rw [if_neg e]
    simp only [putRow, List.getElem_map, List.getElem_range]
    by_cases hi : i < k
    · rw [if_pos hi, if_pos (by omega)]
    · rw [if_neg hi, if_neg (by omega)]
theorem putRow_str (x : Int) (n : Nat) (h1 : 1 ≤ n) (h8 : n ≤ 8) (h0 : 0 ≤ x) : strOfNums (putRow x n n) = ⟨(putF x n).toArray⟩ := by
  rw [putF_eq x n h1 h8]
  unfold strOfNums putRow
  congr 2
  rw [List.map_map]
  apply List.map_congr_left
  intro i hi
  rw [List.mem_range] at hi
  simp only [Function.comp, if_pos hi, byteAt]
  obtain ⟨m, rfl⟩ := Int.eq_ofNat_of_zero_le h0
  have : ((m : Int) / 2 ^ (8 * i)) % 256 = ((m / 2 ^ (8 * i) % 256 : Nat) : Int) := by
    rw [Int.natCast_emod, Int.natCast_ediv, Int.natCast_pow]; rfl
  rw [this, Int.toNat_natCast, Int.toNat_natCast]

set_option maxHeartbeats 400000 in
theorem Put_calls (x : Int) (n : Nat) (w : World) (hx : 0 ≤ x) (h1 : 1 ≤ n) (h8 : n ≤ 8) :
    Calls Tryd.prog 52 #[.int .u64 x, .int .i64 n] w fun e w' => e = .returned (.string ⟨(putF x n).toArray⟩) ∧ Below w.heap.size w w' := by
  have hk1 : decide ((n : Int) < 1) = false := by simp; omega
  have hk2 : decide ((n : Int) > 8) = false := by simp; omega
  go_enter Tryd.func52, Tryd.ntmps52
  go_wp2_with (first | ((with_reducible refine gate_dst (N := 14) rfl ?_); refine Kd.R_make (Kd.int .u8) _ 5 rfl (N := 14) rfl 90 _ _ rfl (n : Int) rfl rfl Tryd.underlying90 (.int .u8 0) 1 info_u8 rfl (by decide) (by omega) 0 (ok := fun _ => True) (okp := fun _ => True) rfl (fun _ hk => hk) trivial (by omega) ?hl (Below.refl w.heap.size w) (Nat.le_refl _) ?_; (case hl => omega); intro v1 w1 hR hb hg_ hnew_; clear hg_ hnew_; rw [Int.toNat_natCast, ← putRow_zero x n] at hR; obtain ⟨g, cap, rfl, hgb, hgl, -⟩ := Kd.R_form hR (by rw [putRow_len]; omega); rw [putRow_len] at hR; have HR := Aside0.mk hR; have HB := Aside0.mk hb; clear hR hb; simp only [putRow_len]))
  go_loopw [17] (fun i wr => ∃ k : Nat, k ≤ n ∧ i = .int .i64 k ∧ (Kd.int .u8).R 5 wr w.heap.size (fun _ => True) (.slice (some ⟨g, 0, none⟩) n cap) (putRow x n k) ∧ Below w.heap.size w wr) (fun i _ => n - (intOf i).toNat)
  case atStart => exact ⟨0, by omega, rfl, HR.out, HB.out⟩
  case round =>
    obtain ⟨k, hk, rfl, hR, hb⟩ := hrel
    by_cases hlt : k < n
    · have hc := (Kd.R_celln 0 hR (k : Int) (by omega) (by omega))
      obtain ⟨hx1, hx2⟩ := hc
      have hs := (Kd.R_putg hR (k : Int) ((x / 2 ^ (8 * k)) % 256)).1
      simp only [Int.toNat_natCast] at hx1 hx2 hs
      rw [putRow_set] at hs
      have HR := Aside0.mk hs
      have HB := Aside0.mk hb
      clear hR hb hs
      go_wp2
      go_roundw
      case rel => exact ⟨k + 1, by omega, by go_num, HR.out, HB.out.setCell (by exact hgb) _⟩
      case measure => simp [intOf]; omega
    · obtain rfl : k = n := by omega
      have hcv := own_string (P := Tryd.prog) Tryd.underlying90 Tryd.underlying5 Tryd.underlying9 (Kd.own_of_R hR)
      have HB := Aside0.mk hb
      clear hR hb
      go_wp2
      go_ret
      exact ⟨ret_str (putRow_str x k h1 h8 hx), HB.out⟩

theorem Put8_calls (x : Int) (w : World) (hx : 0 ≤ x) : Calls Tryd.prog 52 #[.int .u64 x, .int .i64 8] w fun e w' => e = .returned (.string ⟨(putF x 8).toArray⟩) ∧ Below w.heap.size w w' :=
  Put_calls x 8 w hx (by omega) (by omega)

set_option maxHeartbeats 400000 in
theorem Sum_calls (s : ByteArray) (w : World) (hs : s.size ≤ maxLen) (hG : ChurnLaid w) :
    Calls Tryd.prog 45 #[.string s] w fun e w' => e = .returned (.int .u64 (sumF s.data.toList)) ∧ ∃ n, w' = w.drewN n := by
  have hf := hG.c0
  go_enter Tryd.func45, Tryd.ntmps45
  go_wp2_with (go_at_call 51; ((with_reducible refine (More_calls 14695981039346656037 s _ hs ?hl).mono ?_)); (case hl => exact hG); rintro e w' ⟨rfl, n, rfl⟩)
  go_ret
  exact ⟨rfl, _, rfl⟩

theorem putF_len (x : Int) (n : Nat) (h1 : 1 ≤ n) (h8 : n ≤ 8) : (putF x n).length = n := by rw [putF_eq x n h1 h8]; simp
theorem strsize (l : List UInt8) : (⟨l.toArray⟩ : ByteArray).size = l.length := rfl
theorem put8_max (x : Int) : (⟨(putF x 8).toArray⟩ : ByteArray).size ≤ maxLen := by
  rw [strsize, putF_len _ _ (by omega) (by omega)]; unfold maxLen; omega
theorem foldl_snoc (ws : List Int) (k : Nat) (h : k < ws.length) : foldF (ws.take (k + 1)) = moreF (foldF (ws.take k)) (putF (nth ws k) 8) := by
  unfold foldF
  rw [List.take_succ_eq_append_getElem h, List.foldl_append, nth_eq h, List.foldl_cons, List.foldl_nil]

set_option maxHeartbeats 400000 in
theorem Fold_calls (A : Option Addr) (m c : Nat) (ws : List Int) (w : World) (hr : (Kd.int .u64).C w A m ws) (h0 : ∀ x ∈ ws, 0 ≤ x) (hG : ChurnLaid w) :
    Calls Tryd.prog 25 #[.slice A m c] w fun e w' => e = .returned (.int .u64 (foldF ws)) ∧ Below w.heap.size w w' := by
  obtain rfl := Kd.C_len hr
  have hf := hG.c0
  have hm := Kd.C_max hr
  have HR := Aside0.mk hr
  have HG := Aside0.mk hG
  have HP := Aside0.mk h0
  clear hr hG h0
  go_enter Tryd.func25, Tryd.ntmps25
  go_wp2
  clear hf
  go_loopw [3, 10] (fun h' i wr => ∃ k : Nat, k ≤ ws.length ∧ i = .int .i64 k ∧ h' = .int .u64 (foldF (ws.take k)) ∧ Below w.heap.size w wr) (fun _ i _ => ws.length - (intOf i).toNat)
  case atStart => exact ⟨0, by omega, rfl, rfl, Below.refl _ _⟩
  case round =>
    obtain ⟨k, hk, rfl, rfl, hb⟩ := hrel
    have HB := Aside0.mk hb
    clear hb
    by_cases hlt : k < ws.length
    · obtain ⟨b, o, s, rfl, hc⟩ := C_nat HR.out k hlt
      replace hc := (HB.out.cell (cell_lt hc)).trans hc
      have HS := Aside0.mk (foldl_snoc ws k hlt)
      have hx : 0 ≤ nth ws k := HP.out _ (nth_mem hlt)
      go_wp2_with (first
        | (go_at_call 52; ((with_reducible refine (Put8_calls (nth ws k) _ hx).mono ?_)); rintro e w1 ⟨rfl, hb1⟩)
        | (go_at_call 51; ((with_reducible refine (More_calls _ _ _ (put8_max _) ?hl).mono ?_)); (case hl => exact HG.out.below (below_step HB.out hb1)); rintro e w2 ⟨rfl, n, rfl⟩))
      go_roundw
      case rel => exact ⟨k + 1, by omega, by go_num, by rw [HS.out], pw_below_drewN (below_step HB.out hb1) n⟩
      case measure => simp [intOf]; omega
    · go_wp2
      go_ret
      exact ⟨ret_int (by rw [List.take_of_length_le (by omega)]), HB.out⟩

set_option maxHeartbeats 400000 in
theorem Draw_calls (n : Int) (hn : n ≤ 9223372036854775807) (A : Option Addr) (m c : Nat) (ws : List Int) (w : World) (hr : (Kd.int .u64).C w A m ws) (h0 : ∀ x ∈ ws, 0 ≤ x) (hG : ChurnLaid w) :
    Calls Tryd.prog 63 #[.int .i64 n, .slice A m c] w fun e w' => e = .returned (.int .i64 (drawF n ws)) ∧ Below w.heap.size w w' := by
  unfold drawF
  by_cases h1 : n < 1
  · rw [if_pos h1]
    clear hr h0 hG
    go_enter Tryd.func63, Tryd.ntmps63
    go_wp2
    go_ret
    exact ⟨rfl, Below.refl _ _⟩
  · rw [if_neg h1]
    have HR := Aside0.mk hr
    have HG := Aside0.mk hG
    have HP := Aside0.mk h0
    clear hr hG h0
    go_enter Tryd.func63, Tryd.ntmps63
    go_wp2_with (go_at_call 25; ((with_reducible refine (Fold_calls _ _ _ _ _ HR.out HP.out HG.out).mono ?_)); rintro e w1 ⟨rfl, hb1⟩)
    go_ret
    exact ⟨ret_int (draw_wrap n ws (by omega) hn), hb1⟩

set_option maxHeartbeats 400000 in
theorem Bit_calls (A : Option Addr) (m c : Nat) (ws : List Int) (w : World) (hr : (Kd.int .u64).C w A m ws) (h0 : ∀ x ∈ ws, 0 ≤ x) (hG : ChurnLaid w) :
    Calls Tryd.prog 65 #[.slice A m c] w fun e w' => e = .returned (.bool (bitF ws)) ∧ Below w.heap.size w w' := by
  have HR := Aside0.mk hr
  have HG := Aside0.mk hG
  have HP := Aside0.mk h0
  clear hr hG h0
  go_enter Tryd.func65, Tryd.ntmps65
  go_wp2_with (go_at_call 25; ((with_reducible refine (Fold_calls _ _ _ _ _ HR.out HP.out HG.out).mono ?_)); rintro e w1 ⟨rfl, hb1⟩)
  go_ret
  exact ⟨ret_bool (bit_and ws), hb1⟩

theorem More_b (h : Int) (s : ByteArray) (w : World) (hs : s.size ≤ maxLen) (hG : ChurnLaid w) :
    Calls Tryd.prog 51 #[.int .u64 h, .string s] w fun e w' => e = .returned (.int .u64 (moreF h s.data.toList)) ∧ Below w.heap.size w w' :=
  (More_calls h s w hs hG).mono fun _ _ ⟨he, n, hw⟩ => ⟨he, by rw [hw]; exact pw_below_drewN (Below.refl _ _) n⟩
theorem Sum_b (s : ByteArray) (w : World) (hs : s.size ≤ maxLen) (hG : ChurnLaid w) :
    Calls Tryd.prog 45 #[.string s] w fun e w' => e = .returned (.int .u64 (sumF s.data.toList)) ∧ Below w.heap.size w w' :=
  (Sum_calls s w hs hG).mono fun _ _ ⟨he, n, hw⟩ => ⟨he, by rw [hw]; exact pw_below_drewN (Below.refl _ _) n⟩
end Go.Proofs.YtdepmbnoecpccaaDoor
