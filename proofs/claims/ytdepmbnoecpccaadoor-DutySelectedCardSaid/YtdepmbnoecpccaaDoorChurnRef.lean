
/- What the reference's functions of chapters 1 and 4 compute. -/
import Derived.Test.YtdepmbnoecpccaaDoorChurnWalk
set_option linter.unusedVariables false
set_option linter.unusedSimpArgs false
namespace Go.Proofs.YtdepmbnoecpccaaDoor
open Go.RowKit Go.Proofs.YtdepmbnoecpccaaDoorW.PrintWords Go.Proofs.YtdepmbnoecpccaaDoorW.PrintLast Go.Proofs.YtdepmbnoecpccaaDoorW.PrintMore

def rowN (x : Int) (k : Nat) : List Int := (List.range k).map fun i => (x / 2 ^ (8 * i)) % 256
theorem rowN_snoc (x : Int) (k : Nat) : rowN x (k + 1) = rowN x k ++ [(x / 2 ^ (8 * k)) % 256] := by
  unfold rowN; rw [List.range_succ, List.map_append]; rfl
theorem rowN_len (x : Int) (k : Nat) : (rowN x k).length = k := by simp [rowN]
theorem rowN_str (x : Int) (h0 : 0 ≤ x) : strOfNums (rowN x 8) = ⟨(putF x 8).toArray⟩ := by
  rw [← putRow_str x 8 (by omega) (by omega) h0]
  unfold rowN putRow
  congr 1
theorem tmod_byte (x : Int) (j : Nat) (h : 0 ≤ x) : (x / 2 ^ (8 * j)).tmod 256 % 256 = x / 2 ^ (8 * j) % 256 := by
  rw [Int.tmod_eq_emod_of_nonneg (Int.ediv_nonneg h (Int.le_of_lt (Int.pow_pos (by decide)))), Int.emod_emod]

set_option maxHeartbeats 1000000 in
theorem RPut8_calls (x : Int) (w : World) (hx : 0 ≤ x) : Calls Tryd.prog 54 #[.int .u64 x, .int .i64 8] w fun e w' => e = .returned (.string ⟨(putF x 8).toArray⟩) ∧ Below w.heap.size w w' := by
  have HB := Aside0.mk (Below.refl w.heap.size w)
  go_enter Tryd.func54, Tryd.ntmps54
  go_wp2
  go_loopw [5, 6] (fun v i wr => ∃ k : Nat, k ≤ 8 ∧ i = .int .i64 k ∧ (Kd.int .u8).R 5 wr w.heap.size (fun _ => True) v (rowN x k) ∧ Below w.heap.size w wr) (fun _ i _ => 8 - (intOf i).toNat)
  case atStart => exact ⟨0, by omega, rfl, Kd.R_nil _ _ _ _ _, HB.out⟩
  case round =>
    clear HB
    obtain ⟨k, hk, rfl, hR, hb⟩ := hrel
    have HB := Aside0.mk hb
    have HO := Aside0.mk hR
    have hl := rowN_len x k
    clear hb hR
    by_cases hlt : k < 8
    · go_wp2_with ((with_reducible refine gate_builtin (b := .append) (xs := #[.tmp 16, .tmp 23]) rfl ?_); at_builtin; refine Kd.R_append (Kd.int .u8) (w0 := w) w.heap.size rfl (.tmp 16) (.tmp 23) 90 5 (.int .u8 0) 1 rfl Tryd.underlying90 info_u8 rfl (by decide) (by omega) (_) (rowN x k) ((x / 2 ^ (8 * k)).tmod 256 % 256) [.int .u8 ((x / 2 ^ (8 * k)).tmod 256 % 256)] (fun _ => True) (fun _ => False) rfl rfl ?aP (fun _ hk => hk.elim) ?aF ?aO ?aB ?aS ?aL ?_; (case aP => exact rfl); (case aB => exact (by repeat (first | exact HB.out | apply below_alloc | apply pw_below_drewN | apply below_drew1 | refine below_set ?_ (by first | omega | (simp; omega))))); (case aF => exact (fun _ _ => trivial)); (case aO => exact (by (with_reducible repeat (first | apply Kd.R_alloc | apply Kd.R_drewN | apply Kd.R_drew)); exact HO.out)); (case aS => exact below_size (by repeat (first | exact HB.out | apply below_alloc | apply pw_below_drewN | apply below_drew1 | refine below_set ?_ (by first | omega | (simp; omega))))); (case aL => first | omega | (simp; omega)); intro v1 w1 ho_ hb_ hg_ hat_; clear HB; clear HO; have HB := Aside0.mk hb_; have HO := Aside0.mk ho_; clear ho_ hb_ hg_ hat_; )
      go_roundw
      case rel => exact ⟨k + 1, by omega, by go_num, by rw [rowN_snoc, ← tmod_byte x k hx]; exact HO.out, HB.out⟩
      case measure => simp [intOf]; omega
    · obtain rfl : k = 8 := by omega
      have hcv := own_string (P := Tryd.prog) Tryd.underlying90 Tryd.underlying5 Tryd.underlying9 (Kd.own_of_R HO.out)
      rw [rowN_str x hx] at hcv
      go_wp2
      go_ret
      exact ⟨rfl, HB.out⟩

def invIter : Nat → Int
  | 0 => 1099511628211
  | k + 1 => IntKind.u64.wrap (invIter k * IntKind.u64.wrap (2 - IntKind.u64.wrap (1099511628211 * invIter k)))
theorem inv_six : invIter 6 = 14886173955864302971 := by kernel_rfl
set_option maxHeartbeats 1000000 in
theorem RMore_calls (h : Int) (s : ByteArray) (w : World) (hs : s.size ≤ maxLen) :
    Calls Tryd.prog 61 #[.int .u64 h, .string s] w fun e w' => e = .returned (.int .u64 (moreF h s.data.toList)) ∧ Below w.heap.size w w' := by
  unfold maxLen at hs
  go_enter Tryd.func61, Tryd.ntmps61
  go_wp2
  go_loopw [0, 5] (fun h' i wr => ∃ k : Nat, k ≤ s.size ∧ i = .int .i64 k ∧ h' = .int .u64 (moreF h (s.data.toList.take k)) ∧ Below w.heap.size w wr) (fun _ i _ => s.size - (intOf i).toNat)
  case atStart => exact ⟨0, Nat.zero_le _, rfl, rfl, Below.refl _ _⟩
  case round =>
    obtain ⟨k, hk, rfl, rfl, hb⟩ := hrel
    by_cases hlt : k < s.size
    · have HS := Aside0.mk (show moreF h (s.data.toList.take (k + 1)) = stepF (moreF h (s.data.toList.take k)) s[k] by rw [take_snoc s k hlt, moreF_snoc])
      have HB := Aside0.mk hb
      clear hb
      go_wp2
      go_roundw
      case rel => exact ⟨k + 1, by omega, by go_num, by rw [HS.out]; rfl, HB.out⟩
      case measure => simp [intOf]; omega
    · have HB := Aside0.mk hb
      clear hb
      go_wp2
      go_ret
      exact ⟨ret_int (by rw [List.take_of_length_le (by simp; omega)]), HB.out⟩

set_option maxHeartbeats 400000 in
theorem RSum_calls (s : ByteArray) (w : World) (hs : s.size ≤ maxLen) :
    Calls Tryd.prog 47 #[.string s] w fun e w' => e = .returned (.int .u64 (sumF s.data.toList)) ∧ Below w.heap.size w w' := by
  have HB := Aside0.mk (Below.refl w.heap.size w)
  go_enter Tryd.func47, Tryd.ntmps47
  go_wp2_with (go_at_call 61; ((with_reducible refine (RMore_calls 14695981039346656037 s _ hs).mono ?_)); rintro e w_ ⟨rfl, hb_⟩; have n_ := Aside0.mk (below_step (by repeat (first | exact HB.out | apply below_alloc | apply pw_below_drewN | apply below_drew1 | refine below_set ?_ (by first | omega | (simp; omega)))) hb_); clear HB hb_; have HB := n_; clear n_)
  go_ret
  exact ⟨rfl, HB.out⟩

/-- The words' bytes, one behind the other. -/
def bytesF (ws : List Int) : List UInt8 := ws.flatMap fun w => putF w 8
theorem bytesF_len (ws : List Int) : (bytesF ws).length = 8 * ws.length := by
  unfold bytesF
  induction ws with
  | nil => rfl
  | cons w ws ih => rw [List.flatMap_cons, List.length_append, ih, putF_len _ _ (by omega) (by omega), List.length_cons]; omega
theorem bytesF_sum (ws : List Int) : sumF (bytesF ws) = foldF ws := by
  have : ∀ h, moreF h (bytesF ws) = ws.foldl (fun h w => moreF h (putF w 8)) h := by
    induction ws with
    | nil => exact fun h => rfl
    | cons w ws ih => intro h; unfold bytesF at ih ⊢; rw [List.flatMap_cons, moreF_append, ih, List.foldl_cons]
  exact this _
theorem bytesF_snoc (ws : List Int) (k : Nat) (h : k < ws.length) : bytesF (ws.take (k + 1)) = bytesF (ws.take k) ++ putF (nth ws k) 8 := by
  unfold bytesF
  rw [List.take_succ_eq_append_getElem h, List.flatMap_append, nth_eq h, List.flatMap_cons, List.flatMap_nil, List.append_nil]
theorem str_append (a b : List UInt8) : (⟨a.toArray⟩ : ByteArray) ++ ⟨b.toArray⟩ = ⟨(a ++ b).toArray⟩ := by
  apply ByteArray.ext
  rw [ByteArray.data_append]
  simp

set_option maxHeartbeats 1000000 in
theorem RFold_calls (A : Option Addr) (m c : Nat) (ws : List Int) (w : World) (hr : (Kd.int .u64).C w A m ws) (hm : m ≤ 100000) (h0 : ∀ x ∈ ws, 0 ≤ x) :
    Calls Tryd.prog 33 #[.slice A m c] w fun e w' => e = .returned (.int .u64 (foldF ws)) ∧ Below w.heap.size w w' := by
  obtain rfl := Kd.C_len hr
  have HR := Aside0.mk hr
  have HP := Aside0.mk h0
  clear hr h0
  have HB := Aside0.mk (Below.refl w.heap.size w)
  go_enter Tryd.func33, Tryd.ntmps33
  go_wp2
  go_loopw [3, 4] (fun s i wr => ∃ (k : Nat) (z : ByteArray), k ≤ ws.length ∧ i = .int .i64 k ∧ s = .string z ∧ z = ⟨(bytesF (ws.take k)).toArray⟩ ∧ Below w.heap.size w wr) (fun _ i _ => ws.length - (intOf i).toNat)
  case atStart => exact ⟨0, _, by omega, rfl, rfl, rfl, HB.out⟩
  case round =>
    clear HB
    obtain ⟨k, z, hk, rfl, rfl, hz, hb⟩ := hrel
    have HZ := Aside0.mk hz
    have HB := Aside0.mk hb
    have hzs : z.size ≤ 800000 := by
      rw [hz]
      show (bytesF (ws.take k)).length ≤ _
      rw [bytesF_len, List.length_take]; omega
    clear hb hz
    by_cases hlt : k < ws.length
    · obtain ⟨b, o, s, rfl, hc⟩ := C_nat HR.out k hlt
      replace hc := (HB.out.cell (cell_lt hc)).trans hc
      have hx : 0 ≤ nth ws k := HP.out _ (nth_mem hlt)
      obtain ⟨q, hq⟩ : ∃ q : ByteArray, q = ⟨(putF (nth ws k) 8).toArray⟩ := ⟨_, rfl⟩
      have hqs : q.size = 8 := by rw [hq, strsize]; exact putF_len _ _ (by decide) (by decide)
      have HS := Aside0.mk (show z ++ q = ⟨(bytesF (ws.take (k + 1))).toArray⟩ by rw [HZ.out, hq, str_append, ← bytesF_snoc ws k hlt])
      have HQ := Aside0.mk hq
      clear hq
      go_wp2_with (go_at_call 54; ((with_reducible refine (RPut8_calls (nth ws k) _ hx).mono ?_)); rw [← HQ.out]; rintro e w_ ⟨rfl, hb_⟩; have n_ := Aside0.mk (below_step (by repeat (first | exact HB.out | apply below_alloc | apply pw_below_drewN | apply below_drew1 | refine below_set ?_ (by first | omega | (simp; omega)))) hb_); clear HB hb_; have HB := n_; clear n_)
      go_roundw
      case rel => exact ⟨k + 1, _, by omega, by go_num, rfl, HS.out, HB.out⟩
      case measure => simp [intOf]; omega
    · have hk' : k = ws.length := by omega
      go_wp2_with (go_at_call 47; ((with_reducible refine (RSum_calls z _ ?hs).mono ?_)); (case hs => unfold maxLen; omega);rintro e w_ ⟨rfl, hb_⟩; have n_ := Aside0.mk (below_step (by repeat (first | exact HB.out | apply below_alloc | apply pw_below_drewN | apply below_drew1 | refine below_set ?_ (by first | omega | (simp; omega)))) hb_); clear HB hb_; have HB := n_; clear n_)
      go_ret
      exact ⟨ret_int (by rw [HZ.out, hk', List.take_length]; exact bytesF_sum ws), HB.out⟩

set_option maxHeartbeats 400000 in
theorem RDraw_calls (n : Int) (hn : n ≤ 9223372036854775807) (A : Option Addr) (m c : Nat) (ws : List Int) (w : World) (hr : (Kd.int .u64).C w A m ws) (hm : m ≤ 100000) (h0 : ∀ x ∈ ws, 0 ≤ x) :
    Calls Tryd.prog 66 #[.int .i64 n, .slice A m c] w fun e w' => e = .returned (.int .i64 (drawF n ws)) ∧ Below w.heap.size w w' := by
  unfold drawF
  by_cases h1 : n < 1
  · rw [if_pos h1]
    clear hr h0
    go_enter Tryd.func66, Tryd.ntmps66
    go_wp2
    go_ret
    exact ⟨rfl, Below.refl _ _⟩
  · rw [if_neg h1]
    have HR := Aside0.mk hr
    have HP := Aside0.mk h0
    clear hr h0
    go_enter Tryd.func66, Tryd.ntmps66
    go_wp2_with (go_at_call 33; ((with_reducible refine (RFold_calls _ _ _ _ _ HR.out hm HP.out).mono ?_)); rintro e w1 ⟨rfl, hb1⟩)
    go_ret
    exact ⟨ret_int (draw_wrap n ws (by omega) hn), hb1⟩

theorem bit_mod (ws : List Int) : ((foldF ws / 1099511627776).tmod 2 == 1) = bitF ws := by
  have h := foldF_ok ws
  rw [Int.tmod_eq_emod_of_nonneg (by have := h.1; omega)]
  rfl
set_option maxHeartbeats 400000 in
theorem RBit_calls (A : Option Addr) (m c : Nat) (ws : List Int) (w : World) (hr : (Kd.int .u64).C w A m ws) (hm : m ≤ 100000) (h0 : ∀ x ∈ ws, 0 ≤ x) :
    Calls Tryd.prog 67 #[.slice A m c] w fun e w' => e = .returned (.bool (bitF ws)) ∧ Below w.heap.size w w' := by
  have HR := Aside0.mk hr
  have HP := Aside0.mk h0
  clear hr h0
  go_enter Tryd.func67, Tryd.ntmps67
  go_wp2_with (go_at_call 33; ((with_reducible refine (RFold_calls _ _ _ _ _ HR.out hm HP.out).mono ?_)); rintro e w1 ⟨rfl, hb1⟩)
  go_ret
  exact ⟨ret_bool (bit_mod ws), hb1⟩
end Go.Proofs.YtdepmbnoecpccaaDoor
