
/- LagTells: for every input the call of the statement returns true and leaves its arguments as they were. Conditions: none beyond the row's own. -/
import Derived.Test.YtcgonhnfpnmlcaaShellG
import Derived.Test.YtcgonhnfpnmlcaaLagRef5
set_option linter.unusedVariables false
set_option linter.unusedSimpArgs false
namespace Go.Proofs.Ytcgonhnfpnmlcaa
open Go.RowKit Go.Proofs.YtcgonhnfpnmlcaaW.PrintWords Go.Proofs.YtcgonhnfpnmlcaaW.PrintLast Go.Proofs.YtcgonhnfpnmlcaaW.PrintMore
open Go.ChangeShapes Go.WideShapes Go.ChangeAt
open Go.ChangeMaps (open_string shut_string)

def el5 (a b c d e : Nat) (j : Nat) : Nat := if j = 0 then a else if j = 1 then b else if j = 2 then c else if j = 3 then d else e
def el3i (a b c : Int) (j : Nat) : Int := if j = 0 then a else if j = 1 then b else c
abbrev Pw (f : FuncId) (args : Array Value) (v : Value) : Prop := ∀ w, Calls Try.prog f args w fun e w' => e = .returned v ∧ w = w'
abbrev Pb (f : FuncId) (args : Array Value) (v : Value) : Prop := ∀ w, Calls Try.prog f args w fun e w' => e = .returned v ∧ Below w.heap.size w w'
set_option maxRecDepth 100000 in
set_option maxHeartbeats 8000000 in
theorem LagTells_calls (a b c : Nat) (n k : Int) (ha : a < 18446744073709551616) (hb : b < 18446744073709551616) (hc : c < 18446744073709551616) (hn : i64ok n) (hk : i64ok k) (w : World) : Calls Try.prog 3 #[.int .u64 a, .int .u64 b, .int .u64 c, .int .i64 n, .int .i64 k] w fun e w' => e = .returned (.bool true) ∧ Below w.heap.size w w' := by
  obtain ⟨d, hd, hdl⟩ : ∃ d : Nat, bits BinOp.xor IntKind.u64 (a : Int) 9223372036854775808 = (d : Int) ∧ d < 18446744073709551616 :=
    ⟨a ^^^ 9223372036854775808, bits_xor_u64_nat a 9223372036854775808 ha (by omega), Nat.xor_lt_two_pow (n := 64) ha (by omega)⟩
  obtain ⟨f, hf, hfl⟩ : ∃ f : Nat, IntKind.u64.wrap ((a : Int) + 1) = (f : Int) ∧ f < 18446744073709551616 := ⟨(a + 1) % 18446744073709551616, by rw [IntKind.wrap_u64]; omega, by omega⟩
  have hp1 := pickF_bd k 2200 (by omega)
  have hp2 := pickF_bd k 120 (by omega)
  have P1 := Aside0.mk (show Pw 17 #[.int .i64 k, .int .i64 2200] (.int .i64 (pickF k 2200)) from fun w => pick3_calls k 2200 w hk.1 hk.2 (by omega) (by omega))
  have P2 := Aside0.mk (show Pw 17 #[.int .i64 k, .int .i64 120] (.int .i64 (pickF k 120)) from fun w => pick3_calls k 120 w hk.1 hk.2 (by omega) (by omega))
  generalize pickF k 2200 = p at *
  generalize pickF k 120 = q at *
  have O1 := Aside0.mk (show Pw 22 #[.int .i64 n] (.int .u64 (ofW n)) from fun w => Of_calls n w)
  have O2 := Aside0.mk (show Pw 23 #[.int .i64 n] (.int .u64 (ofW n)) from fun w => ROf_calls n hn.1 hn.2 w)
  generalize ofW n = r at *
  have hp3 := hp1.1
  have hp4 := hp1.2
  have hp5 := hp2.1
  have hp6 := hp2.2
  clear hp1 hp2 hn hk
  have HL := Aside0.mk (show ∀ j, el5 a b c d f j < 18446744073709551616 from fun j => by unfold el5; (repeat' split) <;> assumption)
  have HAB := Aside0.mk (And.intro ha (And.intro hb hc))
  have HB := Aside0.mk (Below.refl w.heap.size w)
  clear ha hb hc hdl hfl
  go_enter Try.func3, Try.ntmps3
  go_wp2_with fail
  refine (lawake_calls _).mono ?_
  rintro e w1 ⟨rfl, hb_⟩
  have n_ := Aside0.mk (below_step (by repeat (first | exact HB.out | apply below_alloc | apply pw_below_drewN | apply below_drew1 | refine below_set ?_ (by first | omega | (simp; omega)))) hb_); clear HB hb_; have HB := n_; clear n_
  go_upto_region 3 with (fail)
  clear hd hf
  generalize hW : w1.alloc (.cells _ _) = W
  have bE : Box W w1.heap.size #[.int .u64 a, .int .u64 b, .int .u64 c, .int .u64 d, .int .u64 f] 22 := hW ▸ Box.new
  have HB2 := Aside0.mk (show Below w.heap.size w W from hW ▸ below_alloc HB.out _)
  clear hW HB
  have HB := HB2
  clear HB2
  have XE := Aside0.mk bE
  clear bE
  go_loopw [30] (fun iv wx => ∃ j : Nat, j ≤ 5 ∧ iv = .int .i64 j ∧ Below W.heap.size W wx) (fun iv _ => 5 - (intOf iv).toNat)
  case atStart => exact ⟨0, by omega, rfl, Below.refl _ _⟩
  case round =>
    obtain ⟨j, hj, rfl, hbx⟩ := hrel
    have HBX := Aside0.mk hbx
    clear hbx
    rename World => wo
    rcases Nat.lt_or_ge j 5 with hlt | hge
    · have hcz : wo.cell? ⟨w1.heap.size, j, none⟩ = some (.int .u64 (el5 a b c d f j)) := by
        rw [(Box.below XE.out HBX.out).cell j]
        have hv : j = 0 ∨ j = 1 ∨ j = 2 ∨ j = 3 ∨ j = 4 := by omega
        rcases hv with rfl | rfl | rfl | rfl | rfl <;> rfl
      have hel := HL.out j
      generalize el5 a b c d f j = y at *
      obtain ⟨ha, hb, hc⟩ := HAB.out
      have T1 := Aside0.mk (show Pw 11 #[.int .u64 y] (.tuple #[.int .i64 (tickV y), .int .i64 (tickE y)]) from fun w => Ticks_calls y hel w)
      have T2 := Aside0.mk (show Pw 12 #[.int .u64 y] (.tuple #[.int .i64 (tickV y), .int .i64 (tickE y)]) from fun w => RTicks_calls y hel w)
      have Q1 := Aside0.mk (show Pw 13 #[.int .u64 y] (.int .u64 (plainF y)) from fun w => Plain_calls y w)
      have Q2 := Aside0.mk (show Pw 14 #[.int .u64 y] (.int .u64 (plainF y)) from fun w => RPlain_calls y hel w)
      have L1 := Aside0.mk (show Pw 15 #[.int .u64 y, .int .u64 b] (.bool (lessF y b)) from fun w => Less_calls y b hel hb w)
      have L2 := Aside0.mk (show Pw 16 #[.int .u64 y, .int .u64 b] (.bool (lessF y b)) from fun w => RLess_calls y b hel hb w)
      have L3 := Aside0.mk (show Pw 15 #[.int .u64 b, .int .u64 y] (.bool (lessF b y)) from fun w => Less_calls b y hb hel w)
      have L4 := Aside0.mk (show Pw 16 #[.int .u64 b, .int .u64 y] (.bool (lessF b y)) from fun w => RLess_calls b y hb hel w)
      have M1 := Aside0.mk (show Pb 20 #[.int .u64 y, .int .u64 b, .int .u64 c] (.int .u64 (medF y b c)) from fun w => Median_calls y b c hel hb hc w)
      have M2 := Aside0.mk (show Pw 21 #[.int .u64 y, .int .u64 b, .int .u64 c] (.int .u64 (medF y b c)) from fun w => RMedian_calls y b c hel hb hc w)
      have M3 := Aside0.mk (show Pb 20 #[.int .u64 b, .int .u64 c, .int .u64 y] (.int .u64 (medF b c y)) from fun w => Median_calls b c y hb hc hel w)
      have M4 := Aside0.mk (show Pw 21 #[.int .u64 b, .int .u64 c, .int .u64 y] (.int .u64 (medF b c y)) from fun w => RMedian_calls b c y hb hc hel w)
      have S1 := Aside0.mk (show ∀ z, Pw 18 #[.int .u64 y, .int .i64 z] (.int .u64 (scaleF y (clampF z))) from fun z w => Scale_calls y z hel w)
      have S2 := Aside0.mk (show ∀ z, Pw 19 #[.int .u64 y, .int .i64 z] (.int .u64 (scaleF y (clampF z))) from fun z w => RScale_calls y z hel w)
      generalize tickV y = tv at *
      generalize tickE y = te at *
      generalize plainF y = py at *
      generalize lessF y b = l1 at *
      generalize lessF b y = l2 at *
      generalize medF y b c = m1 at *
      generalize medF b c y = m2 at *
      clear ha hb hc hel
      have ws : w1.heap.size < wo.heap.size := Nat.lt_of_lt_of_le XE.out.lt HBX.out.size
      go_upto_region 10 with (first
        | (go_at_call 11; ((with_reducible refine (T1.out _).mono ?_); rintro e w_ ⟨rfl, rfl⟩))
        | (go_at_call 12; ((with_reducible refine (T2.out _).mono ?_); rintro e w_ ⟨rfl, rfl⟩))
        | (go_at_call 13; ((with_reducible refine (Q1.out _).mono ?_); rintro e w_ ⟨rfl, rfl⟩))
        | (go_at_call 14; ((with_reducible refine (Q2.out _).mono ?_); rintro e w_ ⟨rfl, rfl⟩))
        | (go_at_call 15; first | ((with_reducible refine (L1.out _).mono ?_); rintro e w_ ⟨rfl, rfl⟩) | ((with_reducible refine (L3.out _).mono ?_); rintro e w_ ⟨rfl, rfl⟩))
        | (go_at_call 16; first | ((with_reducible refine (L2.out _).mono ?_); rintro e w_ ⟨rfl, rfl⟩) | ((with_reducible refine (L4.out _).mono ?_); rintro e w_ ⟨rfl, rfl⟩))
        | (go_at_call 17; first | ((with_reducible refine (P1.out _).mono ?_); rintro e w_ ⟨rfl, rfl⟩) | ((with_reducible refine (P2.out _).mono ?_); rintro e w_ ⟨rfl, rfl⟩)))
      generalize hV : wo.alloc (.cells _ _) = V
      have bF : Box V wo.heap.size #[.int .i64 k, .int .i64 (p - 1100), .int .i64 (q - 60)] 3 := hV ▸ Box.new
      have HBV := Aside0.mk (show Below W.heap.size W V from hV ▸ below_alloc HBX.out _)
      clear hV ws HBX
      have XF := Aside0.mk bF
      clear bF
      go_loopw [86] (fun iv wx => ∃ i : Nat, i ≤ 3 ∧ iv = .int .i64 i ∧ wx = V) (fun iv _ => 3 - (intOf iv).toNat)
      case atStart => exact ⟨0, by omega, rfl, rfl⟩
      case round =>
        obtain ⟨i, hi, rfl, rfl⟩ := hrel
        rcases Nat.lt_or_ge i 3 with hlt2 | hge2
        · have hcy : wr.cell? ⟨wo.heap.size, i, none⟩ = some (.int .i64 (el3i k (p - 1100) (q - 60) i)) := by
            rw [XF.out.cell i]
            have hv : i = 0 ∨ i = 1 ∨ i = 2 := by omega
            rcases hv with rfl | rfl | rfl <;> rfl
          have U1 := Aside0.mk (S1.out (el3i k (p - 1100) (q - 60) i))
          have U2 := Aside0.mk (S2.out (el3i k (p - 1100) (q - 60) i))
          generalize scaleF y (clampF (el3i k (p - 1100) (q - 60) i)) = sc at *
          generalize el3i k (p - 1100) (q - 60) i = z at *
          go_wp2_with (first
            | (go_at_call 18; ((with_reducible refine (U1.out _).mono ?_); rintro e w_ ⟨rfl, rfl⟩))
            | (go_at_call 19; ((with_reducible refine (U2.out _).mono ?_); rintro e w_ ⟨rfl, rfl⟩)))
          go_roundw
          case rel => exact ⟨i + 1, by omega, by go_num, by trivial⟩
          case measure => simp [intOf]; omega
        · obtain rfl : i = 3 := by omega
          clear hge2 hi
          go_wp2_with (first
            | (go_at_call 20; first | ((with_reducible refine (M1.out _).mono ?_); rintro e w5 ⟨rfl, h5⟩) | ((with_reducible refine (M3.out _).mono ?_); rintro e w6 ⟨rfl, h6⟩))
            | (go_at_call 21; first | ((with_reducible refine (M2.out _).mono ?_); rintro e w_ ⟨rfl, rfl⟩) | ((with_reducible refine (M4.out _).mono ?_); rintro e w_ ⟨rfl, rfl⟩)))
          go_roundw
          case rel => exact ⟨j + 1, by omega, by go_num, below_step (below_step HBV.out h5) h6⟩
          case measure => simp [intOf]; omega
    · obtain rfl : j = 5 := by omega
      clear hge hj
      go_wp2_with (first
        | (go_at_call 22; ((with_reducible refine (O1.out _).mono ?_); rintro e w_ ⟨rfl, rfl⟩))
        | (go_at_call 23; ((with_reducible refine (O2.out _).mono ?_); rintro e w_ ⟨rfl, rfl⟩)))
      go_ret
      exact ⟨rfl, below_step HB.out HBX.out⟩

set_option maxRecDepth 100000 in
theorem lagTells_lifted (os : Os) (started : os.Started) (H : Type) (enc : TypeId × Value → H) :
    ReturnsInHanded {} Try.checked os 3 .any (Rows.lagTellsSpec.pre6 enc Try.prog Try.f3 Rows.lagTellsRow.domain false) (Rows.lagTellsSpec.post enc Try.prog Try.f3 false true false false) := by
  refine returnsInHanded_of_change_sized (C := Try.checked) own started (by kernel_rfl) Try.func3
    (ChangeSpec.witness6 (enc := enc) (C := Try.checked) false ⟨#[], #[.int .u64 0, .int .u64 0, .int .u64 0, .int .i64 0, .int .i64 0], []⟩ 8 (by kernel_rfl) (by kernel_rfl) (by kernel_rfl) (by kernel_rfl)) ?_
  intro W base args ds gs before hval0 hW hcnd hsz0 _
  have hsz : (DataW.weightsEach Try.prog (Try.f3.params.toList ++ Rows.lagTellsSpec.plain.varTypes Try.prog) (ds ++ gs)).all (· ≤ reachBytes) = true := hsz0
  have hval : ∀ (j : Nat) t v, Try.f3.params[j]? = some t → args[j]? = some v → Value.okWide Try.prog W .any base t v := hval0
  have hW' := hW
  obtain ⟨p, q, hA0, hV, rfl, hfz, hnd⟩ := hW
  have hA : DataW.TrodAll enc Try.prog W 0 (fun _ => true) true Try.f3.params.toList args.toList ds p := hA0
  have hAll := hA
  rw [Try.params3] at hA hval hsz
  obtain ⟨v0, vs0, d0, ds0, p0, q0, hargs, rfl, rfl, h0, r0⟩ := trodAll_cons hA
  obtain ⟨v1, vs1, d1, ds1, p1, q1, rfl, rfl, rfl, h1, r1⟩ := trodAll_cons r0
  obtain ⟨v2, vs2, d2, ds2, p2, q2, rfl, rfl, rfl, h2, r2⟩ := trodAll_cons r1
  obtain ⟨v3, vs3, d3, ds3, p3, q3, rfl, rfl, rfl, h3, r3⟩ := trodAll_cons r2
  obtain ⟨v4, vs4, d4, ds4, p4, q4, rfl, rfl, rfl, h4, r4⟩ := trodAll_cons r3
  obtain ⟨rfl, rfl, rfl⟩ := trodAll_nil r4
  obtain rfl : args = #[v0, v1, v2, v3, v4] := by cases args; simp_all
  obtain ⟨rfl, rfl⟩ := trodVars_none hV
  have hlt := trodAll_lt hAll
  obtain ⟨a, rfl, rfl, rfl, w0⟩ := open_int Try.underlying22 (hval 0 22 v0 rfl rfl) h0
  obtain ⟨b, rfl, rfl, rfl, w1⟩ := open_int Try.underlying22 (hval 1 22 v1 rfl rfl) h1
  obtain ⟨c, rfl, rfl, rfl, w2⟩ := open_int Try.underlying22 (hval 2 22 v2 rfl rfl) h2
  obtain ⟨n, rfl, rfl, rfl, w3⟩ := open_int Try.underlying3 (hval 3 3 v3 rfl rfl) h3
  obtain ⟨k, rfl, rfl, rfl, w4⟩ := open_int Try.underlying3 (hval 4 3 v4 rfl rfl) h4
  obtain ⟨a, rfl⟩ := Int.eq_ofNat_of_zero_le (bounds_u64 w0).1
  obtain ⟨b, rfl⟩ := Int.eq_ofNat_of_zero_le (bounds_u64 w1).1
  obtain ⟨c, rfl⟩ := Int.eq_ofNat_of_zero_le (bounds_u64 w2).1
  clear hA0 hval0 hsz0 hsz
  refine (LagTells_calls a b c n k (by have := (bounds_u64 w0).2; omega) (by have := (bounds_u64 w1).2; omega) (by have := (bounds_u64 w2).2; omega) (bounds_i64 w3) (bounds_i64 w4) W).mono fun e W' ⟨he, bel⟩ => ?_
  subst he
  exact ⟨_, rfl, _, _, _, [], _, [], hW', trodAll_mk1 (shut_bool Try.underlying4 _), below_trodAll laidOut bel (by kernel_rfl) hAll hlt, rfl, bel.frame _, fun h => by cases h⟩
theorem lagTells_over : Rows.lagTellsRow.holds Try.pinned (OpenSpec.ofChange Rows.lagTellsSpec) :=
  OpenClaim.holds_of_wide 3 Try.f3 rfl rfl rfl rfl rfl rfl rfl ⟨rfl, rfl, rfl, rfl, rfl⟩ rfl rfl rfl rfl rfl (by kernel_rfl) Try.func3 (by kernel_rfl)
    (of_decide_eq_true (by kernel_rfl)) (by unfold Func.isWrapper; first | (rw [if_pos (by decide +kernel)]; kernel_rfl) | (rw [if_neg (by decide +kernel)]; exact ⟨rfl, rfl⟩))
    (fun os started H enc _ => lagTells_lifted os started H enc)
theorem lagTells_holds : Rows.LagTellsSaid := lagTells_over
#print axioms lagTells_holds
end Go.Proofs.Ytcgonhnfpnmlcaa
