
/- What the statements of chapter 9 share. -/
import Derived.Test.YtdepmbnoecpccaaDoorShufAwake
set_option linter.unusedVariables false
set_option linter.unusedSimpArgs false
namespace Go.Proofs.YtdepmbnoecpccaaDoor
open Go.RowKit Go.Proofs.YtdepmbnoecpccaaDoorW.PrintWords Go.Proofs.YtdepmbnoecpccaaDoorW.PrintLast Go.Proofs.YtdepmbnoecpccaaDoorW.PrintMore

theorem Place_y (n m seed i : Int) (w : World) (h : mayB n m i = true) (hs : 0 ≤ seed) (hG : ChurnLaid w) : Calls Tryd.prog 30 #[.int .i64 n, .int .i64 m, .int .u64 seed, .int .i64 i] w fun e w' =>
    e = .returned (.tuple #[.int .i64 (placeF n seed m.toNat i), .int .i64 0]) ∧ Below w.heap.size w w' := by
  obtain ⟨hn, hm, hi⟩ := (may_iff n m i).1 h
  obtain ⟨k, rfl⟩ := Int.eq_ofNat_of_zero_le hm.1
  exact Place_yes n seed i k w h hs hG
theorem Back_y (n m seed i : Int) (w : World) (h : mayB n m i = true) (hs : 0 ≤ seed) (hG : ChurnLaid w) : Calls Tryd.prog 38 #[.int .i64 n, .int .i64 m, .int .u64 seed, .int .i64 i] w fun e w' =>
    e = .returned (.tuple #[.int .i64 (backF9 n seed m.toNat i), .int .i64 0]) ∧ Below w.heap.size w w' := by
  obtain ⟨hn, hm, hi⟩ := (may_iff n m i).1 h
  obtain ⟨k, rfl⟩ := Int.eq_ofNat_of_zero_le hm.1
  exact Back_yes n seed i k w h hs hG
end Go.Proofs.YtdepmbnoecpccaaDoor
