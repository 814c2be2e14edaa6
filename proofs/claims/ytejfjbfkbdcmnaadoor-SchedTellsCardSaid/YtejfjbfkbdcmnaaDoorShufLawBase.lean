
/- What the statements of chapter 9 share. -/
import Derived.Test.YtejfjbfkbdcmnaaDoorShufAwake
set_option linter.unusedVariables false
set_option linter.unusedSimpArgs false
namespace Go.Proofs.YtejfjbfkbdcmnaaDoor
open Go.RowKit Go.Proofs.YtejfjbfkbdcmnaaDoorW.PrintWords Go.Proofs.YtejfjbfkbdcmnaaDoorW.PrintLast Go.Proofs.YtejfjbfkbdcmnaaDoorW.PrintMore

theorem Place_y (n m seed i : Int) (w : World) (h : mayB n m i = true) (hs : 0 ≤ seed) (hG : ChurnLaid w) : Calls Tryd.prog 41 #[.int .i64 n, .int .i64 m, .int .u64 seed, .int .i64 i] w fun e w' =>
    e = .returned (.tuple #[.int .i64 (placeF n seed m.toNat i), .int .i64 0]) ∧ Below w.heap.size w w' := by
  obtain ⟨hn, hm, hi⟩ := (may_iff n m i).1 h
  obtain ⟨k, rfl⟩ := Int.eq_ofNat_of_zero_le hm.1
  exact Place_yes n seed i k w h hs hG
end Go.Proofs.YtejfjbfkbdcmnaaDoor
