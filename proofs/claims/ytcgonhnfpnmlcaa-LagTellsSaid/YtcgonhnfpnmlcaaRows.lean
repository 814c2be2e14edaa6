/-
  No cell of these rows narrows 'for every input' (looked for: loops, veiled, ifaces, maps, wideKeys, modest, calm, conditions, laid).
  DERIVED. THE GIVEN ROWS OF THIS SEAT. 7 by the template 'for every input the law returns true; each argument reads behind the call as it read before'; 0 by the template 'total and deterministic' (their statements: YtcgonhnfpnmlcaaTotals.lean).
  GIVEN WITH THE SEED: the statements are not yours to turn. If you find one false, say at which input.
  Laid BY PROGRAM, IN A SANDBOX (cutbox-rows.mjs): the forced cells as the released guide's own fill.sh prints them over the translation a9c4d1317b817f1b… (all of the seat's roots in one cut). By AI agents, Wed Nov 11 2026. No macro, syntax, notation, axiom, sorry.
-/
import Derived.Test.YtcgonhnfpnmlcaaChecked
import GoSem.Claim
import GoSem.ClaimJoined
import GoSem.ClaimMapViews
import Derived.JoinedTies
import Derived.KernelRfl
namespace Go.Proofs.Ytcgonhnfpnmlcaa
/- THE CELL 'sum', in the pinned program and in every row, IS THE sha256 OF THE DUMP (.gsa) THAT YtcgonhnfpnmlcaaProg.lean LOADS. Nothing in Lean hashes anything: it is a label: what it is worth is what the hold of that sum in a sandbox is worth. -/
noncomputable def Try.pinned : Pinned := { name := "ytcgonhnfpnmlcaa", sum := "a9c4d1317b817f1b687685358a1e181eea4ed4bfe70d297c794dfa416f34db34", checked := Try.checked }
namespace Rows
def none {H : Type} : Left H := { results := [], args := [] }

/-- 'mootbelllaw03.LagTells': WHATEVER THE INPUT: true; the input reads as it did. -/
def lagTellsSpec : ChangeSpec := { name := "lagTells", fn := fun _ => fun
  | [d1, d2, d3, d4, d5] => { results := [.lit (.bool true)], args := [d1, d2, d3, d4, d5] }
  | _ => none }
def lagTellsRow : OpenClaim := { program := "ytcgonhnfpnmlcaa", sum := "a9c4d1317b817f1b687685358a1e181eea4ed4bfe70d297c794dfa416f34db34", func := "mootbell/mootbelllaw03.LagTells", spec := "lagTells", inPlace := ["math.Float64frombits", "math.archCeil", "math.archFloor", "math.Float64bits", "math.archTrunc"], apart := false }
def LagTellsSaid : Prop := lagTellsRow.holds Try.pinned (OpenSpec.ofChange lagTellsSpec)

/-- ITS FALSE NEIGHBOUR: 'it returns false'. Refute it at one input. -/
def lagTellsWrong : ChangeSpec := { name := "lagTells", fn := fun _ => fun
  | [d1, d2, d3, d4, d5] => { results := [.lit (.bool false)], args := [d1, d2, d3, d4, d5] }
  | _ => none }
def LagTellsWrongFalsely : Prop := lagTellsRow.holds Try.pinned (OpenSpec.ofChange lagTellsWrong)

/-- 'mootbelllaw03.LagNear': WHATEVER THE INPUT: true; the input reads as it did. -/
def lagNearSpec : ChangeSpec := { name := "lagNear", fn := fun _ => fun
  | [d1, d2, d3] => { results := [.lit (.bool true)], args := [d1, d2, d3] }
  | _ => none }
def lagNearRow : OpenClaim := { program := "ytcgonhnfpnmlcaa", sum := "a9c4d1317b817f1b687685358a1e181eea4ed4bfe70d297c794dfa416f34db34", func := "mootbell/mootbelllaw03.LagNear", spec := "lagNear", inPlace := ["math.Float64frombits", "math.archCeil", "math.archFloor", "math.Float64bits", "math.archTrunc"], apart := false }
def LagNearSaid : Prop := lagNearRow.holds Try.pinned (OpenSpec.ofChange lagNearSpec)

/-- ITS FALSE NEIGHBOUR: 'it returns false'. Refute it at one input. -/
def lagNearWrong : ChangeSpec := { name := "lagNear", fn := fun _ => fun
  | [d1, d2, d3] => { results := [.lit (.bool false)], args := [d1, d2, d3] }
  | _ => none }
def LagNearWrongFalsely : Prop := lagNearRow.holds Try.pinned (OpenSpec.ofChange lagNearWrong)

/-- 'mootbelllaw03.LagOrder': WHATEVER THE INPUT: true; the input reads as it did. -/
def lagOrderSpec : ChangeSpec := { name := "lagOrder", fn := fun _ => fun
  | [d1, d2, d3] => { results := [.lit (.bool true)], args := [d1, d2, d3] }
  | _ => none }
def lagOrderRow : OpenClaim := { program := "ytcgonhnfpnmlcaa", sum := "a9c4d1317b817f1b687685358a1e181eea4ed4bfe70d297c794dfa416f34db34", func := "mootbell/mootbelllaw03.LagOrder", spec := "lagOrder", inPlace := ["math.Float64frombits", "math.archCeil", "math.archFloor", "math.Float64bits", "math.archTrunc"], apart := false }
def LagOrderSaid : Prop := lagOrderRow.holds Try.pinned (OpenSpec.ofChange lagOrderSpec)

/-- ITS FALSE NEIGHBOUR: 'it returns false'. Refute it at one input. -/
def lagOrderWrong : ChangeSpec := { name := "lagOrder", fn := fun _ => fun
  | [d1, d2, d3] => { results := [.lit (.bool false)], args := [d1, d2, d3] }
  | _ => none }
def LagOrderWrongFalsely : Prop := lagOrderRow.holds Try.pinned (OpenSpec.ofChange lagOrderWrong)

/-- 'mootbelllaw03.LagMedian': WHATEVER THE INPUT: true; the input reads as it did. -/
def lagMedianSpec : ChangeSpec := { name := "lagMedian", fn := fun _ => fun
  | [d1, d2, d3] => { results := [.lit (.bool true)], args := [d1, d2, d3] }
  | _ => none }
def lagMedianRow : OpenClaim := { program := "ytcgonhnfpnmlcaa", sum := "a9c4d1317b817f1b687685358a1e181eea4ed4bfe70d297c794dfa416f34db34", func := "mootbell/mootbelllaw03.LagMedian", spec := "lagMedian", inPlace := ["math.Float64frombits", "math.archCeil", "math.archFloor", "math.Float64bits", "math.archTrunc"], apart := false }
def LagMedianSaid : Prop := lagMedianRow.holds Try.pinned (OpenSpec.ofChange lagMedianSpec)

/-- ITS FALSE NEIGHBOUR: 'it returns false'. Refute it at one input. -/
def lagMedianWrong : ChangeSpec := { name := "lagMedian", fn := fun _ => fun
  | [d1, d2, d3] => { results := [.lit (.bool false)], args := [d1, d2, d3] }
  | _ => none }
def LagMedianWrongFalsely : Prop := lagMedianRow.holds Try.pinned (OpenSpec.ofChange lagMedianWrong)

/-- 'mootbelllaw03.LagWhole': WHATEVER THE INPUT: true; the input reads as it did. -/
def lagWholeSpec : ChangeSpec := { name := "lagWhole", fn := fun _ => fun
  | [d1, d2] => { results := [.lit (.bool true)], args := [d1, d2] }
  | _ => none }
def lagWholeRow : OpenClaim := { program := "ytcgonhnfpnmlcaa", sum := "a9c4d1317b817f1b687685358a1e181eea4ed4bfe70d297c794dfa416f34db34", func := "mootbell/mootbelllaw03.LagWhole", spec := "lagWhole", inPlace := ["math.Float64frombits", "math.archCeil", "math.archFloor", "math.Float64bits", "math.archTrunc"], apart := false }
def LagWholeSaid : Prop := lagWholeRow.holds Try.pinned (OpenSpec.ofChange lagWholeSpec)

/-- ITS FALSE NEIGHBOUR: 'it returns false'. Refute it at one input. -/
def lagWholeWrong : ChangeSpec := { name := "lagWhole", fn := fun _ => fun
  | [d1, d2] => { results := [.lit (.bool false)], args := [d1, d2] }
  | _ => none }
def LagWholeWrongFalsely : Prop := lagWholeRow.holds Try.pinned (OpenSpec.ofChange lagWholeWrong)

/-- 'mootbelllaw03.LagTicks': WHATEVER THE INPUT: true; the input reads as it did. -/
def lagTicksSpec : ChangeSpec := { name := "lagTicks", fn := fun _ => fun
  | [d1, d2] => { results := [.lit (.bool true)], args := [d1, d2] }
  | _ => none }
def lagTicksRow : OpenClaim := { program := "ytcgonhnfpnmlcaa", sum := "a9c4d1317b817f1b687685358a1e181eea4ed4bfe70d297c794dfa416f34db34", func := "mootbell/mootbelllaw03.LagTicks", spec := "lagTicks", inPlace := ["math.Float64frombits", "math.archCeil", "math.archFloor", "math.Float64bits", "math.archTrunc"], apart := false }
def LagTicksSaid : Prop := lagTicksRow.holds Try.pinned (OpenSpec.ofChange lagTicksSpec)

/-- ITS FALSE NEIGHBOUR: 'it returns false'. Refute it at one input. -/
def lagTicksWrong : ChangeSpec := { name := "lagTicks", fn := fun _ => fun
  | [d1, d2] => { results := [.lit (.bool false)], args := [d1, d2] }
  | _ => none }
def LagTicksWrongFalsely : Prop := lagTicksRow.holds Try.pinned (OpenSpec.ofChange lagTicksWrong)

/-- 'mootbelllaw03.LagScale': WHATEVER THE INPUT: true; the input reads as it did. -/
def lagScaleSpec : ChangeSpec := { name := "lagScale", fn := fun _ => fun
  | [d1, d2, d3, d4] => { results := [.lit (.bool true)], args := [d1, d2, d3, d4] }
  | _ => none }
def lagScaleRow : OpenClaim := { program := "ytcgonhnfpnmlcaa", sum := "a9c4d1317b817f1b687685358a1e181eea4ed4bfe70d297c794dfa416f34db34", func := "mootbell/mootbelllaw03.LagScale", spec := "lagScale", inPlace := ["math.Float64frombits", "math.archCeil", "math.archFloor", "math.Float64bits", "math.archTrunc"], apart := false }
def LagScaleSaid : Prop := lagScaleRow.holds Try.pinned (OpenSpec.ofChange lagScaleSpec)

/-- ITS FALSE NEIGHBOUR: 'it returns false'. Refute it at one input. -/
def lagScaleWrong : ChangeSpec := { name := "lagScale", fn := fun _ => fun
  | [d1, d2, d3, d4] => { results := [.lit (.bool false)], args := [d1, d2, d3, d4] }
  | _ => none }
def LagScaleWrongFalsely : Prop := lagScaleRow.holds Try.pinned (OpenSpec.ofChange lagScaleWrong)

/- THE SECOND FORM. 'bulk': how many values and letters a reading holds, each counted each time it is reached (what is shared counts as often as it is met; a slice's spare places count too). A statement '..UptoSaid' is the law's where the arguments, and the package variables that the reading takes, are together of bulk at most 1048576: NARROWER than '..Said'. Prove '..Said' where nothing that the law and all that it calls make is longer than what came in: it says more and counts as full. Else prove '..UptoSaid'. A law counts once. -/
mutual
def uptoBulk {H : Type} : DataW H → Nat
  | .lit (.string bytes) => bytes.length + 1
  | .lit _ => 1
  | .nil => 1
  | .ptr d => uptoBulk d + 1
  | .slice elems spare => uptoBulkAll elems + uptoBulkAll spare + 1
  | .agg parts => uptoBulkAll parts + 1
  | .iface _ d => uptoBulk d + 1
  | .map entries => uptoBulkEntries entries + 1
  | .held _ => 1
def uptoBulkAll {H : Type} : List (DataW H) → Nat
  | [] => 0
  | d :: r => uptoBulk d + uptoBulkAll r
def uptoBulkEntries {H : Type} : List (Lit × DataW H) → Nat
  | [] => 0
  | x :: r => uptoBulkEntry x + uptoBulkEntries r
def uptoBulkEntry {H : Type} : Lit × DataW H → Nat
  | (.string bytes, d) => bytes.length + uptoBulk d + 1
  | (_, d) => uptoBulk d + 1
 end
def uptoSmall : (H : Type) → List (DataW H) → Bool := fun _ ds => decide (uptoBulkAll ds ≤ 1048576)
def OpenSpec.upto (s : _root_.Go.ChangeSpec) : _root_.Go.OpenSpec := { _root_.Go.OpenSpec.ofChange s with cond := some uptoSmall }

/-- 'mootbelllaw03.LagTells', WHERE WHAT IT READS IS OF BULK AT MOST 1048576: true; the input reads as it did. -/
def lagTellsUptoRow : OpenClaim := { program := "ytcgonhnfpnmlcaa", sum := "a9c4d1317b817f1b687685358a1e181eea4ed4bfe70d297c794dfa416f34db34", func := "mootbell/mootbelllaw03.LagTells", spec := "lagTells", inPlace := ["math.Float64frombits", "math.archCeil", "math.archFloor", "math.Float64bits", "math.archTrunc"], apart := false, narrowed := true }
def LagTellsUptoSaid : Prop := lagTellsUptoRow.holds Try.pinned (OpenSpec.upto lagTellsSpec)

/-- 'mootbelllaw03.LagNear', WHERE WHAT IT READS IS OF BULK AT MOST 1048576: true; the input reads as it did. -/
def lagNearUptoRow : OpenClaim := { program := "ytcgonhnfpnmlcaa", sum := "a9c4d1317b817f1b687685358a1e181eea4ed4bfe70d297c794dfa416f34db34", func := "mootbell/mootbelllaw03.LagNear", spec := "lagNear", inPlace := ["math.Float64frombits", "math.archCeil", "math.archFloor", "math.Float64bits", "math.archTrunc"], apart := false, narrowed := true }
def LagNearUptoSaid : Prop := lagNearUptoRow.holds Try.pinned (OpenSpec.upto lagNearSpec)

/-- 'mootbelllaw03.LagOrder', WHERE WHAT IT READS IS OF BULK AT MOST 1048576: true; the input reads as it did. -/
def lagOrderUptoRow : OpenClaim := { program := "ytcgonhnfpnmlcaa", sum := "a9c4d1317b817f1b687685358a1e181eea4ed4bfe70d297c794dfa416f34db34", func := "mootbell/mootbelllaw03.LagOrder", spec := "lagOrder", inPlace := ["math.Float64frombits", "math.archCeil", "math.archFloor", "math.Float64bits", "math.archTrunc"], apart := false, narrowed := true }
def LagOrderUptoSaid : Prop := lagOrderUptoRow.holds Try.pinned (OpenSpec.upto lagOrderSpec)

/-- 'mootbelllaw03.LagMedian', WHERE WHAT IT READS IS OF BULK AT MOST 1048576: true; the input reads as it did. -/
def lagMedianUptoRow : OpenClaim := { program := "ytcgonhnfpnmlcaa", sum := "a9c4d1317b817f1b687685358a1e181eea4ed4bfe70d297c794dfa416f34db34", func := "mootbell/mootbelllaw03.LagMedian", spec := "lagMedian", inPlace := ["math.Float64frombits", "math.archCeil", "math.archFloor", "math.Float64bits", "math.archTrunc"], apart := false, narrowed := true }
def LagMedianUptoSaid : Prop := lagMedianUptoRow.holds Try.pinned (OpenSpec.upto lagMedianSpec)

/-- 'mootbelllaw03.LagWhole', WHERE WHAT IT READS IS OF BULK AT MOST 1048576: true; the input reads as it did. -/
def lagWholeUptoRow : OpenClaim := { program := "ytcgonhnfpnmlcaa", sum := "a9c4d1317b817f1b687685358a1e181eea4ed4bfe70d297c794dfa416f34db34", func := "mootbell/mootbelllaw03.LagWhole", spec := "lagWhole", inPlace := ["math.Float64frombits", "math.archCeil", "math.archFloor", "math.Float64bits", "math.archTrunc"], apart := false, narrowed := true }
def LagWholeUptoSaid : Prop := lagWholeUptoRow.holds Try.pinned (OpenSpec.upto lagWholeSpec)

/-- 'mootbelllaw03.LagTicks', WHERE WHAT IT READS IS OF BULK AT MOST 1048576: true; the input reads as it did. -/
def lagTicksUptoRow : OpenClaim := { program := "ytcgonhnfpnmlcaa", sum := "a9c4d1317b817f1b687685358a1e181eea4ed4bfe70d297c794dfa416f34db34", func := "mootbell/mootbelllaw03.LagTicks", spec := "lagTicks", inPlace := ["math.Float64frombits", "math.archCeil", "math.archFloor", "math.Float64bits", "math.archTrunc"], apart := false, narrowed := true }
def LagTicksUptoSaid : Prop := lagTicksUptoRow.holds Try.pinned (OpenSpec.upto lagTicksSpec)

/-- 'mootbelllaw03.LagScale', WHERE WHAT IT READS IS OF BULK AT MOST 1048576: true; the input reads as it did. -/
def lagScaleUptoRow : OpenClaim := { program := "ytcgonhnfpnmlcaa", sum := "a9c4d1317b817f1b687685358a1e181eea4ed4bfe70d297c794dfa416f34db34", func := "mootbell/mootbelllaw03.LagScale", spec := "lagScale", inPlace := ["math.Float64frombits", "math.archCeil", "math.archFloor", "math.Float64bits", "math.archTrunc"], apart := false, narrowed := true }
def LagScaleUptoSaid : Prop := lagScaleUptoRow.holds Try.pinned (OpenSpec.upto lagScaleSpec)

end Rows
end Go.Proofs.Ytcgonhnfpnmlcaa
