/-
  No cell of these rows narrows 'for every input' (looked for: loops, veiled, ifaces, maps, wideKeys, modest, calm, conditions, laid).
  DERIVED. THE GIVEN ROWS OF THIS SEAT. 5 by the template 'for every input the law returns true; each argument reads behind the call as it read before'; 0 by the template 'total and deterministic' (their statements: YtnfglkgkdechlaaTotals.lean).
  GIVEN WITH THE SEED: the statements are not yours to turn. If you find one false, say at which input.
  Laid BY PROGRAM, IN A SANDBOX (cutbox-rows.mjs): the forced cells as the released guide's own fill.sh prints them over the translation bd2143b4af1f6b27… (all of the seat's roots in one cut). By AI agents, Wed Nov 11 2026. No macro, syntax, notation, axiom, sorry.
-/
import Derived.Test.YtnfglkgkdechlaaChecked
import GoSem.Claim
import GoSem.ClaimJoined
import GoSem.ClaimMapViews
import Derived.JoinedTies
import Derived.KernelRfl
namespace Go.Proofs.Ytnfglkgkdechlaa
/- THE CELL 'sum', in the pinned program and in every row, IS THE sha256 OF THE DUMP (.gsa) THAT YtnfglkgkdechlaaProg.lean LOADS. Nothing in Lean hashes anything: it is a label: what it is worth is what the hold of that sum in a sandbox is worth. -/
noncomputable def Try.pinned : Pinned := { name := "ytnfglkgkdechlaa", sum := "bd2143b4af1f6b27129fdc90b0e5ca989ab910dc69c6063a484600a6109e50f7", checked := Try.checked }
namespace Rows
def none {H : Type} : Left H := { results := [], args := [] }

/-- 'mootbelllaw15.BisectTells': WHATEVER THE INPUT: true; the input reads as it did. -/
def bisectTellsSpec : ChangeSpec := { name := "bisectTells", fn := fun _ => fun
  | [d1, d2, d3, d4, d5, d6] => { results := [.lit (.bool true)], args := [d1, d2, d3, d4, d5, d6] }
  | _ => none }
def bisectTellsRow : OpenClaim := { program := "ytnfglkgkdechlaa", sum := "bd2143b4af1f6b27129fdc90b0e5ca989ab910dc69c6063a484600a6109e50f7", func := "mootbell/mootbelllaw15.BisectTells", spec := "bisectTells", unfollowed := true, recurses := true, apart := false }
def BisectTellsSaid : Prop := bisectTellsRow.holds Try.pinned (OpenSpec.ofChange bisectTellsSpec)

/-- ITS FALSE NEIGHBOUR: 'it returns false'. Refute it at one input. -/
def bisectTellsWrong : ChangeSpec := { name := "bisectTells", fn := fun _ => fun
  | [d1, d2, d3, d4, d5, d6] => { results := [.lit (.bool false)], args := [d1, d2, d3, d4, d5, d6] }
  | _ => none }
def BisectTellsWrongFalsely : Prop := bisectTellsRow.holds Try.pinned (OpenSpec.ofChange bisectTellsWrong)

/-- 'mootbelllaw15.BisectOne': WHATEVER THE INPUT: true; the input reads as it did. -/
def bisectOneSpec : ChangeSpec := { name := "bisectOne", fn := fun _ => fun
  | [d1, d2, d3, d4] => { results := [.lit (.bool true)], args := [d1, d2, d3, d4] }
  | _ => none }
def bisectOneRow : OpenClaim := { program := "ytnfglkgkdechlaa", sum := "bd2143b4af1f6b27129fdc90b0e5ca989ab910dc69c6063a484600a6109e50f7", func := "mootbell/mootbelllaw15.BisectOne", spec := "bisectOne", unfollowed := true, recurses := true, apart := false }
def BisectOneSaid : Prop := bisectOneRow.holds Try.pinned (OpenSpec.ofChange bisectOneSpec)

/-- ITS FALSE NEIGHBOUR: 'it returns false'. Refute it at one input. -/
def bisectOneWrong : ChangeSpec := { name := "bisectOne", fn := fun _ => fun
  | [d1, d2, d3, d4] => { results := [.lit (.bool false)], args := [d1, d2, d3, d4] }
  | _ => none }
def BisectOneWrongFalsely : Prop := bisectOneRow.holds Try.pinned (OpenSpec.ofChange bisectOneWrong)

/-- 'mootbelllaw15.BisectMost': WHATEVER THE INPUT: true; the input reads as it did. -/
def bisectMostSpec : ChangeSpec := { name := "bisectMost", fn := fun _ => fun
  | [d1, d2] => { results := [.lit (.bool true)], args := [d1, d2] }
  | _ => none }
def bisectMostRow : OpenClaim := { program := "ytnfglkgkdechlaa", sum := "bd2143b4af1f6b27129fdc90b0e5ca989ab910dc69c6063a484600a6109e50f7", func := "mootbell/mootbelllaw15.BisectMost", spec := "bisectMost", unfollowed := true, recurses := true, apart := false }
def BisectMostSaid : Prop := bisectMostRow.holds Try.pinned (OpenSpec.ofChange bisectMostSpec)

/-- ITS FALSE NEIGHBOUR: 'it returns false'. Refute it at one input. -/
def bisectMostWrong : ChangeSpec := { name := "bisectMost", fn := fun _ => fun
  | [d1, d2] => { results := [.lit (.bool false)], args := [d1, d2] }
  | _ => none }
def BisectMostWrongFalsely : Prop := bisectMostRow.holds Try.pinned (OpenSpec.ofChange bisectMostWrong)

/-- 'mootbelllaw15.BisectAdd': WHATEVER THE INPUT: true; the input reads as it did. -/
def bisectAddSpec : ChangeSpec := { name := "bisectAdd", fn := fun _ => fun
  | [d1, d2, d3] => { results := [.lit (.bool true)], args := [d1, d2, d3] }
  | _ => none }
def bisectAddRow : OpenClaim := { program := "ytnfglkgkdechlaa", sum := "bd2143b4af1f6b27129fdc90b0e5ca989ab910dc69c6063a484600a6109e50f7", func := "mootbell/mootbelllaw15.BisectAdd", spec := "bisectAdd", unfollowed := true, recurses := true, apart := false }
def BisectAddSaid : Prop := bisectAddRow.holds Try.pinned (OpenSpec.ofChange bisectAddSpec)

/-- ITS FALSE NEIGHBOUR: 'it returns false'. Refute it at one input. -/
def bisectAddWrong : ChangeSpec := { name := "bisectAdd", fn := fun _ => fun
  | [d1, d2, d3] => { results := [.lit (.bool false)], args := [d1, d2, d3] }
  | _ => none }
def BisectAddWrongFalsely : Prop := bisectAddRow.holds Try.pinned (OpenSpec.ofChange bisectAddWrong)

/-- 'mootbelllaw15.BisectWrong': WHATEVER THE INPUT: true; the input reads as it did. -/
def bisectWrongSpec : ChangeSpec := { name := "bisectWrong", fn := fun _ => fun
  | [d1, d2, d3] => { results := [.lit (.bool true)], args := [d1, d2, d3] }
  | _ => none }
def bisectWrongRow : OpenClaim := { program := "ytnfglkgkdechlaa", sum := "bd2143b4af1f6b27129fdc90b0e5ca989ab910dc69c6063a484600a6109e50f7", func := "mootbell/mootbelllaw15.BisectWrong", spec := "bisectWrong", unfollowed := true, recurses := true, apart := false }
def BisectWrongSaid : Prop := bisectWrongRow.holds Try.pinned (OpenSpec.ofChange bisectWrongSpec)

/-- ITS FALSE NEIGHBOUR: 'it returns false'. Refute it at one input. -/
def bisectWrongWrong : ChangeSpec := { name := "bisectWrong", fn := fun _ => fun
  | [d1, d2, d3] => { results := [.lit (.bool false)], args := [d1, d2, d3] }
  | _ => none }
def BisectWrongWrongFalsely : Prop := bisectWrongRow.holds Try.pinned (OpenSpec.ofChange bisectWrongWrong)

/- THE SECOND FORM. 'bulk': how many values and letters a reading holds, each counted each time it is reached (what is shared counts as often as it is met; a slice's spare places count too). A statement '..UptoSaid' is the law's where the arguments, and the package variables that the reading takes, are together of bulk at most 1048576: NARROWER than '..Said'. Prove '..Said' where nothing that the law and all that it calls make is longer than what came in: it says more and counts as full. Else prove '..UptoSaid'. A law counts once. -/
mutual
def uptoBulk {H : Type} : DataW H → Nat
  | .lit (.string bytes) => bytes.length + 1
  | .lit _ => 1
  | .nil => 1
  | .ptr d => uptoBulk d + 1
  | .slice elems spare => uptoBulkAll elems + uptoBulkAll spare + 1
  | .agg parts => uptoBulkAll parts + 1
  | .iface _ d => uptoBulk d + 1
  | .map entries => uptoBulkEntries entries + 1
  | .held _ => 1
def uptoBulkAll {H : Type} : List (DataW H) → Nat
  | [] => 0
  | d :: r => uptoBulk d + uptoBulkAll r
def uptoBulkEntries {H : Type} : List (Lit × DataW H) → Nat
  | [] => 0
  | x :: r => uptoBulkEntry x + uptoBulkEntries r
def uptoBulkEntry {H : Type} : Lit × DataW H → Nat
  | (.string bytes, d) => bytes.length + uptoBulk d + 1
  | (_, d) => uptoBulk d + 1
 end
def uptoSmall : (H : Type) → List (DataW H) → Bool := fun _ ds => decide (uptoBulkAll ds ≤ 1048576)
def OpenSpec.upto (s : _root_.Go.ChangeSpec) : _root_.Go.OpenSpec := { _root_.Go.OpenSpec.ofChange s with cond := some uptoSmall }

/-- 'mootbelllaw15.BisectTells', WHERE WHAT IT READS IS OF BULK AT MOST 1048576: true; the input reads as it did. -/
def bisectTellsUptoRow : OpenClaim := { program := "ytnfglkgkdechlaa", sum := "bd2143b4af1f6b27129fdc90b0e5ca989ab910dc69c6063a484600a6109e50f7", func := "mootbell/mootbelllaw15.BisectTells", spec := "bisectTells", unfollowed := true, recurses := true, apart := false, narrowed := true }
def BisectTellsUptoSaid : Prop := bisectTellsUptoRow.holds Try.pinned (OpenSpec.upto bisectTellsSpec)

/-- 'mootbelllaw15.BisectOne', WHERE WHAT IT READS IS OF BULK AT MOST 1048576: true; the input reads as it did. -/
def bisectOneUptoRow : OpenClaim := { program := "ytnfglkgkdechlaa", sum := "bd2143b4af1f6b27129fdc90b0e5ca989ab910dc69c6063a484600a6109e50f7", func := "mootbell/mootbelllaw15.BisectOne", spec := "bisectOne", unfollowed := true, recurses := true, apart := false, narrowed := true }
def BisectOneUptoSaid : Prop := bisectOneUptoRow.holds Try.pinned (OpenSpec.upto bisectOneSpec)

/-- 'mootbelllaw15.BisectMost', WHERE WHAT IT READS IS OF BULK AT MOST 1048576: true; the input reads as it did. -/
def bisectMostUptoRow : OpenClaim := { program := "ytnfglkgkdechlaa", sum := "bd2143b4af1f6b27129fdc90b0e5ca989ab910dc69c6063a484600a6109e50f7", func := "mootbell/mootbelllaw15.BisectMost", spec := "bisectMost", unfollowed := true, recurses := true, apart := false, narrowed := true }
def BisectMostUptoSaid : Prop := bisectMostUptoRow.holds Try.pinned (OpenSpec.upto bisectMostSpec)

/-- 'mootbelllaw15.BisectAdd', WHERE WHAT IT READS IS OF BULK AT MOST 1048576: true; the input reads as it did. -/
def bisectAddUptoRow : OpenClaim := { program := "ytnfglkgkdechlaa", sum := "bd2143b4af1f6b27129fdc90b0e5ca989ab910dc69c6063a484600a6109e50f7", func := "mootbell/mootbelllaw15.BisectAdd", spec := "bisectAdd", unfollowed := true, recurses := true, apart := false, narrowed := true }
def BisectAddUptoSaid : Prop := bisectAddUptoRow.holds Try.pinned (OpenSpec.upto bisectAddSpec)

/-- 'mootbelllaw15.BisectWrong', WHERE WHAT IT READS IS OF BULK AT MOST 1048576: true; the input reads as it did. -/
def bisectWrongUptoRow : OpenClaim := { program := "ytnfglkgkdechlaa", sum := "bd2143b4af1f6b27129fdc90b0e5ca989ab910dc69c6063a484600a6109e50f7", func := "mootbell/mootbelllaw15.BisectWrong", spec := "bisectWrong", unfollowed := true, recurses := true, apart := false, narrowed := true }
def BisectWrongUptoSaid : Prop := bisectWrongUptoRow.holds Try.pinned (OpenSpec.upto bisectWrongSpec)

end Rows
end Go.Proofs.Ytnfglkgkdechlaa
