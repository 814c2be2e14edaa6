/-
  No cell of these rows narrows 'for every input' (looked for: loops, veiled, ifaces, maps, wideKeys, modest, calm, conditions, laid).
  DERIVED. THE GIVEN ROWS OF THIS SEAT. 5 by the template 'for every input the law returns true; each argument reads behind the call as it read before'; 0 by the template 'total and deterministic' (their statements: YtppcojfgpjnagaaTotals.lean).
  GIVEN WITH THE SEED: the statements are not yours to turn. If you find one false, say at which input.
  Laid BY PROGRAM, IN A SANDBOX (cutbox-rows.mjs): the forced cells as the released guide's own fill.sh prints them over the translation 9ecd4c6299929850… (all of the seat's roots in one cut). By AI agents, Wed Nov 11 2026. No macro, syntax, notation, axiom, sorry.
-/
import Derived.Test.YtppcojfgpjnagaaChecked
import GoSem.Claim
import GoSem.ClaimJoined
import GoSem.ClaimMapViews
import Derived.JoinedTies
import Derived.KernelRfl
namespace Go.Proofs.Ytppcojfgpjnagaa
/- THE CELL 'sum', in the pinned program and in every row, IS THE sha256 OF THE DUMP (.gsa) THAT YtppcojfgpjnagaaProg.lean LOADS. Nothing in Lean hashes anything: it is a label: what it is worth is what the hold of that sum in a sandbox is worth. -/
noncomputable def Try.pinned : Pinned := { name := "ytppcojfgpjnagaa", sum := "9ecd4c6299929850076f16d8cfe44bba57234d625acb7cb63ded0504cd653698", checked := Try.checked }
namespace Rows
def none {H : Type} : Left H := { results := [], args := [] }

/-- 'mootbelllaw13.SeenTells': WHATEVER THE INPUT: true; the input reads as it did. -/
def seenTellsSpec : ChangeSpec := { name := "seenTells", fn := fun _ => fun
  | [d1, d2, d3, d4, d5, d6, d7] => { results := [.lit (.bool true)], args := [d1, d2, d3, d4, d5, d6, d7] }
  | _ => none }
def seenTellsRow : OpenClaim := { program := "ytppcojfgpjnagaa", sum := "9ecd4c6299929850076f16d8cfe44bba57234d625acb7cb63ded0504cd653698", func := "mootbell/mootbelllaw13.SeenTells", spec := "seenTells", inPlace := ["slices.overlaps[mootbell/api.Mark]"], unfollowed := true, recurses := true, apart := false }
def SeenTellsSaid : Prop := seenTellsRow.holds Try.pinned (OpenSpec.ofChange seenTellsSpec)

/-- ITS FALSE NEIGHBOUR: 'it returns false'. Refute it at one input. -/
def seenTellsWrong : ChangeSpec := { name := "seenTells", fn := fun _ => fun
  | [d1, d2, d3, d4, d5, d6, d7] => { results := [.lit (.bool false)], args := [d1, d2, d3, d4, d5, d6, d7] }
  | _ => none }
def SeenTellsWrongFalsely : Prop := seenTellsRow.holds Try.pinned (OpenSpec.ofChange seenTellsWrong)

/-- 'mootbelllaw13.SeenOnce': WHATEVER THE INPUT: true; the input reads as it did. -/
def seenOnceSpec : ChangeSpec := { name := "seenOnce", fn := fun _ => fun
  | [d1, d2] => { results := [.lit (.bool true)], args := [d1, d2] }
  | _ => none }
def seenOnceRow : OpenClaim := { program := "ytppcojfgpjnagaa", sum := "9ecd4c6299929850076f16d8cfe44bba57234d625acb7cb63ded0504cd653698", func := "mootbell/mootbelllaw13.SeenOnce", spec := "seenOnce", inPlace := ["slices.overlaps[mootbell/api.Mark]"], unfollowed := true, recurses := true, apart := false }
def SeenOnceSaid : Prop := seenOnceRow.holds Try.pinned (OpenSpec.ofChange seenOnceSpec)

/-- ITS FALSE NEIGHBOUR: 'it returns false'. Refute it at one input. -/
def seenOnceWrong : ChangeSpec := { name := "seenOnce", fn := fun _ => fun
  | [d1, d2] => { results := [.lit (.bool false)], args := [d1, d2] }
  | _ => none }
def SeenOnceWrongFalsely : Prop := seenOnceRow.holds Try.pinned (OpenSpec.ofChange seenOnceWrong)

/-- 'mootbelllaw13.SeenOrder': WHATEVER THE INPUT: true; the input reads as it did. -/
def seenOrderSpec : ChangeSpec := { name := "seenOrder", fn := fun _ => fun
  | [d1, d2] => { results := [.lit (.bool true)], args := [d1, d2] }
  | _ => none }
def seenOrderRow : OpenClaim := { program := "ytppcojfgpjnagaa", sum := "9ecd4c6299929850076f16d8cfe44bba57234d625acb7cb63ded0504cd653698", func := "mootbell/mootbelllaw13.SeenOrder", spec := "seenOrder", inPlace := ["slices.overlaps[mootbell/api.Mark]"], unfollowed := true, recurses := true, apart := false }
def SeenOrderSaid : Prop := seenOrderRow.holds Try.pinned (OpenSpec.ofChange seenOrderSpec)

/-- ITS FALSE NEIGHBOUR: 'it returns false'. Refute it at one input. -/
def seenOrderWrong : ChangeSpec := { name := "seenOrder", fn := fun _ => fun
  | [d1, d2] => { results := [.lit (.bool false)], args := [d1, d2] }
  | _ => none }
def SeenOrderWrongFalsely : Prop := seenOrderRow.holds Try.pinned (OpenSpec.ofChange seenOrderWrong)

/-- 'mootbelllaw13.SeenPrune': WHATEVER THE INPUT: true; the input reads as it did. -/
def seenPruneSpec : ChangeSpec := { name := "seenPrune", fn := fun _ => fun
  | [d1, d2, d3, d4] => { results := [.lit (.bool true)], args := [d1, d2, d3, d4] }
  | _ => none }
def seenPruneRow : OpenClaim := { program := "ytppcojfgpjnagaa", sum := "9ecd4c6299929850076f16d8cfe44bba57234d625acb7cb63ded0504cd653698", func := "mootbell/mootbelllaw13.SeenPrune", spec := "seenPrune", inPlace := ["slices.overlaps[mootbell/api.Mark]"], unfollowed := true, recurses := true, apart := false }
def SeenPruneSaid : Prop := seenPruneRow.holds Try.pinned (OpenSpec.ofChange seenPruneSpec)

/-- ITS FALSE NEIGHBOUR: 'it returns false'. Refute it at one input. -/
def seenPruneWrong : ChangeSpec := { name := "seenPrune", fn := fun _ => fun
  | [d1, d2, d3, d4] => { results := [.lit (.bool false)], args := [d1, d2, d3, d4] }
  | _ => none }
def SeenPruneWrongFalsely : Prop := seenPruneRow.holds Try.pinned (OpenSpec.ofChange seenPruneWrong)

/-- 'mootbelllaw13.SeenFull': WHATEVER THE INPUT: true; the input reads as it did. -/
def seenFullSpec : ChangeSpec := { name := "seenFull", fn := fun _ => fun
  | [d1, d2, d3] => { results := [.lit (.bool true)], args := [d1, d2, d3] }
  | _ => none }
def seenFullRow : OpenClaim := { program := "ytppcojfgpjnagaa", sum := "9ecd4c6299929850076f16d8cfe44bba57234d625acb7cb63ded0504cd653698", func := "mootbell/mootbelllaw13.SeenFull", spec := "seenFull", inPlace := ["slices.overlaps[mootbell/api.Mark]"], unfollowed := true, recurses := true, apart := false }
def SeenFullSaid : Prop := seenFullRow.holds Try.pinned (OpenSpec.ofChange seenFullSpec)

/-- ITS FALSE NEIGHBOUR: 'it returns false'. Refute it at one input. -/
def seenFullWrong : ChangeSpec := { name := "seenFull", fn := fun _ => fun
  | [d1, d2, d3] => { results := [.lit (.bool false)], args := [d1, d2, d3] }
  | _ => none }
def SeenFullWrongFalsely : Prop := seenFullRow.holds Try.pinned (OpenSpec.ofChange seenFullWrong)

/- THE SECOND FORM. 'bulk': how many values and letters a reading holds, each counted each time it is reached (what is shared counts as often as it is met; a slice's spare places count too). A statement '..UptoSaid' is the law's where the arguments, and the package variables that the reading takes, are together of bulk at most 1048576: NARROWER than '..Said'. Prove '..Said' where nothing that the law and all that it calls make is longer than what came in: it says more and counts as full. Else prove '..UptoSaid'. A law counts once. -/
mutual
def uptoBulk {H : Type} : DataW H → Nat
  | .lit (.string bytes) => bytes.length + 1
  | .lit _ => 1
  | .nil => 1
  | .ptr d => uptoBulk d + 1
  | .slice elems spare => uptoBulkAll elems + uptoBulkAll spare + 1
  | .agg parts => uptoBulkAll parts + 1
  | .iface _ d => uptoBulk d + 1
  | .map entries => uptoBulkEntries entries + 1
  | .held _ => 1
def uptoBulkAll {H : Type} : List (DataW H) → Nat
  | [] => 0
  | d :: r => uptoBulk d + uptoBulkAll r
def uptoBulkEntries {H : Type} : List (Lit × DataW H) → Nat
  | [] => 0
  | x :: r => uptoBulkEntry x + uptoBulkEntries r
def uptoBulkEntry {H : Type} : Lit × DataW H → Nat
  | (.string bytes, d) => bytes.length + uptoBulk d + 1
  | (_, d) => uptoBulk d + 1
 end
def uptoSmall : (H : Type) → List (DataW H) → Bool := fun _ ds => decide (uptoBulkAll ds ≤ 1048576)
def OpenSpec.upto (s : _root_.Go.ChangeSpec) : _root_.Go.OpenSpec := { _root_.Go.OpenSpec.ofChange s with cond := some uptoSmall }

/-- 'mootbelllaw13.SeenTells', WHERE WHAT IT READS IS OF BULK AT MOST 1048576: true; the input reads as it did. -/
def seenTellsUptoRow : OpenClaim := { program := "ytppcojfgpjnagaa", sum := "9ecd4c6299929850076f16d8cfe44bba57234d625acb7cb63ded0504cd653698", func := "mootbell/mootbelllaw13.SeenTells", spec := "seenTells", inPlace := ["slices.overlaps[mootbell/api.Mark]"], unfollowed := true, recurses := true, apart := false, narrowed := true }
def SeenTellsUptoSaid : Prop := seenTellsUptoRow.holds Try.pinned (OpenSpec.upto seenTellsSpec)

/-- 'mootbelllaw13.SeenOnce', WHERE WHAT IT READS IS OF BULK AT MOST 1048576: true; the input reads as it did. -/
def seenOnceUptoRow : OpenClaim := { program := "ytppcojfgpjnagaa", sum := "9ecd4c6299929850076f16d8cfe44bba57234d625acb7cb63ded0504cd653698", func := "mootbell/mootbelllaw13.SeenOnce", spec := "seenOnce", inPlace := ["slices.overlaps[mootbell/api.Mark]"], unfollowed := true, recurses := true, apart := false, narrowed := true }
def SeenOnceUptoSaid : Prop := seenOnceUptoRow.holds Try.pinned (OpenSpec.upto seenOnceSpec)

/-- 'mootbelllaw13.SeenOrder', WHERE WHAT IT READS IS OF BULK AT MOST 1048576: true; the input reads as it did. -/
def seenOrderUptoRow : OpenClaim := { program := "ytppcojfgpjnagaa", sum := "9ecd4c6299929850076f16d8cfe44bba57234d625acb7cb63ded0504cd653698", func := "mootbell/mootbelllaw13.SeenOrder", spec := "seenOrder", inPlace := ["slices.overlaps[mootbell/api.Mark]"], unfollowed := true, recurses := true, apart := false, narrowed := true }
def SeenOrderUptoSaid : Prop := seenOrderUptoRow.holds Try.pinned (OpenSpec.upto seenOrderSpec)

/-- 'mootbelllaw13.SeenPrune', WHERE WHAT IT READS IS OF BULK AT MOST 1048576: true; the input reads as it did. -/
def seenPruneUptoRow : OpenClaim := { program := "ytppcojfgpjnagaa", sum := "9ecd4c6299929850076f16d8cfe44bba57234d625acb7cb63ded0504cd653698", func := "mootbell/mootbelllaw13.SeenPrune", spec := "seenPrune", inPlace := ["slices.overlaps[mootbell/api.Mark]"], unfollowed := true, recurses := true, apart := false, narrowed := true }
def SeenPruneUptoSaid : Prop := seenPruneUptoRow.holds Try.pinned (OpenSpec.upto seenPruneSpec)

/-- 'mootbelllaw13.SeenFull', WHERE WHAT IT READS IS OF BULK AT MOST 1048576: true; the input reads as it did. -/
def seenFullUptoRow : OpenClaim := { program := "ytppcojfgpjnagaa", sum := "9ecd4c6299929850076f16d8cfe44bba57234d625acb7cb63ded0504cd653698", func := "mootbell/mootbelllaw13.SeenFull", spec := "seenFull", inPlace := ["slices.overlaps[mootbell/api.Mark]"], unfollowed := true, recurses := true, apart := false, narrowed := true }
def SeenFullUptoSaid : Prop := seenFullUptoRow.holds Try.pinned (OpenSpec.upto seenFullSpec)

end Rows
end Go.Proofs.Ytppcojfgpjnagaa
