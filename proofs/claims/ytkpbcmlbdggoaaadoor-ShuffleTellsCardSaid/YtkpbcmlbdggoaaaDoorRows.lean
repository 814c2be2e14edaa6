/-
  NARROWER THAN 'FOR EVERY INPUT', by the rows' own cells (each row's printed sentence says how): ShuffleTells: laid · ShuffleRound: laid · ShuffleBack: laid · ShuffleAll: laid · ShuffleNext: laid.
  DERIVED. THE GIVEN ROWS OF THIS SEAT. 5 by the template 'for every input the law returns true; each argument reads behind the call as it read before'; 0 by the template 'total and deterministic' (their statements: YtkpbcmlbdggoaaaDoorTotals.lean).
  GIVEN WITH THE SEED: the statements are not yours to turn. If you find one false, say at which input.
  Laid BY PROGRAM, IN A SANDBOX (cutbox-rows.mjs): the forced cells as the released guide's own fill.sh prints them over the translation f7b5d1e05df8dd68… (all of the seat's roots in one cut). By AI agents, Wed Nov 11 2026. No macro, syntax, notation, axiom, sorry.
-/
import Derived.Test.YtkpbcmlbdggoaaaDoorChecked
import GoSem.Claim
import GoSem.ClaimJoined
import GoSem.ClaimMapViews
import Derived.JoinedTies
import Derived.KernelRfl
namespace Go.Proofs.YtkpbcmlbdggoaaaDoor
/- THE CELL 'sum', in the pinned program and in every row, IS THE sha256 OF THE DUMP (.gsa) THAT YtkpbcmlbdggoaaaDoorProg.lean LOADS. Nothing in Lean hashes anything: it is a label: what it is worth is what the hold of that sum in a sandbox is worth. -/
noncomputable def Tryd.pinned : Pinned := { name := "ytkpbcmlbdggoaaadoor", sum := "f7b5d1e05df8dd689b048053e8d9392f58b0ce0e70197a7de52b3b97f6f6d07c", checked := Tryd.checked }
namespace Rows
def none {H : Type} : Left H := { results := [], args := [] }

/- WHAT THE LISTED PACKAGE-LEVEL VARIABLES READ AS WHEN THE CALL BEGINS. Each datum BY PROGRAM (the guide's laid-datum.mjs) off the statement by which the dump's own 'gosem.cut.vars' lays the variable. In a bare row this is a premise. The card (YtkpbcmlbdggoaaaDoorCards.lean) ties it to the program's text. -/
def laid_mootbell_churn_sum {H : Type} : DataW H := .agg [.lit (.int .u64 14695981039346656037), .lit (.int .u64 1099511628211), .lit (.int .u64 14886173955864302971)]

/-- 'mootbelllaw09.ShuffleTells': WHATEVER THE INPUT: true; the input reads as it did. -/
def shuffleTellsSpec : ChangeSpec := { name := "shuffleTells", fn := fun _ => fun
  | [d1, d2, d3, d4, d5] => { results := [.lit (.bool true)], args := [d1, d2, d3, d4, d5] }
  | _ => none }
def shuffleTellsRow : OpenClaim := { program := "ytkpbcmlbdggoaaadoor", sum := "f7b5d1e05df8dd689b048053e8d9392f58b0ce0e70197a7de52b3b97f6f6d07c", func := "mootbell/mootbelllaw09.ShuffleTells", spec := "shuffleTells", unfollowed := true, recurses := true, named := ["mootbell/churn.sum"], apart := false, laid := [("mootbell/churn.sum", laid_mootbell_churn_sum)] }
def ShuffleTellsSaid : Prop := shuffleTellsRow.holds Tryd.pinned (OpenSpec.ofChange shuffleTellsSpec)

/-- ITS FALSE NEIGHBOUR: 'it returns false'. Refute it at one input. -/
def shuffleTellsWrong : ChangeSpec := { name := "shuffleTells", fn := fun _ => fun
  | [d1, d2, d3, d4, d5] => { results := [.lit (.bool false)], args := [d1, d2, d3, d4, d5] }
  | _ => none }
def ShuffleTellsWrongFalsely : Prop := shuffleTellsRow.holds Tryd.pinned (OpenSpec.ofChange shuffleTellsWrong)

/-- 'mootbelllaw09.ShuffleRound': WHATEVER THE INPUT: true; the input reads as it did. -/
def shuffleRoundSpec : ChangeSpec := { name := "shuffleRound", fn := fun _ => fun
  | [d1, d2, d3, d4] => { results := [.lit (.bool true)], args := [d1, d2, d3, d4] }
  | _ => none }
def shuffleRoundRow : OpenClaim := { program := "ytkpbcmlbdggoaaadoor", sum := "f7b5d1e05df8dd689b048053e8d9392f58b0ce0e70197a7de52b3b97f6f6d07c", func := "mootbell/mootbelllaw09.ShuffleRound", spec := "shuffleRound", unfollowed := true, recurses := true, named := ["mootbell/churn.sum"], apart := false, laid := [("mootbell/churn.sum", laid_mootbell_churn_sum)] }
def ShuffleRoundSaid : Prop := shuffleRoundRow.holds Tryd.pinned (OpenSpec.ofChange shuffleRoundSpec)

/-- ITS FALSE NEIGHBOUR: 'it returns false'. Refute it at one input. -/
def shuffleRoundWrong : ChangeSpec := { name := "shuffleRound", fn := fun _ => fun
  | [d1, d2, d3, d4] => { results := [.lit (.bool false)], args := [d1, d2, d3, d4] }
  | _ => none }
def ShuffleRoundWrongFalsely : Prop := shuffleRoundRow.holds Tryd.pinned (OpenSpec.ofChange shuffleRoundWrong)

/-- 'mootbelllaw09.ShuffleBack': WHATEVER THE INPUT: true; the input reads as it did. -/
def shuffleBackSpec : ChangeSpec := { name := "shuffleBack", fn := fun _ => fun
  | [d1, d2, d3, d4, d5] => { results := [.lit (.bool true)], args := [d1, d2, d3, d4, d5] }
  | _ => none }
def shuffleBackRow : OpenClaim := { program := "ytkpbcmlbdggoaaadoor", sum := "f7b5d1e05df8dd689b048053e8d9392f58b0ce0e70197a7de52b3b97f6f6d07c", func := "mootbell/mootbelllaw09.ShuffleBack", spec := "shuffleBack", unfollowed := true, recurses := true, named := ["mootbell/churn.sum"], apart := false, laid := [("mootbell/churn.sum", laid_mootbell_churn_sum)] }
def ShuffleBackSaid : Prop := shuffleBackRow.holds Tryd.pinned (OpenSpec.ofChange shuffleBackSpec)

/-- ITS FALSE NEIGHBOUR: 'it returns false'. Refute it at one input. -/
def shuffleBackWrong : ChangeSpec := { name := "shuffleBack", fn := fun _ => fun
  | [d1, d2, d3, d4, d5] => { results := [.lit (.bool false)], args := [d1, d2, d3, d4, d5] }
  | _ => none }
def ShuffleBackWrongFalsely : Prop := shuffleBackRow.holds Tryd.pinned (OpenSpec.ofChange shuffleBackWrong)

/-- 'mootbelllaw09.ShuffleAll': WHATEVER THE INPUT: true; the input reads as it did. -/
def shuffleAllSpec : ChangeSpec := { name := "shuffleAll", fn := fun _ => fun
  | [d1, d2, d3, d4] => { results := [.lit (.bool true)], args := [d1, d2, d3, d4] }
  | _ => none }
def shuffleAllRow : OpenClaim := { program := "ytkpbcmlbdggoaaadoor", sum := "f7b5d1e05df8dd689b048053e8d9392f58b0ce0e70197a7de52b3b97f6f6d07c", func := "mootbell/mootbelllaw09.ShuffleAll", spec := "shuffleAll", unfollowed := true, recurses := true, named := ["mootbell/churn.sum"], apart := false, laid := [("mootbell/churn.sum", laid_mootbell_churn_sum)] }
def ShuffleAllSaid : Prop := shuffleAllRow.holds Tryd.pinned (OpenSpec.ofChange shuffleAllSpec)

/-- ITS FALSE NEIGHBOUR: 'it returns false'. Refute it at one input. -/
def shuffleAllWrong : ChangeSpec := { name := "shuffleAll", fn := fun _ => fun
  | [d1, d2, d3, d4] => { results := [.lit (.bool false)], args := [d1, d2, d3, d4] }
  | _ => none }
def ShuffleAllWrongFalsely : Prop := shuffleAllRow.holds Tryd.pinned (OpenSpec.ofChange shuffleAllWrong)

/-- 'mootbelllaw09.ShuffleNext': WHATEVER THE INPUT: true; the input reads as it did. -/
def shuffleNextSpec : ChangeSpec := { name := "shuffleNext", fn := fun _ => fun
  | [d1, d2, d3, d4] => { results := [.lit (.bool true)], args := [d1, d2, d3, d4] }
  | _ => none }
def shuffleNextRow : OpenClaim := { program := "ytkpbcmlbdggoaaadoor", sum := "f7b5d1e05df8dd689b048053e8d9392f58b0ce0e70197a7de52b3b97f6f6d07c", func := "mootbell/mootbelllaw09.ShuffleNext", spec := "shuffleNext", unfollowed := true, recurses := true, named := ["mootbell/churn.sum"], apart := false, laid := [("mootbell/churn.sum", laid_mootbell_churn_sum)] }
def ShuffleNextSaid : Prop := shuffleNextRow.holds Tryd.pinned (OpenSpec.ofChange shuffleNextSpec)

/-- ITS FALSE NEIGHBOUR: 'it returns false'. Refute it at one input. -/
def shuffleNextWrong : ChangeSpec := { name := "shuffleNext", fn := fun _ => fun
  | [d1, d2, d3, d4] => { results := [.lit (.bool false)], args := [d1, d2, d3, d4] }
  | _ => none }
def ShuffleNextWrongFalsely : Prop := shuffleNextRow.holds Tryd.pinned (OpenSpec.ofChange shuffleNextWrong)

/- THE SECOND FORM. 'bulk': how many values and letters a reading holds, each counted each time it is reached (what is shared counts as often as it is met; a slice's spare places count too). A statement '..UptoSaid' is the law's where the arguments, and the package variables that the reading takes, are together of bulk at most 1048576: NARROWER than '..Said'. Prove '..Said' where nothing that the law and all that it calls make is longer than what came in: it says more and counts as full. Else prove '..UptoSaid'. A law counts once. -/
mutual
def uptoBulk {H : Type} : DataW H → Nat
  | .lit (.string bytes) => bytes.length + 1
  | .lit _ => 1
  | .nil => 1
  | .ptr d => uptoBulk d + 1
  | .slice elems spare => uptoBulkAll elems + uptoBulkAll spare + 1
  | .agg parts => uptoBulkAll parts + 1
  | .iface _ d => uptoBulk d + 1
  | .map entries => uptoBulkEntries entries + 1
  | .held _ => 1
def uptoBulkAll {H : Type} : List (DataW H) → Nat
  | [] => 0
  | d :: r => uptoBulk d + uptoBulkAll r
def uptoBulkEntries {H : Type} : List (Lit × DataW H) → Nat
  | [] => 0
  | x :: r => uptoBulkEntry x + uptoBulkEntries r
def uptoBulkEntry {H : Type} : Lit × DataW H → Nat
  | (.string bytes, d) => bytes.length + uptoBulk d + 1
  | (_, d) => uptoBulk d + 1
 end
def uptoSmall : (H : Type) → List (DataW H) → Bool := fun _ ds => decide (uptoBulkAll ds ≤ 1048576)
def OpenSpec.upto (s : _root_.Go.ChangeSpec) : _root_.Go.OpenSpec := { _root_.Go.OpenSpec.ofChange s with cond := some uptoSmall }

/-- 'mootbelllaw09.ShuffleTells', WHERE WHAT IT READS IS OF BULK AT MOST 1048576: true; the input reads as it did. -/
def shuffleTellsUptoRow : OpenClaim := { program := "ytkpbcmlbdggoaaadoor", sum := "f7b5d1e05df8dd689b048053e8d9392f58b0ce0e70197a7de52b3b97f6f6d07c", func := "mootbell/mootbelllaw09.ShuffleTells", spec := "shuffleTells", unfollowed := true, recurses := true, named := ["mootbell/churn.sum"], apart := false, laid := [("mootbell/churn.sum", laid_mootbell_churn_sum)], narrowed := true }
def ShuffleTellsUptoSaid : Prop := shuffleTellsUptoRow.holds Tryd.pinned (OpenSpec.upto shuffleTellsSpec)

/-- 'mootbelllaw09.ShuffleRound', WHERE WHAT IT READS IS OF BULK AT MOST 1048576: true; the input reads as it did. -/
def shuffleRoundUptoRow : OpenClaim := { program := "ytkpbcmlbdggoaaadoor", sum := "f7b5d1e05df8dd689b048053e8d9392f58b0ce0e70197a7de52b3b97f6f6d07c", func := "mootbell/mootbelllaw09.ShuffleRound", spec := "shuffleRound", unfollowed := true, recurses := true, named := ["mootbell/churn.sum"], apart := false, laid := [("mootbell/churn.sum", laid_mootbell_churn_sum)], narrowed := true }
def ShuffleRoundUptoSaid : Prop := shuffleRoundUptoRow.holds Tryd.pinned (OpenSpec.upto shuffleRoundSpec)

/-- 'mootbelllaw09.ShuffleBack', WHERE WHAT IT READS IS OF BULK AT MOST 1048576: true; the input reads as it did. -/
def shuffleBackUptoRow : OpenClaim := { program := "ytkpbcmlbdggoaaadoor", sum := "f7b5d1e05df8dd689b048053e8d9392f58b0ce0e70197a7de52b3b97f6f6d07c", func := "mootbell/mootbelllaw09.ShuffleBack", spec := "shuffleBack", unfollowed := true, recurses := true, named := ["mootbell/churn.sum"], apart := false, laid := [("mootbell/churn.sum", laid_mootbell_churn_sum)], narrowed := true }
def ShuffleBackUptoSaid : Prop := shuffleBackUptoRow.holds Tryd.pinned (OpenSpec.upto shuffleBackSpec)

/-- 'mootbelllaw09.ShuffleAll', WHERE WHAT IT READS IS OF BULK AT MOST 1048576: true; the input reads as it did. -/
def shuffleAllUptoRow : OpenClaim := { program := "ytkpbcmlbdggoaaadoor", sum := "f7b5d1e05df8dd689b048053e8d9392f58b0ce0e70197a7de52b3b97f6f6d07c", func := "mootbell/mootbelllaw09.ShuffleAll", spec := "shuffleAll", unfollowed := true, recurses := true, named := ["mootbell/churn.sum"], apart := false, laid := [("mootbell/churn.sum", laid_mootbell_churn_sum)], narrowed := true }
def ShuffleAllUptoSaid : Prop := shuffleAllUptoRow.holds Tryd.pinned (OpenSpec.upto shuffleAllSpec)

/-- 'mootbelllaw09.ShuffleNext', WHERE WHAT IT READS IS OF BULK AT MOST 1048576: true; the input reads as it did. -/
def shuffleNextUptoRow : OpenClaim := { program := "ytkpbcmlbdggoaaadoor", sum := "f7b5d1e05df8dd689b048053e8d9392f58b0ce0e70197a7de52b3b97f6f6d07c", func := "mootbell/mootbelllaw09.ShuffleNext", spec := "shuffleNext", unfollowed := true, recurses := true, named := ["mootbell/churn.sum"], apart := false, laid := [("mootbell/churn.sum", laid_mootbell_churn_sum)], narrowed := true }
def ShuffleNextUptoSaid : Prop := shuffleNextUptoRow.holds Tryd.pinned (OpenSpec.upto shuffleNextSpec)

end Rows
end Go.Proofs.YtkpbcmlbdggoaaaDoor
