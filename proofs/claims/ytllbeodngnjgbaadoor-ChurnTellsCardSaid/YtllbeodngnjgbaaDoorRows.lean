/-
  NARROWER THAN 'FOR EVERY INPUT', by the rows' own cells (each row's printed sentence says how): ChurnBack: laid · ChurnParts: laid · ChurnOne: laid · ChurnTells: laid · ChurnDraw: laid.
  DERIVED. THE GIVEN ROWS OF THIS SEAT. 5 by the template 'for every input the law returns true; each argument reads behind the call as it read before'; 0 by the template 'total and deterministic' (their statements: YtllbeodngnjgbaaDoorTotals.lean).
  GIVEN WITH THE SEED: the statements are not yours to turn. If you find one false, say at which input.
  Laid BY PROGRAM, IN A SANDBOX (cutbox-rows.mjs): the forced cells as the released guide's own fill.sh prints them over the translation 12699e116a6187e9… (all of the seat's roots in one cut). By AI agents, Wed Nov 11 2026. No macro, syntax, notation, axiom, sorry.
-/
import Derived.Test.YtllbeodngnjgbaaDoorChecked
import GoSem.Claim
import GoSem.ClaimJoined
import GoSem.ClaimMapViews
import Derived.JoinedTies
import Derived.KernelRfl
namespace Go.Proofs.YtllbeodngnjgbaaDoor
/- THE CELL 'sum', in the pinned program and in every row, IS THE sha256 OF THE DUMP (.gsa) THAT YtllbeodngnjgbaaDoorProg.lean LOADS. Nothing in Lean hashes anything: it is a label: what it is worth is what the hold of that sum in a sandbox is worth. -/
noncomputable def Tryd.pinned : Pinned := { name := "ytllbeodngnjgbaadoor", sum := "12699e116a6187e9fcc5c81bfd02b34243ce6761359935df6a61bd2592382588", checked := Tryd.checked }
namespace Rows
def none {H : Type} : Left H := { results := [], args := [] }

/- WHAT THE LISTED PACKAGE-LEVEL VARIABLES READ AS WHEN THE CALL BEGINS. Each datum BY PROGRAM (the guide's laid-datum.mjs) off the statement by which the dump's own 'gosem.cut.vars' lays the variable. In a bare row this is a premise. The card (YtllbeodngnjgbaaDoorCards.lean) ties it to the program's text. -/
def laid_mootbell_churn_sum {H : Type} : DataW H := .agg [.lit (.int .u64 14695981039346656037), .lit (.int .u64 1099511628211), .lit (.int .u64 14886173955864302971)]

/-- 'mootbelllaw04.ChurnBack': WHATEVER THE INPUT: true; the input reads as it did. -/
def churnBackSpec : ChangeSpec := { name := "churnBack", fn := fun _ => fun
  | [d1, d2, d3] => { results := [.lit (.bool true)], args := [d1, d2, d3] }
  | _ => none }
def churnBackRow : OpenClaim := { program := "ytllbeodngnjgbaadoor", sum := "12699e116a6187e9fcc5c81bfd02b34243ce6761359935df6a61bd2592382588", func := "mootbell/mootbelllaw04.ChurnBack", spec := "churnBack", named := ["mootbell/churn.sum"], apart := false, laid := [("mootbell/churn.sum", laid_mootbell_churn_sum)] }
def ChurnBackSaid : Prop := churnBackRow.holds Tryd.pinned (OpenSpec.ofChange churnBackSpec)

/-- ITS FALSE NEIGHBOUR: 'it returns false'. Refute it at one input. -/
def churnBackWrong : ChangeSpec := { name := "churnBack", fn := fun _ => fun
  | [d1, d2, d3] => { results := [.lit (.bool false)], args := [d1, d2, d3] }
  | _ => none }
def ChurnBackWrongFalsely : Prop := churnBackRow.holds Tryd.pinned (OpenSpec.ofChange churnBackWrong)

/-- 'mootbelllaw04.ChurnParts': WHATEVER THE INPUT: true; the input reads as it did. -/
def churnPartsSpec : ChangeSpec := { name := "churnParts", fn := fun _ => fun
  | [d1, d2, d3, d4] => { results := [.lit (.bool true)], args := [d1, d2, d3, d4] }
  | _ => none }
def churnPartsRow : OpenClaim := { program := "ytllbeodngnjgbaadoor", sum := "12699e116a6187e9fcc5c81bfd02b34243ce6761359935df6a61bd2592382588", func := "mootbell/mootbelllaw04.ChurnParts", spec := "churnParts", named := ["mootbell/churn.sum"], apart := false, laid := [("mootbell/churn.sum", laid_mootbell_churn_sum)] }
def ChurnPartsSaid : Prop := churnPartsRow.holds Tryd.pinned (OpenSpec.ofChange churnPartsSpec)

/-- ITS FALSE NEIGHBOUR: 'it returns false'. Refute it at one input. -/
def churnPartsWrong : ChangeSpec := { name := "churnParts", fn := fun _ => fun
  | [d1, d2, d3, d4] => { results := [.lit (.bool false)], args := [d1, d2, d3, d4] }
  | _ => none }
def ChurnPartsWrongFalsely : Prop := churnPartsRow.holds Tryd.pinned (OpenSpec.ofChange churnPartsWrong)

/-- 'mootbelllaw04.ChurnOne': WHATEVER THE INPUT: true; the input reads as it did. -/
def churnOneSpec : ChangeSpec := { name := "churnOne", fn := fun _ => fun
  | [d1, d2, d3, d4] => { results := [.lit (.bool true)], args := [d1, d2, d3, d4] }
  | _ => none }
def churnOneRow : OpenClaim := { program := "ytllbeodngnjgbaadoor", sum := "12699e116a6187e9fcc5c81bfd02b34243ce6761359935df6a61bd2592382588", func := "mootbell/mootbelllaw04.ChurnOne", spec := "churnOne", named := ["mootbell/churn.sum"], apart := false, laid := [("mootbell/churn.sum", laid_mootbell_churn_sum)] }
def ChurnOneSaid : Prop := churnOneRow.holds Tryd.pinned (OpenSpec.ofChange churnOneSpec)

/-- ITS FALSE NEIGHBOUR: 'it returns false'. Refute it at one input. -/
def churnOneWrong : ChangeSpec := { name := "churnOne", fn := fun _ => fun
  | [d1, d2, d3, d4] => { results := [.lit (.bool false)], args := [d1, d2, d3, d4] }
  | _ => none }
def ChurnOneWrongFalsely : Prop := churnOneRow.holds Tryd.pinned (OpenSpec.ofChange churnOneWrong)

/-- 'mootbelllaw04.ChurnTells': WHATEVER THE INPUT: true; the input reads as it did. -/
def churnTellsSpec : ChangeSpec := { name := "churnTells", fn := fun _ => fun
  | [d1, d2, d3, d4] => { results := [.lit (.bool true)], args := [d1, d2, d3, d4] }
  | _ => none }
def churnTellsRow : OpenClaim := { program := "ytllbeodngnjgbaadoor", sum := "12699e116a6187e9fcc5c81bfd02b34243ce6761359935df6a61bd2592382588", func := "mootbell/mootbelllaw04.ChurnTells", spec := "churnTells", named := ["mootbell/churn.sum"], apart := false, laid := [("mootbell/churn.sum", laid_mootbell_churn_sum)] }
def ChurnTellsSaid : Prop := churnTellsRow.holds Tryd.pinned (OpenSpec.ofChange churnTellsSpec)

/-- ITS FALSE NEIGHBOUR: 'it returns false'. Refute it at one input. -/
def churnTellsWrong : ChangeSpec := { name := "churnTells", fn := fun _ => fun
  | [d1, d2, d3, d4] => { results := [.lit (.bool false)], args := [d1, d2, d3, d4] }
  | _ => none }
def ChurnTellsWrongFalsely : Prop := churnTellsRow.holds Tryd.pinned (OpenSpec.ofChange churnTellsWrong)

/-- 'mootbelllaw04.ChurnDraw': WHATEVER THE INPUT: true; the input reads as it did. -/
def churnDrawSpec : ChangeSpec := { name := "churnDraw", fn := fun _ => fun
  | [d1, d2] => { results := [.lit (.bool true)], args := [d1, d2] }
  | _ => none }
def churnDrawRow : OpenClaim := { program := "ytllbeodngnjgbaadoor", sum := "12699e116a6187e9fcc5c81bfd02b34243ce6761359935df6a61bd2592382588", func := "mootbell/mootbelllaw04.ChurnDraw", spec := "churnDraw", named := ["mootbell/churn.sum"], apart := false, laid := [("mootbell/churn.sum", laid_mootbell_churn_sum)] }
def ChurnDrawSaid : Prop := churnDrawRow.holds Tryd.pinned (OpenSpec.ofChange churnDrawSpec)

/-- ITS FALSE NEIGHBOUR: 'it returns false'. Refute it at one input. -/
def churnDrawWrong : ChangeSpec := { name := "churnDraw", fn := fun _ => fun
  | [d1, d2] => { results := [.lit (.bool false)], args := [d1, d2] }
  | _ => none }
def ChurnDrawWrongFalsely : Prop := churnDrawRow.holds Tryd.pinned (OpenSpec.ofChange churnDrawWrong)

/- THE SECOND FORM. 'bulk': how many values and letters a reading holds, each counted each time it is reached (what is shared counts as often as it is met; a slice's spare places count too). A statement '..UptoSaid' is the law's where the arguments, and the package variables that the reading takes, are together of bulk at most 1048576: NARROWER than '..Said'. Prove '..Said' where nothing that the law and all that it calls make is longer than what came in: it says more and counts as full. Else prove '..UptoSaid'. A law counts once. -/
mutual
def uptoBulk {H : Type} : DataW H → Nat
  | .lit (.string bytes) => bytes.length + 1
  | .lit _ => 1
  | .nil => 1
  | .ptr d => uptoBulk d + 1
  | .slice elems spare => uptoBulkAll elems + uptoBulkAll spare + 1
  | .agg parts => uptoBulkAll parts + 1
  | .iface _ d => uptoBulk d + 1
  | .map entries => uptoBulkEntries entries + 1
  | .held _ => 1
def uptoBulkAll {H : Type} : List (DataW H) → Nat
  | [] => 0
  | d :: r => uptoBulk d + uptoBulkAll r
def uptoBulkEntries {H : Type} : List (Lit × DataW H) → Nat
  | [] => 0
  | x :: r => uptoBulkEntry x + uptoBulkEntries r
def uptoBulkEntry {H : Type} : Lit × DataW H → Nat
  | (.string bytes, d) => bytes.length + uptoBulk d + 1
  | (_, d) => uptoBulk d + 1
 end
def uptoSmall : (H : Type) → List (DataW H) → Bool := fun _ ds => decide (uptoBulkAll ds ≤ 1048576)
def OpenSpec.upto (s : _root_.Go.ChangeSpec) : _root_.Go.OpenSpec := { _root_.Go.OpenSpec.ofChange s with cond := some uptoSmall }

/-- 'mootbelllaw04.ChurnBack', WHERE WHAT IT READS IS OF BULK AT MOST 1048576: true; the input reads as it did. -/
def churnBackUptoRow : OpenClaim := { program := "ytllbeodngnjgbaadoor", sum := "12699e116a6187e9fcc5c81bfd02b34243ce6761359935df6a61bd2592382588", func := "mootbell/mootbelllaw04.ChurnBack", spec := "churnBack", named := ["mootbell/churn.sum"], apart := false, laid := [("mootbell/churn.sum", laid_mootbell_churn_sum)], narrowed := true }
def ChurnBackUptoSaid : Prop := churnBackUptoRow.holds Tryd.pinned (OpenSpec.upto churnBackSpec)

/-- 'mootbelllaw04.ChurnParts', WHERE WHAT IT READS IS OF BULK AT MOST 1048576: true; the input reads as it did. -/
def churnPartsUptoRow : OpenClaim := { program := "ytllbeodngnjgbaadoor", sum := "12699e116a6187e9fcc5c81bfd02b34243ce6761359935df6a61bd2592382588", func := "mootbell/mootbelllaw04.ChurnParts", spec := "churnParts", named := ["mootbell/churn.sum"], apart := false, laid := [("mootbell/churn.sum", laid_mootbell_churn_sum)], narrowed := true }
def ChurnPartsUptoSaid : Prop := churnPartsUptoRow.holds Tryd.pinned (OpenSpec.upto churnPartsSpec)

/-- 'mootbelllaw04.ChurnOne', WHERE WHAT IT READS IS OF BULK AT MOST 1048576: true; the input reads as it did. -/
def churnOneUptoRow : OpenClaim := { program := "ytllbeodngnjgbaadoor", sum := "12699e116a6187e9fcc5c81bfd02b34243ce6761359935df6a61bd2592382588", func := "mootbell/mootbelllaw04.ChurnOne", spec := "churnOne", named := ["mootbell/churn.sum"], apart := false, laid := [("mootbell/churn.sum", laid_mootbell_churn_sum)], narrowed := true }
def ChurnOneUptoSaid : Prop := churnOneUptoRow.holds Tryd.pinned (OpenSpec.upto churnOneSpec)

/-- 'mootbelllaw04.ChurnTells', WHERE WHAT IT READS IS OF BULK AT MOST 1048576: true; the input reads as it did. -/
def churnTellsUptoRow : OpenClaim := { program := "ytllbeodngnjgbaadoor", sum := "12699e116a6187e9fcc5c81bfd02b34243ce6761359935df6a61bd2592382588", func := "mootbell/mootbelllaw04.ChurnTells", spec := "churnTells", named := ["mootbell/churn.sum"], apart := false, laid := [("mootbell/churn.sum", laid_mootbell_churn_sum)], narrowed := true }
def ChurnTellsUptoSaid : Prop := churnTellsUptoRow.holds Tryd.pinned (OpenSpec.upto churnTellsSpec)

/-- 'mootbelllaw04.ChurnDraw', WHERE WHAT IT READS IS OF BULK AT MOST 1048576: true; the input reads as it did. -/
def churnDrawUptoRow : OpenClaim := { program := "ytllbeodngnjgbaadoor", sum := "12699e116a6187e9fcc5c81bfd02b34243ce6761359935df6a61bd2592382588", func := "mootbell/mootbelllaw04.ChurnDraw", spec := "churnDraw", named := ["mootbell/churn.sum"], apart := false, laid := [("mootbell/churn.sum", laid_mootbell_churn_sum)], narrowed := true }
def ChurnDrawUptoSaid : Prop := churnDrawUptoRow.holds Tryd.pinned (OpenSpec.upto churnDrawSpec)

end Rows
end Go.Proofs.YtllbeodngnjgbaaDoor
