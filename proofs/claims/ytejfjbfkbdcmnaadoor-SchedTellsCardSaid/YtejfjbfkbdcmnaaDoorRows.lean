/-
  NARROWER THAN 'FOR EVERY INPUT', by the rows' own cells (each row's printed sentence says how): SchedTells: laid · SchedStays: laid · SchedMany: laid · SchedRecord: laid · SchedAll: laid.
  DERIVED. THE GIVEN ROWS OF THIS SEAT. 5 by the template 'for every input the law returns true; each argument reads behind the call as it read before'; 0 by the template 'total and deterministic' (their statements: YtejfjbfkbdcmnaaDoorTotals.lean).
  GIVEN WITH THE SEED: the statements are not yours to turn. If you find one false, say at which input.
  Laid BY PROGRAM, IN A SANDBOX (cutbox-rows.mjs): the forced cells as the released guide's own fill.sh prints them over the translation f8ef955318bb277d… (all of the seat's roots in one cut). By AI agents, Wed Nov 11 2026. No macro, syntax, notation, axiom, sorry.
-/
import Derived.Test.YtejfjbfkbdcmnaaDoorChecked
import GoSem.Claim
import GoSem.ClaimJoined
import GoSem.ClaimMapViews
import Derived.JoinedTies
import Derived.KernelRfl
namespace Go.Proofs.YtejfjbfkbdcmnaaDoor
/- THE CELL 'sum', in the pinned program and in every row, IS THE sha256 OF THE DUMP (.gsa) THAT YtejfjbfkbdcmnaaDoorProg.lean LOADS. Nothing in Lean hashes anything: it is a label: what it is worth is what the hold of that sum in a sandbox is worth. -/
noncomputable def Tryd.pinned : Pinned := { name := "ytejfjbfkbdcmnaadoor", sum := "f8ef955318bb277d4f78b0d7c16e62de2bfbab115c46626a928ca72e1999ae7b", checked := Tryd.checked }
namespace Rows
def none {H : Type} : Left H := { results := [], args := [] }

/- WHAT THE LISTED PACKAGE-LEVEL VARIABLES READ AS WHEN THE CALL BEGINS. Each datum BY PROGRAM (the guide's laid-datum.mjs) off the statement by which the dump's own 'gosem.cut.vars' lays the variable. In a bare row this is a premise. The card (YtejfjbfkbdcmnaaDoorCards.lean) ties it to the program's text. -/
def laid_mootbell_clock_bounds {H : Type} : DataW H := .agg [.agg [.lit (.int .i64 1), .lit (.int .i64 1024)], .agg [.lit (.int .i64 1), .lit (.int .i64 32)], .agg [.lit (.int .i64 1), .lit (.int .i64 8)], .agg [.lit (.int .i64 1), .lit (.int .i64 64)], .agg [.lit (.int .i64 1), .lit (.int .i64 1000)], .agg [.lit (.int .i64 1), .lit (.int .i64 64)], .agg [.lit (.int .i64 0), .lit (.int .i64 90)], .agg [.lit (.int .i64 1), .lit (.int .i64 16)]]
def laid_mootbell_churn_sum {H : Type} : DataW H := .agg [.lit (.int .u64 14695981039346656037), .lit (.int .u64 1099511628211), .lit (.int .u64 14886173955864302971)]

/-- 'mootbelllaw11.SchedTells': WHATEVER THE INPUT: true; the input reads as it did. -/
def schedTellsSpec : ChangeSpec := { name := "schedTells", fn := fun _ => fun
  | [d1, d2, d3, d4, d5, d6, d7, d8] => { results := [.lit (.bool true)], args := [d1, d2, d3, d4, d5, d6, d7, d8] }
  | _ => none }
def schedTellsRow : OpenClaim := { program := "ytejfjbfkbdcmnaadoor", sum := "f8ef955318bb277d4f78b0d7c16e62de2bfbab115c46626a928ca72e1999ae7b", func := "mootbell/mootbelllaw11.SchedTells", spec := "schedTells", inPlace := ["math.Float64frombits"], unfollowed := true, recurses := true, named := ["mootbell/clock.bounds", "mootbell/churn.sum"], apart := false, laid := [("mootbell/clock.bounds", laid_mootbell_clock_bounds), ("mootbell/churn.sum", laid_mootbell_churn_sum)] }
def SchedTellsSaid : Prop := schedTellsRow.holds Tryd.pinned (OpenSpec.ofChange schedTellsSpec)

/-- ITS FALSE NEIGHBOUR: 'it returns false'. Refute it at one input. -/
def schedTellsWrong : ChangeSpec := { name := "schedTells", fn := fun _ => fun
  | [d1, d2, d3, d4, d5, d6, d7, d8] => { results := [.lit (.bool false)], args := [d1, d2, d3, d4, d5, d6, d7, d8] }
  | _ => none }
def SchedTellsWrongFalsely : Prop := schedTellsRow.holds Tryd.pinned (OpenSpec.ofChange schedTellsWrong)

/-- 'mootbelllaw11.SchedStays': WHATEVER THE INPUT: true; the input reads as it did. -/
def schedStaysSpec : ChangeSpec := { name := "schedStays", fn := fun _ => fun
  | [d1, d2, d3, d4, d5, d6] => { results := [.lit (.bool true)], args := [d1, d2, d3, d4, d5, d6] }
  | _ => none }
def schedStaysRow : OpenClaim := { program := "ytejfjbfkbdcmnaadoor", sum := "f8ef955318bb277d4f78b0d7c16e62de2bfbab115c46626a928ca72e1999ae7b", func := "mootbell/mootbelllaw11.SchedStays", spec := "schedStays", inPlace := ["math.Float64frombits"], unfollowed := true, recurses := true, named := ["mootbell/clock.bounds", "mootbell/churn.sum"], apart := false, laid := [("mootbell/clock.bounds", laid_mootbell_clock_bounds), ("mootbell/churn.sum", laid_mootbell_churn_sum)] }
def SchedStaysSaid : Prop := schedStaysRow.holds Tryd.pinned (OpenSpec.ofChange schedStaysSpec)

/-- ITS FALSE NEIGHBOUR: 'it returns false'. Refute it at one input. -/
def schedStaysWrong : ChangeSpec := { name := "schedStays", fn := fun _ => fun
  | [d1, d2, d3, d4, d5, d6] => { results := [.lit (.bool false)], args := [d1, d2, d3, d4, d5, d6] }
  | _ => none }
def SchedStaysWrongFalsely : Prop := schedStaysRow.holds Tryd.pinned (OpenSpec.ofChange schedStaysWrong)

/-- 'mootbelllaw11.SchedMany': WHATEVER THE INPUT: true; the input reads as it did. -/
def schedManySpec : ChangeSpec := { name := "schedMany", fn := fun _ => fun
  | [d1, d2, d3, d4, d5] => { results := [.lit (.bool true)], args := [d1, d2, d3, d4, d5] }
  | _ => none }
def schedManyRow : OpenClaim := { program := "ytejfjbfkbdcmnaadoor", sum := "f8ef955318bb277d4f78b0d7c16e62de2bfbab115c46626a928ca72e1999ae7b", func := "mootbell/mootbelllaw11.SchedMany", spec := "schedMany", inPlace := ["math.Float64frombits"], unfollowed := true, recurses := true, named := ["mootbell/clock.bounds", "mootbell/churn.sum"], apart := false, laid := [("mootbell/clock.bounds", laid_mootbell_clock_bounds), ("mootbell/churn.sum", laid_mootbell_churn_sum)] }
def SchedManySaid : Prop := schedManyRow.holds Tryd.pinned (OpenSpec.ofChange schedManySpec)

/-- ITS FALSE NEIGHBOUR: 'it returns false'. Refute it at one input. -/
def schedManyWrong : ChangeSpec := { name := "schedMany", fn := fun _ => fun
  | [d1, d2, d3, d4, d5] => { results := [.lit (.bool false)], args := [d1, d2, d3, d4, d5] }
  | _ => none }
def SchedManyWrongFalsely : Prop := schedManyRow.holds Tryd.pinned (OpenSpec.ofChange schedManyWrong)

/-- 'mootbelllaw11.SchedRecord': WHATEVER THE INPUT: true; the input reads as it did. -/
def schedRecordSpec : ChangeSpec := { name := "schedRecord", fn := fun _ => fun
  | [d1, d2, d3, d4, d5, d6] => { results := [.lit (.bool true)], args := [d1, d2, d3, d4, d5, d6] }
  | _ => none }
def schedRecordRow : OpenClaim := { program := "ytejfjbfkbdcmnaadoor", sum := "f8ef955318bb277d4f78b0d7c16e62de2bfbab115c46626a928ca72e1999ae7b", func := "mootbell/mootbelllaw11.SchedRecord", spec := "schedRecord", inPlace := ["math.Float64frombits"], unfollowed := true, recurses := true, named := ["mootbell/clock.bounds", "mootbell/churn.sum"], apart := false, laid := [("mootbell/clock.bounds", laid_mootbell_clock_bounds), ("mootbell/churn.sum", laid_mootbell_churn_sum)] }
def SchedRecordSaid : Prop := schedRecordRow.holds Tryd.pinned (OpenSpec.ofChange schedRecordSpec)

/-- ITS FALSE NEIGHBOUR: 'it returns false'. Refute it at one input. -/
def schedRecordWrong : ChangeSpec := { name := "schedRecord", fn := fun _ => fun
  | [d1, d2, d3, d4, d5, d6] => { results := [.lit (.bool false)], args := [d1, d2, d3, d4, d5, d6] }
  | _ => none }
def SchedRecordWrongFalsely : Prop := schedRecordRow.holds Tryd.pinned (OpenSpec.ofChange schedRecordWrong)

/-- 'mootbelllaw11.SchedAll': WHATEVER THE INPUT: true; the input reads as it did. -/
def schedAllSpec : ChangeSpec := { name := "schedAll", fn := fun _ => fun
  | [d1, d2, d3, d4, d5] => { results := [.lit (.bool true)], args := [d1, d2, d3, d4, d5] }
  | _ => none }
def schedAllRow : OpenClaim := { program := "ytejfjbfkbdcmnaadoor", sum := "f8ef955318bb277d4f78b0d7c16e62de2bfbab115c46626a928ca72e1999ae7b", func := "mootbell/mootbelllaw11.SchedAll", spec := "schedAll", inPlace := ["math.Float64frombits"], unfollowed := true, recurses := true, named := ["mootbell/clock.bounds", "mootbell/churn.sum"], apart := false, laid := [("mootbell/clock.bounds", laid_mootbell_clock_bounds), ("mootbell/churn.sum", laid_mootbell_churn_sum)] }
def SchedAllSaid : Prop := schedAllRow.holds Tryd.pinned (OpenSpec.ofChange schedAllSpec)

/-- ITS FALSE NEIGHBOUR: 'it returns false'. Refute it at one input. -/
def schedAllWrong : ChangeSpec := { name := "schedAll", fn := fun _ => fun
  | [d1, d2, d3, d4, d5] => { results := [.lit (.bool false)], args := [d1, d2, d3, d4, d5] }
  | _ => none }
def SchedAllWrongFalsely : Prop := schedAllRow.holds Tryd.pinned (OpenSpec.ofChange schedAllWrong)

/- THE SECOND FORM. 'bulk': how many values and letters a reading holds, each counted each time it is reached (what is shared counts as often as it is met; a slice's spare places count too). A statement '..UptoSaid' is the law's where the arguments, and the package variables that the reading takes, are together of bulk at most 1048576: NARROWER than '..Said'. Prove '..Said' where nothing that the law and all that it calls make is longer than what came in: it says more and counts as full. Else prove '..UptoSaid'. A law counts once. -/
mutual
def uptoBulk {H : Type} : DataW H → Nat
  | .lit (.string bytes) => bytes.length + 1
  | .lit _ => 1
  | .nil => 1
  | .ptr d => uptoBulk d + 1
  | .slice elems spare => uptoBulkAll elems + uptoBulkAll spare + 1
  | .agg parts => uptoBulkAll parts + 1
  | .iface _ d => uptoBulk d + 1
  | .map entries => uptoBulkEntries entries + 1
  | .held _ => 1
def uptoBulkAll {H : Type} : List (DataW H) → Nat
  | [] => 0
  | d :: r => uptoBulk d + uptoBulkAll r
def uptoBulkEntries {H : Type} : List (Lit × DataW H) → Nat
  | [] => 0
  | x :: r => uptoBulkEntry x + uptoBulkEntries r
def uptoBulkEntry {H : Type} : Lit × DataW H → Nat
  | (.string bytes, d) => bytes.length + uptoBulk d + 1
  | (_, d) => uptoBulk d + 1
 end
def uptoSmall : (H : Type) → List (DataW H) → Bool := fun _ ds => decide (uptoBulkAll ds ≤ 1048576)
def OpenSpec.upto (s : _root_.Go.ChangeSpec) : _root_.Go.OpenSpec := { _root_.Go.OpenSpec.ofChange s with cond := some uptoSmall }

/-- 'mootbelllaw11.SchedTells', WHERE WHAT IT READS IS OF BULK AT MOST 1048576: true; the input reads as it did. -/
def schedTellsUptoRow : OpenClaim := { program := "ytejfjbfkbdcmnaadoor", sum := "f8ef955318bb277d4f78b0d7c16e62de2bfbab115c46626a928ca72e1999ae7b", func := "mootbell/mootbelllaw11.SchedTells", spec := "schedTells", inPlace := ["math.Float64frombits"], unfollowed := true, recurses := true, named := ["mootbell/clock.bounds", "mootbell/churn.sum"], apart := false, laid := [("mootbell/clock.bounds", laid_mootbell_clock_bounds), ("mootbell/churn.sum", laid_mootbell_churn_sum)], narrowed := true }
def SchedTellsUptoSaid : Prop := schedTellsUptoRow.holds Tryd.pinned (OpenSpec.upto schedTellsSpec)

/-- 'mootbelllaw11.SchedStays', WHERE WHAT IT READS IS OF BULK AT MOST 1048576: true; the input reads as it did. -/
def schedStaysUptoRow : OpenClaim := { program := "ytejfjbfkbdcmnaadoor", sum := "f8ef955318bb277d4f78b0d7c16e62de2bfbab115c46626a928ca72e1999ae7b", func := "mootbell/mootbelllaw11.SchedStays", spec := "schedStays", inPlace := ["math.Float64frombits"], unfollowed := true, recurses := true, named := ["mootbell/clock.bounds", "mootbell/churn.sum"], apart := false, laid := [("mootbell/clock.bounds", laid_mootbell_clock_bounds), ("mootbell/churn.sum", laid_mootbell_churn_sum)], narrowed := true }
def SchedStaysUptoSaid : Prop := schedStaysUptoRow.holds Tryd.pinned (OpenSpec.upto schedStaysSpec)

/-- 'mootbelllaw11.SchedMany', WHERE WHAT IT READS IS OF BULK AT MOST 1048576: true; the input reads as it did. -/
def schedManyUptoRow : OpenClaim := { program := "ytejfjbfkbdcmnaadoor", sum := "f8ef955318bb277d4f78b0d7c16e62de2bfbab115c46626a928ca72e1999ae7b", func := "mootbell/mootbelllaw11.SchedMany", spec := "schedMany", inPlace := ["math.Float64frombits"], unfollowed := true, recurses := true, named := ["mootbell/clock.bounds", "mootbell/churn.sum"], apart := false, laid := [("mootbell/clock.bounds", laid_mootbell_clock_bounds), ("mootbell/churn.sum", laid_mootbell_churn_sum)], narrowed := true }
def SchedManyUptoSaid : Prop := schedManyUptoRow.holds Tryd.pinned (OpenSpec.upto schedManySpec)

/-- 'mootbelllaw11.SchedRecord', WHERE WHAT IT READS IS OF BULK AT MOST 1048576: true; the input reads as it did. -/
def schedRecordUptoRow : OpenClaim := { program := "ytejfjbfkbdcmnaadoor", sum := "f8ef955318bb277d4f78b0d7c16e62de2bfbab115c46626a928ca72e1999ae7b", func := "mootbell/mootbelllaw11.SchedRecord", spec := "schedRecord", inPlace := ["math.Float64frombits"], unfollowed := true, recurses := true, named := ["mootbell/clock.bounds", "mootbell/churn.sum"], apart := false, laid := [("mootbell/clock.bounds", laid_mootbell_clock_bounds), ("mootbell/churn.sum", laid_mootbell_churn_sum)], narrowed := true }
def SchedRecordUptoSaid : Prop := schedRecordUptoRow.holds Tryd.pinned (OpenSpec.upto schedRecordSpec)

/-- 'mootbelllaw11.SchedAll', WHERE WHAT IT READS IS OF BULK AT MOST 1048576: true; the input reads as it did. -/
def schedAllUptoRow : OpenClaim := { program := "ytejfjbfkbdcmnaadoor", sum := "f8ef955318bb277d4f78b0d7c16e62de2bfbab115c46626a928ca72e1999ae7b", func := "mootbell/mootbelllaw11.SchedAll", spec := "schedAll", inPlace := ["math.Float64frombits"], unfollowed := true, recurses := true, named := ["mootbell/clock.bounds", "mootbell/churn.sum"], apart := false, laid := [("mootbell/clock.bounds", laid_mootbell_clock_bounds), ("mootbell/churn.sum", laid_mootbell_churn_sum)], narrowed := true }
def SchedAllUptoSaid : Prop := schedAllUptoRow.holds Tryd.pinned (OpenSpec.upto schedAllSpec)

end Rows
end Go.Proofs.YtejfjbfkbdcmnaaDoor
