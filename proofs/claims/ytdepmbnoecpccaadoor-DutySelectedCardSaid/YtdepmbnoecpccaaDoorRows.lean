/-
  NARROWER THAN 'FOR EVERY INPUT', by the rows' own cells (each row's printed sentence says how): DutyTells: laid · DutyWhere: laid · DutyParts: laid · DutySubnet: laid · DutySelected: laid · DutyAll: laid.
  DERIVED. THE GIVEN ROWS OF THIS SEAT. 6 by the template 'for every input the law returns true; each argument reads behind the call as it read before'; 0 by the template 'total and deterministic' (their statements: YtdepmbnoecpccaaDoorTotals.lean).
  GIVEN WITH THE SEED: the statements are not yours to turn. If you find one false, say at which input.
  Laid BY PROGRAM, IN A SANDBOX (cutbox-rows.mjs): the forced cells as the released guide's own fill.sh prints them over the translation 9dff92d3f645afd4… (all of the seat's roots in one cut). By AI agents, Wed Nov 11 2026. No macro, syntax, notation, axiom, sorry.
-/
import Derived.Test.YtdepmbnoecpccaaDoorChecked
import GoSem.Claim
import GoSem.ClaimJoined
import GoSem.ClaimMapViews
import Derived.JoinedTies
import Derived.KernelRfl
namespace Go.Proofs.YtdepmbnoecpccaaDoor
/- THE CELL 'sum', in the pinned program and in every row, IS THE sha256 OF THE DUMP (.gsa) THAT YtdepmbnoecpccaaDoorProg.lean LOADS. Nothing in Lean hashes anything: it is a label: what it is worth is what the hold of that sum in a sandbox is worth. -/
noncomputable def Tryd.pinned : Pinned := { name := "ytdepmbnoecpccaadoor", sum := "9dff92d3f645afd4e364021286983f6dba3b50cdd63dcc74ca2d72c64b940f3a", checked := Tryd.checked }
namespace Rows
def none {H : Type} : Left H := { results := [], args := [] }

/- WHAT THE LISTED PACKAGE-LEVEL VARIABLES READ AS WHEN THE CALL BEGINS. Each datum BY PROGRAM (the guide's laid-datum.mjs) off the statement by which the dump's own 'gosem.cut.vars' lays the variable. In a bare row this is a premise. The card (YtdepmbnoecpccaaDoorCards.lean) ties it to the program's text. -/
def laid_mootbell_clock_bounds {H : Type} : DataW H := .agg [.agg [.lit (.int .i64 1), .lit (.int .i64 1024)], .agg [.lit (.int .i64 1), .lit (.int .i64 32)], .agg [.lit (.int .i64 1), .lit (.int .i64 8)], .agg [.lit (.int .i64 1), .lit (.int .i64 64)], .agg [.lit (.int .i64 1), .lit (.int .i64 1000)], .agg [.lit (.int .i64 1), .lit (.int .i64 64)], .agg [.lit (.int .i64 0), .lit (.int .i64 90)], .agg [.lit (.int .i64 1), .lit (.int .i64 16)]]
def laid_mootbell_churn_sum {H : Type} : DataW H := .agg [.lit (.int .u64 14695981039346656037), .lit (.int .u64 1099511628211), .lit (.int .u64 14886173955864302971)]

/-- 'mootbelllaw10.DutyTells': WHATEVER THE INPUT: true; the input reads as it did. -/
def dutyTellsSpec : ChangeSpec := { name := "dutyTells", fn := fun _ => fun
  | [d1, d2, d3, d4, d5, d6, d7, d8] => { results := [.lit (.bool true)], args := [d1, d2, d3, d4, d5, d6, d7, d8] }
  | _ => none }
def dutyTellsRow : OpenClaim := { program := "ytdepmbnoecpccaadoor", sum := "9dff92d3f645afd4e364021286983f6dba3b50cdd63dcc74ca2d72c64b940f3a", func := "mootbell/mootbelllaw10.DutyTells", spec := "dutyTells", unfollowed := true, recurses := true, named := ["mootbell/clock.bounds", "mootbell/churn.sum"], apart := false, laid := [("mootbell/clock.bounds", laid_mootbell_clock_bounds), ("mootbell/churn.sum", laid_mootbell_churn_sum)] }
def DutyTellsSaid : Prop := dutyTellsRow.holds Tryd.pinned (OpenSpec.ofChange dutyTellsSpec)

/-- ITS FALSE NEIGHBOUR: 'it returns false'. Refute it at one input. -/
def dutyTellsWrong : ChangeSpec := { name := "dutyTells", fn := fun _ => fun
  | [d1, d2, d3, d4, d5, d6, d7, d8] => { results := [.lit (.bool false)], args := [d1, d2, d3, d4, d5, d6, d7, d8] }
  | _ => none }
def DutyTellsWrongFalsely : Prop := dutyTellsRow.holds Tryd.pinned (OpenSpec.ofChange dutyTellsWrong)

/-- 'mootbelllaw10.DutyWhere': WHATEVER THE INPUT: true; the input reads as it did. -/
def dutyWhereSpec : ChangeSpec := { name := "dutyWhere", fn := fun _ => fun
  | [d1, d2, d3, d4, d5, d6] => { results := [.lit (.bool true)], args := [d1, d2, d3, d4, d5, d6] }
  | _ => none }
def dutyWhereRow : OpenClaim := { program := "ytdepmbnoecpccaadoor", sum := "9dff92d3f645afd4e364021286983f6dba3b50cdd63dcc74ca2d72c64b940f3a", func := "mootbell/mootbelllaw10.DutyWhere", spec := "dutyWhere", unfollowed := true, recurses := true, named := ["mootbell/clock.bounds", "mootbell/churn.sum"], apart := false, laid := [("mootbell/clock.bounds", laid_mootbell_clock_bounds), ("mootbell/churn.sum", laid_mootbell_churn_sum)] }
def DutyWhereSaid : Prop := dutyWhereRow.holds Tryd.pinned (OpenSpec.ofChange dutyWhereSpec)

/-- ITS FALSE NEIGHBOUR: 'it returns false'. Refute it at one input. -/
def dutyWhereWrong : ChangeSpec := { name := "dutyWhere", fn := fun _ => fun
  | [d1, d2, d3, d4, d5, d6] => { results := [.lit (.bool false)], args := [d1, d2, d3, d4, d5, d6] }
  | _ => none }
def DutyWhereWrongFalsely : Prop := dutyWhereRow.holds Tryd.pinned (OpenSpec.ofChange dutyWhereWrong)

/-- 'mootbelllaw10.DutyParts': WHATEVER THE INPUT: true; the input reads as it did. -/
def dutyPartsSpec : ChangeSpec := { name := "dutyParts", fn := fun _ => fun
  | [d1, d2, d3] => { results := [.lit (.bool true)], args := [d1, d2, d3] }
  | _ => none }
def dutyPartsRow : OpenClaim := { program := "ytdepmbnoecpccaadoor", sum := "9dff92d3f645afd4e364021286983f6dba3b50cdd63dcc74ca2d72c64b940f3a", func := "mootbell/mootbelllaw10.DutyParts", spec := "dutyParts", unfollowed := true, recurses := true, named := ["mootbell/clock.bounds", "mootbell/churn.sum"], apart := false, laid := [("mootbell/clock.bounds", laid_mootbell_clock_bounds), ("mootbell/churn.sum", laid_mootbell_churn_sum)] }
def DutyPartsSaid : Prop := dutyPartsRow.holds Tryd.pinned (OpenSpec.ofChange dutyPartsSpec)

/-- ITS FALSE NEIGHBOUR: 'it returns false'. Refute it at one input. -/
def dutyPartsWrong : ChangeSpec := { name := "dutyParts", fn := fun _ => fun
  | [d1, d2, d3] => { results := [.lit (.bool false)], args := [d1, d2, d3] }
  | _ => none }
def DutyPartsWrongFalsely : Prop := dutyPartsRow.holds Tryd.pinned (OpenSpec.ofChange dutyPartsWrong)

/-- 'mootbelllaw10.DutySubnet': WHATEVER THE INPUT: true; the input reads as it did. -/
def dutySubnetSpec : ChangeSpec := { name := "dutySubnet", fn := fun _ => fun
  | [d1, d2, d3] => { results := [.lit (.bool true)], args := [d1, d2, d3] }
  | _ => none }
def dutySubnetRow : OpenClaim := { program := "ytdepmbnoecpccaadoor", sum := "9dff92d3f645afd4e364021286983f6dba3b50cdd63dcc74ca2d72c64b940f3a", func := "mootbell/mootbelllaw10.DutySubnet", spec := "dutySubnet", unfollowed := true, recurses := true, named := ["mootbell/clock.bounds", "mootbell/churn.sum"], apart := false, laid := [("mootbell/clock.bounds", laid_mootbell_clock_bounds), ("mootbell/churn.sum", laid_mootbell_churn_sum)] }
def DutySubnetSaid : Prop := dutySubnetRow.holds Tryd.pinned (OpenSpec.ofChange dutySubnetSpec)

/-- ITS FALSE NEIGHBOUR: 'it returns false'. Refute it at one input. -/
def dutySubnetWrong : ChangeSpec := { name := "dutySubnet", fn := fun _ => fun
  | [d1, d2, d3] => { results := [.lit (.bool false)], args := [d1, d2, d3] }
  | _ => none }
def DutySubnetWrongFalsely : Prop := dutySubnetRow.holds Tryd.pinned (OpenSpec.ofChange dutySubnetWrong)

/-- 'mootbelllaw10.DutySelected': WHATEVER THE INPUT: true; the input reads as it did. -/
def dutySelectedSpec : ChangeSpec := { name := "dutySelected", fn := fun _ => fun
  | [d1, d2, d3, d4] => { results := [.lit (.bool true)], args := [d1, d2, d3, d4] }
  | _ => none }
def dutySelectedRow : OpenClaim := { program := "ytdepmbnoecpccaadoor", sum := "9dff92d3f645afd4e364021286983f6dba3b50cdd63dcc74ca2d72c64b940f3a", func := "mootbell/mootbelllaw10.DutySelected", spec := "dutySelected", unfollowed := true, recurses := true, named := ["mootbell/clock.bounds", "mootbell/churn.sum"], apart := false, laid := [("mootbell/clock.bounds", laid_mootbell_clock_bounds), ("mootbell/churn.sum", laid_mootbell_churn_sum)] }
def DutySelectedSaid : Prop := dutySelectedRow.holds Tryd.pinned (OpenSpec.ofChange dutySelectedSpec)

/-- ITS FALSE NEIGHBOUR: 'it returns false'. Refute it at one input. -/
def dutySelectedWrong : ChangeSpec := { name := "dutySelected", fn := fun _ => fun
  | [d1, d2, d3, d4] => { results := [.lit (.bool false)], args := [d1, d2, d3, d4] }
  | _ => none }
def DutySelectedWrongFalsely : Prop := dutySelectedRow.holds Tryd.pinned (OpenSpec.ofChange dutySelectedWrong)

/-- 'mootbelllaw10.DutyAll': WHATEVER THE INPUT: true; the input reads as it did. -/
def dutyAllSpec : ChangeSpec := { name := "dutyAll", fn := fun _ => fun
  | [d1, d2, d3] => { results := [.lit (.bool true)], args := [d1, d2, d3] }
  | _ => none }
def dutyAllRow : OpenClaim := { program := "ytdepmbnoecpccaadoor", sum := "9dff92d3f645afd4e364021286983f6dba3b50cdd63dcc74ca2d72c64b940f3a", func := "mootbell/mootbelllaw10.DutyAll", spec := "dutyAll", unfollowed := true, recurses := true, named := ["mootbell/clock.bounds", "mootbell/churn.sum"], apart := false, laid := [("mootbell/clock.bounds", laid_mootbell_clock_bounds), ("mootbell/churn.sum", laid_mootbell_churn_sum)] }
def DutyAllSaid : Prop := dutyAllRow.holds Tryd.pinned (OpenSpec.ofChange dutyAllSpec)

/-- ITS FALSE NEIGHBOUR: 'it returns false'. Refute it at one input. -/
def dutyAllWrong : ChangeSpec := { name := "dutyAll", fn := fun _ => fun
  | [d1, d2, d3] => { results := [.lit (.bool false)], args := [d1, d2, d3] }
  | _ => none }
def DutyAllWrongFalsely : Prop := dutyAllRow.holds Tryd.pinned (OpenSpec.ofChange dutyAllWrong)

/- THE SECOND FORM. 'bulk': how many values and letters a reading holds, each counted each time it is reached (what is shared counts as often as it is met; a slice's spare places count too). A statement '..UptoSaid' is the law's where the arguments, and the package variables that the reading takes, are together of bulk at most 1048576: NARROWER than '..Said'. Prove '..Said' where nothing that the law and all that it calls make is longer than what came in: it says more and counts as full. Else prove '..UptoSaid'. A law counts once. -/
mutual
def uptoBulk {H : Type} : DataW H → Nat
  | .lit (.string bytes) => bytes.length + 1
  | .lit _ => 1
  | .nil => 1
  | .ptr d => uptoBulk d + 1
  | .slice elems spare => uptoBulkAll elems + uptoBulkAll spare + 1
  | .agg parts => uptoBulkAll parts + 1
  | .iface _ d => uptoBulk d + 1
  | .map entries => uptoBulkEntries entries + 1
  | .held _ => 1
def uptoBulkAll {H : Type} : List (DataW H) → Nat
  | [] => 0
  | d :: r => uptoBulk d + uptoBulkAll r
def uptoBulkEntries {H : Type} : List (Lit × DataW H) → Nat
  | [] => 0
  | x :: r => uptoBulkEntry x + uptoBulkEntries r
def uptoBulkEntry {H : Type} : Lit × DataW H → Nat
  | (.string bytes, d) => bytes.length + uptoBulk d + 1
  | (_, d) => uptoBulk d + 1
 end
def uptoSmall : (H : Type) → List (DataW H) → Bool := fun _ ds => decide (uptoBulkAll ds ≤ 1048576)
def OpenSpec.upto (s : _root_.Go.ChangeSpec) : _root_.Go.OpenSpec := { _root_.Go.OpenSpec.ofChange s with cond := some uptoSmall }

/-- 'mootbelllaw10.DutyTells', WHERE WHAT IT READS IS OF BULK AT MOST 1048576: true; the input reads as it did. -/
def dutyTellsUptoRow : OpenClaim := { program := "ytdepmbnoecpccaadoor", sum := "9dff92d3f645afd4e364021286983f6dba3b50cdd63dcc74ca2d72c64b940f3a", func := "mootbell/mootbelllaw10.DutyTells", spec := "dutyTells", unfollowed := true, recurses := true, named := ["mootbell/clock.bounds", "mootbell/churn.sum"], apart := false, laid := [("mootbell/clock.bounds", laid_mootbell_clock_bounds), ("mootbell/churn.sum", laid_mootbell_churn_sum)], narrowed := true }
def DutyTellsUptoSaid : Prop := dutyTellsUptoRow.holds Tryd.pinned (OpenSpec.upto dutyTellsSpec)

/-- 'mootbelllaw10.DutyWhere', WHERE WHAT IT READS IS OF BULK AT MOST 1048576: true; the input reads as it did. -/
def dutyWhereUptoRow : OpenClaim := { program := "ytdepmbnoecpccaadoor", sum := "9dff92d3f645afd4e364021286983f6dba3b50cdd63dcc74ca2d72c64b940f3a", func := "mootbell/mootbelllaw10.DutyWhere", spec := "dutyWhere", unfollowed := true, recurses := true, named := ["mootbell/clock.bounds", "mootbell/churn.sum"], apart := false, laid := [("mootbell/clock.bounds", laid_mootbell_clock_bounds), ("mootbell/churn.sum", laid_mootbell_churn_sum)], narrowed := true }
def DutyWhereUptoSaid : Prop := dutyWhereUptoRow.holds Tryd.pinned (OpenSpec.upto dutyWhereSpec)

/-- 'mootbelllaw10.DutyParts', WHERE WHAT IT READS IS OF BULK AT MOST 1048576: true; the input reads as it did. -/
def dutyPartsUptoRow : OpenClaim := { program := "ytdepmbnoecpccaadoor", sum := "9dff92d3f645afd4e364021286983f6dba3b50cdd63dcc74ca2d72c64b940f3a", func := "mootbell/mootbelllaw10.DutyParts", spec := "dutyParts", unfollowed := true, recurses := true, named := ["mootbell/clock.bounds", "mootbell/churn.sum"], apart := false, laid := [("mootbell/clock.bounds", laid_mootbell_clock_bounds), ("mootbell/churn.sum", laid_mootbell_churn_sum)], narrowed := true }
def DutyPartsUptoSaid : Prop := dutyPartsUptoRow.holds Tryd.pinned (OpenSpec.upto dutyPartsSpec)

/-- 'mootbelllaw10.DutySubnet', WHERE WHAT IT READS IS OF BULK AT MOST 1048576: true; the input reads as it did. -/
def dutySubnetUptoRow : OpenClaim := { program := "ytdepmbnoecpccaadoor", sum := "9dff92d3f645afd4e364021286983f6dba3b50cdd63dcc74ca2d72c64b940f3a", func := "mootbell/mootbelllaw10.DutySubnet", spec := "dutySubnet", unfollowed := true, recurses := true, named := ["mootbell/clock.bounds", "mootbell/churn.sum"], apart := false, laid := [("mootbell/clock.bounds", laid_mootbell_clock_bounds), ("mootbell/churn.sum", laid_mootbell_churn_sum)], narrowed := true }
def DutySubnetUptoSaid : Prop := dutySubnetUptoRow.holds Tryd.pinned (OpenSpec.upto dutySubnetSpec)

/-- 'mootbelllaw10.DutySelected', WHERE WHAT IT READS IS OF BULK AT MOST 1048576: true; the input reads as it did. -/
def dutySelectedUptoRow : OpenClaim := { program := "ytdepmbnoecpccaadoor", sum := "9dff92d3f645afd4e364021286983f6dba3b50cdd63dcc74ca2d72c64b940f3a", func := "mootbell/mootbelllaw10.DutySelected", spec := "dutySelected", unfollowed := true, recurses := true, named := ["mootbell/clock.bounds", "mootbell/churn.sum"], apart := false, laid := [("mootbell/clock.bounds", laid_mootbell_clock_bounds), ("mootbell/churn.sum", laid_mootbell_churn_sum)], narrowed := true }
def DutySelectedUptoSaid : Prop := dutySelectedUptoRow.holds Tryd.pinned (OpenSpec.upto dutySelectedSpec)

/-- 'mootbelllaw10.DutyAll', WHERE WHAT IT READS IS OF BULK AT MOST 1048576: true; the input reads as it did. -/
def dutyAllUptoRow : OpenClaim := { program := "ytdepmbnoecpccaadoor", sum := "9dff92d3f645afd4e364021286983f6dba3b50cdd63dcc74ca2d72c64b940f3a", func := "mootbell/mootbelllaw10.DutyAll", spec := "dutyAll", unfollowed := true, recurses := true, named := ["mootbell/clock.bounds", "mootbell/churn.sum"], apart := false, laid := [("mootbell/clock.bounds", laid_mootbell_clock_bounds), ("mootbell/churn.sum", laid_mootbell_churn_sum)], narrowed := true }
def DutyAllUptoSaid : Prop := dutyAllUptoRow.holds Tryd.pinned (OpenSpec.upto dutyAllSpec)

end Rows
end Go.Proofs.YtdepmbnoecpccaaDoor
