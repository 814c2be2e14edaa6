/-
  No cell of these rows narrows 'for every input' (looked for: loops, veiled, ifaces, maps, wideKeys, modest, calm, conditions, laid).
  DERIVED. THE GIVEN ROWS OF THIS SEAT. 5 by the template 'for every input the law returns true; each argument reads behind the call as it read before'; 0 by the template 'total and deterministic' (their statements: YtdhgneindanbeaaTotals.lean).
  GIVEN WITH THE SEED: the statements are not yours to turn. If you find one false, say at which input.
  Laid BY PROGRAM, IN A SANDBOX (cutbox-rows.mjs): the forced cells as the released guide's own fill.sh prints them over the translation 240ffd1daae8936b… (all of the seat's roots in one cut). By AI agents, Wed Nov 11 2026. No macro, syntax, notation, axiom, sorry.
-/
import Derived.Test.YtdhgneindanbeaaChecked
import GoSem.Claim
import GoSem.ClaimJoined
import GoSem.ClaimMapViews
import Derived.JoinedTies
import Derived.KernelRfl
namespace Go.Proofs.Ytdhgneindanbeaa
/- THE CELL 'sum', in the pinned program and in every row, IS THE sha256 OF THE DUMP (.gsa) THAT YtdhgneindanbeaaProg.lean LOADS. Nothing in Lean hashes anything: it is a label: what it is worth is what the hold of that sum in a sandbox is worth. -/
noncomputable def Try.pinned : Pinned := { name := "ytdhgneindanbeaa", sum := "240ffd1daae8936bd45a6766cf433d802847f81b337ad9cc23a4d5b2e7fc9eb4", checked := Try.checked }
namespace Rows
def none {H : Type} : Left H := { results := [], args := [] }

/-- 'mootbelllaw18.ScoreTells': WHATEVER THE INPUT: true; the input reads as it did. -/
def scoreTellsSpec : ChangeSpec := { name := "scoreTells", fn := fun _ => fun
  | [d1, d2, d3, d4, d5, d6, d7] => { results := [.lit (.bool true)], args := [d1, d2, d3, d4, d5, d6, d7] }
  | _ => none }
def scoreTellsRow : OpenClaim := { program := "ytdhgneindanbeaa", sum := "240ffd1daae8936bd45a6766cf433d802847f81b337ad9cc23a4d5b2e7fc9eb4", func := "mootbell/mootbelllaw18.ScoreTells", spec := "scoreTells", apart := false }
def ScoreTellsSaid : Prop := scoreTellsRow.holds Try.pinned (OpenSpec.ofChange scoreTellsSpec)

/-- ITS FALSE NEIGHBOUR: 'it returns false'. Refute it at one input. -/
def scoreTellsWrong : ChangeSpec := { name := "scoreTells", fn := fun _ => fun
  | [d1, d2, d3, d4, d5, d6, d7] => { results := [.lit (.bool false)], args := [d1, d2, d3, d4, d5, d6, d7] }
  | _ => none }
def ScoreTellsWrongFalsely : Prop := scoreTellsRow.holds Try.pinned (OpenSpec.ofChange scoreTellsWrong)

/-- 'mootbelllaw18.ScoreSums': WHATEVER THE INPUT: true; the input reads as it did. -/
def scoreSumsSpec : ChangeSpec := { name := "scoreSums", fn := fun _ => fun
  | [d1, d2, d3] => { results := [.lit (.bool true)], args := [d1, d2, d3] }
  | _ => none }
def scoreSumsRow : OpenClaim := { program := "ytdhgneindanbeaa", sum := "240ffd1daae8936bd45a6766cf433d802847f81b337ad9cc23a4d5b2e7fc9eb4", func := "mootbell/mootbelllaw18.ScoreSums", spec := "scoreSums", apart := false }
def ScoreSumsSaid : Prop := scoreSumsRow.holds Try.pinned (OpenSpec.ofChange scoreSumsSpec)

/-- ITS FALSE NEIGHBOUR: 'it returns false'. Refute it at one input. -/
def scoreSumsWrong : ChangeSpec := { name := "scoreSums", fn := fun _ => fun
  | [d1, d2, d3] => { results := [.lit (.bool false)], args := [d1, d2, d3] }
  | _ => none }
def ScoreSumsWrongFalsely : Prop := scoreSumsRow.holds Try.pinned (OpenSpec.ofChange scoreSumsWrong)

/-- 'mootbelllaw18.ScoreBans': WHATEVER THE INPUT: true; the input reads as it did. -/
def scoreBansSpec : ChangeSpec := { name := "scoreBans", fn := fun _ => fun
  | [d1, d2, d3, d4] => { results := [.lit (.bool true)], args := [d1, d2, d3, d4] }
  | _ => none }
def scoreBansRow : OpenClaim := { program := "ytdhgneindanbeaa", sum := "240ffd1daae8936bd45a6766cf433d802847f81b337ad9cc23a4d5b2e7fc9eb4", func := "mootbell/mootbelllaw18.ScoreBans", spec := "scoreBans", apart := false }
def ScoreBansSaid : Prop := scoreBansRow.holds Try.pinned (OpenSpec.ofChange scoreBansSpec)

/-- ITS FALSE NEIGHBOUR: 'it returns false'. Refute it at one input. -/
def scoreBansWrong : ChangeSpec := { name := "scoreBans", fn := fun _ => fun
  | [d1, d2, d3, d4] => { results := [.lit (.bool false)], args := [d1, d2, d3, d4] }
  | _ => none }
def ScoreBansWrongFalsely : Prop := scoreBansRow.holds Try.pinned (OpenSpec.ofChange scoreBansWrong)

/-- 'mootbelllaw18.ScoreDecay': WHATEVER THE INPUT: true; the input reads as it did. -/
def scoreDecaySpec : ChangeSpec := { name := "scoreDecay", fn := fun _ => fun
  | [d1, d2, d3] => { results := [.lit (.bool true)], args := [d1, d2, d3] }
  | _ => none }
def scoreDecayRow : OpenClaim := { program := "ytdhgneindanbeaa", sum := "240ffd1daae8936bd45a6766cf433d802847f81b337ad9cc23a4d5b2e7fc9eb4", func := "mootbell/mootbelllaw18.ScoreDecay", spec := "scoreDecay", apart := false }
def ScoreDecaySaid : Prop := scoreDecayRow.holds Try.pinned (OpenSpec.ofChange scoreDecaySpec)

/-- ITS FALSE NEIGHBOUR: 'it returns false'. Refute it at one input. -/
def scoreDecayWrong : ChangeSpec := { name := "scoreDecay", fn := fun _ => fun
  | [d1, d2, d3] => { results := [.lit (.bool false)], args := [d1, d2, d3] }
  | _ => none }
def ScoreDecayWrongFalsely : Prop := scoreDecayRow.holds Try.pinned (OpenSpec.ofChange scoreDecayWrong)

/-- 'mootbelllaw18.ScoreLimits': WHATEVER THE INPUT: true; the input reads as it did. -/
def scoreLimitsSpec : ChangeSpec := { name := "scoreLimits", fn := fun _ => fun
  | [d1, d2, d3, d4, d5, d6] => { results := [.lit (.bool true)], args := [d1, d2, d3, d4, d5, d6] }
  | _ => none }
def scoreLimitsRow : OpenClaim := { program := "ytdhgneindanbeaa", sum := "240ffd1daae8936bd45a6766cf433d802847f81b337ad9cc23a4d5b2e7fc9eb4", func := "mootbell/mootbelllaw18.ScoreLimits", spec := "scoreLimits", apart := false }
def ScoreLimitsSaid : Prop := scoreLimitsRow.holds Try.pinned (OpenSpec.ofChange scoreLimitsSpec)

/-- ITS FALSE NEIGHBOUR: 'it returns false'. Refute it at one input. -/
def scoreLimitsWrong : ChangeSpec := { name := "scoreLimits", fn := fun _ => fun
  | [d1, d2, d3, d4, d5, d6] => { results := [.lit (.bool false)], args := [d1, d2, d3, d4, d5, d6] }
  | _ => none }
def ScoreLimitsWrongFalsely : Prop := scoreLimitsRow.holds Try.pinned (OpenSpec.ofChange scoreLimitsWrong)

/- THE SECOND FORM. 'bulk': how many values and letters a reading holds, each counted each time it is reached (what is shared counts as often as it is met; a slice's spare places count too). A statement '..UptoSaid' is the law's where the arguments, and the package variables that the reading takes, are together of bulk at most 1048576: NARROWER than '..Said'. Prove '..Said' where nothing that the law and all that it calls make is longer than what came in: it says more and counts as full. Else prove '..UptoSaid'. A law counts once. -/
mutual
def uptoBulk {H : Type} : DataW H → Nat
  | .lit (.string bytes) => bytes.length + 1
  | .lit _ => 1
  | .nil => 1
  | .ptr d => uptoBulk d + 1
  | .slice elems spare => uptoBulkAll elems + uptoBulkAll spare + 1
  | .agg parts => uptoBulkAll parts + 1
  | .iface _ d => uptoBulk d + 1
  | .map entries => uptoBulkEntries entries + 1
  | .held _ => 1
def uptoBulkAll {H : Type} : List (DataW H) → Nat
  | [] => 0
  | d :: r => uptoBulk d + uptoBulkAll r
def uptoBulkEntries {H : Type} : List (Lit × DataW H) → Nat
  | [] => 0
  | x :: r => uptoBulkEntry x + uptoBulkEntries r
def uptoBulkEntry {H : Type} : Lit × DataW H → Nat
  | (.string bytes, d) => bytes.length + uptoBulk d + 1
  | (_, d) => uptoBulk d + 1
 end
def uptoSmall : (H : Type) → List (DataW H) → Bool := fun _ ds => decide (uptoBulkAll ds ≤ 1048576)
def OpenSpec.upto (s : _root_.Go.ChangeSpec) : _root_.Go.OpenSpec := { _root_.Go.OpenSpec.ofChange s with cond := some uptoSmall }

/-- 'mootbelllaw18.ScoreTells', WHERE WHAT IT READS IS OF BULK AT MOST 1048576: true; the input reads as it did. -/
def scoreTellsUptoRow : OpenClaim := { program := "ytdhgneindanbeaa", sum := "240ffd1daae8936bd45a6766cf433d802847f81b337ad9cc23a4d5b2e7fc9eb4", func := "mootbell/mootbelllaw18.ScoreTells", spec := "scoreTells", apart := false, narrowed := true }
def ScoreTellsUptoSaid : Prop := scoreTellsUptoRow.holds Try.pinned (OpenSpec.upto scoreTellsSpec)

/-- 'mootbelllaw18.ScoreSums', WHERE WHAT IT READS IS OF BULK AT MOST 1048576: true; the input reads as it did. -/
def scoreSumsUptoRow : OpenClaim := { program := "ytdhgneindanbeaa", sum := "240ffd1daae8936bd45a6766cf433d802847f81b337ad9cc23a4d5b2e7fc9eb4", func := "mootbell/mootbelllaw18.ScoreSums", spec := "scoreSums", apart := false, narrowed := true }
def ScoreSumsUptoSaid : Prop := scoreSumsUptoRow.holds Try.pinned (OpenSpec.upto scoreSumsSpec)

/-- 'mootbelllaw18.ScoreBans', WHERE WHAT IT READS IS OF BULK AT MOST 1048576: true; the input reads as it did. -/
def scoreBansUptoRow : OpenClaim := { program := "ytdhgneindanbeaa", sum := "240ffd1daae8936bd45a6766cf433d802847f81b337ad9cc23a4d5b2e7fc9eb4", func := "mootbell/mootbelllaw18.ScoreBans", spec := "scoreBans", apart := false, narrowed := true }
def ScoreBansUptoSaid : Prop := scoreBansUptoRow.holds Try.pinned (OpenSpec.upto scoreBansSpec)

/-- 'mootbelllaw18.ScoreDecay', WHERE WHAT IT READS IS OF BULK AT MOST 1048576: true; the input reads as it did. -/
def scoreDecayUptoRow : OpenClaim := { program := "ytdhgneindanbeaa", sum := "240ffd1daae8936bd45a6766cf433d802847f81b337ad9cc23a4d5b2e7fc9eb4", func := "mootbell/mootbelllaw18.ScoreDecay", spec := "scoreDecay", apart := false, narrowed := true }
def ScoreDecayUptoSaid : Prop := scoreDecayUptoRow.holds Try.pinned (OpenSpec.upto scoreDecaySpec)

/-- 'mootbelllaw18.ScoreLimits', WHERE WHAT IT READS IS OF BULK AT MOST 1048576: true; the input reads as it did. -/
def scoreLimitsUptoRow : OpenClaim := { program := "ytdhgneindanbeaa", sum := "240ffd1daae8936bd45a6766cf433d802847f81b337ad9cc23a4d5b2e7fc9eb4", func := "mootbell/mootbelllaw18.ScoreLimits", spec := "scoreLimits", apart := false, narrowed := true }
def ScoreLimitsUptoSaid : Prop := scoreLimitsUptoRow.holds Try.pinned (OpenSpec.upto scoreLimitsSpec)

end Rows
end Go.Proofs.Ytdhgneindanbeaa
