/-
  No cell of these rows narrows 'for every input' (looked for: loops, veiled, ifaces, maps, wideKeys, modest, calm, conditions, laid).
  DERIVED. THE GIVEN ROWS OF THIS SEAT. 11 by the template 'for every input the law returns true; each argument reads behind the call as it read before'; 0 by the template 'total and deterministic' (their statements: YtflpelbhalndcaaTotals.lean).
  GIVEN WITH THE SEED: the statements are not yours to turn. If you find one false, say at which input.
  Laid BY PROGRAM, IN A SANDBOX (cutbox-rows.mjs): the forced cells as the released guide's own fill.sh prints them over the translation 11a3b4c9f2655f7b… (all of the seat's roots in one cut). By AI agents, Wed Nov 11 2026. No macro, syntax, notation, axiom, sorry.
-/
import Derived.Test.YtflpelbhalndcaaChecked
import GoSem.Claim
import GoSem.ClaimJoined
import GoSem.ClaimMapViews
import Derived.JoinedTies
import Derived.KernelRfl
namespace Go.Proofs.Ytflpelbhalndcaa
/- THE CELL 'sum', in the pinned program and in every row, IS THE sha256 OF THE DUMP (.gsa) THAT YtflpelbhalndcaaProg.lean LOADS. Nothing in Lean hashes anything: it is a label: what it is worth is what the hold of that sum in a sandbox is worth. -/
noncomputable def Try.pinned : Pinned := { name := "ytflpelbhalndcaa", sum := "11a3b4c9f2655f7b58dcb7f0c576f2f53e54240406256357469aa51ed6211d97", checked := Try.checked }
namespace Rows
def none {H : Type} : Left H := { results := [], args := [] }

/-- 'dataflowlaw28.VpathMatch': WHATEVER THE INPUT: true; the input reads as it did. -/
def vpathMatchSpec : ChangeSpec := { name := "vpathMatch", fn := fun _ => fun
  | [d1, d2, d3] => { results := [.lit (.bool true)], args := [d1, d2, d3] }
  | _ => none }
def vpathMatchRow : OpenClaim := { program := "ytflpelbhalndcaa", sum := "11a3b4c9f2655f7b58dcb7f0c576f2f53e54240406256357469aa51ed6211d97", func := "dataflow/dataflowlaw28.VpathMatch", spec := "vpathMatch", unfollowed := true, recurses := true, plainKeys := false, apart := false }
def VpathMatchSaid : Prop := vpathMatchRow.holds Try.pinned (OpenSpec.ofChange vpathMatchSpec)

/-- ITS FALSE NEIGHBOUR: 'it returns false'. Refute it at one input. -/
def vpathMatchWrong : ChangeSpec := { name := "vpathMatch", fn := fun _ => fun
  | [d1, d2, d3] => { results := [.lit (.bool false)], args := [d1, d2, d3] }
  | _ => none }
def VpathMatchWrongFalsely : Prop := vpathMatchRow.holds Try.pinned (OpenSpec.ofChange vpathMatchWrong)

/-- 'dataflowlaw28.VpathTells': WHATEVER THE INPUT: true; the input reads as it did. -/
def vpathTellsSpec : ChangeSpec := { name := "vpathTells", fn := fun _ => fun
  | [d1, d2, d3] => { results := [.lit (.bool true)], args := [d1, d2, d3] }
  | _ => none }
def vpathTellsRow : OpenClaim := { program := "ytflpelbhalndcaa", sum := "11a3b4c9f2655f7b58dcb7f0c576f2f53e54240406256357469aa51ed6211d97", func := "dataflow/dataflowlaw28.VpathTells", spec := "vpathTells", unfollowed := true, recurses := true, plainKeys := false, apart := false }
def VpathTellsSaid : Prop := vpathTellsRow.holds Try.pinned (OpenSpec.ofChange vpathTellsSpec)

/-- ITS FALSE NEIGHBOUR: 'it returns false'. Refute it at one input. -/
def vpathTellsWrong : ChangeSpec := { name := "vpathTells", fn := fun _ => fun
  | [d1, d2, d3] => { results := [.lit (.bool false)], args := [d1, d2, d3] }
  | _ => none }
def VpathTellsWrongFalsely : Prop := vpathTellsRow.holds Try.pinned (OpenSpec.ofChange vpathTellsWrong)

/-- 'dataflowlaw28.VpathGoesOn': WHATEVER THE INPUT: true; the input reads as it did. -/
def vpathGoesOnSpec : ChangeSpec := { name := "vpathGoesOn", fn := fun _ => fun
  | [d1, d2, d3] => { results := [.lit (.bool true)], args := [d1, d2, d3] }
  | _ => none }
def vpathGoesOnRow : OpenClaim := { program := "ytflpelbhalndcaa", sum := "11a3b4c9f2655f7b58dcb7f0c576f2f53e54240406256357469aa51ed6211d97", func := "dataflow/dataflowlaw28.VpathGoesOn", spec := "vpathGoesOn", unfollowed := true, recurses := true, plainKeys := false, apart := false }
def VpathGoesOnSaid : Prop := vpathGoesOnRow.holds Try.pinned (OpenSpec.ofChange vpathGoesOnSpec)

/-- ITS FALSE NEIGHBOUR: 'it returns false'. Refute it at one input. -/
def vpathGoesOnWrong : ChangeSpec := { name := "vpathGoesOn", fn := fun _ => fun
  | [d1, d2, d3] => { results := [.lit (.bool false)], args := [d1, d2, d3] }
  | _ => none }
def VpathGoesOnWrongFalsely : Prop := vpathGoesOnRow.holds Try.pinned (OpenSpec.ofChange vpathGoesOnWrong)

/-- 'dataflowlaw28.VpathReached': WHATEVER THE INPUT: true; the input reads as it did. -/
def vpathReachedSpec : ChangeSpec := { name := "vpathReached", fn := fun _ => fun
  | [d1, d2] => { results := [.lit (.bool true)], args := [d1, d2] }
  | _ => none }
def vpathReachedRow : OpenClaim := { program := "ytflpelbhalndcaa", sum := "11a3b4c9f2655f7b58dcb7f0c576f2f53e54240406256357469aa51ed6211d97", func := "dataflow/dataflowlaw28.VpathReached", spec := "vpathReached", unfollowed := true, recurses := true, plainKeys := false, apart := false }
def VpathReachedSaid : Prop := vpathReachedRow.holds Try.pinned (OpenSpec.ofChange vpathReachedSpec)

/-- ITS FALSE NEIGHBOUR: 'it returns false'. Refute it at one input. -/
def vpathReachedWrong : ChangeSpec := { name := "vpathReached", fn := fun _ => fun
  | [d1, d2] => { results := [.lit (.bool false)], args := [d1, d2] }
  | _ => none }
def VpathReachedWrongFalsely : Prop := vpathReachedRow.holds Try.pinned (OpenSpec.ofChange vpathReachedWrong)

/-- 'dataflowlaw34.EnvironAlong': WHATEVER THE INPUT: true; the input reads as it did. -/
def environAlongSpec : ChangeSpec := { name := "environAlong", fn := fun _ => fun
  | [d1, d2] => { results := [.lit (.bool true)], args := [d1, d2] }
  | _ => none }
def environAlongRow : OpenClaim := { program := "ytflpelbhalndcaa", sum := "11a3b4c9f2655f7b58dcb7f0c576f2f53e54240406256357469aa51ed6211d97", func := "dataflow/dataflowlaw34.EnvironAlong", spec := "environAlong", unfollowed := true, recurses := true, plainKeys := false, apart := false }
def EnvironAlongSaid : Prop := environAlongRow.holds Try.pinned (OpenSpec.ofChange environAlongSpec)

/-- ITS FALSE NEIGHBOUR: 'it returns false'. Refute it at one input. -/
def environAlongWrong : ChangeSpec := { name := "environAlong", fn := fun _ => fun
  | [d1, d2] => { results := [.lit (.bool false)], args := [d1, d2] }
  | _ => none }
def EnvironAlongWrongFalsely : Prop := environAlongRow.holds Try.pinned (OpenSpec.ofChange environAlongWrong)

/-- 'dataflowlaw34.EnvironAbove': WHATEVER THE INPUT: true; the input reads as it did. -/
def environAboveSpec : ChangeSpec := { name := "environAbove", fn := fun _ => fun
  | [d1, d2] => { results := [.lit (.bool true)], args := [d1, d2] }
  | _ => none }
def environAboveRow : OpenClaim := { program := "ytflpelbhalndcaa", sum := "11a3b4c9f2655f7b58dcb7f0c576f2f53e54240406256357469aa51ed6211d97", func := "dataflow/dataflowlaw34.EnvironAbove", spec := "environAbove", unfollowed := true, recurses := true, plainKeys := false, apart := false }
def EnvironAboveSaid : Prop := environAboveRow.holds Try.pinned (OpenSpec.ofChange environAboveSpec)

/-- ITS FALSE NEIGHBOUR: 'it returns false'. Refute it at one input. -/
def environAboveWrong : ChangeSpec := { name := "environAbove", fn := fun _ => fun
  | [d1, d2] => { results := [.lit (.bool false)], args := [d1, d2] }
  | _ => none }
def EnvironAboveWrongFalsely : Prop := environAboveRow.holds Try.pinned (OpenSpec.ofChange environAboveWrong)

/-- 'dataflowlaw34.EnvironSteps': WHATEVER THE INPUT: true; the input reads as it did. -/
def environStepsSpec : ChangeSpec := { name := "environSteps", fn := fun _ => fun
  | [d1, d2] => { results := [.lit (.bool true)], args := [d1, d2] }
  | _ => none }
def environStepsRow : OpenClaim := { program := "ytflpelbhalndcaa", sum := "11a3b4c9f2655f7b58dcb7f0c576f2f53e54240406256357469aa51ed6211d97", func := "dataflow/dataflowlaw34.EnvironSteps", spec := "environSteps", unfollowed := true, recurses := true, plainKeys := false, apart := false }
def EnvironStepsSaid : Prop := environStepsRow.holds Try.pinned (OpenSpec.ofChange environStepsSpec)

/-- ITS FALSE NEIGHBOUR: 'it returns false'. Refute it at one input. -/
def environStepsWrong : ChangeSpec := { name := "environSteps", fn := fun _ => fun
  | [d1, d2] => { results := [.lit (.bool false)], args := [d1, d2] }
  | _ => none }
def EnvironStepsWrongFalsely : Prop := environStepsRow.holds Try.pinned (OpenSpec.ofChange environStepsWrong)

/-- 'dataflowlaw34.EnvironMeet': WHATEVER THE INPUT: true; the input reads as it did. -/
def environMeetSpec : ChangeSpec := { name := "environMeet", fn := fun _ => fun
  | [d1, d2] => { results := [.lit (.bool true)], args := [d1, d2] }
  | _ => none }
def environMeetRow : OpenClaim := { program := "ytflpelbhalndcaa", sum := "11a3b4c9f2655f7b58dcb7f0c576f2f53e54240406256357469aa51ed6211d97", func := "dataflow/dataflowlaw34.EnvironMeet", spec := "environMeet", unfollowed := true, recurses := true, plainKeys := false, apart := false }
def EnvironMeetSaid : Prop := environMeetRow.holds Try.pinned (OpenSpec.ofChange environMeetSpec)

/-- ITS FALSE NEIGHBOUR: 'it returns false'. Refute it at one input. -/
def environMeetWrong : ChangeSpec := { name := "environMeet", fn := fun _ => fun
  | [d1, d2] => { results := [.lit (.bool false)], args := [d1, d2] }
  | _ => none }
def EnvironMeetWrongFalsely : Prop := environMeetRow.holds Try.pinned (OpenSpec.ofChange environMeetWrong)

/-- 'dataflowlaw33.IdeCheck': WHATEVER THE INPUT: true; the input reads as it did. -/
def ideCheckSpec : ChangeSpec := { name := "ideCheck", fn := fun _ => fun
  | [d] => { results := [.lit (.bool true)], args := [d] }
  | _ => none }
def ideCheckRow : OpenClaim := { program := "ytflpelbhalndcaa", sum := "11a3b4c9f2655f7b58dcb7f0c576f2f53e54240406256357469aa51ed6211d97", func := "dataflow/dataflowlaw33.IdeCheck", spec := "ideCheck", unfollowed := true, recurses := true, plainKeys := false, apart := false }
def IdeCheckSaid : Prop := ideCheckRow.holds Try.pinned (OpenSpec.ofChange ideCheckSpec)

/-- ITS FALSE NEIGHBOUR: 'it returns false'. Refute it at one input. -/
def ideCheckWrong : ChangeSpec := { name := "ideCheck", fn := fun _ => fun
  | [d] => { results := [.lit (.bool false)], args := [d] }
  | _ => none }
def IdeCheckWrongFalsely : Prop := ideCheckRow.holds Try.pinned (OpenSpec.ofChange ideCheckWrong)

/-- 'dataflowlaw33.IdeIsIfds': WHATEVER THE INPUT: true; the input reads as it did. -/
def ideIsIfdsSpec : ChangeSpec := { name := "ideIsIfds", fn := fun _ => fun
  | [d] => { results := [.lit (.bool true)], args := [d] }
  | _ => none }
def ideIsIfdsRow : OpenClaim := { program := "ytflpelbhalndcaa", sum := "11a3b4c9f2655f7b58dcb7f0c576f2f53e54240406256357469aa51ed6211d97", func := "dataflow/dataflowlaw33.IdeIsIfds", spec := "ideIsIfds", unfollowed := true, recurses := true, plainKeys := false, apart := false }
def IdeIsIfdsSaid : Prop := ideIsIfdsRow.holds Try.pinned (OpenSpec.ofChange ideIsIfdsSpec)

/-- ITS FALSE NEIGHBOUR: 'it returns false'. Refute it at one input. -/
def ideIsIfdsWrong : ChangeSpec := { name := "ideIsIfds", fn := fun _ => fun
  | [d] => { results := [.lit (.bool false)], args := [d] }
  | _ => none }
def IdeIsIfdsWrongFalsely : Prop := ideIsIfdsRow.holds Try.pinned (OpenSpec.ofChange ideIsIfdsWrong)

/-- 'dataflowlaw33.IdeFacts': WHATEVER THE INPUT: true; the input reads as it did. -/
def ideFactsSpec : ChangeSpec := { name := "ideFacts", fn := fun _ => fun
  | [d] => { results := [.lit (.bool true)], args := [d] }
  | _ => none }
def ideFactsRow : OpenClaim := { program := "ytflpelbhalndcaa", sum := "11a3b4c9f2655f7b58dcb7f0c576f2f53e54240406256357469aa51ed6211d97", func := "dataflow/dataflowlaw33.IdeFacts", spec := "ideFacts", unfollowed := true, recurses := true, plainKeys := false, apart := false }
def IdeFactsSaid : Prop := ideFactsRow.holds Try.pinned (OpenSpec.ofChange ideFactsSpec)

/-- ITS FALSE NEIGHBOUR: 'it returns false'. Refute it at one input. -/
def ideFactsWrong : ChangeSpec := { name := "ideFacts", fn := fun _ => fun
  | [d] => { results := [.lit (.bool false)], args := [d] }
  | _ => none }
def IdeFactsWrongFalsely : Prop := ideFactsRow.holds Try.pinned (OpenSpec.ofChange ideFactsWrong)

/- THE SECOND FORM. 'bulk': how many values and letters a reading holds, each counted each time it is reached (what is shared counts as often as it is met; a slice's spare places count too). A statement '..UptoSaid' is the law's where the arguments, and the package variables that the reading takes, are together of bulk at most 1048576: NARROWER than '..Said'. Prove '..Said' where nothing that the law and all that it calls make is longer than what came in: it says more and counts as full. Else prove '..UptoSaid'. A law counts once. -/
mutual
def uptoBulk {H : Type} : DataW H → Nat
  | .lit (.string bytes) => bytes.length + 1
  | .lit _ => 1
  | .nil => 1
  | .ptr d => uptoBulk d + 1
  | .slice elems spare => uptoBulkAll elems + uptoBulkAll spare + 1
  | .agg parts => uptoBulkAll parts + 1
  | .iface _ d => uptoBulk d + 1
  | .map entries => uptoBulkEntries entries + 1
  | .held _ => 1
def uptoBulkAll {H : Type} : List (DataW H) → Nat
  | [] => 0
  | d :: r => uptoBulk d + uptoBulkAll r
def uptoBulkEntries {H : Type} : List (Lit × DataW H) → Nat
  | [] => 0
  | x :: r => uptoBulkEntry x + uptoBulkEntries r
def uptoBulkEntry {H : Type} : Lit × DataW H → Nat
  | (.string bytes, d) => bytes.length + uptoBulk d + 1
  | (_, d) => uptoBulk d + 1
 end
def uptoSmall : (H : Type) → List (DataW H) → Bool := fun _ ds => decide (uptoBulkAll ds ≤ 1048576)
def OpenSpec.upto (s : _root_.Go.ChangeSpec) : _root_.Go.OpenSpec := { _root_.Go.OpenSpec.ofChange s with cond := some uptoSmall }

/-- 'dataflowlaw28.VpathMatch', WHERE WHAT IT READS IS OF BULK AT MOST 1048576: true; the input reads as it did. -/
def vpathMatchUptoRow : OpenClaim := { program := "ytflpelbhalndcaa", sum := "11a3b4c9f2655f7b58dcb7f0c576f2f53e54240406256357469aa51ed6211d97", func := "dataflow/dataflowlaw28.VpathMatch", spec := "vpathMatch", unfollowed := true, recurses := true, plainKeys := false, apart := false, narrowed := true }
def VpathMatchUptoSaid : Prop := vpathMatchUptoRow.holds Try.pinned (OpenSpec.upto vpathMatchSpec)

/-- 'dataflowlaw28.VpathTells', WHERE WHAT IT READS IS OF BULK AT MOST 1048576: true; the input reads as it did. -/
def vpathTellsUptoRow : OpenClaim := { program := "ytflpelbhalndcaa", sum := "11a3b4c9f2655f7b58dcb7f0c576f2f53e54240406256357469aa51ed6211d97", func := "dataflow/dataflowlaw28.VpathTells", spec := "vpathTells", unfollowed := true, recurses := true, plainKeys := false, apart := false, narrowed := true }
def VpathTellsUptoSaid : Prop := vpathTellsUptoRow.holds Try.pinned (OpenSpec.upto vpathTellsSpec)

/-- 'dataflowlaw28.VpathGoesOn', WHERE WHAT IT READS IS OF BULK AT MOST 1048576: true; the input reads as it did. -/
def vpathGoesOnUptoRow : OpenClaim := { program := "ytflpelbhalndcaa", sum := "11a3b4c9f2655f7b58dcb7f0c576f2f53e54240406256357469aa51ed6211d97", func := "dataflow/dataflowlaw28.VpathGoesOn", spec := "vpathGoesOn", unfollowed := true, recurses := true, plainKeys := false, apart := false, narrowed := true }
def VpathGoesOnUptoSaid : Prop := vpathGoesOnUptoRow.holds Try.pinned (OpenSpec.upto vpathGoesOnSpec)

/-- 'dataflowlaw28.VpathReached', WHERE WHAT IT READS IS OF BULK AT MOST 1048576: true; the input reads as it did. -/
def vpathReachedUptoRow : OpenClaim := { program := "ytflpelbhalndcaa", sum := "11a3b4c9f2655f7b58dcb7f0c576f2f53e54240406256357469aa51ed6211d97", func := "dataflow/dataflowlaw28.VpathReached", spec := "vpathReached", unfollowed := true, recurses := true, plainKeys := false, apart := false, narrowed := true }
def VpathReachedUptoSaid : Prop := vpathReachedUptoRow.holds Try.pinned (OpenSpec.upto vpathReachedSpec)

/-- 'dataflowlaw34.EnvironAlong', WHERE WHAT IT READS IS OF BULK AT MOST 1048576: true; the input reads as it did. -/
def environAlongUptoRow : OpenClaim := { program := "ytflpelbhalndcaa", sum := "11a3b4c9f2655f7b58dcb7f0c576f2f53e54240406256357469aa51ed6211d97", func := "dataflow/dataflowlaw34.EnvironAlong", spec := "environAlong", unfollowed := true, recurses := true, plainKeys := false, apart := false, narrowed := true }
def EnvironAlongUptoSaid : Prop := environAlongUptoRow.holds Try.pinned (OpenSpec.upto environAlongSpec)

/-- 'dataflowlaw34.EnvironAbove', WHERE WHAT IT READS IS OF BULK AT MOST 1048576: true; the input reads as it did. -/
def environAboveUptoRow : OpenClaim := { program := "ytflpelbhalndcaa", sum := "11a3b4c9f2655f7b58dcb7f0c576f2f53e54240406256357469aa51ed6211d97", func := "dataflow/dataflowlaw34.EnvironAbove", spec := "environAbove", unfollowed := true, recurses := true, plainKeys := false, apart := false, narrowed := true }
def EnvironAboveUptoSaid : Prop := environAboveUptoRow.holds Try.pinned (OpenSpec.upto environAboveSpec)

/-- 'dataflowlaw34.EnvironSteps', WHERE WHAT IT READS IS OF BULK AT MOST 1048576: true; the input reads as it did. -/
def environStepsUptoRow : OpenClaim := { program := "ytflpelbhalndcaa", sum := "11a3b4c9f2655f7b58dcb7f0c576f2f53e54240406256357469aa51ed6211d97", func := "dataflow/dataflowlaw34.EnvironSteps", spec := "environSteps", unfollowed := true, recurses := true, plainKeys := false, apart := false, narrowed := true }
def EnvironStepsUptoSaid : Prop := environStepsUptoRow.holds Try.pinned (OpenSpec.upto environStepsSpec)

/-- 'dataflowlaw34.EnvironMeet', WHERE WHAT IT READS IS OF BULK AT MOST 1048576: true; the input reads as it did. -/
def environMeetUptoRow : OpenClaim := { program := "ytflpelbhalndcaa", sum := "11a3b4c9f2655f7b58dcb7f0c576f2f53e54240406256357469aa51ed6211d97", func := "dataflow/dataflowlaw34.EnvironMeet", spec := "environMeet", unfollowed := true, recurses := true, plainKeys := false, apart := false, narrowed := true }
def EnvironMeetUptoSaid : Prop := environMeetUptoRow.holds Try.pinned (OpenSpec.upto environMeetSpec)

/-- 'dataflowlaw33.IdeCheck', WHERE WHAT IT READS IS OF BULK AT MOST 1048576: true; the input reads as it did. -/
def ideCheckUptoRow : OpenClaim := { program := "ytflpelbhalndcaa", sum := "11a3b4c9f2655f7b58dcb7f0c576f2f53e54240406256357469aa51ed6211d97", func := "dataflow/dataflowlaw33.IdeCheck", spec := "ideCheck", unfollowed := true, recurses := true, plainKeys := false, apart := false, narrowed := true }
def IdeCheckUptoSaid : Prop := ideCheckUptoRow.holds Try.pinned (OpenSpec.upto ideCheckSpec)

/-- 'dataflowlaw33.IdeIsIfds', WHERE WHAT IT READS IS OF BULK AT MOST 1048576: true; the input reads as it did. -/
def ideIsIfdsUptoRow : OpenClaim := { program := "ytflpelbhalndcaa", sum := "11a3b4c9f2655f7b58dcb7f0c576f2f53e54240406256357469aa51ed6211d97", func := "dataflow/dataflowlaw33.IdeIsIfds", spec := "ideIsIfds", unfollowed := true, recurses := true, plainKeys := false, apart := false, narrowed := true }
def IdeIsIfdsUptoSaid : Prop := ideIsIfdsUptoRow.holds Try.pinned (OpenSpec.upto ideIsIfdsSpec)

/-- 'dataflowlaw33.IdeFacts', WHERE WHAT IT READS IS OF BULK AT MOST 1048576: true; the input reads as it did. -/
def ideFactsUptoRow : OpenClaim := { program := "ytflpelbhalndcaa", sum := "11a3b4c9f2655f7b58dcb7f0c576f2f53e54240406256357469aa51ed6211d97", func := "dataflow/dataflowlaw33.IdeFacts", spec := "ideFacts", unfollowed := true, recurses := true, plainKeys := false, apart := false, narrowed := true }
def IdeFactsUptoSaid : Prop := ideFactsUptoRow.holds Try.pinned (OpenSpec.upto ideFactsSpec)

end Rows
end Go.Proofs.Ytflpelbhalndcaa
