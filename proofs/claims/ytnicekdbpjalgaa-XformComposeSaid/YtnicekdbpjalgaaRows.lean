/-
  No cell of these rows narrows 'for every input' (looked for: loops, veiled, ifaces, maps, wideKeys, modest, calm, conditions, laid).
  DERIVED. THE GIVEN ROWS OF THIS SEAT. 7 by the template 'for every input the law returns true; each argument reads behind the call as it read before'; 0 by the template 'total and deterministic' (their statements: YtnicekdbpjalgaaTotals.lean).
  GIVEN WITH THE SEED: the statements are not yours to turn. If you find one false, say at which input.
  Laid BY PROGRAM, IN A SANDBOX (cutbox-rows.mjs): the forced cells as the released guide's own fill.sh prints them over the translation f3cca7274fc3a13f… (all of the seat's roots in one cut). By AI agents, Wed Nov 11 2026. No macro, syntax, notation, axiom, sorry.
-/
import Derived.Test.YtnicekdbpjalgaaChecked
import GoSem.Claim
import GoSem.ClaimJoined
import GoSem.ClaimMapViews
import Derived.JoinedTies
import Derived.KernelRfl
namespace Go.Proofs.Ytnicekdbpjalgaa
/- THE CELL 'sum', in the pinned program and in every row, IS THE sha256 OF THE DUMP (.gsa) THAT YtnicekdbpjalgaaProg.lean LOADS. Nothing in Lean hashes anything: it is a label: what it is worth is what the hold of that sum in a sandbox is worth. -/
noncomputable def Try.pinned : Pinned := { name := "ytnicekdbpjalgaa", sum := "f3cca7274fc3a13f112dd8e55b32f42753abd44c9219fd6c56b2e0f5623970e7", checked := Try.checked }
namespace Rows
def none {H : Type} : Left H := { results := [], args := [] }

/-- 'dataflowlaw32.XformCompose': WHATEVER THE INPUT: true; the input reads as it did. -/
def xformComposeSpec : ChangeSpec := { name := "xformCompose", fn := fun _ => fun
  | [d1, d2] => { results := [.lit (.bool true)], args := [d1, d2] }
  | _ => none }
def xformComposeRow : OpenClaim := { program := "ytnicekdbpjalgaa", sum := "f3cca7274fc3a13f112dd8e55b32f42753abd44c9219fd6c56b2e0f5623970e7", func := "dataflow/dataflowlaw32.XformCompose", spec := "xformCompose", recurses := true, apart := false }
def XformComposeSaid : Prop := xformComposeRow.holds Try.pinned (OpenSpec.ofChange xformComposeSpec)

/-- ITS FALSE NEIGHBOUR: 'it returns false'. Refute it at one input. -/
def xformComposeWrong : ChangeSpec := { name := "xformCompose", fn := fun _ => fun
  | [d1, d2] => { results := [.lit (.bool false)], args := [d1, d2] }
  | _ => none }
def XformComposeWrongFalsely : Prop := xformComposeRow.holds Try.pinned (OpenSpec.ofChange xformComposeWrong)

/-- 'dataflowlaw32.XformActs': WHATEVER THE INPUT: true; the input reads as it did. -/
def xformActsSpec : ChangeSpec := { name := "xformActs", fn := fun _ => fun
  | [d1, d2, d3] => { results := [.lit (.bool true)], args := [d1, d2, d3] }
  | _ => none }
def xformActsRow : OpenClaim := { program := "ytnicekdbpjalgaa", sum := "f3cca7274fc3a13f112dd8e55b32f42753abd44c9219fd6c56b2e0f5623970e7", func := "dataflow/dataflowlaw32.XformActs", spec := "xformActs", apart := false }
def XformActsSaid : Prop := xformActsRow.holds Try.pinned (OpenSpec.ofChange xformActsSpec)

/-- ITS FALSE NEIGHBOUR: 'it returns false'. Refute it at one input. -/
def xformActsWrong : ChangeSpec := { name := "xformActs", fn := fun _ => fun
  | [d1, d2, d3] => { results := [.lit (.bool false)], args := [d1, d2, d3] }
  | _ => none }
def XformActsWrongFalsely : Prop := xformActsRow.holds Try.pinned (OpenSpec.ofChange xformActsWrong)

/-- 'dataflowlaw32.XformDistributes': WHATEVER THE INPUT: true; the input reads as it did. -/
def xformDistributesSpec : ChangeSpec := { name := "xformDistributes", fn := fun _ => fun
  | [d1, d2, d3] => { results := [.lit (.bool true)], args := [d1, d2, d3] }
  | _ => none }
def xformDistributesRow : OpenClaim := { program := "ytnicekdbpjalgaa", sum := "f3cca7274fc3a13f112dd8e55b32f42753abd44c9219fd6c56b2e0f5623970e7", func := "dataflow/dataflowlaw32.XformDistributes", spec := "xformDistributes", apart := false }
def XformDistributesSaid : Prop := xformDistributesRow.holds Try.pinned (OpenSpec.ofChange xformDistributesSpec)

/-- ITS FALSE NEIGHBOUR: 'it returns false'. Refute it at one input. -/
def xformDistributesWrong : ChangeSpec := { name := "xformDistributes", fn := fun _ => fun
  | [d1, d2, d3] => { results := [.lit (.bool false)], args := [d1, d2, d3] }
  | _ => none }
def XformDistributesWrongFalsely : Prop := xformDistributesRow.holds Try.pinned (OpenSpec.ofChange xformDistributesWrong)

/-- 'dataflowlaw32.XformLattice': WHATEVER THE INPUT: true; the input reads as it did. -/
def xformLatticeSpec : ChangeSpec := { name := "xformLattice", fn := fun _ => fun
  | [d1, d2, d3] => { results := [.lit (.bool true)], args := [d1, d2, d3] }
  | _ => none }
def xformLatticeRow : OpenClaim := { program := "ytnicekdbpjalgaa", sum := "f3cca7274fc3a13f112dd8e55b32f42753abd44c9219fd6c56b2e0f5623970e7", func := "dataflow/dataflowlaw32.XformLattice", spec := "xformLattice", apart := false }
def XformLatticeSaid : Prop := xformLatticeRow.holds Try.pinned (OpenSpec.ofChange xformLatticeSpec)

/-- ITS FALSE NEIGHBOUR: 'it returns false'. Refute it at one input. -/
def xformLatticeWrong : ChangeSpec := { name := "xformLattice", fn := fun _ => fun
  | [d1, d2, d3] => { results := [.lit (.bool false)], args := [d1, d2, d3] }
  | _ => none }
def XformLatticeWrongFalsely : Prop := xformLatticeRow.holds Try.pinned (OpenSpec.ofChange xformLatticeWrong)

/-- 'dataflowlaw32.XformSteps': WHATEVER THE INPUT: true; the input reads as it did. -/
def xformStepsSpec : ChangeSpec := { name := "xformSteps", fn := fun _ => fun
  | [d1, d2] => { results := [.lit (.bool true)], args := [d1, d2] }
  | _ => none }
def xformStepsRow : OpenClaim := { program := "ytnicekdbpjalgaa", sum := "f3cca7274fc3a13f112dd8e55b32f42753abd44c9219fd6c56b2e0f5623970e7", func := "dataflow/dataflowlaw32.XformSteps", spec := "xformSteps", apart := false }
def XformStepsSaid : Prop := xformStepsRow.holds Try.pinned (OpenSpec.ofChange xformStepsSpec)

/-- ITS FALSE NEIGHBOUR: 'it returns false'. Refute it at one input. -/
def xformStepsWrong : ChangeSpec := { name := "xformSteps", fn := fun _ => fun
  | [d1, d2] => { results := [.lit (.bool false)], args := [d1, d2] }
  | _ => none }
def XformStepsWrongFalsely : Prop := xformStepsRow.holds Try.pinned (OpenSpec.ofChange xformStepsWrong)

/-- 'dataflowlaw32.XformApply': WHATEVER THE INPUT: true; the input reads as it did. -/
def xformApplySpec : ChangeSpec := { name := "xformApply", fn := fun _ => fun
  | [d1, d2, d3] => { results := [.lit (.bool true)], args := [d1, d2, d3] }
  | _ => none }
def xformApplyRow : OpenClaim := { program := "ytnicekdbpjalgaa", sum := "f3cca7274fc3a13f112dd8e55b32f42753abd44c9219fd6c56b2e0f5623970e7", func := "dataflow/dataflowlaw32.XformApply", spec := "xformApply", apart := false }
def XformApplySaid : Prop := xformApplyRow.holds Try.pinned (OpenSpec.ofChange xformApplySpec)

/-- ITS FALSE NEIGHBOUR: 'it returns false'. Refute it at one input. -/
def xformApplyWrong : ChangeSpec := { name := "xformApply", fn := fun _ => fun
  | [d1, d2, d3] => { results := [.lit (.bool false)], args := [d1, d2, d3] }
  | _ => none }
def XformApplyWrongFalsely : Prop := xformApplyRow.holds Try.pinned (OpenSpec.ofChange xformApplyWrong)

/-- 'dataflowlaw32.XformCheck': WHATEVER THE INPUT: true; the input reads as it did. -/
def xformCheckSpec : ChangeSpec := { name := "xformCheck", fn := fun _ => fun
  | [d1, d2] => { results := [.lit (.bool true)], args := [d1, d2] }
  | _ => none }
def xformCheckRow : OpenClaim := { program := "ytnicekdbpjalgaa", sum := "f3cca7274fc3a13f112dd8e55b32f42753abd44c9219fd6c56b2e0f5623970e7", func := "dataflow/dataflowlaw32.XformCheck", spec := "xformCheck", apart := false }
def XformCheckSaid : Prop := xformCheckRow.holds Try.pinned (OpenSpec.ofChange xformCheckSpec)

/-- ITS FALSE NEIGHBOUR: 'it returns false'. Refute it at one input. -/
def xformCheckWrong : ChangeSpec := { name := "xformCheck", fn := fun _ => fun
  | [d1, d2] => { results := [.lit (.bool false)], args := [d1, d2] }
  | _ => none }
def XformCheckWrongFalsely : Prop := xformCheckRow.holds Try.pinned (OpenSpec.ofChange xformCheckWrong)

/- THE SECOND FORM. 'bulk': how many values and letters a reading holds, each counted each time it is reached (what is shared counts as often as it is met; a slice's spare places count too). A statement '..UptoSaid' is the law's where the arguments, and the package variables that the reading takes, are together of bulk at most 1048576: NARROWER than '..Said'. Prove '..Said' where nothing that the law and all that it calls make is longer than what came in: it says more and counts as full. Else prove '..UptoSaid'. A law counts once. -/
mutual
def uptoBulk {H : Type} : DataW H → Nat
  | .lit (.string bytes) => bytes.length + 1
  | .lit _ => 1
  | .nil => 1
  | .ptr d => uptoBulk d + 1
  | .slice elems spare => uptoBulkAll elems + uptoBulkAll spare + 1
  | .agg parts => uptoBulkAll parts + 1
  | .iface _ d => uptoBulk d + 1
  | .map entries => uptoBulkEntries entries + 1
  | .held _ => 1
def uptoBulkAll {H : Type} : List (DataW H) → Nat
  | [] => 0
  | d :: r => uptoBulk d + uptoBulkAll r
def uptoBulkEntries {H : Type} : List (Lit × DataW H) → Nat
  | [] => 0
  | x :: r => uptoBulkEntry x + uptoBulkEntries r
def uptoBulkEntry {H : Type} : Lit × DataW H → Nat
  | (.string bytes, d) => bytes.length + uptoBulk d + 1
  | (_, d) => uptoBulk d + 1
 end
def uptoSmall : (H : Type) → List (DataW H) → Bool := fun _ ds => decide (uptoBulkAll ds ≤ 1048576)
def OpenSpec.upto (s : _root_.Go.ChangeSpec) : _root_.Go.OpenSpec := { _root_.Go.OpenSpec.ofChange s with cond := some uptoSmall }

/-- 'dataflowlaw32.XformCompose', WHERE WHAT IT READS IS OF BULK AT MOST 1048576: true; the input reads as it did. -/
def xformComposeUptoRow : OpenClaim := { program := "ytnicekdbpjalgaa", sum := "f3cca7274fc3a13f112dd8e55b32f42753abd44c9219fd6c56b2e0f5623970e7", func := "dataflow/dataflowlaw32.XformCompose", spec := "xformCompose", recurses := true, apart := false, narrowed := true }
def XformComposeUptoSaid : Prop := xformComposeUptoRow.holds Try.pinned (OpenSpec.upto xformComposeSpec)

/-- 'dataflowlaw32.XformActs', WHERE WHAT IT READS IS OF BULK AT MOST 1048576: true; the input reads as it did. -/
def xformActsUptoRow : OpenClaim := { program := "ytnicekdbpjalgaa", sum := "f3cca7274fc3a13f112dd8e55b32f42753abd44c9219fd6c56b2e0f5623970e7", func := "dataflow/dataflowlaw32.XformActs", spec := "xformActs", apart := false, narrowed := true }
def XformActsUptoSaid : Prop := xformActsUptoRow.holds Try.pinned (OpenSpec.upto xformActsSpec)

/-- 'dataflowlaw32.XformDistributes', WHERE WHAT IT READS IS OF BULK AT MOST 1048576: true; the input reads as it did. -/
def xformDistributesUptoRow : OpenClaim := { program := "ytnicekdbpjalgaa", sum := "f3cca7274fc3a13f112dd8e55b32f42753abd44c9219fd6c56b2e0f5623970e7", func := "dataflow/dataflowlaw32.XformDistributes", spec := "xformDistributes", apart := false, narrowed := true }
def XformDistributesUptoSaid : Prop := xformDistributesUptoRow.holds Try.pinned (OpenSpec.upto xformDistributesSpec)

/-- 'dataflowlaw32.XformLattice', WHERE WHAT IT READS IS OF BULK AT MOST 1048576: true; the input reads as it did. -/
def xformLatticeUptoRow : OpenClaim := { program := "ytnicekdbpjalgaa", sum := "f3cca7274fc3a13f112dd8e55b32f42753abd44c9219fd6c56b2e0f5623970e7", func := "dataflow/dataflowlaw32.XformLattice", spec := "xformLattice", apart := false, narrowed := true }
def XformLatticeUptoSaid : Prop := xformLatticeUptoRow.holds Try.pinned (OpenSpec.upto xformLatticeSpec)

/-- 'dataflowlaw32.XformSteps', WHERE WHAT IT READS IS OF BULK AT MOST 1048576: true; the input reads as it did. -/
def xformStepsUptoRow : OpenClaim := { program := "ytnicekdbpjalgaa", sum := "f3cca7274fc3a13f112dd8e55b32f42753abd44c9219fd6c56b2e0f5623970e7", func := "dataflow/dataflowlaw32.XformSteps", spec := "xformSteps", apart := false, narrowed := true }
def XformStepsUptoSaid : Prop := xformStepsUptoRow.holds Try.pinned (OpenSpec.upto xformStepsSpec)

/-- 'dataflowlaw32.XformApply', WHERE WHAT IT READS IS OF BULK AT MOST 1048576: true; the input reads as it did. -/
def xformApplyUptoRow : OpenClaim := { program := "ytnicekdbpjalgaa", sum := "f3cca7274fc3a13f112dd8e55b32f42753abd44c9219fd6c56b2e0f5623970e7", func := "dataflow/dataflowlaw32.XformApply", spec := "xformApply", apart := false, narrowed := true }
def XformApplyUptoSaid : Prop := xformApplyUptoRow.holds Try.pinned (OpenSpec.upto xformApplySpec)

/-- 'dataflowlaw32.XformCheck', WHERE WHAT IT READS IS OF BULK AT MOST 1048576: true; the input reads as it did. -/
def xformCheckUptoRow : OpenClaim := { program := "ytnicekdbpjalgaa", sum := "f3cca7274fc3a13f112dd8e55b32f42753abd44c9219fd6c56b2e0f5623970e7", func := "dataflow/dataflowlaw32.XformCheck", spec := "xformCheck", apart := false, narrowed := true }
def XformCheckUptoSaid : Prop := xformCheckUptoRow.holds Try.pinned (OpenSpec.upto xformCheckSpec)

end Rows
end Go.Proofs.Ytnicekdbpjalgaa
