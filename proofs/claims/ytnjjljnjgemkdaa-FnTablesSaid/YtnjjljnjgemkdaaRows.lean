/-
  No cell of these rows narrows 'for every input' (looked for: loops, veiled, ifaces, maps, wideKeys, modest, calm, conditions, laid).
  DERIVED. THE GIVEN ROWS OF THIS SEAT. 14 by the template 'for every input the law returns true; each argument reads behind the call as it read before'; 0 by the template 'total and deterministic' (their statements: YtnjjljnjgemkdaaTotals.lean).
  GIVEN WITH THE SEED: the statements are not yours to turn. If you find one false, say at which input.
  Laid BY PROGRAM, IN A SANDBOX (cutbox-rows.mjs): the forced cells as the released guide's own fill.sh prints them over the translation c312909a9a9cc5d6… (all of the seat's roots in one cut). By AI agents, Wed Nov 11 2026. No macro, syntax, notation, axiom, sorry.
-/
import Derived.Test.YtnjjljnjgemkdaaChecked
import GoSem.Claim
import GoSem.ClaimJoined
import GoSem.ClaimMapViews
import Derived.JoinedTies
import Derived.KernelRfl
namespace Go.Proofs.Ytnjjljnjgemkdaa
/- THE CELL 'sum', in the pinned program and in every row, IS THE sha256 OF THE DUMP (.gsa) THAT YtnjjljnjgemkdaaProg.lean LOADS. Nothing in Lean hashes anything: it is a label: what it is worth is what the hold of that sum in a sandbox is worth. -/
noncomputable def Try.pinned : Pinned := { name := "ytnjjljnjgemkdaa", sum := "c312909a9a9cc5d65848abe90df75a3d1ecf9064988aa9b848ed5633ae80c599", checked := Try.checked }
namespace Rows
def none {H : Type} : Left H := { results := [], args := [] }

/-- 'laws.FnGroups': WHATEVER THE INPUT: true; the input reads as it did. -/
def fnGroupsSpec : ChangeSpec := { name := "fnGroups", fn := fun _ => fun
  | [d] => { results := [.lit (.bool true)], args := [d] }
  | _ => none }
def fnGroupsRow : OpenClaim := { program := "ytnjjljnjgemkdaa", sum := "c312909a9a9cc5d65848abe90df75a3d1ecf9064988aa9b848ed5633ae80c599", func := "loop.example/g00184/laws.FnGroups", spec := "fnGroups", apart := false }
def FnGroupsSaid : Prop := fnGroupsRow.holds Try.pinned (OpenSpec.ofChange fnGroupsSpec)

/-- ITS FALSE NEIGHBOUR: 'it returns false'. Refute it at one input. -/
def fnGroupsWrong : ChangeSpec := { name := "fnGroups", fn := fun _ => fun
  | [d] => { results := [.lit (.bool false)], args := [d] }
  | _ => none }
def FnGroupsWrongFalsely : Prop := fnGroupsRow.holds Try.pinned (OpenSpec.ofChange fnGroupsWrong)

/-- 'laws.FnOrder': WHATEVER THE INPUT: true; the input reads as it did. -/
def fnOrderSpec : ChangeSpec := { name := "fnOrder", fn := fun _ => fun
  | [d] => { results := [.lit (.bool true)], args := [d] }
  | _ => none }
def fnOrderRow : OpenClaim := { program := "ytnjjljnjgemkdaa", sum := "c312909a9a9cc5d65848abe90df75a3d1ecf9064988aa9b848ed5633ae80c599", func := "loop.example/g00184/laws.FnOrder", spec := "fnOrder", apart := false }
def FnOrderSaid : Prop := fnOrderRow.holds Try.pinned (OpenSpec.ofChange fnOrderSpec)

/-- ITS FALSE NEIGHBOUR: 'it returns false'. Refute it at one input. -/
def fnOrderWrong : ChangeSpec := { name := "fnOrder", fn := fun _ => fun
  | [d] => { results := [.lit (.bool false)], args := [d] }
  | _ => none }
def FnOrderWrongFalsely : Prop := fnOrderRow.holds Try.pinned (OpenSpec.ofChange fnOrderWrong)

/-- 'laws.FnTables': WHATEVER THE INPUT: true; the input reads as it did. -/
def fnTablesSpec : ChangeSpec := { name := "fnTables", fn := fun _ => fun
  | [d] => { results := [.lit (.bool true)], args := [d] }
  | _ => none }
def fnTablesRow : OpenClaim := { program := "ytnjjljnjgemkdaa", sum := "c312909a9a9cc5d65848abe90df75a3d1ecf9064988aa9b848ed5633ae80c599", func := "loop.example/g00184/laws.FnTables", spec := "fnTables", apart := false }
def FnTablesSaid : Prop := fnTablesRow.holds Try.pinned (OpenSpec.ofChange fnTablesSpec)

/-- ITS FALSE NEIGHBOUR: 'it returns false'. Refute it at one input. -/
def fnTablesWrong : ChangeSpec := { name := "fnTables", fn := fun _ => fun
  | [d] => { results := [.lit (.bool false)], args := [d] }
  | _ => none }
def FnTablesWrongFalsely : Prop := fnTablesRow.holds Try.pinned (OpenSpec.ofChange fnTablesWrong)

/-- 'laws.FnExactReplicaNew': WHATEVER THE INPUT: true; the input reads as it did. -/
def fnExactReplicaNewSpec : ChangeSpec := { name := "fnExactReplicaNew", fn := fun _ => fun
  | [d1, d2] => { results := [.lit (.bool true)], args := [d1, d2] }
  | _ => none }
def fnExactReplicaNewRow : OpenClaim := { program := "ytnjjljnjgemkdaa", sum := "c312909a9a9cc5d65848abe90df75a3d1ecf9064988aa9b848ed5633ae80c599", func := "loop.example/g00184/laws.FnExactReplicaNew", spec := "fnExactReplicaNew", apart := false }
def FnExactReplicaNewSaid : Prop := fnExactReplicaNewRow.holds Try.pinned (OpenSpec.ofChange fnExactReplicaNewSpec)

/-- ITS FALSE NEIGHBOUR: 'it returns false'. Refute it at one input. -/
def fnExactReplicaNewWrong : ChangeSpec := { name := "fnExactReplicaNew", fn := fun _ => fun
  | [d1, d2] => { results := [.lit (.bool false)], args := [d1, d2] }
  | _ => none }
def FnExactReplicaNewWrongFalsely : Prop := fnExactReplicaNewRow.holds Try.pinned (OpenSpec.ofChange fnExactReplicaNewWrong)

/-- 'laws.FnExactMsgOk': WHATEVER THE INPUT: true; the input reads as it did. -/
def fnExactMsgOkSpec : ChangeSpec := { name := "fnExactMsgOk", fn := fun _ => fun
  | [d1, d2] => { results := [.lit (.bool true)], args := [d1, d2] }
  | _ => none }
def fnExactMsgOkRow : OpenClaim := { program := "ytnjjljnjgemkdaa", sum := "c312909a9a9cc5d65848abe90df75a3d1ecf9064988aa9b848ed5633ae80c599", func := "loop.example/g00184/laws.FnExactMsgOk", spec := "fnExactMsgOk", apart := false }
def FnExactMsgOkSaid : Prop := fnExactMsgOkRow.holds Try.pinned (OpenSpec.ofChange fnExactMsgOkSpec)

/-- ITS FALSE NEIGHBOUR: 'it returns false'. Refute it at one input. -/
def fnExactMsgOkWrong : ChangeSpec := { name := "fnExactMsgOk", fn := fun _ => fun
  | [d1, d2] => { results := [.lit (.bool false)], args := [d1, d2] }
  | _ => none }
def FnExactMsgOkWrongFalsely : Prop := fnExactMsgOkRow.holds Try.pinned (OpenSpec.ofChange fnExactMsgOkWrong)

/-- 'laws.FnExactClusterNew': WHATEVER THE INPUT: true; the input reads as it did. -/
def fnExactClusterNewSpec : ChangeSpec := { name := "fnExactClusterNew", fn := fun _ => fun
  | [d] => { results := [.lit (.bool true)], args := [d] }
  | _ => none }
def fnExactClusterNewRow : OpenClaim := { program := "ytnjjljnjgemkdaa", sum := "c312909a9a9cc5d65848abe90df75a3d1ecf9064988aa9b848ed5633ae80c599", func := "loop.example/g00184/laws.FnExactClusterNew", spec := "fnExactClusterNew", apart := false }
def FnExactClusterNewSaid : Prop := fnExactClusterNewRow.holds Try.pinned (OpenSpec.ofChange fnExactClusterNewSpec)

/-- ITS FALSE NEIGHBOUR: 'it returns false'. Refute it at one input. -/
def fnExactClusterNewWrong : ChangeSpec := { name := "fnExactClusterNew", fn := fun _ => fun
  | [d] => { results := [.lit (.bool false)], args := [d] }
  | _ => none }
def FnExactClusterNewWrongFalsely : Prop := fnExactClusterNewRow.holds Try.pinned (OpenSpec.ofChange fnExactClusterNewWrong)

/-- 'laws.FnExactAgreed': WHATEVER THE INPUT: true; the input reads as it did. -/
def fnExactAgreedSpec : ChangeSpec := { name := "fnExactAgreed", fn := fun _ => fun
  | [d] => { results := [.lit (.bool true)], args := [d] }
  | _ => none }
def fnExactAgreedRow : OpenClaim := { program := "ytnjjljnjgemkdaa", sum := "c312909a9a9cc5d65848abe90df75a3d1ecf9064988aa9b848ed5633ae80c599", func := "loop.example/g00184/laws.FnExactAgreed", spec := "fnExactAgreed", apart := false }
def FnExactAgreedSaid : Prop := fnExactAgreedRow.holds Try.pinned (OpenSpec.ofChange fnExactAgreedSpec)

/-- ITS FALSE NEIGHBOUR: 'it returns false'. Refute it at one input. -/
def fnExactAgreedWrong : ChangeSpec := { name := "fnExactAgreed", fn := fun _ => fun
  | [d] => { results := [.lit (.bool false)], args := [d] }
  | _ => none }
def FnExactAgreedWrongFalsely : Prop := fnExactAgreedRow.holds Try.pinned (OpenSpec.ofChange fnExactAgreedWrong)

/-- 'laws.FnExactTimely': WHATEVER THE INPUT: true; the input reads as it did. -/
def fnExactTimelySpec : ChangeSpec := { name := "fnExactTimely", fn := fun _ => fun
  | [d] => { results := [.lit (.bool true)], args := [d] }
  | _ => none }
def fnExactTimelyRow : OpenClaim := { program := "ytnjjljnjgemkdaa", sum := "c312909a9a9cc5d65848abe90df75a3d1ecf9064988aa9b848ed5633ae80c599", func := "loop.example/g00184/laws.FnExactTimely", spec := "fnExactTimely", apart := false }
def FnExactTimelySaid : Prop := fnExactTimelyRow.holds Try.pinned (OpenSpec.ofChange fnExactTimelySpec)

/-- ITS FALSE NEIGHBOUR: 'it returns false'. Refute it at one input. -/
def fnExactTimelyWrong : ChangeSpec := { name := "fnExactTimely", fn := fun _ => fun
  | [d] => { results := [.lit (.bool false)], args := [d] }
  | _ => none }
def FnExactTimelyWrongFalsely : Prop := fnExactTimelyRow.holds Try.pinned (OpenSpec.ofChange fnExactTimelyWrong)

/-- 'laws.FnExactOrdered': WHATEVER THE INPUT: true; the input reads as it did. -/
def fnExactOrderedSpec : ChangeSpec := { name := "fnExactOrdered", fn := fun _ => fun
  | [d] => { results := [.lit (.bool true)], args := [d] }
  | _ => none }
def fnExactOrderedRow : OpenClaim := { program := "ytnjjljnjgemkdaa", sum := "c312909a9a9cc5d65848abe90df75a3d1ecf9064988aa9b848ed5633ae80c599", func := "loop.example/g00184/laws.FnExactOrdered", spec := "fnExactOrdered", apart := false }
def FnExactOrderedSaid : Prop := fnExactOrderedRow.holds Try.pinned (OpenSpec.ofChange fnExactOrderedSpec)

/-- ITS FALSE NEIGHBOUR: 'it returns false'. Refute it at one input. -/
def fnExactOrderedWrong : ChangeSpec := { name := "fnExactOrdered", fn := fun _ => fun
  | [d] => { results := [.lit (.bool false)], args := [d] }
  | _ => none }
def FnExactOrderedWrongFalsely : Prop := fnExactOrderedRow.holds Try.pinned (OpenSpec.ofChange fnExactOrderedWrong)

/-- 'laws.FnExactLevel': WHATEVER THE INPUT: true; the input reads as it did. -/
def fnExactLevelSpec : ChangeSpec := { name := "fnExactLevel", fn := fun _ => fun
  | [d] => { results := [.lit (.bool true)], args := [d] }
  | _ => none }
def fnExactLevelRow : OpenClaim := { program := "ytnjjljnjgemkdaa", sum := "c312909a9a9cc5d65848abe90df75a3d1ecf9064988aa9b848ed5633ae80c599", func := "loop.example/g00184/laws.FnExactLevel", spec := "fnExactLevel", apart := false }
def FnExactLevelSaid : Prop := fnExactLevelRow.holds Try.pinned (OpenSpec.ofChange fnExactLevelSpec)

/-- ITS FALSE NEIGHBOUR: 'it returns false'. Refute it at one input. -/
def fnExactLevelWrong : ChangeSpec := { name := "fnExactLevel", fn := fun _ => fun
  | [d] => { results := [.lit (.bool false)], args := [d] }
  | _ => none }
def FnExactLevelWrongFalsely : Prop := fnExactLevelRow.holds Try.pinned (OpenSpec.ofChange fnExactLevelWrong)

/-- 'laws.FnExactFinal': WHATEVER THE INPUT: true; the input reads as it did. -/
def fnExactFinalSpec : ChangeSpec := { name := "fnExactFinal", fn := fun _ => fun
  | [d] => { results := [.lit (.bool true)], args := [d] }
  | _ => none }
def fnExactFinalRow : OpenClaim := { program := "ytnjjljnjgemkdaa", sum := "c312909a9a9cc5d65848abe90df75a3d1ecf9064988aa9b848ed5633ae80c599", func := "loop.example/g00184/laws.FnExactFinal", spec := "fnExactFinal", apart := false }
def FnExactFinalSaid : Prop := fnExactFinalRow.holds Try.pinned (OpenSpec.ofChange fnExactFinalSpec)

/-- ITS FALSE NEIGHBOUR: 'it returns false'. Refute it at one input. -/
def fnExactFinalWrong : ChangeSpec := { name := "fnExactFinal", fn := fun _ => fun
  | [d] => { results := [.lit (.bool false)], args := [d] }
  | _ => none }
def FnExactFinalWrongFalsely : Prop := fnExactFinalRow.holds Try.pinned (OpenSpec.ofChange fnExactFinalWrong)

/-- 'laws.FnExactTold': WHATEVER THE INPUT: true; the input reads as it did. -/
def fnExactToldSpec : ChangeSpec := { name := "fnExactTold", fn := fun _ => fun
  | [d] => { results := [.lit (.bool true)], args := [d] }
  | _ => none }
def fnExactToldRow : OpenClaim := { program := "ytnjjljnjgemkdaa", sum := "c312909a9a9cc5d65848abe90df75a3d1ecf9064988aa9b848ed5633ae80c599", func := "loop.example/g00184/laws.FnExactTold", spec := "fnExactTold", apart := false }
def FnExactToldSaid : Prop := fnExactToldRow.holds Try.pinned (OpenSpec.ofChange fnExactToldSpec)

/-- ITS FALSE NEIGHBOUR: 'it returns false'. Refute it at one input. -/
def fnExactToldWrong : ChangeSpec := { name := "fnExactTold", fn := fun _ => fun
  | [d] => { results := [.lit (.bool false)], args := [d] }
  | _ => none }
def FnExactToldWrongFalsely : Prop := fnExactToldRow.holds Try.pinned (OpenSpec.ofChange fnExactToldWrong)

/-- 'laws.FnExactReplicaOk': WHATEVER THE INPUT: true; the input reads as it did. -/
def fnExactReplicaOkSpec : ChangeSpec := { name := "fnExactReplicaOk", fn := fun _ => fun
  | [d] => { results := [.lit (.bool true)], args := [d] }
  | _ => none }
def fnExactReplicaOkRow : OpenClaim := { program := "ytnjjljnjgemkdaa", sum := "c312909a9a9cc5d65848abe90df75a3d1ecf9064988aa9b848ed5633ae80c599", func := "loop.example/g00184/laws.FnExactReplicaOk", spec := "fnExactReplicaOk", apart := false }
def FnExactReplicaOkSaid : Prop := fnExactReplicaOkRow.holds Try.pinned (OpenSpec.ofChange fnExactReplicaOkSpec)

/-- ITS FALSE NEIGHBOUR: 'it returns false'. Refute it at one input. -/
def fnExactReplicaOkWrong : ChangeSpec := { name := "fnExactReplicaOk", fn := fun _ => fun
  | [d] => { results := [.lit (.bool false)], args := [d] }
  | _ => none }
def FnExactReplicaOkWrongFalsely : Prop := fnExactReplicaOkRow.holds Try.pinned (OpenSpec.ofChange fnExactReplicaOkWrong)

/-- 'laws.FnRepeated': WHATEVER THE INPUT: true; the input reads as it did. -/
def fnRepeatedSpec : ChangeSpec := { name := "fnRepeated", fn := fun _ => fun
  | [d] => { results := [.lit (.bool true)], args := [d] }
  | _ => none }
def fnRepeatedRow : OpenClaim := { program := "ytnjjljnjgemkdaa", sum := "c312909a9a9cc5d65848abe90df75a3d1ecf9064988aa9b848ed5633ae80c599", func := "loop.example/g00184/laws.FnRepeated", spec := "fnRepeated", apart := false }
def FnRepeatedSaid : Prop := fnRepeatedRow.holds Try.pinned (OpenSpec.ofChange fnRepeatedSpec)

/-- ITS FALSE NEIGHBOUR: 'it returns false'. Refute it at one input. -/
def fnRepeatedWrong : ChangeSpec := { name := "fnRepeated", fn := fun _ => fun
  | [d] => { results := [.lit (.bool false)], args := [d] }
  | _ => none }
def FnRepeatedWrongFalsely : Prop := fnRepeatedRow.holds Try.pinned (OpenSpec.ofChange fnRepeatedWrong)

/- THE SECOND FORM. 'bulk': how many values and letters a reading holds, each counted each time it is reached (what is shared counts as often as it is met; a slice's spare places count too). A statement '..UptoSaid' is the law's where the arguments, and the package variables that the reading takes, are together of bulk at most 1048576: NARROWER than '..Said'. Prove '..Said' where nothing that the law and all that it calls make is longer than what came in: it says more and counts as full. Else prove '..UptoSaid'. A law counts once. -/
mutual
def uptoBulk {H : Type} : DataW H → Nat
  | .lit (.string bytes) => bytes.length + 1
  | .lit _ => 1
  | .nil => 1
  | .ptr d => uptoBulk d + 1
  | .slice elems spare => uptoBulkAll elems + uptoBulkAll spare + 1
  | .agg parts => uptoBulkAll parts + 1
  | .iface _ d => uptoBulk d + 1
  | .map entries => uptoBulkEntries entries + 1
  | .held _ => 1
def uptoBulkAll {H : Type} : List (DataW H) → Nat
  | [] => 0
  | d :: r => uptoBulk d + uptoBulkAll r
def uptoBulkEntries {H : Type} : List (Lit × DataW H) → Nat
  | [] => 0
  | x :: r => uptoBulkEntry x + uptoBulkEntries r
def uptoBulkEntry {H : Type} : Lit × DataW H → Nat
  | (.string bytes, d) => bytes.length + uptoBulk d + 1
  | (_, d) => uptoBulk d + 1
 end
def uptoSmall : (H : Type) → List (DataW H) → Bool := fun _ ds => decide (uptoBulkAll ds ≤ 1048576)
def OpenSpec.upto (s : _root_.Go.ChangeSpec) : _root_.Go.OpenSpec := { _root_.Go.OpenSpec.ofChange s with cond := some uptoSmall }

/-- 'laws.FnGroups', WHERE WHAT IT READS IS OF BULK AT MOST 1048576: true; the input reads as it did. -/
def fnGroupsUptoRow : OpenClaim := { program := "ytnjjljnjgemkdaa", sum := "c312909a9a9cc5d65848abe90df75a3d1ecf9064988aa9b848ed5633ae80c599", func := "loop.example/g00184/laws.FnGroups", spec := "fnGroups", apart := false, narrowed := true }
def FnGroupsUptoSaid : Prop := fnGroupsUptoRow.holds Try.pinned (OpenSpec.upto fnGroupsSpec)

/-- 'laws.FnOrder', WHERE WHAT IT READS IS OF BULK AT MOST 1048576: true; the input reads as it did. -/
def fnOrderUptoRow : OpenClaim := { program := "ytnjjljnjgemkdaa", sum := "c312909a9a9cc5d65848abe90df75a3d1ecf9064988aa9b848ed5633ae80c599", func := "loop.example/g00184/laws.FnOrder", spec := "fnOrder", apart := false, narrowed := true }
def FnOrderUptoSaid : Prop := fnOrderUptoRow.holds Try.pinned (OpenSpec.upto fnOrderSpec)

/-- 'laws.FnTables', WHERE WHAT IT READS IS OF BULK AT MOST 1048576: true; the input reads as it did. -/
def fnTablesUptoRow : OpenClaim := { program := "ytnjjljnjgemkdaa", sum := "c312909a9a9cc5d65848abe90df75a3d1ecf9064988aa9b848ed5633ae80c599", func := "loop.example/g00184/laws.FnTables", spec := "fnTables", apart := false, narrowed := true }
def FnTablesUptoSaid : Prop := fnTablesUptoRow.holds Try.pinned (OpenSpec.upto fnTablesSpec)

/-- 'laws.FnExactReplicaNew', WHERE WHAT IT READS IS OF BULK AT MOST 1048576: true; the input reads as it did. -/
def fnExactReplicaNewUptoRow : OpenClaim := { program := "ytnjjljnjgemkdaa", sum := "c312909a9a9cc5d65848abe90df75a3d1ecf9064988aa9b848ed5633ae80c599", func := "loop.example/g00184/laws.FnExactReplicaNew", spec := "fnExactReplicaNew", apart := false, narrowed := true }
def FnExactReplicaNewUptoSaid : Prop := fnExactReplicaNewUptoRow.holds Try.pinned (OpenSpec.upto fnExactReplicaNewSpec)

/-- 'laws.FnExactMsgOk', WHERE WHAT IT READS IS OF BULK AT MOST 1048576: true; the input reads as it did. -/
def fnExactMsgOkUptoRow : OpenClaim := { program := "ytnjjljnjgemkdaa", sum := "c312909a9a9cc5d65848abe90df75a3d1ecf9064988aa9b848ed5633ae80c599", func := "loop.example/g00184/laws.FnExactMsgOk", spec := "fnExactMsgOk", apart := false, narrowed := true }
def FnExactMsgOkUptoSaid : Prop := fnExactMsgOkUptoRow.holds Try.pinned (OpenSpec.upto fnExactMsgOkSpec)

/-- 'laws.FnExactClusterNew', WHERE WHAT IT READS IS OF BULK AT MOST 1048576: true; the input reads as it did. -/
def fnExactClusterNewUptoRow : OpenClaim := { program := "ytnjjljnjgemkdaa", sum := "c312909a9a9cc5d65848abe90df75a3d1ecf9064988aa9b848ed5633ae80c599", func := "loop.example/g00184/laws.FnExactClusterNew", spec := "fnExactClusterNew", apart := false, narrowed := true }
def FnExactClusterNewUptoSaid : Prop := fnExactClusterNewUptoRow.holds Try.pinned (OpenSpec.upto fnExactClusterNewSpec)

/-- 'laws.FnExactAgreed', WHERE WHAT IT READS IS OF BULK AT MOST 1048576: true; the input reads as it did. -/
def fnExactAgreedUptoRow : OpenClaim := { program := "ytnjjljnjgemkdaa", sum := "c312909a9a9cc5d65848abe90df75a3d1ecf9064988aa9b848ed5633ae80c599", func := "loop.example/g00184/laws.FnExactAgreed", spec := "fnExactAgreed", apart := false, narrowed := true }
def FnExactAgreedUptoSaid : Prop := fnExactAgreedUptoRow.holds Try.pinned (OpenSpec.upto fnExactAgreedSpec)

/-- 'laws.FnExactTimely', WHERE WHAT IT READS IS OF BULK AT MOST 1048576: true; the input reads as it did. -/
def fnExactTimelyUptoRow : OpenClaim := { program := "ytnjjljnjgemkdaa", sum := "c312909a9a9cc5d65848abe90df75a3d1ecf9064988aa9b848ed5633ae80c599", func := "loop.example/g00184/laws.FnExactTimely", spec := "fnExactTimely", apart := false, narrowed := true }
def FnExactTimelyUptoSaid : Prop := fnExactTimelyUptoRow.holds Try.pinned (OpenSpec.upto fnExactTimelySpec)

/-- 'laws.FnExactOrdered', WHERE WHAT IT READS IS OF BULK AT MOST 1048576: true; the input reads as it did. -/
def fnExactOrderedUptoRow : OpenClaim := { program := "ytnjjljnjgemkdaa", sum := "c312909a9a9cc5d65848abe90df75a3d1ecf9064988aa9b848ed5633ae80c599", func := "loop.example/g00184/laws.FnExactOrdered", spec := "fnExactOrdered", apart := false, narrowed := true }
def FnExactOrderedUptoSaid : Prop := fnExactOrderedUptoRow.holds Try.pinned (OpenSpec.upto fnExactOrderedSpec)

/-- 'laws.FnExactLevel', WHERE WHAT IT READS IS OF BULK AT MOST 1048576: true; the input reads as it did. -/
def fnExactLevelUptoRow : OpenClaim := { program := "ytnjjljnjgemkdaa", sum := "c312909a9a9cc5d65848abe90df75a3d1ecf9064988aa9b848ed5633ae80c599", func := "loop.example/g00184/laws.FnExactLevel", spec := "fnExactLevel", apart := false, narrowed := true }
def FnExactLevelUptoSaid : Prop := fnExactLevelUptoRow.holds Try.pinned (OpenSpec.upto fnExactLevelSpec)

/-- 'laws.FnExactFinal', WHERE WHAT IT READS IS OF BULK AT MOST 1048576: true; the input reads as it did. -/
def fnExactFinalUptoRow : OpenClaim := { program := "ytnjjljnjgemkdaa", sum := "c312909a9a9cc5d65848abe90df75a3d1ecf9064988aa9b848ed5633ae80c599", func := "loop.example/g00184/laws.FnExactFinal", spec := "fnExactFinal", apart := false, narrowed := true }
def FnExactFinalUptoSaid : Prop := fnExactFinalUptoRow.holds Try.pinned (OpenSpec.upto fnExactFinalSpec)

/-- 'laws.FnExactTold', WHERE WHAT IT READS IS OF BULK AT MOST 1048576: true; the input reads as it did. -/
def fnExactToldUptoRow : OpenClaim := { program := "ytnjjljnjgemkdaa", sum := "c312909a9a9cc5d65848abe90df75a3d1ecf9064988aa9b848ed5633ae80c599", func := "loop.example/g00184/laws.FnExactTold", spec := "fnExactTold", apart := false, narrowed := true }
def FnExactToldUptoSaid : Prop := fnExactToldUptoRow.holds Try.pinned (OpenSpec.upto fnExactToldSpec)

/-- 'laws.FnExactReplicaOk', WHERE WHAT IT READS IS OF BULK AT MOST 1048576: true; the input reads as it did. -/
def fnExactReplicaOkUptoRow : OpenClaim := { program := "ytnjjljnjgemkdaa", sum := "c312909a9a9cc5d65848abe90df75a3d1ecf9064988aa9b848ed5633ae80c599", func := "loop.example/g00184/laws.FnExactReplicaOk", spec := "fnExactReplicaOk", apart := false, narrowed := true }
def FnExactReplicaOkUptoSaid : Prop := fnExactReplicaOkUptoRow.holds Try.pinned (OpenSpec.upto fnExactReplicaOkSpec)

/-- 'laws.FnRepeated', WHERE WHAT IT READS IS OF BULK AT MOST 1048576: true; the input reads as it did. -/
def fnRepeatedUptoRow : OpenClaim := { program := "ytnjjljnjgemkdaa", sum := "c312909a9a9cc5d65848abe90df75a3d1ecf9064988aa9b848ed5633ae80c599", func := "loop.example/g00184/laws.FnRepeated", spec := "fnRepeated", apart := false, narrowed := true }
def FnRepeatedUptoSaid : Prop := fnRepeatedUptoRow.holds Try.pinned (OpenSpec.upto fnRepeatedSpec)

end Rows
end Go.Proofs.Ytnjjljnjgemkdaa
