/-
  No cell of these rows narrows 'for every input' (looked for: loops, veiled, ifaces, maps, wideKeys, modest, calm, conditions, laid).
  DERIVED. THE GIVEN ROWS OF THIS SEAT. 5 by the template 'for every input the law returns true; each argument reads behind the call as it read before'; 0 by the template 'total and deterministic' (their statements: YtblijmemdnnbbaaTotals.lean).
  GIVEN WITH THE SEED: the statements are not yours to turn. If you find one false, say at which input.
  Laid BY PROGRAM, IN A SANDBOX (cutbox-rows.mjs): the forced cells as the released guide's own fill.sh prints them over the translation c84890e0eff37d11… (all of the seat's roots in one cut). By AI agents, Wed Nov 11 2026. No macro, syntax, notation, axiom, sorry.
-/
import Derived.Test.YtblijmemdnnbbaaChecked
import GoSem.Claim
import GoSem.ClaimJoined
import GoSem.ClaimMapViews
import Derived.JoinedTies
import Derived.KernelRfl
namespace Go.Proofs.Ytblijmemdnnbbaa
/- THE CELL 'sum', in the pinned program and in every row, IS THE sha256 OF THE DUMP (.gsa) THAT YtblijmemdnnbbaaProg.lean LOADS. Nothing in Lean hashes anything: it is a label: what it is worth is what the hold of that sum in a sandbox is worth. -/
noncomputable def Try.pinned : Pinned := { name := "ytblijmemdnnbbaa", sum := "c84890e0eff37d1163cf18bd4a6f9d8573d8903e189935ed422228d9bca6ef5d", checked := Try.checked }
namespace Rows
def none {H : Type} : Left H := { results := [], args := [] }

/-- 'laws.FnExactPhaseOf': WHATEVER THE INPUT: true; the input reads as it did. -/
def fnExactPhaseOfSpec : ChangeSpec := { name := "fnExactPhaseOf", fn := fun _ => fun
  | [d] => { results := [.lit (.bool true)], args := [d] }
  | _ => none }
def fnExactPhaseOfRow : OpenClaim := { program := "ytblijmemdnnbbaa", sum := "c84890e0eff37d1163cf18bd4a6f9d8573d8903e189935ed422228d9bca6ef5d", func := "loop.example/radiointerferometer/laws.FnExactPhaseOf", spec := "fnExactPhaseOf", apart := false }
def FnExactPhaseOfSaid : Prop := fnExactPhaseOfRow.holds Try.pinned (OpenSpec.ofChange fnExactPhaseOfSpec)

/-- ITS FALSE NEIGHBOUR: 'it returns false'. Refute it at one input. -/
def fnExactPhaseOfWrong : ChangeSpec := { name := "fnExactPhaseOf", fn := fun _ => fun
  | [d] => { results := [.lit (.bool false)], args := [d] }
  | _ => none }
def FnExactPhaseOfWrongFalsely : Prop := fnExactPhaseOfRow.holds Try.pinned (OpenSpec.ofChange fnExactPhaseOfWrong)

/-- 'laws.FnExactBaseMany': WHATEVER THE INPUT: true; the input reads as it did. -/
def fnExactBaseManySpec : ChangeSpec := { name := "fnExactBaseMany", fn := fun _ => fun
  | [d] => { results := [.lit (.bool true)], args := [d] }
  | _ => none }
def fnExactBaseManyRow : OpenClaim := { program := "ytblijmemdnnbbaa", sum := "c84890e0eff37d1163cf18bd4a6f9d8573d8903e189935ed422228d9bca6ef5d", func := "loop.example/radiointerferometer/laws.FnExactBaseMany", spec := "fnExactBaseMany", apart := false }
def FnExactBaseManySaid : Prop := fnExactBaseManyRow.holds Try.pinned (OpenSpec.ofChange fnExactBaseManySpec)

/-- ITS FALSE NEIGHBOUR: 'it returns false'. Refute it at one input. -/
def fnExactBaseManyWrong : ChangeSpec := { name := "fnExactBaseMany", fn := fun _ => fun
  | [d] => { results := [.lit (.bool false)], args := [d] }
  | _ => none }
def FnExactBaseManyWrongFalsely : Prop := fnExactBaseManyRow.holds Try.pinned (OpenSpec.ofChange fnExactBaseManyWrong)

/-- 'laws.FnExactGaussValid': WHATEVER THE INPUT: true; the input reads as it did. -/
def fnExactGaussValidSpec : ChangeSpec := { name := "fnExactGaussValid", fn := fun _ => fun
  | [d] => { results := [.lit (.bool true)], args := [d] }
  | _ => none }
def fnExactGaussValidRow : OpenClaim := { program := "ytblijmemdnnbbaa", sum := "c84890e0eff37d1163cf18bd4a6f9d8573d8903e189935ed422228d9bca6ef5d", func := "loop.example/radiointerferometer/laws.FnExactGaussValid", spec := "fnExactGaussValid", apart := false }
def FnExactGaussValidSaid : Prop := fnExactGaussValidRow.holds Try.pinned (OpenSpec.ofChange fnExactGaussValidSpec)

/-- ITS FALSE NEIGHBOUR: 'it returns false'. Refute it at one input. -/
def fnExactGaussValidWrong : ChangeSpec := { name := "fnExactGaussValid", fn := fun _ => fun
  | [d] => { results := [.lit (.bool false)], args := [d] }
  | _ => none }
def FnExactGaussValidWrongFalsely : Prop := fnExactGaussValidRow.holds Try.pinned (OpenSpec.ofChange fnExactGaussValidWrong)

/-- 'laws.FnExactPhaseSigned': WHATEVER THE INPUT: true; the input reads as it did. -/
def fnExactPhaseSignedSpec : ChangeSpec := { name := "fnExactPhaseSigned", fn := fun _ => fun
  | [d] => { results := [.lit (.bool true)], args := [d] }
  | _ => none }
def fnExactPhaseSignedRow : OpenClaim := { program := "ytblijmemdnnbbaa", sum := "c84890e0eff37d1163cf18bd4a6f9d8573d8903e189935ed422228d9bca6ef5d", func := "loop.example/radiointerferometer/laws.FnExactPhaseSigned", spec := "fnExactPhaseSigned", apart := false }
def FnExactPhaseSignedSaid : Prop := fnExactPhaseSignedRow.holds Try.pinned (OpenSpec.ofChange fnExactPhaseSignedSpec)

/-- ITS FALSE NEIGHBOUR: 'it returns false'. Refute it at one input. -/
def fnExactPhaseSignedWrong : ChangeSpec := { name := "fnExactPhaseSigned", fn := fun _ => fun
  | [d] => { results := [.lit (.bool false)], args := [d] }
  | _ => none }
def FnExactPhaseSignedWrongFalsely : Prop := fnExactPhaseSignedRow.holds Try.pinned (OpenSpec.ofChange fnExactPhaseSignedWrong)

/-- 'laws.FnExactGaussNorm': WHATEVER THE INPUT: true; the input reads as it did. -/
def fnExactGaussNormSpec : ChangeSpec := { name := "fnExactGaussNorm", fn := fun _ => fun
  | [d] => { results := [.lit (.bool true)], args := [d] }
  | _ => none }
def fnExactGaussNormRow : OpenClaim := { program := "ytblijmemdnnbbaa", sum := "c84890e0eff37d1163cf18bd4a6f9d8573d8903e189935ed422228d9bca6ef5d", func := "loop.example/radiointerferometer/laws.FnExactGaussNorm", spec := "fnExactGaussNorm", apart := false }
def FnExactGaussNormSaid : Prop := fnExactGaussNormRow.holds Try.pinned (OpenSpec.ofChange fnExactGaussNormSpec)

/-- ITS FALSE NEIGHBOUR: 'it returns false'. Refute it at one input. -/
def fnExactGaussNormWrong : ChangeSpec := { name := "fnExactGaussNorm", fn := fun _ => fun
  | [d] => { results := [.lit (.bool false)], args := [d] }
  | _ => none }
def FnExactGaussNormWrongFalsely : Prop := fnExactGaussNormRow.holds Try.pinned (OpenSpec.ofChange fnExactGaussNormWrong)

/- THE SECOND FORM. 'bulk': how many values and letters a reading holds, each counted each time it is reached (what is shared counts as often as it is met; a slice's spare places count too). A statement '..UptoSaid' is the law's where the arguments, and the package variables that the reading takes, are together of bulk at most 1048576: NARROWER than '..Said'. Prove '..Said' where nothing that the law and all that it calls make is longer than what came in: it says more and counts as full. Else prove '..UptoSaid'. A law counts once. -/
mutual
def uptoBulk {H : Type} : DataW H → Nat
  | .lit (.string bytes) => bytes.length + 1
  | .lit _ => 1
  | .nil => 1
  | .ptr d => uptoBulk d + 1
  | .slice elems spare => uptoBulkAll elems + uptoBulkAll spare + 1
  | .agg parts => uptoBulkAll parts + 1
  | .iface _ d => uptoBulk d + 1
  | .map entries => uptoBulkEntries entries + 1
  | .held _ => 1
def uptoBulkAll {H : Type} : List (DataW H) → Nat
  | [] => 0
  | d :: r => uptoBulk d + uptoBulkAll r
def uptoBulkEntries {H : Type} : List (Lit × DataW H) → Nat
  | [] => 0
  | x :: r => uptoBulkEntry x + uptoBulkEntries r
def uptoBulkEntry {H : Type} : Lit × DataW H → Nat
  | (.string bytes, d) => bytes.length + uptoBulk d + 1
  | (_, d) => uptoBulk d + 1
 end
def uptoSmall : (H : Type) → List (DataW H) → Bool := fun _ ds => decide (uptoBulkAll ds ≤ 1048576)
def OpenSpec.upto (s : _root_.Go.ChangeSpec) : _root_.Go.OpenSpec := { _root_.Go.OpenSpec.ofChange s with cond := some uptoSmall }

/-- 'laws.FnExactPhaseOf', WHERE WHAT IT READS IS OF BULK AT MOST 1048576: true; the input reads as it did. -/
def fnExactPhaseOfUptoRow : OpenClaim := { program := "ytblijmemdnnbbaa", sum := "c84890e0eff37d1163cf18bd4a6f9d8573d8903e189935ed422228d9bca6ef5d", func := "loop.example/radiointerferometer/laws.FnExactPhaseOf", spec := "fnExactPhaseOf", apart := false, narrowed := true }
def FnExactPhaseOfUptoSaid : Prop := fnExactPhaseOfUptoRow.holds Try.pinned (OpenSpec.upto fnExactPhaseOfSpec)

/-- 'laws.FnExactBaseMany', WHERE WHAT IT READS IS OF BULK AT MOST 1048576: true; the input reads as it did. -/
def fnExactBaseManyUptoRow : OpenClaim := { program := "ytblijmemdnnbbaa", sum := "c84890e0eff37d1163cf18bd4a6f9d8573d8903e189935ed422228d9bca6ef5d", func := "loop.example/radiointerferometer/laws.FnExactBaseMany", spec := "fnExactBaseMany", apart := false, narrowed := true }
def FnExactBaseManyUptoSaid : Prop := fnExactBaseManyUptoRow.holds Try.pinned (OpenSpec.upto fnExactBaseManySpec)

/-- 'laws.FnExactGaussValid', WHERE WHAT IT READS IS OF BULK AT MOST 1048576: true; the input reads as it did. -/
def fnExactGaussValidUptoRow : OpenClaim := { program := "ytblijmemdnnbbaa", sum := "c84890e0eff37d1163cf18bd4a6f9d8573d8903e189935ed422228d9bca6ef5d", func := "loop.example/radiointerferometer/laws.FnExactGaussValid", spec := "fnExactGaussValid", apart := false, narrowed := true }
def FnExactGaussValidUptoSaid : Prop := fnExactGaussValidUptoRow.holds Try.pinned (OpenSpec.upto fnExactGaussValidSpec)

/-- 'laws.FnExactPhaseSigned', WHERE WHAT IT READS IS OF BULK AT MOST 1048576: true; the input reads as it did. -/
def fnExactPhaseSignedUptoRow : OpenClaim := { program := "ytblijmemdnnbbaa", sum := "c84890e0eff37d1163cf18bd4a6f9d8573d8903e189935ed422228d9bca6ef5d", func := "loop.example/radiointerferometer/laws.FnExactPhaseSigned", spec := "fnExactPhaseSigned", apart := false, narrowed := true }
def FnExactPhaseSignedUptoSaid : Prop := fnExactPhaseSignedUptoRow.holds Try.pinned (OpenSpec.upto fnExactPhaseSignedSpec)

/-- 'laws.FnExactGaussNorm', WHERE WHAT IT READS IS OF BULK AT MOST 1048576: true; the input reads as it did. -/
def fnExactGaussNormUptoRow : OpenClaim := { program := "ytblijmemdnnbbaa", sum := "c84890e0eff37d1163cf18bd4a6f9d8573d8903e189935ed422228d9bca6ef5d", func := "loop.example/radiointerferometer/laws.FnExactGaussNorm", spec := "fnExactGaussNorm", apart := false, narrowed := true }
def FnExactGaussNormUptoSaid : Prop := fnExactGaussNormUptoRow.holds Try.pinned (OpenSpec.upto fnExactGaussNormSpec)

end Rows
end Go.Proofs.Ytblijmemdnnbbaa
