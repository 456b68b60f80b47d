/-
  No cell of these rows narrows 'for every input' (looked for: loops, veiled, ifaces, maps, wideKeys, modest, calm, conditions, laid).
  DERIVED. THE GIVEN ROWS OF THIS SEAT. 4 by the template 'for every input the law returns true; each argument reads behind the call as it read before'; 0 by the template 'total and deterministic' (their statements: YtbpbadmgmlfdhaaTotals.lean).
  GIVEN WITH THE SEED: the statements are not yours to turn. If you find one false, say at which input.
  Laid BY PROGRAM, IN A SANDBOX (cutbox-rows.mjs): the forced cells as the released guide's own fill.sh prints them over the translation 452c5e1f28969da7… (all of the seat's roots in one cut). By AI agents, Wed Nov 11 2026. No macro, syntax, notation, axiom, sorry.
-/
import Derived.Test.YtbpbadmgmlfdhaaChecked
import GoSem.Claim
import GoSem.ClaimJoined
import GoSem.ClaimMapViews
import Derived.JoinedTies
import Derived.KernelRfl
namespace Go.Proofs.Ytbpbadmgmlfdhaa
/- THE CELL 'sum', in the pinned program and in every row, IS THE sha256 OF THE DUMP (.gsa) THAT YtbpbadmgmlfdhaaProg.lean LOADS. Nothing in Lean hashes anything: it is a label: what it is worth is what the hold of that sum in a sandbox is worth. -/
noncomputable def Try.pinned : Pinned := { name := "ytbpbadmgmlfdhaa", sum := "452c5e1f28969da7a6ce44e6c4276b65a8b2c725835906bff966d026defeb266", checked := Try.checked }
namespace Rows
def none {H : Type} : Left H := { results := [], args := [] }

/-- 'laws.FnExactArrayValid': WHATEVER THE INPUT: true; the input reads as it did. -/
def fnExactArrayValidSpec : ChangeSpec := { name := "fnExactArrayValid", fn := fun _ => fun
  | [d] => { results := [.lit (.bool true)], args := [d] }
  | _ => none }
def fnExactArrayValidRow : OpenClaim := { program := "ytbpbadmgmlfdhaa", sum := "452c5e1f28969da7a6ce44e6c4276b65a8b2c725835906bff966d026defeb266", func := "loop.example/radiointerferometer/laws.FnExactArrayValid", spec := "fnExactArrayValid", apart := false }
def FnExactArrayValidSaid : Prop := fnExactArrayValidRow.holds Try.pinned (OpenSpec.ofChange fnExactArrayValidSpec)

/-- ITS FALSE NEIGHBOUR: 'it returns false'. Refute it at one input. -/
def fnExactArrayValidWrong : ChangeSpec := { name := "fnExactArrayValid", fn := fun _ => fun
  | [d] => { results := [.lit (.bool false)], args := [d] }
  | _ => none }
def FnExactArrayValidWrongFalsely : Prop := fnExactArrayValidRow.holds Try.pinned (OpenSpec.ofChange fnExactArrayValidWrong)

/-- 'laws.FnExactBaseVector': WHATEVER THE INPUT: true; the input reads as it did. -/
def fnExactBaseVectorSpec : ChangeSpec := { name := "fnExactBaseVector", fn := fun _ => fun
  | [d1, d2, d3] => { results := [.lit (.bool true)], args := [d1, d2, d3] }
  | _ => none }
def fnExactBaseVectorRow : OpenClaim := { program := "ytbpbadmgmlfdhaa", sum := "452c5e1f28969da7a6ce44e6c4276b65a8b2c725835906bff966d026defeb266", func := "loop.example/radiointerferometer/laws.FnExactBaseVector", spec := "fnExactBaseVector", apart := false }
def FnExactBaseVectorSaid : Prop := fnExactBaseVectorRow.holds Try.pinned (OpenSpec.ofChange fnExactBaseVectorSpec)

/-- ITS FALSE NEIGHBOUR: 'it returns false'. Refute it at one input. -/
def fnExactBaseVectorWrong : ChangeSpec := { name := "fnExactBaseVector", fn := fun _ => fun
  | [d1, d2, d3] => { results := [.lit (.bool false)], args := [d1, d2, d3] }
  | _ => none }
def FnExactBaseVectorWrongFalsely : Prop := fnExactBaseVectorRow.holds Try.pinned (OpenSpec.ofChange fnExactBaseVectorWrong)

/-- 'laws.FnArray': WHATEVER THE INPUT: true; the input reads as it did. -/
def fnArraySpec : ChangeSpec := { name := "fnArray", fn := fun _ => fun
  | [d] => { results := [.lit (.bool true)], args := [d] }
  | _ => none }
def fnArrayRow : OpenClaim := { program := "ytbpbadmgmlfdhaa", sum := "452c5e1f28969da7a6ce44e6c4276b65a8b2c725835906bff966d026defeb266", func := "loop.example/radiointerferometer/laws.FnArray", spec := "fnArray", apart := false }
def FnArraySaid : Prop := fnArrayRow.holds Try.pinned (OpenSpec.ofChange fnArraySpec)

/-- ITS FALSE NEIGHBOUR: 'it returns false'. Refute it at one input. -/
def fnArrayWrong : ChangeSpec := { name := "fnArray", fn := fun _ => fun
  | [d] => { results := [.lit (.bool false)], args := [d] }
  | _ => none }
def FnArrayWrongFalsely : Prop := fnArrayRow.holds Try.pinned (OpenSpec.ofChange fnArrayWrong)

/-- 'laws.FnArrayOrder': WHATEVER THE INPUT: true; the input reads as it did. -/
def fnArrayOrderSpec : ChangeSpec := { name := "fnArrayOrder", fn := fun _ => fun
  | [d1, d2] => { results := [.lit (.bool true)], args := [d1, d2] }
  | _ => none }
def fnArrayOrderRow : OpenClaim := { program := "ytbpbadmgmlfdhaa", sum := "452c5e1f28969da7a6ce44e6c4276b65a8b2c725835906bff966d026defeb266", func := "loop.example/radiointerferometer/laws.FnArrayOrder", spec := "fnArrayOrder", apart := false }
def FnArrayOrderSaid : Prop := fnArrayOrderRow.holds Try.pinned (OpenSpec.ofChange fnArrayOrderSpec)

/-- ITS FALSE NEIGHBOUR: 'it returns false'. Refute it at one input. -/
def fnArrayOrderWrong : ChangeSpec := { name := "fnArrayOrder", fn := fun _ => fun
  | [d1, d2] => { results := [.lit (.bool false)], args := [d1, d2] }
  | _ => none }
def FnArrayOrderWrongFalsely : Prop := fnArrayOrderRow.holds Try.pinned (OpenSpec.ofChange fnArrayOrderWrong)

/- THE SECOND FORM. 'bulk': how many values and letters a reading holds, each counted each time it is reached (what is shared counts as often as it is met; a slice's spare places count too). A statement '..UptoSaid' is the law's where the arguments, and the package variables that the reading takes, are together of bulk at most 1048576: NARROWER than '..Said'. Prove '..Said' where nothing that the law and all that it calls make is longer than what came in: it says more and counts as full. Else prove '..UptoSaid'. A law counts once. -/
mutual
def uptoBulk {H : Type} : DataW H → Nat
  | .lit (.string bytes) => bytes.length + 1
  | .lit _ => 1
  | .nil => 1
  | .ptr d => uptoBulk d + 1
  | .slice elems spare => uptoBulkAll elems + uptoBulkAll spare + 1
  | .agg parts => uptoBulkAll parts + 1
  | .iface _ d => uptoBulk d + 1
  | .map entries => uptoBulkEntries entries + 1
  | .held _ => 1
def uptoBulkAll {H : Type} : List (DataW H) → Nat
  | [] => 0
  | d :: r => uptoBulk d + uptoBulkAll r
def uptoBulkEntries {H : Type} : List (Lit × DataW H) → Nat
  | [] => 0
  | x :: r => uptoBulkEntry x + uptoBulkEntries r
def uptoBulkEntry {H : Type} : Lit × DataW H → Nat
  | (.string bytes, d) => bytes.length + uptoBulk d + 1
  | (_, d) => uptoBulk d + 1
 end
def uptoSmall : (H : Type) → List (DataW H) → Bool := fun _ ds => decide (uptoBulkAll ds ≤ 1048576)
def OpenSpec.upto (s : _root_.Go.ChangeSpec) : _root_.Go.OpenSpec := { _root_.Go.OpenSpec.ofChange s with cond := some uptoSmall }

/-- 'laws.FnExactArrayValid', WHERE WHAT IT READS IS OF BULK AT MOST 1048576: true; the input reads as it did. -/
def fnExactArrayValidUptoRow : OpenClaim := { program := "ytbpbadmgmlfdhaa", sum := "452c5e1f28969da7a6ce44e6c4276b65a8b2c725835906bff966d026defeb266", func := "loop.example/radiointerferometer/laws.FnExactArrayValid", spec := "fnExactArrayValid", apart := false, narrowed := true }
def FnExactArrayValidUptoSaid : Prop := fnExactArrayValidUptoRow.holds Try.pinned (OpenSpec.upto fnExactArrayValidSpec)

/-- 'laws.FnExactBaseVector', WHERE WHAT IT READS IS OF BULK AT MOST 1048576: true; the input reads as it did. -/
def fnExactBaseVectorUptoRow : OpenClaim := { program := "ytbpbadmgmlfdhaa", sum := "452c5e1f28969da7a6ce44e6c4276b65a8b2c725835906bff966d026defeb266", func := "loop.example/radiointerferometer/laws.FnExactBaseVector", spec := "fnExactBaseVector", apart := false, narrowed := true }
def FnExactBaseVectorUptoSaid : Prop := fnExactBaseVectorUptoRow.holds Try.pinned (OpenSpec.upto fnExactBaseVectorSpec)

/-- 'laws.FnArray', WHERE WHAT IT READS IS OF BULK AT MOST 1048576: true; the input reads as it did. -/
def fnArrayUptoRow : OpenClaim := { program := "ytbpbadmgmlfdhaa", sum := "452c5e1f28969da7a6ce44e6c4276b65a8b2c725835906bff966d026defeb266", func := "loop.example/radiointerferometer/laws.FnArray", spec := "fnArray", apart := false, narrowed := true }
def FnArrayUptoSaid : Prop := fnArrayUptoRow.holds Try.pinned (OpenSpec.upto fnArraySpec)

/-- 'laws.FnArrayOrder', WHERE WHAT IT READS IS OF BULK AT MOST 1048576: true; the input reads as it did. -/
def fnArrayOrderUptoRow : OpenClaim := { program := "ytbpbadmgmlfdhaa", sum := "452c5e1f28969da7a6ce44e6c4276b65a8b2c725835906bff966d026defeb266", func := "loop.example/radiointerferometer/laws.FnArrayOrder", spec := "fnArrayOrder", apart := false, narrowed := true }
def FnArrayOrderUptoSaid : Prop := fnArrayOrderUptoRow.holds Try.pinned (OpenSpec.upto fnArrayOrderSpec)

end Rows
end Go.Proofs.Ytbpbadmgmlfdhaa
