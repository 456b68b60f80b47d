/-
  No cell of these rows narrows 'for every input' (looked for: loops, veiled, ifaces, maps, wideKeys, modest, calm, conditions, laid).
  DERIVED. THE GIVEN ROWS OF THIS SEAT. 5 by the template 'for every input the law returns true; each argument reads behind the call as it read before'; 0 by the template 'total and deterministic' (their statements: YtjleofepjfdcbaaTotals.lean).
  GIVEN WITH THE SEED: the statements are not yours to turn. If you find one false, say at which input.
  Laid BY PROGRAM, IN A SANDBOX (cutbox-rows.mjs): the forced cells as the released guide's own fill.sh prints them over the translation 2d5785266933e746… (all of the seat's roots in one cut). By AI agents, Wed Nov 11 2026. No macro, syntax, notation, axiom, sorry.
-/
import Derived.Test.YtjleofepjfdcbaaChecked
import GoSem.Claim
import GoSem.ClaimJoined
import GoSem.ClaimMapViews
import Derived.JoinedTies
import Derived.KernelRfl
namespace Go.Proofs.Ytjleofepjfdcbaa
/- THE CELL 'sum', in the pinned program and in every row, IS THE sha256 OF THE DUMP (.gsa) THAT YtjleofepjfdcbaaProg.lean LOADS. Nothing in Lean hashes anything: it is a label: what it is worth is what the hold of that sum in a sandbox is worth. -/
noncomputable def Try.pinned : Pinned := { name := "ytjleofepjfdcbaa", sum := "2d5785266933e74667b246eb649a92b14374c3914b745c4e3b5bfb04b44cad59", checked := Try.checked }
namespace Rows
def none {H : Type} : Left H := { results := [], args := [] }

/-- 'laws.FnExactPhaseArc': WHATEVER THE INPUT: true; the input reads as it did. -/
def fnExactPhaseArcSpec : ChangeSpec := { name := "fnExactPhaseArc", fn := fun _ => fun
  | [d] => { results := [.lit (.bool true)], args := [d] }
  | _ => none }
def fnExactPhaseArcRow : OpenClaim := { program := "ytjleofepjfdcbaa", sum := "2d5785266933e74667b246eb649a92b14374c3914b745c4e3b5bfb04b44cad59", func := "loop.example/radiointerferometer/laws.FnExactPhaseArc", spec := "fnExactPhaseArc", apart := false }
def FnExactPhaseArcSaid : Prop := fnExactPhaseArcRow.holds Try.pinned (OpenSpec.ofChange fnExactPhaseArcSpec)

/-- ITS FALSE NEIGHBOUR: 'it returns false'. Refute it at one input. -/
def fnExactPhaseArcWrong : ChangeSpec := { name := "fnExactPhaseArc", fn := fun _ => fun
  | [d] => { results := [.lit (.bool false)], args := [d] }
  | _ => none }
def FnExactPhaseArcWrongFalsely : Prop := fnExactPhaseArcRow.holds Try.pinned (OpenSpec.ofChange fnExactPhaseArcWrong)

/-- 'laws.FnPhaseArcPair': WHATEVER THE INPUT: true; the input reads as it did. -/
def fnPhaseArcPairSpec : ChangeSpec := { name := "fnPhaseArcPair", fn := fun _ => fun
  | [d] => { results := [.lit (.bool true)], args := [d] }
  | _ => none }
def fnPhaseArcPairRow : OpenClaim := { program := "ytjleofepjfdcbaa", sum := "2d5785266933e74667b246eb649a92b14374c3914b745c4e3b5bfb04b44cad59", func := "loop.example/radiointerferometer/laws.FnPhaseArcPair", spec := "fnPhaseArcPair", apart := false }
def FnPhaseArcPairSaid : Prop := fnPhaseArcPairRow.holds Try.pinned (OpenSpec.ofChange fnPhaseArcPairSpec)

/-- ITS FALSE NEIGHBOUR: 'it returns false'. Refute it at one input. -/
def fnPhaseArcPairWrong : ChangeSpec := { name := "fnPhaseArcPair", fn := fun _ => fun
  | [d] => { results := [.lit (.bool false)], args := [d] }
  | _ => none }
def FnPhaseArcPairWrongFalsely : Prop := fnPhaseArcPairRow.holds Try.pinned (OpenSpec.ofChange fnPhaseArcPairWrong)

/-- 'laws.FnPhaseArc': WHATEVER THE INPUT: true; the input reads as it did. -/
def fnPhaseArcSpec : ChangeSpec := { name := "fnPhaseArc", fn := fun _ => fun
  | [d] => { results := [.lit (.bool true)], args := [d] }
  | _ => none }
def fnPhaseArcRow : OpenClaim := { program := "ytjleofepjfdcbaa", sum := "2d5785266933e74667b246eb649a92b14374c3914b745c4e3b5bfb04b44cad59", func := "loop.example/radiointerferometer/laws.FnPhaseArc", spec := "fnPhaseArc", apart := false }
def FnPhaseArcSaid : Prop := fnPhaseArcRow.holds Try.pinned (OpenSpec.ofChange fnPhaseArcSpec)

/-- ITS FALSE NEIGHBOUR: 'it returns false'. Refute it at one input. -/
def fnPhaseArcWrong : ChangeSpec := { name := "fnPhaseArc", fn := fun _ => fun
  | [d] => { results := [.lit (.bool false)], args := [d] }
  | _ => none }
def FnPhaseArcWrongFalsely : Prop := fnPhaseArcRow.holds Try.pinned (OpenSpec.ofChange fnPhaseArcWrong)

/-- 'laws.FnPhaseArcLess': WHATEVER THE INPUT: true; the input reads as it did. -/
def fnPhaseArcLessSpec : ChangeSpec := { name := "fnPhaseArcLess", fn := fun _ => fun
  | [d] => { results := [.lit (.bool true)], args := [d] }
  | _ => none }
def fnPhaseArcLessRow : OpenClaim := { program := "ytjleofepjfdcbaa", sum := "2d5785266933e74667b246eb649a92b14374c3914b745c4e3b5bfb04b44cad59", func := "loop.example/radiointerferometer/laws.FnPhaseArcLess", spec := "fnPhaseArcLess", apart := false }
def FnPhaseArcLessSaid : Prop := fnPhaseArcLessRow.holds Try.pinned (OpenSpec.ofChange fnPhaseArcLessSpec)

/-- ITS FALSE NEIGHBOUR: 'it returns false'. Refute it at one input. -/
def fnPhaseArcLessWrong : ChangeSpec := { name := "fnPhaseArcLess", fn := fun _ => fun
  | [d] => { results := [.lit (.bool false)], args := [d] }
  | _ => none }
def FnPhaseArcLessWrongFalsely : Prop := fnPhaseArcLessRow.holds Try.pinned (OpenSpec.ofChange fnPhaseArcLessWrong)

/-- 'laws.FnPhaseArcTurn': WHATEVER THE INPUT: true; the input reads as it did. -/
def fnPhaseArcTurnSpec : ChangeSpec := { name := "fnPhaseArcTurn", fn := fun _ => fun
  | [d1, d2] => { results := [.lit (.bool true)], args := [d1, d2] }
  | _ => none }
def fnPhaseArcTurnRow : OpenClaim := { program := "ytjleofepjfdcbaa", sum := "2d5785266933e74667b246eb649a92b14374c3914b745c4e3b5bfb04b44cad59", func := "loop.example/radiointerferometer/laws.FnPhaseArcTurn", spec := "fnPhaseArcTurn", apart := false }
def FnPhaseArcTurnSaid : Prop := fnPhaseArcTurnRow.holds Try.pinned (OpenSpec.ofChange fnPhaseArcTurnSpec)

/-- ITS FALSE NEIGHBOUR: 'it returns false'. Refute it at one input. -/
def fnPhaseArcTurnWrong : ChangeSpec := { name := "fnPhaseArcTurn", fn := fun _ => fun
  | [d1, d2] => { results := [.lit (.bool false)], args := [d1, d2] }
  | _ => none }
def FnPhaseArcTurnWrongFalsely : Prop := fnPhaseArcTurnRow.holds Try.pinned (OpenSpec.ofChange fnPhaseArcTurnWrong)

/- THE SECOND FORM. 'bulk': how many values and letters a reading holds, each counted each time it is reached (what is shared counts as often as it is met; a slice's spare places count too). A statement '..UptoSaid' is the law's where the arguments, and the package variables that the reading takes, are together of bulk at most 1048576: NARROWER than '..Said'. Prove '..Said' where nothing that the law and all that it calls make is longer than what came in: it says more and counts as full. Else prove '..UptoSaid'. A law counts once. -/
mutual
def uptoBulk {H : Type} : DataW H → Nat
  | .lit (.string bytes) => bytes.length + 1
  | .lit _ => 1
  | .nil => 1
  | .ptr d => uptoBulk d + 1
  | .slice elems spare => uptoBulkAll elems + uptoBulkAll spare + 1
  | .agg parts => uptoBulkAll parts + 1
  | .iface _ d => uptoBulk d + 1
  | .map entries => uptoBulkEntries entries + 1
  | .held _ => 1
def uptoBulkAll {H : Type} : List (DataW H) → Nat
  | [] => 0
  | d :: r => uptoBulk d + uptoBulkAll r
def uptoBulkEntries {H : Type} : List (Lit × DataW H) → Nat
  | [] => 0
  | x :: r => uptoBulkEntry x + uptoBulkEntries r
def uptoBulkEntry {H : Type} : Lit × DataW H → Nat
  | (.string bytes, d) => bytes.length + uptoBulk d + 1
  | (_, d) => uptoBulk d + 1
 end
def uptoSmall : (H : Type) → List (DataW H) → Bool := fun _ ds => decide (uptoBulkAll ds ≤ 1048576)
def OpenSpec.upto (s : _root_.Go.ChangeSpec) : _root_.Go.OpenSpec := { _root_.Go.OpenSpec.ofChange s with cond := some uptoSmall }

/-- 'laws.FnExactPhaseArc', WHERE WHAT IT READS IS OF BULK AT MOST 1048576: true; the input reads as it did. -/
def fnExactPhaseArcUptoRow : OpenClaim := { program := "ytjleofepjfdcbaa", sum := "2d5785266933e74667b246eb649a92b14374c3914b745c4e3b5bfb04b44cad59", func := "loop.example/radiointerferometer/laws.FnExactPhaseArc", spec := "fnExactPhaseArc", apart := false, narrowed := true }
def FnExactPhaseArcUptoSaid : Prop := fnExactPhaseArcUptoRow.holds Try.pinned (OpenSpec.upto fnExactPhaseArcSpec)

/-- 'laws.FnPhaseArcPair', WHERE WHAT IT READS IS OF BULK AT MOST 1048576: true; the input reads as it did. -/
def fnPhaseArcPairUptoRow : OpenClaim := { program := "ytjleofepjfdcbaa", sum := "2d5785266933e74667b246eb649a92b14374c3914b745c4e3b5bfb04b44cad59", func := "loop.example/radiointerferometer/laws.FnPhaseArcPair", spec := "fnPhaseArcPair", apart := false, narrowed := true }
def FnPhaseArcPairUptoSaid : Prop := fnPhaseArcPairUptoRow.holds Try.pinned (OpenSpec.upto fnPhaseArcPairSpec)

/-- 'laws.FnPhaseArc', WHERE WHAT IT READS IS OF BULK AT MOST 1048576: true; the input reads as it did. -/
def fnPhaseArcUptoRow : OpenClaim := { program := "ytjleofepjfdcbaa", sum := "2d5785266933e74667b246eb649a92b14374c3914b745c4e3b5bfb04b44cad59", func := "loop.example/radiointerferometer/laws.FnPhaseArc", spec := "fnPhaseArc", apart := false, narrowed := true }
def FnPhaseArcUptoSaid : Prop := fnPhaseArcUptoRow.holds Try.pinned (OpenSpec.upto fnPhaseArcSpec)

/-- 'laws.FnPhaseArcLess', WHERE WHAT IT READS IS OF BULK AT MOST 1048576: true; the input reads as it did. -/
def fnPhaseArcLessUptoRow : OpenClaim := { program := "ytjleofepjfdcbaa", sum := "2d5785266933e74667b246eb649a92b14374c3914b745c4e3b5bfb04b44cad59", func := "loop.example/radiointerferometer/laws.FnPhaseArcLess", spec := "fnPhaseArcLess", apart := false, narrowed := true }
def FnPhaseArcLessUptoSaid : Prop := fnPhaseArcLessUptoRow.holds Try.pinned (OpenSpec.upto fnPhaseArcLessSpec)

/-- 'laws.FnPhaseArcTurn', WHERE WHAT IT READS IS OF BULK AT MOST 1048576: true; the input reads as it did. -/
def fnPhaseArcTurnUptoRow : OpenClaim := { program := "ytjleofepjfdcbaa", sum := "2d5785266933e74667b246eb649a92b14374c3914b745c4e3b5bfb04b44cad59", func := "loop.example/radiointerferometer/laws.FnPhaseArcTurn", spec := "fnPhaseArcTurn", apart := false, narrowed := true }
def FnPhaseArcTurnUptoSaid : Prop := fnPhaseArcTurnUptoRow.holds Try.pinned (OpenSpec.upto fnPhaseArcTurnSpec)

end Rows
end Go.Proofs.Ytjleofepjfdcbaa
