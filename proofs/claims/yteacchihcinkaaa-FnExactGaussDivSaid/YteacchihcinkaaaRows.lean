/-
  No cell of these rows narrows 'for every input' (looked for: loops, veiled, ifaces, maps, wideKeys, modest, calm, conditions, laid).
  DERIVED. THE GIVEN ROWS OF THIS SEAT. 7 by the template 'for every input the law returns true; each argument reads behind the call as it read before'; 0 by the template 'total and deterministic' (their statements: YteacchihcinkaaaTotals.lean).
  GIVEN WITH THE SEED: the statements are not yours to turn. If you find one false, say at which input.
  Laid BY PROGRAM, IN A SANDBOX (cutbox-rows.mjs): the forced cells as the released guide's own fill.sh prints them over the translation 66e771e6eba1416e… (all of the seat's roots in one cut). By AI agents, Wed Nov 11 2026. No macro, syntax, notation, axiom, sorry.
-/
import Derived.Test.YteacchihcinkaaaChecked
import GoSem.Claim
import GoSem.ClaimJoined
import GoSem.ClaimMapViews
import Derived.JoinedTies
import Derived.KernelRfl
namespace Go.Proofs.Yteacchihcinkaaa
/- THE CELL 'sum', in the pinned program and in every row, IS THE sha256 OF THE DUMP (.gsa) THAT YteacchihcinkaaaProg.lean LOADS. Nothing in Lean hashes anything: it is a label: what it is worth is what the hold of that sum in a sandbox is worth. -/
noncomputable def Try.pinned : Pinned := { name := "yteacchihcinkaaa", sum := "66e771e6eba1416ecb07340d91d5856e21efa4f2c5ab9c1554e6aedc862e6527", checked := Try.checked }
namespace Rows
def none {H : Type} : Left H := { results := [], args := [] }

/-- 'laws.FnExactConstants': WHATEVER THE INPUT: true; the input reads as it did. -/
def fnExactConstantsSpec : ChangeSpec := { name := "fnExactConstants", fn := fun _ => fun
  | [] => { results := [.lit (.bool true)], args := [] }
  | _ => none }
def fnExactConstantsRow : OpenClaim := { program := "yteacchihcinkaaa", sum := "66e771e6eba1416ecb07340d91d5856e21efa4f2c5ab9c1554e6aedc862e6527", func := "loop.example/radiointerferometer/laws.FnExactConstants", spec := "fnExactConstants", apart := false }
def FnExactConstantsSaid : Prop := fnExactConstantsRow.holds Try.pinned (OpenSpec.ofChange fnExactConstantsSpec)

/-- ITS FALSE NEIGHBOUR: 'it returns false'. Refute it at one input. -/
def fnExactConstantsWrong : ChangeSpec := { name := "fnExactConstants", fn := fun _ => fun
  | [] => { results := [.lit (.bool false)], args := [] }
  | _ => none }
def FnExactConstantsWrongFalsely : Prop := fnExactConstantsRow.holds Try.pinned (OpenSpec.ofChange fnExactConstantsWrong)

/-- 'laws.FnExactGaussUnit': WHATEVER THE INPUT: true; the input reads as it did. -/
def fnExactGaussUnitSpec : ChangeSpec := { name := "fnExactGaussUnit", fn := fun _ => fun
  | [d] => { results := [.lit (.bool true)], args := [d] }
  | _ => none }
def fnExactGaussUnitRow : OpenClaim := { program := "yteacchihcinkaaa", sum := "66e771e6eba1416ecb07340d91d5856e21efa4f2c5ab9c1554e6aedc862e6527", func := "loop.example/radiointerferometer/laws.FnExactGaussUnit", spec := "fnExactGaussUnit", apart := false }
def FnExactGaussUnitSaid : Prop := fnExactGaussUnitRow.holds Try.pinned (OpenSpec.ofChange fnExactGaussUnitSpec)

/-- ITS FALSE NEIGHBOUR: 'it returns false'. Refute it at one input. -/
def fnExactGaussUnitWrong : ChangeSpec := { name := "fnExactGaussUnit", fn := fun _ => fun
  | [d] => { results := [.lit (.bool false)], args := [d] }
  | _ => none }
def FnExactGaussUnitWrongFalsely : Prop := fnExactGaussUnitRow.holds Try.pinned (OpenSpec.ofChange fnExactGaussUnitWrong)

/-- 'laws.FnExactGaussConj': WHATEVER THE INPUT: true; the input reads as it did. -/
def fnExactGaussConjSpec : ChangeSpec := { name := "fnExactGaussConj", fn := fun _ => fun
  | [d] => { results := [.lit (.bool true)], args := [d] }
  | _ => none }
def fnExactGaussConjRow : OpenClaim := { program := "yteacchihcinkaaa", sum := "66e771e6eba1416ecb07340d91d5856e21efa4f2c5ab9c1554e6aedc862e6527", func := "loop.example/radiointerferometer/laws.FnExactGaussConj", spec := "fnExactGaussConj", apart := false }
def FnExactGaussConjSaid : Prop := fnExactGaussConjRow.holds Try.pinned (OpenSpec.ofChange fnExactGaussConjSpec)

/-- ITS FALSE NEIGHBOUR: 'it returns false'. Refute it at one input. -/
def fnExactGaussConjWrong : ChangeSpec := { name := "fnExactGaussConj", fn := fun _ => fun
  | [d] => { results := [.lit (.bool false)], args := [d] }
  | _ => none }
def FnExactGaussConjWrongFalsely : Prop := fnExactGaussConjRow.holds Try.pinned (OpenSpec.ofChange fnExactGaussConjWrong)

/-- 'laws.FnExactGaussSub': WHATEVER THE INPUT: true; the input reads as it did. -/
def fnExactGaussSubSpec : ChangeSpec := { name := "fnExactGaussSub", fn := fun _ => fun
  | [d1, d2] => { results := [.lit (.bool true)], args := [d1, d2] }
  | _ => none }
def fnExactGaussSubRow : OpenClaim := { program := "yteacchihcinkaaa", sum := "66e771e6eba1416ecb07340d91d5856e21efa4f2c5ab9c1554e6aedc862e6527", func := "loop.example/radiointerferometer/laws.FnExactGaussSub", spec := "fnExactGaussSub", apart := false }
def FnExactGaussSubSaid : Prop := fnExactGaussSubRow.holds Try.pinned (OpenSpec.ofChange fnExactGaussSubSpec)

/-- ITS FALSE NEIGHBOUR: 'it returns false'. Refute it at one input. -/
def fnExactGaussSubWrong : ChangeSpec := { name := "fnExactGaussSub", fn := fun _ => fun
  | [d1, d2] => { results := [.lit (.bool false)], args := [d1, d2] }
  | _ => none }
def FnExactGaussSubWrongFalsely : Prop := fnExactGaussSubRow.holds Try.pinned (OpenSpec.ofChange fnExactGaussSubWrong)

/-- 'laws.FnExactGaussAdd': WHATEVER THE INPUT: true; the input reads as it did. -/
def fnExactGaussAddSpec : ChangeSpec := { name := "fnExactGaussAdd", fn := fun _ => fun
  | [d1, d2] => { results := [.lit (.bool true)], args := [d1, d2] }
  | _ => none }
def fnExactGaussAddRow : OpenClaim := { program := "yteacchihcinkaaa", sum := "66e771e6eba1416ecb07340d91d5856e21efa4f2c5ab9c1554e6aedc862e6527", func := "loop.example/radiointerferometer/laws.FnExactGaussAdd", spec := "fnExactGaussAdd", apart := false }
def FnExactGaussAddSaid : Prop := fnExactGaussAddRow.holds Try.pinned (OpenSpec.ofChange fnExactGaussAddSpec)

/-- ITS FALSE NEIGHBOUR: 'it returns false'. Refute it at one input. -/
def fnExactGaussAddWrong : ChangeSpec := { name := "fnExactGaussAdd", fn := fun _ => fun
  | [d1, d2] => { results := [.lit (.bool false)], args := [d1, d2] }
  | _ => none }
def FnExactGaussAddWrongFalsely : Prop := fnExactGaussAddRow.holds Try.pinned (OpenSpec.ofChange fnExactGaussAddWrong)

/-- 'laws.FnExactGaussMul': WHATEVER THE INPUT: true; the input reads as it did. -/
def fnExactGaussMulSpec : ChangeSpec := { name := "fnExactGaussMul", fn := fun _ => fun
  | [d1, d2] => { results := [.lit (.bool true)], args := [d1, d2] }
  | _ => none }
def fnExactGaussMulRow : OpenClaim := { program := "yteacchihcinkaaa", sum := "66e771e6eba1416ecb07340d91d5856e21efa4f2c5ab9c1554e6aedc862e6527", func := "loop.example/radiointerferometer/laws.FnExactGaussMul", spec := "fnExactGaussMul", apart := false }
def FnExactGaussMulSaid : Prop := fnExactGaussMulRow.holds Try.pinned (OpenSpec.ofChange fnExactGaussMulSpec)

/-- ITS FALSE NEIGHBOUR: 'it returns false'. Refute it at one input. -/
def fnExactGaussMulWrong : ChangeSpec := { name := "fnExactGaussMul", fn := fun _ => fun
  | [d1, d2] => { results := [.lit (.bool false)], args := [d1, d2] }
  | _ => none }
def FnExactGaussMulWrongFalsely : Prop := fnExactGaussMulRow.holds Try.pinned (OpenSpec.ofChange fnExactGaussMulWrong)

/-- 'laws.FnExactGaussDiv': WHATEVER THE INPUT: true; the input reads as it did. -/
def fnExactGaussDivSpec : ChangeSpec := { name := "fnExactGaussDiv", fn := fun _ => fun
  | [d1, d2] => { results := [.lit (.bool true)], args := [d1, d2] }
  | _ => none }
def fnExactGaussDivRow : OpenClaim := { program := "yteacchihcinkaaa", sum := "66e771e6eba1416ecb07340d91d5856e21efa4f2c5ab9c1554e6aedc862e6527", func := "loop.example/radiointerferometer/laws.FnExactGaussDiv", spec := "fnExactGaussDiv", apart := false }
def FnExactGaussDivSaid : Prop := fnExactGaussDivRow.holds Try.pinned (OpenSpec.ofChange fnExactGaussDivSpec)

/-- ITS FALSE NEIGHBOUR: 'it returns false'. Refute it at one input. -/
def fnExactGaussDivWrong : ChangeSpec := { name := "fnExactGaussDiv", fn := fun _ => fun
  | [d1, d2] => { results := [.lit (.bool false)], args := [d1, d2] }
  | _ => none }
def FnExactGaussDivWrongFalsely : Prop := fnExactGaussDivRow.holds Try.pinned (OpenSpec.ofChange fnExactGaussDivWrong)

/- THE SECOND FORM. 'bulk': how many values and letters a reading holds, each counted each time it is reached (what is shared counts as often as it is met; a slice's spare places count too). A statement '..UptoSaid' is the law's where the arguments, and the package variables that the reading takes, are together of bulk at most 1048576: NARROWER than '..Said'. Prove '..Said' where nothing that the law and all that it calls make is longer than what came in: it says more and counts as full. Else prove '..UptoSaid'. A law counts once. -/
mutual
def uptoBulk {H : Type} : DataW H → Nat
  | .lit (.string bytes) => bytes.length + 1
  | .lit _ => 1
  | .nil => 1
  | .ptr d => uptoBulk d + 1
  | .slice elems spare => uptoBulkAll elems + uptoBulkAll spare + 1
  | .agg parts => uptoBulkAll parts + 1
  | .iface _ d => uptoBulk d + 1
  | .map entries => uptoBulkEntries entries + 1
  | .held _ => 1
def uptoBulkAll {H : Type} : List (DataW H) → Nat
  | [] => 0
  | d :: r => uptoBulk d + uptoBulkAll r
def uptoBulkEntries {H : Type} : List (Lit × DataW H) → Nat
  | [] => 0
  | x :: r => uptoBulkEntry x + uptoBulkEntries r
def uptoBulkEntry {H : Type} : Lit × DataW H → Nat
  | (.string bytes, d) => bytes.length + uptoBulk d + 1
  | (_, d) => uptoBulk d + 1
 end
def uptoSmall : (H : Type) → List (DataW H) → Bool := fun _ ds => decide (uptoBulkAll ds ≤ 1048576)
def OpenSpec.upto (s : _root_.Go.ChangeSpec) : _root_.Go.OpenSpec := { _root_.Go.OpenSpec.ofChange s with cond := some uptoSmall }

/-- 'laws.FnExactConstants', WHERE WHAT IT READS IS OF BULK AT MOST 1048576: true; the input reads as it did. -/
def fnExactConstantsUptoRow : OpenClaim := { program := "yteacchihcinkaaa", sum := "66e771e6eba1416ecb07340d91d5856e21efa4f2c5ab9c1554e6aedc862e6527", func := "loop.example/radiointerferometer/laws.FnExactConstants", spec := "fnExactConstants", apart := false, narrowed := true }
def FnExactConstantsUptoSaid : Prop := fnExactConstantsUptoRow.holds Try.pinned (OpenSpec.upto fnExactConstantsSpec)

/-- 'laws.FnExactGaussUnit', WHERE WHAT IT READS IS OF BULK AT MOST 1048576: true; the input reads as it did. -/
def fnExactGaussUnitUptoRow : OpenClaim := { program := "yteacchihcinkaaa", sum := "66e771e6eba1416ecb07340d91d5856e21efa4f2c5ab9c1554e6aedc862e6527", func := "loop.example/radiointerferometer/laws.FnExactGaussUnit", spec := "fnExactGaussUnit", apart := false, narrowed := true }
def FnExactGaussUnitUptoSaid : Prop := fnExactGaussUnitUptoRow.holds Try.pinned (OpenSpec.upto fnExactGaussUnitSpec)

/-- 'laws.FnExactGaussConj', WHERE WHAT IT READS IS OF BULK AT MOST 1048576: true; the input reads as it did. -/
def fnExactGaussConjUptoRow : OpenClaim := { program := "yteacchihcinkaaa", sum := "66e771e6eba1416ecb07340d91d5856e21efa4f2c5ab9c1554e6aedc862e6527", func := "loop.example/radiointerferometer/laws.FnExactGaussConj", spec := "fnExactGaussConj", apart := false, narrowed := true }
def FnExactGaussConjUptoSaid : Prop := fnExactGaussConjUptoRow.holds Try.pinned (OpenSpec.upto fnExactGaussConjSpec)

/-- 'laws.FnExactGaussSub', WHERE WHAT IT READS IS OF BULK AT MOST 1048576: true; the input reads as it did. -/
def fnExactGaussSubUptoRow : OpenClaim := { program := "yteacchihcinkaaa", sum := "66e771e6eba1416ecb07340d91d5856e21efa4f2c5ab9c1554e6aedc862e6527", func := "loop.example/radiointerferometer/laws.FnExactGaussSub", spec := "fnExactGaussSub", apart := false, narrowed := true }
def FnExactGaussSubUptoSaid : Prop := fnExactGaussSubUptoRow.holds Try.pinned (OpenSpec.upto fnExactGaussSubSpec)

/-- 'laws.FnExactGaussAdd', WHERE WHAT IT READS IS OF BULK AT MOST 1048576: true; the input reads as it did. -/
def fnExactGaussAddUptoRow : OpenClaim := { program := "yteacchihcinkaaa", sum := "66e771e6eba1416ecb07340d91d5856e21efa4f2c5ab9c1554e6aedc862e6527", func := "loop.example/radiointerferometer/laws.FnExactGaussAdd", spec := "fnExactGaussAdd", apart := false, narrowed := true }
def FnExactGaussAddUptoSaid : Prop := fnExactGaussAddUptoRow.holds Try.pinned (OpenSpec.upto fnExactGaussAddSpec)

/-- 'laws.FnExactGaussMul', WHERE WHAT IT READS IS OF BULK AT MOST 1048576: true; the input reads as it did. -/
def fnExactGaussMulUptoRow : OpenClaim := { program := "yteacchihcinkaaa", sum := "66e771e6eba1416ecb07340d91d5856e21efa4f2c5ab9c1554e6aedc862e6527", func := "loop.example/radiointerferometer/laws.FnExactGaussMul", spec := "fnExactGaussMul", apart := false, narrowed := true }
def FnExactGaussMulUptoSaid : Prop := fnExactGaussMulUptoRow.holds Try.pinned (OpenSpec.upto fnExactGaussMulSpec)

/-- 'laws.FnExactGaussDiv', WHERE WHAT IT READS IS OF BULK AT MOST 1048576: true; the input reads as it did. -/
def fnExactGaussDivUptoRow : OpenClaim := { program := "yteacchihcinkaaa", sum := "66e771e6eba1416ecb07340d91d5856e21efa4f2c5ab9c1554e6aedc862e6527", func := "loop.example/radiointerferometer/laws.FnExactGaussDiv", spec := "fnExactGaussDiv", apart := false, narrowed := true }
def FnExactGaussDivUptoSaid : Prop := fnExactGaussDivUptoRow.holds Try.pinned (OpenSpec.upto fnExactGaussDivSpec)

end Rows
end Go.Proofs.Yteacchihcinkaaa
