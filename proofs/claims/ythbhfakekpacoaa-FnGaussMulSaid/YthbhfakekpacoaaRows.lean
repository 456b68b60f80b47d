/-
  No cell of these rows narrows 'for every input' (looked for: loops, veiled, ifaces, maps, wideKeys, modest, calm, conditions, laid).
  DERIVED. THE GIVEN ROWS OF THIS SEAT. 5 by the template 'for every input the law returns true; each argument reads behind the call as it read before'; 0 by the template 'total and deterministic' (their statements: YthbhfakekpacoaaTotals.lean).
  GIVEN WITH THE SEED: the statements are not yours to turn. If you find one false, say at which input.
  Laid BY PROGRAM, IN A SANDBOX (cutbox-rows.mjs): the forced cells as the released guide's own fill.sh prints them over the translation 4b9c4ca60e32662a… (all of the seat's roots in one cut). By AI agents, Wed Nov 11 2026. No macro, syntax, notation, axiom, sorry.
-/
import Derived.Test.YthbhfakekpacoaaChecked
import GoSem.Claim
import GoSem.ClaimJoined
import GoSem.ClaimMapViews
import Derived.JoinedTies
import Derived.KernelRfl
namespace Go.Proofs.Ythbhfakekpacoaa
/- THE CELL 'sum', in the pinned program and in every row, IS THE sha256 OF THE DUMP (.gsa) THAT YthbhfakekpacoaaProg.lean LOADS. Nothing in Lean hashes anything: it is a label: what it is worth is what the hold of that sum in a sandbox is worth. -/
noncomputable def Try.pinned : Pinned := { name := "ythbhfakekpacoaa", sum := "4b9c4ca60e32662af4ca5c064e7b10322f5c99d023e634a770032c9ca6e96ee4", checked := Try.checked }
namespace Rows
def none {H : Type} : Left H := { results := [], args := [] }

/-- 'laws.FnGaussMul': WHATEVER THE INPUT: true; the input reads as it did. -/
def fnGaussMulSpec : ChangeSpec := { name := "fnGaussMul", fn := fun _ => fun
  | [d] => { results := [.lit (.bool true)], args := [d] }
  | _ => none }
def fnGaussMulRow : OpenClaim := { program := "ythbhfakekpacoaa", sum := "4b9c4ca60e32662af4ca5c064e7b10322f5c99d023e634a770032c9ca6e96ee4", func := "loop.example/radiointerferometer/laws.FnGaussMul", spec := "fnGaussMul", apart := false }
def FnGaussMulSaid : Prop := fnGaussMulRow.holds Try.pinned (OpenSpec.ofChange fnGaussMulSpec)

/-- ITS FALSE NEIGHBOUR: 'it returns false'. Refute it at one input. -/
def fnGaussMulWrong : ChangeSpec := { name := "fnGaussMul", fn := fun _ => fun
  | [d] => { results := [.lit (.bool false)], args := [d] }
  | _ => none }
def FnGaussMulWrongFalsely : Prop := fnGaussMulRow.holds Try.pinned (OpenSpec.ofChange fnGaussMulWrong)

/-- 'laws.FnGaussMulThree': WHATEVER THE INPUT: true; the input reads as it did. -/
def fnGaussMulThreeSpec : ChangeSpec := { name := "fnGaussMulThree", fn := fun _ => fun
  | [d] => { results := [.lit (.bool true)], args := [d] }
  | _ => none }
def fnGaussMulThreeRow : OpenClaim := { program := "ythbhfakekpacoaa", sum := "4b9c4ca60e32662af4ca5c064e7b10322f5c99d023e634a770032c9ca6e96ee4", func := "loop.example/radiointerferometer/laws.FnGaussMulThree", spec := "fnGaussMulThree", apart := false }
def FnGaussMulThreeSaid : Prop := fnGaussMulThreeRow.holds Try.pinned (OpenSpec.ofChange fnGaussMulThreeSpec)

/-- ITS FALSE NEIGHBOUR: 'it returns false'. Refute it at one input. -/
def fnGaussMulThreeWrong : ChangeSpec := { name := "fnGaussMulThree", fn := fun _ => fun
  | [d] => { results := [.lit (.bool false)], args := [d] }
  | _ => none }
def FnGaussMulThreeWrongFalsely : Prop := fnGaussMulThreeRow.holds Try.pinned (OpenSpec.ofChange fnGaussMulThreeWrong)

/-- 'laws.FnGaussMulNorm': WHATEVER THE INPUT: true; the input reads as it did. -/
def fnGaussMulNormSpec : ChangeSpec := { name := "fnGaussMulNorm", fn := fun _ => fun
  | [d] => { results := [.lit (.bool true)], args := [d] }
  | _ => none }
def fnGaussMulNormRow : OpenClaim := { program := "ythbhfakekpacoaa", sum := "4b9c4ca60e32662af4ca5c064e7b10322f5c99d023e634a770032c9ca6e96ee4", func := "loop.example/radiointerferometer/laws.FnGaussMulNorm", spec := "fnGaussMulNorm", apart := false }
def FnGaussMulNormSaid : Prop := fnGaussMulNormRow.holds Try.pinned (OpenSpec.ofChange fnGaussMulNormSpec)

/-- ITS FALSE NEIGHBOUR: 'it returns false'. Refute it at one input. -/
def fnGaussMulNormWrong : ChangeSpec := { name := "fnGaussMulNorm", fn := fun _ => fun
  | [d] => { results := [.lit (.bool false)], args := [d] }
  | _ => none }
def FnGaussMulNormWrongFalsely : Prop := fnGaussMulNormRow.holds Try.pinned (OpenSpec.ofChange fnGaussMulNormWrong)

/-- 'laws.FnGaussMulConj': WHATEVER THE INPUT: true; the input reads as it did. -/
def fnGaussMulConjSpec : ChangeSpec := { name := "fnGaussMulConj", fn := fun _ => fun
  | [d] => { results := [.lit (.bool true)], args := [d] }
  | _ => none }
def fnGaussMulConjRow : OpenClaim := { program := "ythbhfakekpacoaa", sum := "4b9c4ca60e32662af4ca5c064e7b10322f5c99d023e634a770032c9ca6e96ee4", func := "loop.example/radiointerferometer/laws.FnGaussMulConj", spec := "fnGaussMulConj", apart := false }
def FnGaussMulConjSaid : Prop := fnGaussMulConjRow.holds Try.pinned (OpenSpec.ofChange fnGaussMulConjSpec)

/-- ITS FALSE NEIGHBOUR: 'it returns false'. Refute it at one input. -/
def fnGaussMulConjWrong : ChangeSpec := { name := "fnGaussMulConj", fn := fun _ => fun
  | [d] => { results := [.lit (.bool false)], args := [d] }
  | _ => none }
def FnGaussMulConjWrongFalsely : Prop := fnGaussMulConjRow.holds Try.pinned (OpenSpec.ofChange fnGaussMulConjWrong)

/-- 'laws.FnGaussMulOver': WHATEVER THE INPUT: true; the input reads as it did. -/
def fnGaussMulOverSpec : ChangeSpec := { name := "fnGaussMulOver", fn := fun _ => fun
  | [d] => { results := [.lit (.bool true)], args := [d] }
  | _ => none }
def fnGaussMulOverRow : OpenClaim := { program := "ythbhfakekpacoaa", sum := "4b9c4ca60e32662af4ca5c064e7b10322f5c99d023e634a770032c9ca6e96ee4", func := "loop.example/radiointerferometer/laws.FnGaussMulOver", spec := "fnGaussMulOver", apart := false }
def FnGaussMulOverSaid : Prop := fnGaussMulOverRow.holds Try.pinned (OpenSpec.ofChange fnGaussMulOverSpec)

/-- ITS FALSE NEIGHBOUR: 'it returns false'. Refute it at one input. -/
def fnGaussMulOverWrong : ChangeSpec := { name := "fnGaussMulOver", fn := fun _ => fun
  | [d] => { results := [.lit (.bool false)], args := [d] }
  | _ => none }
def FnGaussMulOverWrongFalsely : Prop := fnGaussMulOverRow.holds Try.pinned (OpenSpec.ofChange fnGaussMulOverWrong)

/- THE SECOND FORM. 'bulk': how many values and letters a reading holds, each counted each time it is reached (what is shared counts as often as it is met; a slice's spare places count too). A statement '..UptoSaid' is the law's where the arguments, and the package variables that the reading takes, are together of bulk at most 1048576: NARROWER than '..Said'. Prove '..Said' where nothing that the law and all that it calls make is longer than what came in: it says more and counts as full. Else prove '..UptoSaid'. A law counts once. -/
mutual
def uptoBulk {H : Type} : DataW H → Nat
  | .lit (.string bytes) => bytes.length + 1
  | .lit _ => 1
  | .nil => 1
  | .ptr d => uptoBulk d + 1
  | .slice elems spare => uptoBulkAll elems + uptoBulkAll spare + 1
  | .agg parts => uptoBulkAll parts + 1
  | .iface _ d => uptoBulk d + 1
  | .map entries => uptoBulkEntries entries + 1
  | .held _ => 1
def uptoBulkAll {H : Type} : List (DataW H) → Nat
  | [] => 0
  | d :: r => uptoBulk d + uptoBulkAll r
def uptoBulkEntries {H : Type} : List (Lit × DataW H) → Nat
  | [] => 0
  | x :: r => uptoBulkEntry x + uptoBulkEntries r
def uptoBulkEntry {H : Type} : Lit × DataW H → Nat
  | (.string bytes, d) => bytes.length + uptoBulk d + 1
  | (_, d) => uptoBulk d + 1
 end
def uptoSmall : (H : Type) → List (DataW H) → Bool := fun _ ds => decide (uptoBulkAll ds ≤ 1048576)
def OpenSpec.upto (s : _root_.Go.ChangeSpec) : _root_.Go.OpenSpec := { _root_.Go.OpenSpec.ofChange s with cond := some uptoSmall }

/-- 'laws.FnGaussMul', WHERE WHAT IT READS IS OF BULK AT MOST 1048576: true; the input reads as it did. -/
def fnGaussMulUptoRow : OpenClaim := { program := "ythbhfakekpacoaa", sum := "4b9c4ca60e32662af4ca5c064e7b10322f5c99d023e634a770032c9ca6e96ee4", func := "loop.example/radiointerferometer/laws.FnGaussMul", spec := "fnGaussMul", apart := false, narrowed := true }
def FnGaussMulUptoSaid : Prop := fnGaussMulUptoRow.holds Try.pinned (OpenSpec.upto fnGaussMulSpec)

/-- 'laws.FnGaussMulThree', WHERE WHAT IT READS IS OF BULK AT MOST 1048576: true; the input reads as it did. -/
def fnGaussMulThreeUptoRow : OpenClaim := { program := "ythbhfakekpacoaa", sum := "4b9c4ca60e32662af4ca5c064e7b10322f5c99d023e634a770032c9ca6e96ee4", func := "loop.example/radiointerferometer/laws.FnGaussMulThree", spec := "fnGaussMulThree", apart := false, narrowed := true }
def FnGaussMulThreeUptoSaid : Prop := fnGaussMulThreeUptoRow.holds Try.pinned (OpenSpec.upto fnGaussMulThreeSpec)

/-- 'laws.FnGaussMulNorm', WHERE WHAT IT READS IS OF BULK AT MOST 1048576: true; the input reads as it did. -/
def fnGaussMulNormUptoRow : OpenClaim := { program := "ythbhfakekpacoaa", sum := "4b9c4ca60e32662af4ca5c064e7b10322f5c99d023e634a770032c9ca6e96ee4", func := "loop.example/radiointerferometer/laws.FnGaussMulNorm", spec := "fnGaussMulNorm", apart := false, narrowed := true }
def FnGaussMulNormUptoSaid : Prop := fnGaussMulNormUptoRow.holds Try.pinned (OpenSpec.upto fnGaussMulNormSpec)

/-- 'laws.FnGaussMulConj', WHERE WHAT IT READS IS OF BULK AT MOST 1048576: true; the input reads as it did. -/
def fnGaussMulConjUptoRow : OpenClaim := { program := "ythbhfakekpacoaa", sum := "4b9c4ca60e32662af4ca5c064e7b10322f5c99d023e634a770032c9ca6e96ee4", func := "loop.example/radiointerferometer/laws.FnGaussMulConj", spec := "fnGaussMulConj", apart := false, narrowed := true }
def FnGaussMulConjUptoSaid : Prop := fnGaussMulConjUptoRow.holds Try.pinned (OpenSpec.upto fnGaussMulConjSpec)

/-- 'laws.FnGaussMulOver', WHERE WHAT IT READS IS OF BULK AT MOST 1048576: true; the input reads as it did. -/
def fnGaussMulOverUptoRow : OpenClaim := { program := "ythbhfakekpacoaa", sum := "4b9c4ca60e32662af4ca5c064e7b10322f5c99d023e634a770032c9ca6e96ee4", func := "loop.example/radiointerferometer/laws.FnGaussMulOver", spec := "fnGaussMulOver", apart := false, narrowed := true }
def FnGaussMulOverUptoSaid : Prop := fnGaussMulOverUptoRow.holds Try.pinned (OpenSpec.upto fnGaussMulOverSpec)

end Rows
end Go.Proofs.Ythbhfakekpacoaa
