/-
  No cell of these rows narrows 'for every input' (looked for: loops, veiled, ifaces, maps, wideKeys, modest, calm, conditions, laid).
  DERIVED. THE GIVEN ROWS OF THIS SEAT. 6 by the template 'for every input the law returns true; each argument reads behind the call as it read before'; 0 by the template 'total and deterministic' (their statements: YtoichhjnfiiocaaTotals.lean).
  GIVEN WITH THE SEED: the statements are not yours to turn. If you find one false, say at which input.
  Laid BY PROGRAM, IN A SANDBOX (cutbox-rows.mjs): the forced cells as the released guide's own fill.sh prints them over the translation ba89f3e1a301d553… (all of the seat's roots in one cut). By AI agents, Wed Nov 11 2026. No macro, syntax, notation, axiom, sorry.
-/
import Derived.Test.YtoichhjnfiiocaaChecked
import GoSem.Claim
import GoSem.ClaimJoined
import GoSem.ClaimMapViews
import Derived.JoinedTies
import Derived.KernelRfl
namespace Go.Proofs.Ytoichhjnfiiocaa
/- THE CELL 'sum', in the pinned program and in every row, IS THE sha256 OF THE DUMP (.gsa) THAT YtoichhjnfiiocaaProg.lean LOADS. Nothing in Lean hashes anything: it is a label: what it is worth is what the hold of that sum in a sandbox is worth. -/
noncomputable def Try.pinned : Pinned := { name := "ytoichhjnfiiocaa", sum := "ba89f3e1a301d553b1c269bfac8dacbd74c51e538d1578998da5cfa7dbb052f1", checked := Try.checked }
namespace Rows
def none {H : Type} : Left H := { results := [], args := [] }

/-- 'laws.FnGaussDiv': WHATEVER THE INPUT: true; the input reads as it did. -/
def fnGaussDivSpec : ChangeSpec := { name := "fnGaussDiv", fn := fun _ => fun
  | [d] => { results := [.lit (.bool true)], args := [d] }
  | _ => none }
def fnGaussDivRow : OpenClaim := { program := "ytoichhjnfiiocaa", sum := "ba89f3e1a301d553b1c269bfac8dacbd74c51e538d1578998da5cfa7dbb052f1", func := "loop.example/radiointerferometer/laws.FnGaussDiv", spec := "fnGaussDiv", apart := false }
def FnGaussDivSaid : Prop := fnGaussDivRow.holds Try.pinned (OpenSpec.ofChange fnGaussDivSpec)

/-- ITS FALSE NEIGHBOUR: 'it returns false'. Refute it at one input. -/
def fnGaussDivWrong : ChangeSpec := { name := "fnGaussDiv", fn := fun _ => fun
  | [d] => { results := [.lit (.bool false)], args := [d] }
  | _ => none }
def FnGaussDivWrongFalsely : Prop := fnGaussDivRow.holds Try.pinned (OpenSpec.ofChange fnGaussDivWrong)

/-- 'laws.FnGaussUnit': WHATEVER THE INPUT: true; the input reads as it did. -/
def fnGaussUnitSpec : ChangeSpec := { name := "fnGaussUnit", fn := fun _ => fun
  | [d] => { results := [.lit (.bool true)], args := [d] }
  | _ => none }
def fnGaussUnitRow : OpenClaim := { program := "ytoichhjnfiiocaa", sum := "ba89f3e1a301d553b1c269bfac8dacbd74c51e538d1578998da5cfa7dbb052f1", func := "loop.example/radiointerferometer/laws.FnGaussUnit", spec := "fnGaussUnit", apart := false }
def FnGaussUnitSaid : Prop := fnGaussUnitRow.holds Try.pinned (OpenSpec.ofChange fnGaussUnitSpec)

/-- ITS FALSE NEIGHBOUR: 'it returns false'. Refute it at one input. -/
def fnGaussUnitWrong : ChangeSpec := { name := "fnGaussUnit", fn := fun _ => fun
  | [d] => { results := [.lit (.bool false)], args := [d] }
  | _ => none }
def FnGaussUnitWrongFalsely : Prop := fnGaussUnitRow.holds Try.pinned (OpenSpec.ofChange fnGaussUnitWrong)

/-- 'laws.FnGaussUnitSum': WHATEVER THE INPUT: true; the input reads as it did. -/
def fnGaussUnitSumSpec : ChangeSpec := { name := "fnGaussUnitSum", fn := fun _ => fun
  | [d1, d2] => { results := [.lit (.bool true)], args := [d1, d2] }
  | _ => none }
def fnGaussUnitSumRow : OpenClaim := { program := "ytoichhjnfiiocaa", sum := "ba89f3e1a301d553b1c269bfac8dacbd74c51e538d1578998da5cfa7dbb052f1", func := "loop.example/radiointerferometer/laws.FnGaussUnitSum", spec := "fnGaussUnitSum", apart := false }
def FnGaussUnitSumSaid : Prop := fnGaussUnitSumRow.holds Try.pinned (OpenSpec.ofChange fnGaussUnitSumSpec)

/-- ITS FALSE NEIGHBOUR: 'it returns false'. Refute it at one input. -/
def fnGaussUnitSumWrong : ChangeSpec := { name := "fnGaussUnitSum", fn := fun _ => fun
  | [d1, d2] => { results := [.lit (.bool false)], args := [d1, d2] }
  | _ => none }
def FnGaussUnitSumWrongFalsely : Prop := fnGaussUnitSumRow.holds Try.pinned (OpenSpec.ofChange fnGaussUnitSumWrong)

/-- 'laws.FnGaussDivMul': WHATEVER THE INPUT: true; the input reads as it did. -/
def fnGaussDivMulSpec : ChangeSpec := { name := "fnGaussDivMul", fn := fun _ => fun
  | [d] => { results := [.lit (.bool true)], args := [d] }
  | _ => none }
def fnGaussDivMulRow : OpenClaim := { program := "ytoichhjnfiiocaa", sum := "ba89f3e1a301d553b1c269bfac8dacbd74c51e538d1578998da5cfa7dbb052f1", func := "loop.example/radiointerferometer/laws.FnGaussDivMul", spec := "fnGaussDivMul", apart := false }
def FnGaussDivMulSaid : Prop := fnGaussDivMulRow.holds Try.pinned (OpenSpec.ofChange fnGaussDivMulSpec)

/-- ITS FALSE NEIGHBOUR: 'it returns false'. Refute it at one input. -/
def fnGaussDivMulWrong : ChangeSpec := { name := "fnGaussDivMul", fn := fun _ => fun
  | [d] => { results := [.lit (.bool false)], args := [d] }
  | _ => none }
def FnGaussDivMulWrongFalsely : Prop := fnGaussDivMulRow.holds Try.pinned (OpenSpec.ofChange fnGaussDivMulWrong)

/-- 'laws.FnGaussDivUnit': WHATEVER THE INPUT: true; the input reads as it did. -/
def fnGaussDivUnitSpec : ChangeSpec := { name := "fnGaussDivUnit", fn := fun _ => fun
  | [d1, d2] => { results := [.lit (.bool true)], args := [d1, d2] }
  | _ => none }
def fnGaussDivUnitRow : OpenClaim := { program := "ytoichhjnfiiocaa", sum := "ba89f3e1a301d553b1c269bfac8dacbd74c51e538d1578998da5cfa7dbb052f1", func := "loop.example/radiointerferometer/laws.FnGaussDivUnit", spec := "fnGaussDivUnit", apart := false }
def FnGaussDivUnitSaid : Prop := fnGaussDivUnitRow.holds Try.pinned (OpenSpec.ofChange fnGaussDivUnitSpec)

/-- ITS FALSE NEIGHBOUR: 'it returns false'. Refute it at one input. -/
def fnGaussDivUnitWrong : ChangeSpec := { name := "fnGaussDivUnit", fn := fun _ => fun
  | [d1, d2] => { results := [.lit (.bool false)], args := [d1, d2] }
  | _ => none }
def FnGaussDivUnitWrongFalsely : Prop := fnGaussDivUnitRow.holds Try.pinned (OpenSpec.ofChange fnGaussDivUnitWrong)

/-- 'laws.FnGaussDivNorm': WHATEVER THE INPUT: true; the input reads as it did. -/
def fnGaussDivNormSpec : ChangeSpec := { name := "fnGaussDivNorm", fn := fun _ => fun
  | [d] => { results := [.lit (.bool true)], args := [d] }
  | _ => none }
def fnGaussDivNormRow : OpenClaim := { program := "ytoichhjnfiiocaa", sum := "ba89f3e1a301d553b1c269bfac8dacbd74c51e538d1578998da5cfa7dbb052f1", func := "loop.example/radiointerferometer/laws.FnGaussDivNorm", spec := "fnGaussDivNorm", apart := false }
def FnGaussDivNormSaid : Prop := fnGaussDivNormRow.holds Try.pinned (OpenSpec.ofChange fnGaussDivNormSpec)

/-- ITS FALSE NEIGHBOUR: 'it returns false'. Refute it at one input. -/
def fnGaussDivNormWrong : ChangeSpec := { name := "fnGaussDivNorm", fn := fun _ => fun
  | [d] => { results := [.lit (.bool false)], args := [d] }
  | _ => none }
def FnGaussDivNormWrongFalsely : Prop := fnGaussDivNormRow.holds Try.pinned (OpenSpec.ofChange fnGaussDivNormWrong)

/- THE SECOND FORM. 'bulk': how many values and letters a reading holds, each counted each time it is reached (what is shared counts as often as it is met; a slice's spare places count too). A statement '..UptoSaid' is the law's where the arguments, and the package variables that the reading takes, are together of bulk at most 1048576: NARROWER than '..Said'. Prove '..Said' where nothing that the law and all that it calls make is longer than what came in: it says more and counts as full. Else prove '..UptoSaid'. A law counts once. -/
mutual
def uptoBulk {H : Type} : DataW H → Nat
  | .lit (.string bytes) => bytes.length + 1
  | .lit _ => 1
  | .nil => 1
  | .ptr d => uptoBulk d + 1
  | .slice elems spare => uptoBulkAll elems + uptoBulkAll spare + 1
  | .agg parts => uptoBulkAll parts + 1
  | .iface _ d => uptoBulk d + 1
  | .map entries => uptoBulkEntries entries + 1
  | .held _ => 1
def uptoBulkAll {H : Type} : List (DataW H) → Nat
  | [] => 0
  | d :: r => uptoBulk d + uptoBulkAll r
def uptoBulkEntries {H : Type} : List (Lit × DataW H) → Nat
  | [] => 0
  | x :: r => uptoBulkEntry x + uptoBulkEntries r
def uptoBulkEntry {H : Type} : Lit × DataW H → Nat
  | (.string bytes, d) => bytes.length + uptoBulk d + 1
  | (_, d) => uptoBulk d + 1
 end
def uptoSmall : (H : Type) → List (DataW H) → Bool := fun _ ds => decide (uptoBulkAll ds ≤ 1048576)
def OpenSpec.upto (s : _root_.Go.ChangeSpec) : _root_.Go.OpenSpec := { _root_.Go.OpenSpec.ofChange s with cond := some uptoSmall }

/-- 'laws.FnGaussDiv', WHERE WHAT IT READS IS OF BULK AT MOST 1048576: true; the input reads as it did. -/
def fnGaussDivUptoRow : OpenClaim := { program := "ytoichhjnfiiocaa", sum := "ba89f3e1a301d553b1c269bfac8dacbd74c51e538d1578998da5cfa7dbb052f1", func := "loop.example/radiointerferometer/laws.FnGaussDiv", spec := "fnGaussDiv", apart := false, narrowed := true }
def FnGaussDivUptoSaid : Prop := fnGaussDivUptoRow.holds Try.pinned (OpenSpec.upto fnGaussDivSpec)

/-- 'laws.FnGaussUnit', WHERE WHAT IT READS IS OF BULK AT MOST 1048576: true; the input reads as it did. -/
def fnGaussUnitUptoRow : OpenClaim := { program := "ytoichhjnfiiocaa", sum := "ba89f3e1a301d553b1c269bfac8dacbd74c51e538d1578998da5cfa7dbb052f1", func := "loop.example/radiointerferometer/laws.FnGaussUnit", spec := "fnGaussUnit", apart := false, narrowed := true }
def FnGaussUnitUptoSaid : Prop := fnGaussUnitUptoRow.holds Try.pinned (OpenSpec.upto fnGaussUnitSpec)

/-- 'laws.FnGaussUnitSum', WHERE WHAT IT READS IS OF BULK AT MOST 1048576: true; the input reads as it did. -/
def fnGaussUnitSumUptoRow : OpenClaim := { program := "ytoichhjnfiiocaa", sum := "ba89f3e1a301d553b1c269bfac8dacbd74c51e538d1578998da5cfa7dbb052f1", func := "loop.example/radiointerferometer/laws.FnGaussUnitSum", spec := "fnGaussUnitSum", apart := false, narrowed := true }
def FnGaussUnitSumUptoSaid : Prop := fnGaussUnitSumUptoRow.holds Try.pinned (OpenSpec.upto fnGaussUnitSumSpec)

/-- 'laws.FnGaussDivMul', WHERE WHAT IT READS IS OF BULK AT MOST 1048576: true; the input reads as it did. -/
def fnGaussDivMulUptoRow : OpenClaim := { program := "ytoichhjnfiiocaa", sum := "ba89f3e1a301d553b1c269bfac8dacbd74c51e538d1578998da5cfa7dbb052f1", func := "loop.example/radiointerferometer/laws.FnGaussDivMul", spec := "fnGaussDivMul", apart := false, narrowed := true }
def FnGaussDivMulUptoSaid : Prop := fnGaussDivMulUptoRow.holds Try.pinned (OpenSpec.upto fnGaussDivMulSpec)

/-- 'laws.FnGaussDivUnit', WHERE WHAT IT READS IS OF BULK AT MOST 1048576: true; the input reads as it did. -/
def fnGaussDivUnitUptoRow : OpenClaim := { program := "ytoichhjnfiiocaa", sum := "ba89f3e1a301d553b1c269bfac8dacbd74c51e538d1578998da5cfa7dbb052f1", func := "loop.example/radiointerferometer/laws.FnGaussDivUnit", spec := "fnGaussDivUnit", apart := false, narrowed := true }
def FnGaussDivUnitUptoSaid : Prop := fnGaussDivUnitUptoRow.holds Try.pinned (OpenSpec.upto fnGaussDivUnitSpec)

/-- 'laws.FnGaussDivNorm', WHERE WHAT IT READS IS OF BULK AT MOST 1048576: true; the input reads as it did. -/
def fnGaussDivNormUptoRow : OpenClaim := { program := "ytoichhjnfiiocaa", sum := "ba89f3e1a301d553b1c269bfac8dacbd74c51e538d1578998da5cfa7dbb052f1", func := "loop.example/radiointerferometer/laws.FnGaussDivNorm", spec := "fnGaussDivNorm", apart := false, narrowed := true }
def FnGaussDivNormUptoSaid : Prop := fnGaussDivNormUptoRow.holds Try.pinned (OpenSpec.upto fnGaussDivNormSpec)

end Rows
end Go.Proofs.Ytoichhjnfiiocaa
