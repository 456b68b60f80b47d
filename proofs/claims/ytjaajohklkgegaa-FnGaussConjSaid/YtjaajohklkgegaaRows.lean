/-
  No cell of these rows narrows 'for every input' (looked for: loops, veiled, ifaces, maps, wideKeys, modest, calm, conditions, laid).
  DERIVED. THE GIVEN ROWS OF THIS SEAT. 6 by the template 'for every input the law returns true; each argument reads behind the call as it read before'; 0 by the template 'total and deterministic' (their statements: YtjaajohklkgegaaTotals.lean).
  GIVEN WITH THE SEED: the statements are not yours to turn. If you find one false, say at which input.
  Laid BY PROGRAM, IN A SANDBOX (cutbox-rows.mjs): the forced cells as the released guide's own fill.sh prints them over the translation 0e3c4903f3e33e87… (all of the seat's roots in one cut). By AI agents, Wed Nov 11 2026. No macro, syntax, notation, axiom, sorry.
-/
import Derived.Test.YtjaajohklkgegaaChecked
import GoSem.Claim
import GoSem.ClaimJoined
import GoSem.ClaimMapViews
import Derived.JoinedTies
import Derived.KernelRfl
namespace Go.Proofs.Ytjaajohklkgegaa
/- THE CELL 'sum', in the pinned program and in every row, IS THE sha256 OF THE DUMP (.gsa) THAT YtjaajohklkgegaaProg.lean LOADS. Nothing in Lean hashes anything: it is a label: what it is worth is what the hold of that sum in a sandbox is worth. -/
noncomputable def Try.pinned : Pinned := { name := "ytjaajohklkgegaa", sum := "0e3c4903f3e33e870c7d56a3a6bac15d9a629c1e65c91bc277a03013dd204729", checked := Try.checked }
namespace Rows
def none {H : Type} : Left H := { results := [], args := [] }

/-- 'laws.FnGaussAddThree': WHATEVER THE INPUT: true; the input reads as it did. -/
def fnGaussAddThreeSpec : ChangeSpec := { name := "fnGaussAddThree", fn := fun _ => fun
  | [d] => { results := [.lit (.bool true)], args := [d] }
  | _ => none }
def fnGaussAddThreeRow : OpenClaim := { program := "ytjaajohklkgegaa", sum := "0e3c4903f3e33e870c7d56a3a6bac15d9a629c1e65c91bc277a03013dd204729", func := "loop.example/radiointerferometer/laws.FnGaussAddThree", spec := "fnGaussAddThree", apart := false }
def FnGaussAddThreeSaid : Prop := fnGaussAddThreeRow.holds Try.pinned (OpenSpec.ofChange fnGaussAddThreeSpec)

/-- ITS FALSE NEIGHBOUR: 'it returns false'. Refute it at one input. -/
def fnGaussAddThreeWrong : ChangeSpec := { name := "fnGaussAddThree", fn := fun _ => fun
  | [d] => { results := [.lit (.bool false)], args := [d] }
  | _ => none }
def FnGaussAddThreeWrongFalsely : Prop := fnGaussAddThreeRow.holds Try.pinned (OpenSpec.ofChange fnGaussAddThreeWrong)

/-- 'laws.FnGaussAdd': WHATEVER THE INPUT: true; the input reads as it did. -/
def fnGaussAddSpec : ChangeSpec := { name := "fnGaussAdd", fn := fun _ => fun
  | [d] => { results := [.lit (.bool true)], args := [d] }
  | _ => none }
def fnGaussAddRow : OpenClaim := { program := "ytjaajohklkgegaa", sum := "0e3c4903f3e33e870c7d56a3a6bac15d9a629c1e65c91bc277a03013dd204729", func := "loop.example/radiointerferometer/laws.FnGaussAdd", spec := "fnGaussAdd", apart := false }
def FnGaussAddSaid : Prop := fnGaussAddRow.holds Try.pinned (OpenSpec.ofChange fnGaussAddSpec)

/-- ITS FALSE NEIGHBOUR: 'it returns false'. Refute it at one input. -/
def fnGaussAddWrong : ChangeSpec := { name := "fnGaussAdd", fn := fun _ => fun
  | [d] => { results := [.lit (.bool false)], args := [d] }
  | _ => none }
def FnGaussAddWrongFalsely : Prop := fnGaussAddRow.holds Try.pinned (OpenSpec.ofChange fnGaussAddWrong)

/-- 'laws.FnGaussSub': WHATEVER THE INPUT: true; the input reads as it did. -/
def fnGaussSubSpec : ChangeSpec := { name := "fnGaussSub", fn := fun _ => fun
  | [d] => { results := [.lit (.bool true)], args := [d] }
  | _ => none }
def fnGaussSubRow : OpenClaim := { program := "ytjaajohklkgegaa", sum := "0e3c4903f3e33e870c7d56a3a6bac15d9a629c1e65c91bc277a03013dd204729", func := "loop.example/radiointerferometer/laws.FnGaussSub", spec := "fnGaussSub", apart := false }
def FnGaussSubSaid : Prop := fnGaussSubRow.holds Try.pinned (OpenSpec.ofChange fnGaussSubSpec)

/-- ITS FALSE NEIGHBOUR: 'it returns false'. Refute it at one input. -/
def fnGaussSubWrong : ChangeSpec := { name := "fnGaussSub", fn := fun _ => fun
  | [d] => { results := [.lit (.bool false)], args := [d] }
  | _ => none }
def FnGaussSubWrongFalsely : Prop := fnGaussSubRow.holds Try.pinned (OpenSpec.ofChange fnGaussSubWrong)

/-- 'laws.FnGaussNormSum': WHATEVER THE INPUT: true; the input reads as it did. -/
def fnGaussNormSumSpec : ChangeSpec := { name := "fnGaussNormSum", fn := fun _ => fun
  | [d] => { results := [.lit (.bool true)], args := [d] }
  | _ => none }
def fnGaussNormSumRow : OpenClaim := { program := "ytjaajohklkgegaa", sum := "0e3c4903f3e33e870c7d56a3a6bac15d9a629c1e65c91bc277a03013dd204729", func := "loop.example/radiointerferometer/laws.FnGaussNormSum", spec := "fnGaussNormSum", apart := false }
def FnGaussNormSumSaid : Prop := fnGaussNormSumRow.holds Try.pinned (OpenSpec.ofChange fnGaussNormSumSpec)

/-- ITS FALSE NEIGHBOUR: 'it returns false'. Refute it at one input. -/
def fnGaussNormSumWrong : ChangeSpec := { name := "fnGaussNormSum", fn := fun _ => fun
  | [d] => { results := [.lit (.bool false)], args := [d] }
  | _ => none }
def FnGaussNormSumWrongFalsely : Prop := fnGaussNormSumRow.holds Try.pinned (OpenSpec.ofChange fnGaussNormSumWrong)

/-- 'laws.FnGaussNorm': WHATEVER THE INPUT: true; the input reads as it did. -/
def fnGaussNormSpec : ChangeSpec := { name := "fnGaussNorm", fn := fun _ => fun
  | [d] => { results := [.lit (.bool true)], args := [d] }
  | _ => none }
def fnGaussNormRow : OpenClaim := { program := "ytjaajohklkgegaa", sum := "0e3c4903f3e33e870c7d56a3a6bac15d9a629c1e65c91bc277a03013dd204729", func := "loop.example/radiointerferometer/laws.FnGaussNorm", spec := "fnGaussNorm", apart := false }
def FnGaussNormSaid : Prop := fnGaussNormRow.holds Try.pinned (OpenSpec.ofChange fnGaussNormSpec)

/-- ITS FALSE NEIGHBOUR: 'it returns false'. Refute it at one input. -/
def fnGaussNormWrong : ChangeSpec := { name := "fnGaussNorm", fn := fun _ => fun
  | [d] => { results := [.lit (.bool false)], args := [d] }
  | _ => none }
def FnGaussNormWrongFalsely : Prop := fnGaussNormRow.holds Try.pinned (OpenSpec.ofChange fnGaussNormWrong)

/-- 'laws.FnGaussConj': WHATEVER THE INPUT: true; the input reads as it did. -/
def fnGaussConjSpec : ChangeSpec := { name := "fnGaussConj", fn := fun _ => fun
  | [d] => { results := [.lit (.bool true)], args := [d] }
  | _ => none }
def fnGaussConjRow : OpenClaim := { program := "ytjaajohklkgegaa", sum := "0e3c4903f3e33e870c7d56a3a6bac15d9a629c1e65c91bc277a03013dd204729", func := "loop.example/radiointerferometer/laws.FnGaussConj", spec := "fnGaussConj", apart := false }
def FnGaussConjSaid : Prop := fnGaussConjRow.holds Try.pinned (OpenSpec.ofChange fnGaussConjSpec)

/-- ITS FALSE NEIGHBOUR: 'it returns false'. Refute it at one input. -/
def fnGaussConjWrong : ChangeSpec := { name := "fnGaussConj", fn := fun _ => fun
  | [d] => { results := [.lit (.bool false)], args := [d] }
  | _ => none }
def FnGaussConjWrongFalsely : Prop := fnGaussConjRow.holds Try.pinned (OpenSpec.ofChange fnGaussConjWrong)

/- THE SECOND FORM. 'bulk': how many values and letters a reading holds, each counted each time it is reached (what is shared counts as often as it is met; a slice's spare places count too). A statement '..UptoSaid' is the law's where the arguments, and the package variables that the reading takes, are together of bulk at most 1048576: NARROWER than '..Said'. Prove '..Said' where nothing that the law and all that it calls make is longer than what came in: it says more and counts as full. Else prove '..UptoSaid'. A law counts once. -/
mutual
def uptoBulk {H : Type} : DataW H → Nat
  | .lit (.string bytes) => bytes.length + 1
  | .lit _ => 1
  | .nil => 1
  | .ptr d => uptoBulk d + 1
  | .slice elems spare => uptoBulkAll elems + uptoBulkAll spare + 1
  | .agg parts => uptoBulkAll parts + 1
  | .iface _ d => uptoBulk d + 1
  | .map entries => uptoBulkEntries entries + 1
  | .held _ => 1
def uptoBulkAll {H : Type} : List (DataW H) → Nat
  | [] => 0
  | d :: r => uptoBulk d + uptoBulkAll r
def uptoBulkEntries {H : Type} : List (Lit × DataW H) → Nat
  | [] => 0
  | x :: r => uptoBulkEntry x + uptoBulkEntries r
def uptoBulkEntry {H : Type} : Lit × DataW H → Nat
  | (.string bytes, d) => bytes.length + uptoBulk d + 1
  | (_, d) => uptoBulk d + 1
 end
def uptoSmall : (H : Type) → List (DataW H) → Bool := fun _ ds => decide (uptoBulkAll ds ≤ 1048576)
def OpenSpec.upto (s : _root_.Go.ChangeSpec) : _root_.Go.OpenSpec := { _root_.Go.OpenSpec.ofChange s with cond := some uptoSmall }

/-- 'laws.FnGaussAddThree', WHERE WHAT IT READS IS OF BULK AT MOST 1048576: true; the input reads as it did. -/
def fnGaussAddThreeUptoRow : OpenClaim := { program := "ytjaajohklkgegaa", sum := "0e3c4903f3e33e870c7d56a3a6bac15d9a629c1e65c91bc277a03013dd204729", func := "loop.example/radiointerferometer/laws.FnGaussAddThree", spec := "fnGaussAddThree", apart := false, narrowed := true }
def FnGaussAddThreeUptoSaid : Prop := fnGaussAddThreeUptoRow.holds Try.pinned (OpenSpec.upto fnGaussAddThreeSpec)

/-- 'laws.FnGaussAdd', WHERE WHAT IT READS IS OF BULK AT MOST 1048576: true; the input reads as it did. -/
def fnGaussAddUptoRow : OpenClaim := { program := "ytjaajohklkgegaa", sum := "0e3c4903f3e33e870c7d56a3a6bac15d9a629c1e65c91bc277a03013dd204729", func := "loop.example/radiointerferometer/laws.FnGaussAdd", spec := "fnGaussAdd", apart := false, narrowed := true }
def FnGaussAddUptoSaid : Prop := fnGaussAddUptoRow.holds Try.pinned (OpenSpec.upto fnGaussAddSpec)

/-- 'laws.FnGaussSub', WHERE WHAT IT READS IS OF BULK AT MOST 1048576: true; the input reads as it did. -/
def fnGaussSubUptoRow : OpenClaim := { program := "ytjaajohklkgegaa", sum := "0e3c4903f3e33e870c7d56a3a6bac15d9a629c1e65c91bc277a03013dd204729", func := "loop.example/radiointerferometer/laws.FnGaussSub", spec := "fnGaussSub", apart := false, narrowed := true }
def FnGaussSubUptoSaid : Prop := fnGaussSubUptoRow.holds Try.pinned (OpenSpec.upto fnGaussSubSpec)

/-- 'laws.FnGaussNormSum', WHERE WHAT IT READS IS OF BULK AT MOST 1048576: true; the input reads as it did. -/
def fnGaussNormSumUptoRow : OpenClaim := { program := "ytjaajohklkgegaa", sum := "0e3c4903f3e33e870c7d56a3a6bac15d9a629c1e65c91bc277a03013dd204729", func := "loop.example/radiointerferometer/laws.FnGaussNormSum", spec := "fnGaussNormSum", apart := false, narrowed := true }
def FnGaussNormSumUptoSaid : Prop := fnGaussNormSumUptoRow.holds Try.pinned (OpenSpec.upto fnGaussNormSumSpec)

/-- 'laws.FnGaussNorm', WHERE WHAT IT READS IS OF BULK AT MOST 1048576: true; the input reads as it did. -/
def fnGaussNormUptoRow : OpenClaim := { program := "ytjaajohklkgegaa", sum := "0e3c4903f3e33e870c7d56a3a6bac15d9a629c1e65c91bc277a03013dd204729", func := "loop.example/radiointerferometer/laws.FnGaussNorm", spec := "fnGaussNorm", apart := false, narrowed := true }
def FnGaussNormUptoSaid : Prop := fnGaussNormUptoRow.holds Try.pinned (OpenSpec.upto fnGaussNormSpec)

/-- 'laws.FnGaussConj', WHERE WHAT IT READS IS OF BULK AT MOST 1048576: true; the input reads as it did. -/
def fnGaussConjUptoRow : OpenClaim := { program := "ytjaajohklkgegaa", sum := "0e3c4903f3e33e870c7d56a3a6bac15d9a629c1e65c91bc277a03013dd204729", func := "loop.example/radiointerferometer/laws.FnGaussConj", spec := "fnGaussConj", apart := false, narrowed := true }
def FnGaussConjUptoSaid : Prop := fnGaussConjUptoRow.holds Try.pinned (OpenSpec.upto fnGaussConjSpec)

end Rows
end Go.Proofs.Ytjaajohklkgegaa
