/-
  No cell of these rows narrows 'for every input' (looked for: loops, veiled, ifaces, maps, wideKeys, modest, calm, conditions, laid).
  DERIVED. THE GIVEN ROWS OF THIS SEAT. 6 by the template 'for every input the law returns true; each argument reads behind the call as it read before'; 0 by the template 'total and deterministic' (their statements: YteaieeibkgbhbaaTotals.lean).
  GIVEN WITH THE SEED: the statements are not yours to turn. If you find one false, say at which input.
  Laid BY PROGRAM, IN A SANDBOX (cutbox-rows.mjs): the forced cells as the released guide's own fill.sh prints them over the translation b15b0edf9e159b32… (all of the seat's roots in one cut). By AI agents, Wed Nov 11 2026. No macro, syntax, notation, axiom, sorry.
-/
import Derived.Test.YteaieeibkgbhbaaChecked
import GoSem.Claim
import GoSem.ClaimJoined
import GoSem.ClaimMapViews
import Derived.JoinedTies
import Derived.KernelRfl
namespace Go.Proofs.Yteaieeibkgbhbaa
/- THE CELL 'sum', in the pinned program and in every row, IS THE sha256 OF THE DUMP (.gsa) THAT YteaieeibkgbhbaaProg.lean LOADS. Nothing in Lean hashes anything: it is a label: what it is worth is what the hold of that sum in a sandbox is worth. -/
noncomputable def Try.pinned : Pinned := { name := "yteaieeibkgbhbaa", sum := "b15b0edf9e159b324d971d45d2dd2e7f013873ae0a2f62a5685fb3f3614f4a74", checked := Try.checked }
namespace Rows
def none {H : Type} : Left H := { results := [], args := [] }

/-- 'laws.FnExactBaseIndex': WHATEVER THE INPUT: true; the input reads as it did. -/
def fnExactBaseIndexSpec : ChangeSpec := { name := "fnExactBaseIndex", fn := fun _ => fun
  | [d1, d2, d3] => { results := [.lit (.bool true)], args := [d1, d2, d3] }
  | _ => none }
def fnExactBaseIndexRow : OpenClaim := { program := "yteaieeibkgbhbaa", sum := "b15b0edf9e159b324d971d45d2dd2e7f013873ae0a2f62a5685fb3f3614f4a74", func := "loop.example/radiointerferometer/laws.FnExactBaseIndex", spec := "fnExactBaseIndex", apart := false }
def FnExactBaseIndexSaid : Prop := fnExactBaseIndexRow.holds Try.pinned (OpenSpec.ofChange fnExactBaseIndexSpec)

/-- ITS FALSE NEIGHBOUR: 'it returns false'. Refute it at one input. -/
def fnExactBaseIndexWrong : ChangeSpec := { name := "fnExactBaseIndex", fn := fun _ => fun
  | [d1, d2, d3] => { results := [.lit (.bool false)], args := [d1, d2, d3] }
  | _ => none }
def FnExactBaseIndexWrongFalsely : Prop := fnExactBaseIndexRow.holds Try.pinned (OpenSpec.ofChange fnExactBaseIndexWrong)

/-- 'laws.FnBaseMany': WHATEVER THE INPUT: true; the input reads as it did. -/
def fnBaseManySpec : ChangeSpec := { name := "fnBaseMany", fn := fun _ => fun
  | [d] => { results := [.lit (.bool true)], args := [d] }
  | _ => none }
def fnBaseManyRow : OpenClaim := { program := "yteaieeibkgbhbaa", sum := "b15b0edf9e159b324d971d45d2dd2e7f013873ae0a2f62a5685fb3f3614f4a74", func := "loop.example/radiointerferometer/laws.FnBaseMany", spec := "fnBaseMany", apart := false }
def FnBaseManySaid : Prop := fnBaseManyRow.holds Try.pinned (OpenSpec.ofChange fnBaseManySpec)

/-- ITS FALSE NEIGHBOUR: 'it returns false'. Refute it at one input. -/
def fnBaseManyWrong : ChangeSpec := { name := "fnBaseMany", fn := fun _ => fun
  | [d] => { results := [.lit (.bool false)], args := [d] }
  | _ => none }
def FnBaseManyWrongFalsely : Prop := fnBaseManyRow.holds Try.pinned (OpenSpec.ofChange fnBaseManyWrong)

/-- 'laws.FnBaseIndexNext': WHATEVER THE INPUT: true; the input reads as it did. -/
def fnBaseIndexNextSpec : ChangeSpec := { name := "fnBaseIndexNext", fn := fun _ => fun
  | [d] => { results := [.lit (.bool true)], args := [d] }
  | _ => none }
def fnBaseIndexNextRow : OpenClaim := { program := "yteaieeibkgbhbaa", sum := "b15b0edf9e159b324d971d45d2dd2e7f013873ae0a2f62a5685fb3f3614f4a74", func := "loop.example/radiointerferometer/laws.FnBaseIndexNext", spec := "fnBaseIndexNext", apart := false }
def FnBaseIndexNextSaid : Prop := fnBaseIndexNextRow.holds Try.pinned (OpenSpec.ofChange fnBaseIndexNextSpec)

/-- ITS FALSE NEIGHBOUR: 'it returns false'. Refute it at one input. -/
def fnBaseIndexNextWrong : ChangeSpec := { name := "fnBaseIndexNext", fn := fun _ => fun
  | [d] => { results := [.lit (.bool false)], args := [d] }
  | _ => none }
def FnBaseIndexNextWrongFalsely : Prop := fnBaseIndexNextRow.holds Try.pinned (OpenSpec.ofChange fnBaseIndexNextWrong)

/-- 'laws.FnExactBasePair': WHATEVER THE INPUT: true; the input reads as it did. -/
def fnExactBasePairSpec : ChangeSpec := { name := "fnExactBasePair", fn := fun _ => fun
  | [d1, d2] => { results := [.lit (.bool true)], args := [d1, d2] }
  | _ => none }
def fnExactBasePairRow : OpenClaim := { program := "yteaieeibkgbhbaa", sum := "b15b0edf9e159b324d971d45d2dd2e7f013873ae0a2f62a5685fb3f3614f4a74", func := "loop.example/radiointerferometer/laws.FnExactBasePair", spec := "fnExactBasePair", unfollowed := true, recurses := true, apart := false }
def FnExactBasePairSaid : Prop := fnExactBasePairRow.holds Try.pinned (OpenSpec.ofChange fnExactBasePairSpec)

/-- ITS FALSE NEIGHBOUR: 'it returns false'. Refute it at one input. -/
def fnExactBasePairWrong : ChangeSpec := { name := "fnExactBasePair", fn := fun _ => fun
  | [d1, d2] => { results := [.lit (.bool false)], args := [d1, d2] }
  | _ => none }
def FnExactBasePairWrongFalsely : Prop := fnExactBasePairRow.holds Try.pinned (OpenSpec.ofChange fnExactBasePairWrong)

/-- 'laws.FnBaseIndex': WHATEVER THE INPUT: true; the input reads as it did. -/
def fnBaseIndexSpec : ChangeSpec := { name := "fnBaseIndex", fn := fun _ => fun
  | [d] => { results := [.lit (.bool true)], args := [d] }
  | _ => none }
def fnBaseIndexRow : OpenClaim := { program := "yteaieeibkgbhbaa", sum := "b15b0edf9e159b324d971d45d2dd2e7f013873ae0a2f62a5685fb3f3614f4a74", func := "loop.example/radiointerferometer/laws.FnBaseIndex", spec := "fnBaseIndex", unfollowed := true, recurses := true, apart := false }
def FnBaseIndexSaid : Prop := fnBaseIndexRow.holds Try.pinned (OpenSpec.ofChange fnBaseIndexSpec)

/-- ITS FALSE NEIGHBOUR: 'it returns false'. Refute it at one input. -/
def fnBaseIndexWrong : ChangeSpec := { name := "fnBaseIndex", fn := fun _ => fun
  | [d] => { results := [.lit (.bool false)], args := [d] }
  | _ => none }
def FnBaseIndexWrongFalsely : Prop := fnBaseIndexRow.holds Try.pinned (OpenSpec.ofChange fnBaseIndexWrong)

/-- 'laws.FnBasePair': WHATEVER THE INPUT: true; the input reads as it did. -/
def fnBasePairSpec : ChangeSpec := { name := "fnBasePair", fn := fun _ => fun
  | [d] => { results := [.lit (.bool true)], args := [d] }
  | _ => none }
def fnBasePairRow : OpenClaim := { program := "yteaieeibkgbhbaa", sum := "b15b0edf9e159b324d971d45d2dd2e7f013873ae0a2f62a5685fb3f3614f4a74", func := "loop.example/radiointerferometer/laws.FnBasePair", spec := "fnBasePair", unfollowed := true, recurses := true, apart := false }
def FnBasePairSaid : Prop := fnBasePairRow.holds Try.pinned (OpenSpec.ofChange fnBasePairSpec)

/-- ITS FALSE NEIGHBOUR: 'it returns false'. Refute it at one input. -/
def fnBasePairWrong : ChangeSpec := { name := "fnBasePair", fn := fun _ => fun
  | [d] => { results := [.lit (.bool false)], args := [d] }
  | _ => none }
def FnBasePairWrongFalsely : Prop := fnBasePairRow.holds Try.pinned (OpenSpec.ofChange fnBasePairWrong)

/- THE SECOND FORM. 'bulk': how many values and letters a reading holds, each counted each time it is reached (what is shared counts as often as it is met; a slice's spare places count too). A statement '..UptoSaid' is the law's where the arguments, and the package variables that the reading takes, are together of bulk at most 1048576: NARROWER than '..Said'. Prove '..Said' where nothing that the law and all that it calls make is longer than what came in: it says more and counts as full. Else prove '..UptoSaid'. A law counts once. -/
mutual
def uptoBulk {H : Type} : DataW H → Nat
  | .lit (.string bytes) => bytes.length + 1
  | .lit _ => 1
  | .nil => 1
  | .ptr d => uptoBulk d + 1
  | .slice elems spare => uptoBulkAll elems + uptoBulkAll spare + 1
  | .agg parts => uptoBulkAll parts + 1
  | .iface _ d => uptoBulk d + 1
  | .map entries => uptoBulkEntries entries + 1
  | .held _ => 1
def uptoBulkAll {H : Type} : List (DataW H) → Nat
  | [] => 0
  | d :: r => uptoBulk d + uptoBulkAll r
def uptoBulkEntries {H : Type} : List (Lit × DataW H) → Nat
  | [] => 0
  | x :: r => uptoBulkEntry x + uptoBulkEntries r
def uptoBulkEntry {H : Type} : Lit × DataW H → Nat
  | (.string bytes, d) => bytes.length + uptoBulk d + 1
  | (_, d) => uptoBulk d + 1
 end
def uptoSmall : (H : Type) → List (DataW H) → Bool := fun _ ds => decide (uptoBulkAll ds ≤ 1048576)
def OpenSpec.upto (s : _root_.Go.ChangeSpec) : _root_.Go.OpenSpec := { _root_.Go.OpenSpec.ofChange s with cond := some uptoSmall }

/-- 'laws.FnExactBaseIndex', WHERE WHAT IT READS IS OF BULK AT MOST 1048576: true; the input reads as it did. -/
def fnExactBaseIndexUptoRow : OpenClaim := { program := "yteaieeibkgbhbaa", sum := "b15b0edf9e159b324d971d45d2dd2e7f013873ae0a2f62a5685fb3f3614f4a74", func := "loop.example/radiointerferometer/laws.FnExactBaseIndex", spec := "fnExactBaseIndex", apart := false, narrowed := true }
def FnExactBaseIndexUptoSaid : Prop := fnExactBaseIndexUptoRow.holds Try.pinned (OpenSpec.upto fnExactBaseIndexSpec)

/-- 'laws.FnBaseMany', WHERE WHAT IT READS IS OF BULK AT MOST 1048576: true; the input reads as it did. -/
def fnBaseManyUptoRow : OpenClaim := { program := "yteaieeibkgbhbaa", sum := "b15b0edf9e159b324d971d45d2dd2e7f013873ae0a2f62a5685fb3f3614f4a74", func := "loop.example/radiointerferometer/laws.FnBaseMany", spec := "fnBaseMany", apart := false, narrowed := true }
def FnBaseManyUptoSaid : Prop := fnBaseManyUptoRow.holds Try.pinned (OpenSpec.upto fnBaseManySpec)

/-- 'laws.FnBaseIndexNext', WHERE WHAT IT READS IS OF BULK AT MOST 1048576: true; the input reads as it did. -/
def fnBaseIndexNextUptoRow : OpenClaim := { program := "yteaieeibkgbhbaa", sum := "b15b0edf9e159b324d971d45d2dd2e7f013873ae0a2f62a5685fb3f3614f4a74", func := "loop.example/radiointerferometer/laws.FnBaseIndexNext", spec := "fnBaseIndexNext", apart := false, narrowed := true }
def FnBaseIndexNextUptoSaid : Prop := fnBaseIndexNextUptoRow.holds Try.pinned (OpenSpec.upto fnBaseIndexNextSpec)

/-- 'laws.FnExactBasePair', WHERE WHAT IT READS IS OF BULK AT MOST 1048576: true; the input reads as it did. -/
def fnExactBasePairUptoRow : OpenClaim := { program := "yteaieeibkgbhbaa", sum := "b15b0edf9e159b324d971d45d2dd2e7f013873ae0a2f62a5685fb3f3614f4a74", func := "loop.example/radiointerferometer/laws.FnExactBasePair", spec := "fnExactBasePair", unfollowed := true, recurses := true, apart := false, narrowed := true }
def FnExactBasePairUptoSaid : Prop := fnExactBasePairUptoRow.holds Try.pinned (OpenSpec.upto fnExactBasePairSpec)

/-- 'laws.FnBaseIndex', WHERE WHAT IT READS IS OF BULK AT MOST 1048576: true; the input reads as it did. -/
def fnBaseIndexUptoRow : OpenClaim := { program := "yteaieeibkgbhbaa", sum := "b15b0edf9e159b324d971d45d2dd2e7f013873ae0a2f62a5685fb3f3614f4a74", func := "loop.example/radiointerferometer/laws.FnBaseIndex", spec := "fnBaseIndex", unfollowed := true, recurses := true, apart := false, narrowed := true }
def FnBaseIndexUptoSaid : Prop := fnBaseIndexUptoRow.holds Try.pinned (OpenSpec.upto fnBaseIndexSpec)

/-- 'laws.FnBasePair', WHERE WHAT IT READS IS OF BULK AT MOST 1048576: true; the input reads as it did. -/
def fnBasePairUptoRow : OpenClaim := { program := "yteaieeibkgbhbaa", sum := "b15b0edf9e159b324d971d45d2dd2e7f013873ae0a2f62a5685fb3f3614f4a74", func := "loop.example/radiointerferometer/laws.FnBasePair", spec := "fnBasePair", unfollowed := true, recurses := true, apart := false, narrowed := true }
def FnBasePairUptoSaid : Prop := fnBasePairUptoRow.holds Try.pinned (OpenSpec.upto fnBasePairSpec)

end Rows
end Go.Proofs.Yteaieeibkgbhbaa
