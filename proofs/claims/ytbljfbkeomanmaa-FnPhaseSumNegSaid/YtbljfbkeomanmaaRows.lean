/-
  No cell of these rows narrows 'for every input' (looked for: loops, veiled, ifaces, maps, wideKeys, modest, calm, conditions, laid).
  DERIVED. THE GIVEN ROWS OF THIS SEAT. 6 by the template 'for every input the law returns true; each argument reads behind the call as it read before'; 0 by the template 'total and deterministic' (their statements: YtbljfbkeomanmaaTotals.lean).
  GIVEN WITH THE SEED: the statements are not yours to turn. If you find one false, say at which input.
  Laid BY PROGRAM, IN A SANDBOX (cutbox-rows.mjs): the forced cells as the released guide's own fill.sh prints them over the translation d0e8feea51c31e59… (all of the seat's roots in one cut). By AI agents, Wed Nov 11 2026. No macro, syntax, notation, axiom, sorry.
-/
import Derived.Test.YtbljfbkeomanmaaChecked
import GoSem.Claim
import GoSem.ClaimJoined
import GoSem.ClaimMapViews
import Derived.JoinedTies
import Derived.KernelRfl
namespace Go.Proofs.Ytbljfbkeomanmaa
/- THE CELL 'sum', in the pinned program and in every row, IS THE sha256 OF THE DUMP (.gsa) THAT YtbljfbkeomanmaaProg.lean LOADS. Nothing in Lean hashes anything: it is a label: what it is worth is what the hold of that sum in a sandbox is worth. -/
noncomputable def Try.pinned : Pinned := { name := "ytbljfbkeomanmaa", sum := "d0e8feea51c31e595d16ed1e713798fb7636765521d92057082d6251aab6da2d", checked := Try.checked }
namespace Rows
def none {H : Type} : Left H := { results := [], args := [] }

/-- 'laws.FnPhaseNear': WHATEVER THE INPUT: true; the input reads as it did. -/
def fnPhaseNearSpec : ChangeSpec := { name := "fnPhaseNear", fn := fun _ => fun
  | [d] => { results := [.lit (.bool true)], args := [d] }
  | _ => none }
def fnPhaseNearRow : OpenClaim := { program := "ytbljfbkeomanmaa", sum := "d0e8feea51c31e595d16ed1e713798fb7636765521d92057082d6251aab6da2d", func := "loop.example/radiointerferometer/laws.FnPhaseNear", spec := "fnPhaseNear", apart := false }
def FnPhaseNearSaid : Prop := fnPhaseNearRow.holds Try.pinned (OpenSpec.ofChange fnPhaseNearSpec)

/-- ITS FALSE NEIGHBOUR: 'it returns false'. Refute it at one input. -/
def fnPhaseNearWrong : ChangeSpec := { name := "fnPhaseNear", fn := fun _ => fun
  | [d] => { results := [.lit (.bool false)], args := [d] }
  | _ => none }
def FnPhaseNearWrongFalsely : Prop := fnPhaseNearRow.holds Try.pinned (OpenSpec.ofChange fnPhaseNearWrong)

/-- 'laws.FnPhaseNearSum': WHATEVER THE INPUT: true; the input reads as it did. -/
def fnPhaseNearSumSpec : ChangeSpec := { name := "fnPhaseNearSum", fn := fun _ => fun
  | [d1, d2] => { results := [.lit (.bool true)], args := [d1, d2] }
  | _ => none }
def fnPhaseNearSumRow : OpenClaim := { program := "ytbljfbkeomanmaa", sum := "d0e8feea51c31e595d16ed1e713798fb7636765521d92057082d6251aab6da2d", func := "loop.example/radiointerferometer/laws.FnPhaseNearSum", spec := "fnPhaseNearSum", apart := false }
def FnPhaseNearSumSaid : Prop := fnPhaseNearSumRow.holds Try.pinned (OpenSpec.ofChange fnPhaseNearSumSpec)

/-- ITS FALSE NEIGHBOUR: 'it returns false'. Refute it at one input. -/
def fnPhaseNearSumWrong : ChangeSpec := { name := "fnPhaseNearSum", fn := fun _ => fun
  | [d1, d2] => { results := [.lit (.bool false)], args := [d1, d2] }
  | _ => none }
def FnPhaseNearSumWrongFalsely : Prop := fnPhaseNearSumRow.holds Try.pinned (OpenSpec.ofChange fnPhaseNearSumWrong)

/-- 'laws.FnPhaseNearThree': WHATEVER THE INPUT: true; the input reads as it did. -/
def fnPhaseNearThreeSpec : ChangeSpec := { name := "fnPhaseNearThree", fn := fun _ => fun
  | [d1, d2] => { results := [.lit (.bool true)], args := [d1, d2] }
  | _ => none }
def fnPhaseNearThreeRow : OpenClaim := { program := "ytbljfbkeomanmaa", sum := "d0e8feea51c31e595d16ed1e713798fb7636765521d92057082d6251aab6da2d", func := "loop.example/radiointerferometer/laws.FnPhaseNearThree", spec := "fnPhaseNearThree", apart := false }
def FnPhaseNearThreeSaid : Prop := fnPhaseNearThreeRow.holds Try.pinned (OpenSpec.ofChange fnPhaseNearThreeSpec)

/-- ITS FALSE NEIGHBOUR: 'it returns false'. Refute it at one input. -/
def fnPhaseNearThreeWrong : ChangeSpec := { name := "fnPhaseNearThree", fn := fun _ => fun
  | [d1, d2] => { results := [.lit (.bool false)], args := [d1, d2] }
  | _ => none }
def FnPhaseNearThreeWrongFalsely : Prop := fnPhaseNearThreeRow.holds Try.pinned (OpenSpec.ofChange fnPhaseNearThreeWrong)

/-- 'laws.FnPhaseNearTurn': WHATEVER THE INPUT: true; the input reads as it did. -/
def fnPhaseNearTurnSpec : ChangeSpec := { name := "fnPhaseNearTurn", fn := fun _ => fun
  | [d1, d2] => { results := [.lit (.bool true)], args := [d1, d2] }
  | _ => none }
def fnPhaseNearTurnRow : OpenClaim := { program := "ytbljfbkeomanmaa", sum := "d0e8feea51c31e595d16ed1e713798fb7636765521d92057082d6251aab6da2d", func := "loop.example/radiointerferometer/laws.FnPhaseNearTurn", spec := "fnPhaseNearTurn", apart := false }
def FnPhaseNearTurnSaid : Prop := fnPhaseNearTurnRow.holds Try.pinned (OpenSpec.ofChange fnPhaseNearTurnSpec)

/-- ITS FALSE NEIGHBOUR: 'it returns false'. Refute it at one input. -/
def fnPhaseNearTurnWrong : ChangeSpec := { name := "fnPhaseNearTurn", fn := fun _ => fun
  | [d1, d2] => { results := [.lit (.bool false)], args := [d1, d2] }
  | _ => none }
def FnPhaseNearTurnWrongFalsely : Prop := fnPhaseNearTurnRow.holds Try.pinned (OpenSpec.ofChange fnPhaseNearTurnWrong)

/-- 'laws.FnPhaseSum': WHATEVER THE INPUT: true; the input reads as it did. -/
def fnPhaseSumSpec : ChangeSpec := { name := "fnPhaseSum", fn := fun _ => fun
  | [d1, d2] => { results := [.lit (.bool true)], args := [d1, d2] }
  | _ => none }
def fnPhaseSumRow : OpenClaim := { program := "ytbljfbkeomanmaa", sum := "d0e8feea51c31e595d16ed1e713798fb7636765521d92057082d6251aab6da2d", func := "loop.example/radiointerferometer/laws.FnPhaseSum", spec := "fnPhaseSum", apart := false }
def FnPhaseSumSaid : Prop := fnPhaseSumRow.holds Try.pinned (OpenSpec.ofChange fnPhaseSumSpec)

/-- ITS FALSE NEIGHBOUR: 'it returns false'. Refute it at one input. -/
def fnPhaseSumWrong : ChangeSpec := { name := "fnPhaseSum", fn := fun _ => fun
  | [d1, d2] => { results := [.lit (.bool false)], args := [d1, d2] }
  | _ => none }
def FnPhaseSumWrongFalsely : Prop := fnPhaseSumRow.holds Try.pinned (OpenSpec.ofChange fnPhaseSumWrong)

/-- 'laws.FnPhaseSumNeg': WHATEVER THE INPUT: true; the input reads as it did. -/
def fnPhaseSumNegSpec : ChangeSpec := { name := "fnPhaseSumNeg", fn := fun _ => fun
  | [d] => { results := [.lit (.bool true)], args := [d] }
  | _ => none }
def fnPhaseSumNegRow : OpenClaim := { program := "ytbljfbkeomanmaa", sum := "d0e8feea51c31e595d16ed1e713798fb7636765521d92057082d6251aab6da2d", func := "loop.example/radiointerferometer/laws.FnPhaseSumNeg", spec := "fnPhaseSumNeg", apart := false }
def FnPhaseSumNegSaid : Prop := fnPhaseSumNegRow.holds Try.pinned (OpenSpec.ofChange fnPhaseSumNegSpec)

/-- ITS FALSE NEIGHBOUR: 'it returns false'. Refute it at one input. -/
def fnPhaseSumNegWrong : ChangeSpec := { name := "fnPhaseSumNeg", fn := fun _ => fun
  | [d] => { results := [.lit (.bool false)], args := [d] }
  | _ => none }
def FnPhaseSumNegWrongFalsely : Prop := fnPhaseSumNegRow.holds Try.pinned (OpenSpec.ofChange fnPhaseSumNegWrong)

/- THE SECOND FORM. 'bulk': how many values and letters a reading holds, each counted each time it is reached (what is shared counts as often as it is met; a slice's spare places count too). A statement '..UptoSaid' is the law's where the arguments, and the package variables that the reading takes, are together of bulk at most 1048576: NARROWER than '..Said'. Prove '..Said' where nothing that the law and all that it calls make is longer than what came in: it says more and counts as full. Else prove '..UptoSaid'. A law counts once. -/
mutual
def uptoBulk {H : Type} : DataW H → Nat
  | .lit (.string bytes) => bytes.length + 1
  | .lit _ => 1
  | .nil => 1
  | .ptr d => uptoBulk d + 1
  | .slice elems spare => uptoBulkAll elems + uptoBulkAll spare + 1
  | .agg parts => uptoBulkAll parts + 1
  | .iface _ d => uptoBulk d + 1
  | .map entries => uptoBulkEntries entries + 1
  | .held _ => 1
def uptoBulkAll {H : Type} : List (DataW H) → Nat
  | [] => 0
  | d :: r => uptoBulk d + uptoBulkAll r
def uptoBulkEntries {H : Type} : List (Lit × DataW H) → Nat
  | [] => 0
  | x :: r => uptoBulkEntry x + uptoBulkEntries r
def uptoBulkEntry {H : Type} : Lit × DataW H → Nat
  | (.string bytes, d) => bytes.length + uptoBulk d + 1
  | (_, d) => uptoBulk d + 1
 end
def uptoSmall : (H : Type) → List (DataW H) → Bool := fun _ ds => decide (uptoBulkAll ds ≤ 1048576)
def OpenSpec.upto (s : _root_.Go.ChangeSpec) : _root_.Go.OpenSpec := { _root_.Go.OpenSpec.ofChange s with cond := some uptoSmall }

/-- 'laws.FnPhaseNear', WHERE WHAT IT READS IS OF BULK AT MOST 1048576: true; the input reads as it did. -/
def fnPhaseNearUptoRow : OpenClaim := { program := "ytbljfbkeomanmaa", sum := "d0e8feea51c31e595d16ed1e713798fb7636765521d92057082d6251aab6da2d", func := "loop.example/radiointerferometer/laws.FnPhaseNear", spec := "fnPhaseNear", apart := false, narrowed := true }
def FnPhaseNearUptoSaid : Prop := fnPhaseNearUptoRow.holds Try.pinned (OpenSpec.upto fnPhaseNearSpec)

/-- 'laws.FnPhaseNearSum', WHERE WHAT IT READS IS OF BULK AT MOST 1048576: true; the input reads as it did. -/
def fnPhaseNearSumUptoRow : OpenClaim := { program := "ytbljfbkeomanmaa", sum := "d0e8feea51c31e595d16ed1e713798fb7636765521d92057082d6251aab6da2d", func := "loop.example/radiointerferometer/laws.FnPhaseNearSum", spec := "fnPhaseNearSum", apart := false, narrowed := true }
def FnPhaseNearSumUptoSaid : Prop := fnPhaseNearSumUptoRow.holds Try.pinned (OpenSpec.upto fnPhaseNearSumSpec)

/-- 'laws.FnPhaseNearThree', WHERE WHAT IT READS IS OF BULK AT MOST 1048576: true; the input reads as it did. -/
def fnPhaseNearThreeUptoRow : OpenClaim := { program := "ytbljfbkeomanmaa", sum := "d0e8feea51c31e595d16ed1e713798fb7636765521d92057082d6251aab6da2d", func := "loop.example/radiointerferometer/laws.FnPhaseNearThree", spec := "fnPhaseNearThree", apart := false, narrowed := true }
def FnPhaseNearThreeUptoSaid : Prop := fnPhaseNearThreeUptoRow.holds Try.pinned (OpenSpec.upto fnPhaseNearThreeSpec)

/-- 'laws.FnPhaseNearTurn', WHERE WHAT IT READS IS OF BULK AT MOST 1048576: true; the input reads as it did. -/
def fnPhaseNearTurnUptoRow : OpenClaim := { program := "ytbljfbkeomanmaa", sum := "d0e8feea51c31e595d16ed1e713798fb7636765521d92057082d6251aab6da2d", func := "loop.example/radiointerferometer/laws.FnPhaseNearTurn", spec := "fnPhaseNearTurn", apart := false, narrowed := true }
def FnPhaseNearTurnUptoSaid : Prop := fnPhaseNearTurnUptoRow.holds Try.pinned (OpenSpec.upto fnPhaseNearTurnSpec)

/-- 'laws.FnPhaseSum', WHERE WHAT IT READS IS OF BULK AT MOST 1048576: true; the input reads as it did. -/
def fnPhaseSumUptoRow : OpenClaim := { program := "ytbljfbkeomanmaa", sum := "d0e8feea51c31e595d16ed1e713798fb7636765521d92057082d6251aab6da2d", func := "loop.example/radiointerferometer/laws.FnPhaseSum", spec := "fnPhaseSum", apart := false, narrowed := true }
def FnPhaseSumUptoSaid : Prop := fnPhaseSumUptoRow.holds Try.pinned (OpenSpec.upto fnPhaseSumSpec)

/-- 'laws.FnPhaseSumNeg', WHERE WHAT IT READS IS OF BULK AT MOST 1048576: true; the input reads as it did. -/
def fnPhaseSumNegUptoRow : OpenClaim := { program := "ytbljfbkeomanmaa", sum := "d0e8feea51c31e595d16ed1e713798fb7636765521d92057082d6251aab6da2d", func := "loop.example/radiointerferometer/laws.FnPhaseSumNeg", spec := "fnPhaseSumNeg", apart := false, narrowed := true }
def FnPhaseSumNegUptoSaid : Prop := fnPhaseSumNegUptoRow.holds Try.pinned (OpenSpec.upto fnPhaseSumNegSpec)

end Rows
end Go.Proofs.Ytbljfbkeomanmaa
