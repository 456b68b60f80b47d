/-
  No cell of these rows narrows 'for every input' (looked for: loops, veiled, ifaces, maps, wideKeys, modest, calm, conditions, laid).
  DERIVED. THE GIVEN ROWS OF THIS SEAT. 6 by the template 'for every input the law returns true; each argument reads behind the call as it read before'; 0 by the template 'total and deterministic' (their statements: YtijneicbpeokcaaTotals.lean).
  GIVEN WITH THE SEED: the statements are not yours to turn. If you find one false, say at which input.
  Laid BY PROGRAM, IN A SANDBOX (cutbox-rows.mjs): the forced cells as the released guide's own fill.sh prints them over the translation b7b02b5a4e6d630c… (all of the seat's roots in one cut). By AI agents, Wed Nov 11 2026. No macro, syntax, notation, axiom, sorry.
-/
import Derived.Test.YtijneicbpeokcaaChecked
import GoSem.Claim
import GoSem.ClaimJoined
import GoSem.ClaimMapViews
import Derived.JoinedTies
import Derived.KernelRfl
namespace Go.Proofs.Ytijneicbpeokcaa
/- THE CELL 'sum', in the pinned program and in every row, IS THE sha256 OF THE DUMP (.gsa) THAT YtijneicbpeokcaaProg.lean LOADS. Nothing in Lean hashes anything: it is a label: what it is worth is what the hold of that sum in a sandbox is worth. -/
noncomputable def Try.pinned : Pinned := { name := "ytijneicbpeokcaa", sum := "b7b02b5a4e6d630c5b327ce5860ae04a214c05dab7123ca2417968833983daef", checked := Try.checked }
namespace Rows
def none {H : Type} : Left H := { results := [], args := [] }

/-- 'laws.FnExactPhaseNear': WHATEVER THE INPUT: true; the input reads as it did. -/
def fnExactPhaseNearSpec : ChangeSpec := { name := "fnExactPhaseNear", fn := fun _ => fun
  | [d1, d2] => { results := [.lit (.bool true)], args := [d1, d2] }
  | _ => none }
def fnExactPhaseNearRow : OpenClaim := { program := "ytijneicbpeokcaa", sum := "b7b02b5a4e6d630c5b327ce5860ae04a214c05dab7123ca2417968833983daef", func := "loop.example/radiointerferometer/laws.FnExactPhaseNear", spec := "fnExactPhaseNear", apart := false }
def FnExactPhaseNearSaid : Prop := fnExactPhaseNearRow.holds Try.pinned (OpenSpec.ofChange fnExactPhaseNearSpec)

/-- ITS FALSE NEIGHBOUR: 'it returns false'. Refute it at one input. -/
def fnExactPhaseNearWrong : ChangeSpec := { name := "fnExactPhaseNear", fn := fun _ => fun
  | [d1, d2] => { results := [.lit (.bool false)], args := [d1, d2] }
  | _ => none }
def FnExactPhaseNearWrongFalsely : Prop := fnExactPhaseNearRow.holds Try.pinned (OpenSpec.ofChange fnExactPhaseNearWrong)

/-- 'laws.FnExactPhaseSum': WHATEVER THE INPUT: true; the input reads as it did. -/
def fnExactPhaseSumSpec : ChangeSpec := { name := "fnExactPhaseSum", fn := fun _ => fun
  | [d] => { results := [.lit (.bool true)], args := [d] }
  | _ => none }
def fnExactPhaseSumRow : OpenClaim := { program := "ytijneicbpeokcaa", sum := "b7b02b5a4e6d630c5b327ce5860ae04a214c05dab7123ca2417968833983daef", func := "loop.example/radiointerferometer/laws.FnExactPhaseSum", spec := "fnExactPhaseSum", apart := false }
def FnExactPhaseSumSaid : Prop := fnExactPhaseSumRow.holds Try.pinned (OpenSpec.ofChange fnExactPhaseSumSpec)

/-- ITS FALSE NEIGHBOUR: 'it returns false'. Refute it at one input. -/
def fnExactPhaseSumWrong : ChangeSpec := { name := "fnExactPhaseSum", fn := fun _ => fun
  | [d] => { results := [.lit (.bool false)], args := [d] }
  | _ => none }
def FnExactPhaseSumWrongFalsely : Prop := fnExactPhaseSumRow.holds Try.pinned (OpenSpec.ofChange fnExactPhaseSumWrong)

/-- 'laws.FnPhaseNext': WHATEVER THE INPUT: true; the input reads as it did. -/
def fnPhaseNextSpec : ChangeSpec := { name := "fnPhaseNext", fn := fun _ => fun
  | [d] => { results := [.lit (.bool true)], args := [d] }
  | _ => none }
def fnPhaseNextRow : OpenClaim := { program := "ytijneicbpeokcaa", sum := "b7b02b5a4e6d630c5b327ce5860ae04a214c05dab7123ca2417968833983daef", func := "loop.example/radiointerferometer/laws.FnPhaseNext", spec := "fnPhaseNext", apart := false }
def FnPhaseNextSaid : Prop := fnPhaseNextRow.holds Try.pinned (OpenSpec.ofChange fnPhaseNextSpec)

/-- ITS FALSE NEIGHBOUR: 'it returns false'. Refute it at one input. -/
def fnPhaseNextWrong : ChangeSpec := { name := "fnPhaseNext", fn := fun _ => fun
  | [d] => { results := [.lit (.bool false)], args := [d] }
  | _ => none }
def FnPhaseNextWrongFalsely : Prop := fnPhaseNextRow.holds Try.pinned (OpenSpec.ofChange fnPhaseNextWrong)

/-- 'laws.FnPhaseOf': WHATEVER THE INPUT: true; the input reads as it did. -/
def fnPhaseOfSpec : ChangeSpec := { name := "fnPhaseOf", fn := fun _ => fun
  | [d] => { results := [.lit (.bool true)], args := [d] }
  | _ => none }
def fnPhaseOfRow : OpenClaim := { program := "ytijneicbpeokcaa", sum := "b7b02b5a4e6d630c5b327ce5860ae04a214c05dab7123ca2417968833983daef", func := "loop.example/radiointerferometer/laws.FnPhaseOf", spec := "fnPhaseOf", apart := false }
def FnPhaseOfSaid : Prop := fnPhaseOfRow.holds Try.pinned (OpenSpec.ofChange fnPhaseOfSpec)

/-- ITS FALSE NEIGHBOUR: 'it returns false'. Refute it at one input. -/
def fnPhaseOfWrong : ChangeSpec := { name := "fnPhaseOf", fn := fun _ => fun
  | [d] => { results := [.lit (.bool false)], args := [d] }
  | _ => none }
def FnPhaseOfWrongFalsely : Prop := fnPhaseOfRow.holds Try.pinned (OpenSpec.ofChange fnPhaseOfWrong)

/-- 'laws.FnPhaseSigned': WHATEVER THE INPUT: true; the input reads as it did. -/
def fnPhaseSignedSpec : ChangeSpec := { name := "fnPhaseSigned", fn := fun _ => fun
  | [d] => { results := [.lit (.bool true)], args := [d] }
  | _ => none }
def fnPhaseSignedRow : OpenClaim := { program := "ytijneicbpeokcaa", sum := "b7b02b5a4e6d630c5b327ce5860ae04a214c05dab7123ca2417968833983daef", func := "loop.example/radiointerferometer/laws.FnPhaseSigned", spec := "fnPhaseSigned", apart := false }
def FnPhaseSignedSaid : Prop := fnPhaseSignedRow.holds Try.pinned (OpenSpec.ofChange fnPhaseSignedSpec)

/-- ITS FALSE NEIGHBOUR: 'it returns false'. Refute it at one input. -/
def fnPhaseSignedWrong : ChangeSpec := { name := "fnPhaseSigned", fn := fun _ => fun
  | [d] => { results := [.lit (.bool false)], args := [d] }
  | _ => none }
def FnPhaseSignedWrongFalsely : Prop := fnPhaseSignedRow.holds Try.pinned (OpenSpec.ofChange fnPhaseSignedWrong)

/-- 'laws.FnPhaseSignedTurn': WHATEVER THE INPUT: true; the input reads as it did. -/
def fnPhaseSignedTurnSpec : ChangeSpec := { name := "fnPhaseSignedTurn", fn := fun _ => fun
  | [d] => { results := [.lit (.bool true)], args := [d] }
  | _ => none }
def fnPhaseSignedTurnRow : OpenClaim := { program := "ytijneicbpeokcaa", sum := "b7b02b5a4e6d630c5b327ce5860ae04a214c05dab7123ca2417968833983daef", func := "loop.example/radiointerferometer/laws.FnPhaseSignedTurn", spec := "fnPhaseSignedTurn", apart := false }
def FnPhaseSignedTurnSaid : Prop := fnPhaseSignedTurnRow.holds Try.pinned (OpenSpec.ofChange fnPhaseSignedTurnSpec)

/-- ITS FALSE NEIGHBOUR: 'it returns false'. Refute it at one input. -/
def fnPhaseSignedTurnWrong : ChangeSpec := { name := "fnPhaseSignedTurn", fn := fun _ => fun
  | [d] => { results := [.lit (.bool false)], args := [d] }
  | _ => none }
def FnPhaseSignedTurnWrongFalsely : Prop := fnPhaseSignedTurnRow.holds Try.pinned (OpenSpec.ofChange fnPhaseSignedTurnWrong)

/- THE SECOND FORM. 'bulk': how many values and letters a reading holds, each counted each time it is reached (what is shared counts as often as it is met; a slice's spare places count too). A statement '..UptoSaid' is the law's where the arguments, and the package variables that the reading takes, are together of bulk at most 1048576: NARROWER than '..Said'. Prove '..Said' where nothing that the law and all that it calls make is longer than what came in: it says more and counts as full. Else prove '..UptoSaid'. A law counts once. -/
mutual
def uptoBulk {H : Type} : DataW H → Nat
  | .lit (.string bytes) => bytes.length + 1
  | .lit _ => 1
  | .nil => 1
  | .ptr d => uptoBulk d + 1
  | .slice elems spare => uptoBulkAll elems + uptoBulkAll spare + 1
  | .agg parts => uptoBulkAll parts + 1
  | .iface _ d => uptoBulk d + 1
  | .map entries => uptoBulkEntries entries + 1
  | .held _ => 1
def uptoBulkAll {H : Type} : List (DataW H) → Nat
  | [] => 0
  | d :: r => uptoBulk d + uptoBulkAll r
def uptoBulkEntries {H : Type} : List (Lit × DataW H) → Nat
  | [] => 0
  | x :: r => uptoBulkEntry x + uptoBulkEntries r
def uptoBulkEntry {H : Type} : Lit × DataW H → Nat
  | (.string bytes, d) => bytes.length + uptoBulk d + 1
  | (_, d) => uptoBulk d + 1
 end
def uptoSmall : (H : Type) → List (DataW H) → Bool := fun _ ds => decide (uptoBulkAll ds ≤ 1048576)
def OpenSpec.upto (s : _root_.Go.ChangeSpec) : _root_.Go.OpenSpec := { _root_.Go.OpenSpec.ofChange s with cond := some uptoSmall }

/-- 'laws.FnExactPhaseNear', WHERE WHAT IT READS IS OF BULK AT MOST 1048576: true; the input reads as it did. -/
def fnExactPhaseNearUptoRow : OpenClaim := { program := "ytijneicbpeokcaa", sum := "b7b02b5a4e6d630c5b327ce5860ae04a214c05dab7123ca2417968833983daef", func := "loop.example/radiointerferometer/laws.FnExactPhaseNear", spec := "fnExactPhaseNear", apart := false, narrowed := true }
def FnExactPhaseNearUptoSaid : Prop := fnExactPhaseNearUptoRow.holds Try.pinned (OpenSpec.upto fnExactPhaseNearSpec)

/-- 'laws.FnExactPhaseSum', WHERE WHAT IT READS IS OF BULK AT MOST 1048576: true; the input reads as it did. -/
def fnExactPhaseSumUptoRow : OpenClaim := { program := "ytijneicbpeokcaa", sum := "b7b02b5a4e6d630c5b327ce5860ae04a214c05dab7123ca2417968833983daef", func := "loop.example/radiointerferometer/laws.FnExactPhaseSum", spec := "fnExactPhaseSum", apart := false, narrowed := true }
def FnExactPhaseSumUptoSaid : Prop := fnExactPhaseSumUptoRow.holds Try.pinned (OpenSpec.upto fnExactPhaseSumSpec)

/-- 'laws.FnPhaseNext', WHERE WHAT IT READS IS OF BULK AT MOST 1048576: true; the input reads as it did. -/
def fnPhaseNextUptoRow : OpenClaim := { program := "ytijneicbpeokcaa", sum := "b7b02b5a4e6d630c5b327ce5860ae04a214c05dab7123ca2417968833983daef", func := "loop.example/radiointerferometer/laws.FnPhaseNext", spec := "fnPhaseNext", apart := false, narrowed := true }
def FnPhaseNextUptoSaid : Prop := fnPhaseNextUptoRow.holds Try.pinned (OpenSpec.upto fnPhaseNextSpec)

/-- 'laws.FnPhaseOf', WHERE WHAT IT READS IS OF BULK AT MOST 1048576: true; the input reads as it did. -/
def fnPhaseOfUptoRow : OpenClaim := { program := "ytijneicbpeokcaa", sum := "b7b02b5a4e6d630c5b327ce5860ae04a214c05dab7123ca2417968833983daef", func := "loop.example/radiointerferometer/laws.FnPhaseOf", spec := "fnPhaseOf", apart := false, narrowed := true }
def FnPhaseOfUptoSaid : Prop := fnPhaseOfUptoRow.holds Try.pinned (OpenSpec.upto fnPhaseOfSpec)

/-- 'laws.FnPhaseSigned', WHERE WHAT IT READS IS OF BULK AT MOST 1048576: true; the input reads as it did. -/
def fnPhaseSignedUptoRow : OpenClaim := { program := "ytijneicbpeokcaa", sum := "b7b02b5a4e6d630c5b327ce5860ae04a214c05dab7123ca2417968833983daef", func := "loop.example/radiointerferometer/laws.FnPhaseSigned", spec := "fnPhaseSigned", apart := false, narrowed := true }
def FnPhaseSignedUptoSaid : Prop := fnPhaseSignedUptoRow.holds Try.pinned (OpenSpec.upto fnPhaseSignedSpec)

/-- 'laws.FnPhaseSignedTurn', WHERE WHAT IT READS IS OF BULK AT MOST 1048576: true; the input reads as it did. -/
def fnPhaseSignedTurnUptoRow : OpenClaim := { program := "ytijneicbpeokcaa", sum := "b7b02b5a4e6d630c5b327ce5860ae04a214c05dab7123ca2417968833983daef", func := "loop.example/radiointerferometer/laws.FnPhaseSignedTurn", spec := "fnPhaseSignedTurn", apart := false, narrowed := true }
def FnPhaseSignedTurnUptoSaid : Prop := fnPhaseSignedTurnUptoRow.holds Try.pinned (OpenSpec.upto fnPhaseSignedTurnSpec)

end Rows
end Go.Proofs.Ytijneicbpeokcaa
