/-
  DERIVED. GIVEN WITH THE SEED: THE CARDS: each row of YtafflgjngjmgiaaDoorRows.lean that lists a variable, with what it lists TIED to the program's text (the seventh form; the later family's looks); each row that meets fmt, with fmt's text TOLD by the authors' own Lean function (tested against real Go, not proved from fmt's source: count such statements apart). THE CARD IS WHAT COUNTS. Prove the row's statement (the work); the ties are given (YtafflgjngjmgiaaDoorTie.lean); close each card by the builder's one call (the guide's Derived/Test/ToyasCard.lean, 'card_holds'). Laid BY PROGRAM, IN A SANDBOX (cutbox-door.mjs). By AI agents, Wed Nov 11 2026. No macro, syntax, notation, axiom, sorry.
-/
import Derived.Test.YtafflgjngjmgiaaDoorRows
import GoSem.ClaimSeven
namespace Go.Proofs.YtafflgjngjmgiaaDoor
namespace Rows

/-- THE TIED CARD OF 'laws.FnExactGaussText'. -/
def fnExactGaussTextCard : Claim7 := { stood := { row := fnExactGaussTextRow, standIns := [], harness := (true, "3f6b81a67c25c96655c1bfbdc91430e7da9d25fc6e9385353cbc3d22c04266f7"), looks := false }, kinds := [], alts := [], laidByText := true, laidKinds := [.data, .data, .data], laidTests := true, laidLooks := .later }
def FnExactGaussTextCardSaid : Prop := Claim7.holds Tryd.pinned (.plain (OpenSpec.ofChange fnExactGaussTextSpec)) fnExactGaussTextCard

/-- THE TIED CARD OF 'laws.FnGaussText'. -/
def fnGaussTextCard : Claim7 := { stood := { row := fnGaussTextRow, standIns := [], harness := (true, "3f6b81a67c25c96655c1bfbdc91430e7da9d25fc6e9385353cbc3d22c04266f7"), looks := false }, kinds := [], alts := [], laidByText := true, laidKinds := [.data, .data, .data], laidTests := true, laidLooks := .later }
def FnGaussTextCardSaid : Prop := Claim7.holds Tryd.pinned (.plain (OpenSpec.ofChange fnGaussTextSpec)) fnGaussTextCard

/-- THE SECOND FORM's CARD OF 'laws.FnExactGaussText'. -/
def fnExactGaussTextUptoCard : Claim7 := { stood := { row := fnExactGaussTextUptoRow, standIns := [], harness := (true, "3f6b81a67c25c96655c1bfbdc91430e7da9d25fc6e9385353cbc3d22c04266f7"), looks := false }, kinds := [], alts := [], laidByText := true, laidKinds := [.data, .data, .data], laidTests := true, laidLooks := .later }
def FnExactGaussTextUptoCardSaid : Prop := Claim7.holds Tryd.pinned (.plain (OpenSpec.upto fnExactGaussTextSpec)) fnExactGaussTextUptoCard

/-- THE SECOND FORM's CARD OF 'laws.FnGaussText'. -/
def fnGaussTextUptoCard : Claim7 := { stood := { row := fnGaussTextUptoRow, standIns := [], harness := (true, "3f6b81a67c25c96655c1bfbdc91430e7da9d25fc6e9385353cbc3d22c04266f7"), looks := false }, kinds := [], alts := [], laidByText := true, laidKinds := [.data, .data, .data], laidTests := true, laidLooks := .later }
def FnGaussTextUptoCardSaid : Prop := Claim7.holds Tryd.pinned (.plain (OpenSpec.upto fnGaussTextSpec)) fnGaussTextUptoCard
end Rows
end Go.Proofs.YtafflgjngjmgiaaDoor
