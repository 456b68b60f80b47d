/- A list of places that came in: what its argument says. -/
import Derived.Test.YtbpbadmgmlfdhaaAo
import Derived.Test.YtbpbadmgmlfdhaaAp
import Derived.Deep.SlicePairs
import Derived.ChangeArms
import Derived.ProofKit
namespace Go.Proofs.Ytbpbadmgmlfdhaa
open Go.RowKit Go.Deep Go.ChangeShapes Go.WideShapes
set_option linter.unusedVariables false
/-- A slice of places that came in: nil, or cells behind its address. -/
def IsPairs (w : World) (a : Option Addr) (len cap : Nat) (z : Nat → Int × Int) : Prop :=
  (a = none ∧ len = 0 ∧ cap = 0) ∨ ∃ x, a = some x ∧ len ≤ cap ∧ cap ≤ maxLen ∧ ∀ i, i < len → w.cell? (x.add (i * 2)) = some (.int .i64 (z i).1) ∧ w.cell? (x.add (i * 2 + 1)) = some (.int .i64 (z i).2)
def valInt : Value → Int
  | .int _ n => n
  | _ => 0
section
variable {H : Type} {enc : TypeId × Value → H} {P : Program} {w : World} {base : Nat} {spare : Nat → Bool} {held : Bool}
theorem pairs_open {t e : TypeId} {f0 f1 : Field} {fuel : Nat} {a : Option Addr} {len cap : Nat} {cs : List Value} {x : DataW H × List MemPlace} (ht : P.underlying t = some (.slice e)) (he : P.underlying e = some (.struct #[f0, f1]))
    (ce : P.cellsOf e = 2) (o0 : f0.offset = 0) (o1 : f1.offset = 1) (c0 : P.cellsOf f0.type = 1) (c1 : P.cellsOf f1.type = 1) (i0 : P.underlying f0.type = some (.int .i64)) (i1 : P.underlying f1.type = some (.int .i64))
    (h : DataW.trod enc P w base spare held fuel t cs = some x) (hcs : cs = [.slice a len cap]) : ∃ z, IsPairs w a len cap z := by
  rcases open_slice_pairs ht he ce o0 o1 c0 c1 h with ⟨h0, _⟩ | ⟨b, l, c, m, k, V0, V1, D0, D1, P0, P1, h0, _, hl, hm, hmm, _, hcell⟩
  · rw [hcs] at h0
    simp at h0
    obtain ⟨rfl, rfl, rfl⟩ := h0
    exact ⟨fun _ => (0, 0), .inl ⟨rfl, rfl, rfl⟩⟩
  · rw [hcs] at h0
    simp at h0
    obtain ⟨rfl, rfl, rfl⟩ := h0
    refine ⟨fun i => (valInt (V0 i), valInt (V1 i)), .inr ⟨b, rfl, hl, hm, fun i hi => ?_⟩⟩
    have hlm : len ≤ m := by rw [hmm]; split <;> omega
    obtain ⟨g0, g1, t0, t1⟩ := hcell i (by omega)
    obtain ⟨n0, e0, _⟩ := DataW.trod_int i0 t0
    obtain ⟨n1, e1, _⟩ := DataW.trod_int i1 t1
    simp only [List.cons.injEq, and_true] at e0 e1
    rw [g0, g1]
    dsimp only
    rw [e0, e1]
    exact ⟨rfl, rfl⟩
end
theorem IsPairs.ants {w : World} {a : Option Addr} {len cap : Nat} {z : Nat → Int × Int} (h : IsPairs w a len cap z) : Ants w a len (fun i => (z i).1) (fun i => (z i).2) ∧ len ≤ cap ∧ cap ≤ maxLen := by
  rcases h with ⟨rfl, rfl, rfl⟩ | ⟨x, rfl, hl, hm, hc⟩
  · exact ⟨.inl rfl, Nat.le_refl _, Nat.zero_le _⟩
  · refine ⟨?_, hl, hm⟩
    by_cases h0 : len = 0
    · exact .inl h0
    · have hs := World.cell?_spot (hc 0 (by omega)).1
      obtain ⟨cb, off, sp⟩ := x
      simp [Addr.add] at hs
      subst hs
      have c0 := (hc 0 (by omega)).1
      refine .inr ⟨cb, off, rfl, ?_, fun i hi => ⟨?_, ?_⟩⟩
      · simp [Addr.add] at c0; exact World.block_lt_of_cell? w _ c0
      · have hci := (hc i hi).1
        by_cases hi0 : i = 0
        · subst hi0; simpa [Addr.add] using hci
        · simpa [Addr.add, hi0, show ¬ i * 2 = 0 by omega] using hci
      · have hci := (hc i hi).2
        simpa [Addr.add, Nat.add_assoc] using hci
end Go.Proofs.Ytbpbadmgmlfdhaa
