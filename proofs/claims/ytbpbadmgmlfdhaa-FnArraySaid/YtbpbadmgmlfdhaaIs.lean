/- Contracts of the functions over lists of integers: copying, comparing, summing phases. -/
import Derived.Test.YtbpbadmgmlfdhaaPh
import Derived.Below
import Derived.Deep.OwnRows
import Derived.LoopTactic
import Derived.Deep.QuietTactic
import Derived.BigQuiet
import Derived.Outline
namespace Go.Proofs.Ytbpbadmgmlfdhaa
open Go.RowKit

/-- A slice value that leads to the n integers z 0, z 1, .. -/
def Ints (w : World) (a : Option Addr) (n : Nat) (z : Nat → Int) : Prop :=
  n = 0 ∨ ∃ b off, a = some ⟨b, off, none⟩ ∧ b < w.heap.size ∧ ∀ i, i < n → w.cell? ⟨b, off + i, none⟩ = some (.int .i64 (z i))
theorem Ints.keep {w w' : World} {a : Option Addr} {n : Nat} {z : Nat → Int} (h : Ints w a n z) (hb : Below w.heap.size w w') : Ints w' a n z := by
  rcases h with h | ⟨b, off, ha, hlt, hc⟩
  · exact .inl h
  · exact .inr ⟨b, off, ha, Nat.lt_of_lt_of_le hlt hb.size, fun i hi => (hb.cell (p := ⟨b, off + i, none⟩) hlt).trans (hc i hi)⟩
theorem Ints.of_row {w : World} {b n : Nat} {z : Nat → Int} (h : w.rowIs b 3 n fun j => .int .i64 (z j)) : Ints w (some ⟨b, 0, none⟩) n z :=
  .inr ⟨b, 0, rfl, h.lt, fun i hi => by simpa using h.cell hi⟩
theorem Ints.congr {w : World} {a : Option Addr} {n : Nat} {z y : Nat → Int} (h : Ints w a n z) (e : ∀ i, i < n → z i = y i) : Ints w a n y := by
  rcases h with h | ⟨b, off, ha, hlt, hc⟩
  · exact .inl h
  · exact .inr ⟨b, off, ha, hlt, fun i hi => by rw [← e i hi]; exact hc i hi⟩

theorem Ints.at {w : World} {a : Option Addr} {n : Nat} {z : Nat → Int} (h : Ints w a n z) {k : Nat} (hk : k < n) : ∃ b off, a = some ⟨b, off, none⟩ ∧ w.cell? ⟨b, off + k, none⟩ = some (.int .i64 (z k)) := by
  rcases h with h | ⟨b, off, ha, _, hc⟩
  · omega
  · exact ⟨b, off, ha, hc k hk⟩

theorem info3 : (Try.prog.info? 3).map (fun i => (i.zero, i.size, i.bytes)) = some (some (.int .i64 0), 1, 8) := by kernel_rfl



/-- The sum of the first n numbers. -/
def sumN (z : Nat → Int) : Nat → Int
  | 0 => 0
  | k + 1 => sumN z k + z k
/-- All of the first n numbers are small. -/
def Small (z : Nat → Int) (n : Nat) : Prop := ∀ i, i < n → -1000000 ≤ z i ∧ z i ≤ 1000000
theorem sumN_bd (z : Nat → Int) (n : Nat) (h : Small z n) : -1000000 * (n : Int) ≤ sumN z n ∧ sumN z n ≤ 1000000 * (n : Int) := by
  induction n with
  | zero => simp [sumN]
  | succ n ih =>
    have h1 := ih (fun i hi => h i (by omega))
    have h2 := h n (by omega)
    simp only [sumN]
    omega
theorem Small.next {z : Nat → Int} {n : Nat} (h : Small z n) (h1 : -1000000 ≤ z n) (h2 : z n ≤ 1000000) : Small z (n + 1) := fun i hi => by
  by_cases e : i = n
  · subst e; exact ⟨h1, h2⟩
  · exact h i (by omega)
instance (z : Nat → Int) (n : Nat) : Decidable (Small z n) := by unfold Small; infer_instance
def psB (z : Nat → Int) (n : Nat) : Bool := decide (n ≤ 100 ∧ Small z n)
def psR (z : Nat → Int) (n : Nat) : Int := if n ≤ 100 ∧ Small z n then sumN z n % 360 else 0
theorem ps_yes {z : Nat → Int} {n : Nat} (h : n ≤ 100) (h' : Small z n) : psB z n = true ∧ psR z n = sumN z n % 360 := by
  have hh : n ≤ 100 ∧ Small z n := ⟨h, h'⟩
  exact ⟨decide_eq_true hh, if_pos hh⟩
theorem ps_no {z : Nat → Int} {n : Nat} (h : ¬ (n ≤ 100 ∧ Small z n)) : psB z n = false ∧ psR z n = 0 :=
  ⟨decide_eq_false h, if_neg h⟩

theorem ret_ps {z : Nat → Int} {n : Nat} {r : Int} {b : Bool} (hb : psB z n = b) (hr : psR z n = r) : Ending.returned (.tuple #[.int .i64 r, .bool b]) = .returned (.tuple #[.int .i64 (psR z n), .bool (psB z n)]) := by rw [hb, hr]
theorem ps_bad {z : Nat → Int} {n k : Nat} (hk : k < n) (h : z k < -1000000 ∨ 1000000 < z k) : ¬ (n ≤ 100 ∧ Small z n) := fun hh => by have := hh.2 k hk; omega

theorem sumN_add (z : Nat → Int) (k m : Nat) : sumN z (k + m) = sumN z k + sumN (fun i => z (k + i)) m := by
  induction m with
  | zero => simp [sumN]
  | succ m ih => rw [← Nat.add_assoc]; simp only [sumN]; rw [ih]; omega
theorem Small.take {z : Nat → Int} {n k : Nat} (h : Small z n) (hk : k ≤ n) : Small z k := fun i hi => h i (by omega)
theorem Small.drop {z : Nat → Int} {n k : Nat} (h : Small z n) (hk : k ≤ n) : Small (fun i => z (k + i)) (n - k) := fun i hi => h (k + i) (by omega)
theorem Ints.take {w : World} {a : Option Addr} {n k : Nat} {z : Nat → Int} (h : Ints w a n z) (hk : k ≤ n) : Ints w a k z := by
  rcases h with h | ⟨b, off, ha, hlt, hc⟩
  · exact .inl (by omega)
  · exact .inr ⟨b, off, ha, hlt, fun i hi => hc i (by omega)⟩
theorem Ints.drop {w : World} {b off n k : Nat} {z : Nat → Int} (h : Ints w (some ⟨b, off, none⟩) n z) (_hk : k ≤ n) : Ints w (some ⟨b, off + k, none⟩) (n - k) (fun i => z (k + i)) := by
  rcases h with h | ⟨b', off', ha, hlt, hc⟩
  · exact .inl (by omega)
  · injection ha with ha
    injection ha with ha1 ha2
    subst ha1 ha2
    refine .inr ⟨b, off + k, rfl, hlt, fun i hi => ?_⟩
    rw [Nat.add_assoc]
    exact hc (k + i) (by omega)
theorem Ints.cut {w : World} {a : Option Addr} {n k : Nat} {z : Nat → Int} (h : Ints w a n z) (_hk : k ≤ n) : Ints w (Option.map (fun x => x.add k) a) (n - k) (fun i => z (k + i)) := by
  by_cases hn : n - k = 0
  · exact .inl hn
  · rcases h with h | ⟨b, off, rfl, hlt, hc⟩
    · omega
    · by_cases hk0 : k = 0
      · subst hk0
        refine .inr ⟨b, off, by simp [Addr.add], hlt, fun i hi => ?_⟩
        simp only [Nat.zero_add]; exact hc i (by omega)
      · refine .inr ⟨b, off + k, by simp [Addr.add, hk0], hlt, fun i hi => ?_⟩
        rw [Nat.add_assoc]; exact hc (k + i) (by omega)
theorem Ints.none_ {w : World} {a : Option Addr} {n : Nat} {z : Nat → Int} (h : n = 0) : Ints w a n z := .inl h
end Go.Proofs.Ytbpbadmgmlfdhaa
