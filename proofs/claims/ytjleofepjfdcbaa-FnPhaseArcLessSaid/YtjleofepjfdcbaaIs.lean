/- Contracts of the functions over lists of integers: copying, comparing, summing phases. -/
import Derived.Test.YtjleofepjfdcbaaPh
import Derived.Below
import Derived.Deep.OwnRows
import Derived.LoopTactic
import Derived.Deep.QuietTactic
import Derived.BigQuiet
import Derived.Outline
namespace Go.Proofs.Ytjleofepjfdcbaa
open Go.RowKit

/-- A slice value that leads to the n integers z 0, z 1, .. -/
def Ints (w : World) (a : Option Addr) (n : Nat) (z : Nat → Int) : Prop :=
  n = 0 ∨ ∃ b off, a = some ⟨b, off, none⟩ ∧ b < w.heap.size ∧ ∀ i, i < n → w.cell? ⟨b, off + i, none⟩ = some (.int .i64 (z i))
theorem Ints.keep {w w' : World} {a : Option Addr} {n : Nat} {z : Nat → Int} (h : Ints w a n z) (hb : Below w.heap.size w w') : Ints w' a n z := by
  rcases h with h | ⟨b, off, ha, hlt, hc⟩
  · exact .inl h
  · exact .inr ⟨b, off, ha, Nat.lt_of_lt_of_le hlt hb.size, fun i hi => (hb.cell (p := ⟨b, off + i, none⟩) hlt).trans (hc i hi)⟩
theorem Ints.of_row {w : World} {b n : Nat} {z : Nat → Int} (h : w.rowIs b 3 n fun j => .int .i64 (z j)) : Ints w (some ⟨b, 0, none⟩) n z :=
  .inr ⟨b, 0, rfl, h.lt, fun i hi => by simpa using h.cell hi⟩
theorem Ints.congr {w : World} {a : Option Addr} {n : Nat} {z y : Nat → Int} (h : Ints w a n z) (e : ∀ i, i < n → z i = y i) : Ints w a n y := by
  rcases h with h | ⟨b, off, ha, hlt, hc⟩
  · exact .inl h
  · exact .inr ⟨b, off, ha, hlt, fun i hi => by rw [← e i hi]; exact hc i hi⟩

theorem Ints.at {w : World} {a : Option Addr} {n : Nat} {z : Nat → Int} (h : Ints w a n z) {k : Nat} (hk : k < n) : ∃ b off, a = some ⟨b, off, none⟩ ∧ w.cell? ⟨b, off + k, none⟩ = some (.int .i64 (z k)) := by
  rcases h with h | ⟨b, off, ha, _, hc⟩
  · omega
  · exact ⟨b, off, ha, hc k hk⟩

theorem info3 : (Try.prog.info? 3).map (fun i => (i.zero, i.size, i.bytes)) = some (some (.int .i64 0), 1, 8) := by kernel_rfl

theorem row_next {w : World} {B n k : Nat} {z : Nat → Int} (h : w.rowIs B 3 n fun j => .int .i64 (if j < k then z j else 0)) :
    (w.setCell ⟨B, k, none⟩ (.int .i64 (z k))).rowIs B 3 n fun j => .int .i64 (if j < k + 1 then z j else 0) :=
  (h.set k (.int .i64 (z k))).congr fun i _ => by
    by_cases e : i = k
    · subst e; simp
    · have : (i < k + 1) ↔ (i < k) := by omega
      simp [e, this]
/-- What toIntS does: a copy at a new place. -/
def Copied (w : World) (n : Nat) (z : Nat → Int) (e : Ending) (w' : World) : Prop :=
  ∃ B, e = .returned (.slice (some ⟨B, 0, none⟩) n n) ∧ w.heap.size ≤ B ∧ Ints w' (some ⟨B, 0, none⟩) n z ∧ Below w.heap.size w w'
set_option maxHeartbeats 1000000 in
theorem toIntS_any (a : Option Addr) (n c : Nat) (z : Nat → Int) (w : World) (h : Ints w a n z) (hn : n ≤ 1048576) :
    Calls Try.prog 9 #[.slice a n c] w (Copied w n z) := by
  have hmk := run_make_row' (P := Try.prog) 22 3 (.int .i64 0) 8 Try.underlying22 info3 rfl .i64 .i64 n (by omega) (by omega)
  have hrow := Lib.hid ((World.rowIs_made w (.int .i64 0) n 3).congr (g := fun j => .int .i64 (if j < 0 then z j else 0)) (fun i _ => by simp))
  have H := Lib.hid h; clear h
  go_enter Try.func9, Try.ntmps9
  go_wp2
  clear hmk
  go_loopw [4] (fun i wr => ∃ k : Nat, k ≤ n ∧ i = .int .i64 k ∧ wr.rowIs w.heap.size 3 n (fun j => .int .i64 (if j < k then z j else 0)) ∧ Below w.heap.size w wr) (fun i _ => n - (intOf i).toNat)
  case atStart => exact ⟨0, Nat.zero_le _, rfl, hrow.out, (Below.refl _ _).alloc (Nat.le_refl _) _⟩
  case round =>
    obtain ⟨k, hk, rfl, hr, hb⟩ := hrel
    by_cases hlt : k < n
    · obtain ⟨b, off, rfl, hbl, hcs⟩ := H.out.resolve_left (by omega)
      have hck := (hb.cell (p := ⟨b, off + k, none⟩) hbl).trans (hcs k hlt)
      have hcb := hr.cell hlt
      have hfb := hr.frozen k
      have hnx := Lib.hid (row_next hr)
      have HB := Lib.hid hb
      clear hcs hr hb H hrow
      go_wp2
      go_roundw
      case rel => exact ⟨k + 1, by omega, by go_num, hnx.out, HB.out.setCell (Nat.le_refl _) _⟩
      case measure => simp [intOf]; omega
    · have hkn : k = n := by omega
      have HR := Lib.hid hr
      have HB := Lib.hid hb
      clear hr hb H hrow
      go_wp2
      go_ret
      exact ⟨_, rfl, Nat.le_refl _, (Ints.of_row HR.out).congr (fun i hi => by rw [if_pos (by omega)]), HB.out⟩

set_option maxHeartbeats 1000000 in
theorem eqIntS_same (a b : Option Addr) (n c d : Nat) (z : Nat → Int) (w : World) (h : Ints w a n z) (h' : Ints w b n z) (hn : n ≤ 1048576) :
    Calls Try.prog 11 #[.slice a n c, .slice b n d] w fun e w' => e = .returned (.bool true) ∧ ∃ m, w' = w.drewN m := by
  have H := Lib.hid h; clear h
  have H' := Lib.hid h'; clear h'
  go_enter Try.func11, Try.ntmps11
  go_wp2
  go_loopw [5] (fun i wr => ∃ k : Nat, k ≤ n ∧ i = .int .i64 k ∧ ∃ m, wr = w.drewN m) (fun i _ => n - (intOf i).toNat)
  case atStart => exact ⟨0, Nat.zero_le _, rfl, 0, rfl⟩
  case round =>
    obtain ⟨k, hk, rfl, m, rfl⟩ := hrel
    by_cases hlt : k < n
    · obtain ⟨b1, o1, rfl, c1⟩ := H.out.at hlt
      obtain ⟨b2, o2, rfl, c2⟩ := H'.out.at hlt
      have e1 : (0 : Int) ≤ (k : Int) := by omega
      have e2 : (k : Int) < (n : Int) := by omega
      clear H H'
      go_wp2
      go_quiet (fail)
      go_wp2
      go_roundw
      case rel => exact ⟨k + 1, by omega, by go_num, _, rfl⟩
      case measure => simp [intOf]; omega
    · clear H H'
      go_wp2
      go_ret
      exact ⟨rfl, m, rfl⟩

/-- The sum of the first n numbers. -/
def sumN (z : Nat → Int) : Nat → Int
  | 0 => 0
  | k + 1 => sumN z k + z k
/-- All of the first n numbers are small. -/
def Small (z : Nat → Int) (n : Nat) : Prop := ∀ i, i < n → -1000000 ≤ z i ∧ z i ≤ 1000000
theorem sumN_bd (z : Nat → Int) (n : Nat) (h : Small z n) : -1000000 * (n : Int) ≤ sumN z n ∧ sumN z n ≤ 1000000 * (n : Int) := by
  induction n with
  | zero => simp [sumN]
  | succ n ih =>
    have h1 := ih (fun i hi => h i (by omega))
    have h2 := h n (by omega)
    simp only [sumN]
    omega
theorem Small.next {z : Nat → Int} {n : Nat} (h : Small z n) (h1 : -1000000 ≤ z n) (h2 : z n ≤ 1000000) : Small z (n + 1) := fun i hi => by
  by_cases e : i = n
  · subst e; exact ⟨h1, h2⟩
  · exact h i (by omega)
instance (z : Nat → Int) (n : Nat) : Decidable (Small z n) := by unfold Small; infer_instance
def psB (z : Nat → Int) (n : Nat) : Bool := decide (n ≤ 100 ∧ Small z n)
def psR (z : Nat → Int) (n : Nat) : Int := if n ≤ 100 ∧ Small z n then sumN z n % 360 else 0
theorem ps_yes {z : Nat → Int} {n : Nat} (h : n ≤ 100) (h' : Small z n) : psB z n = true ∧ psR z n = sumN z n % 360 := by
  have hh : n ≤ 100 ∧ Small z n := ⟨h, h'⟩
  exact ⟨decide_eq_true hh, if_pos hh⟩
theorem ps_no {z : Nat → Int} {n : Nat} (h : ¬ (n ≤ 100 ∧ Small z n)) : psB z n = false ∧ psR z n = 0 :=
  ⟨decide_eq_false h, if_neg h⟩

theorem ret_ps {z : Nat → Int} {n : Nat} {r : Int} {b : Bool} (hb : psB z n = b) (hr : psR z n = r) : Ending.returned (.tuple #[.int .i64 r, .bool b]) = .returned (.tuple #[.int .i64 (psR z n), .bool (psB z n)]) := by rw [hb, hr]
theorem ps_bad {z : Nat → Int} {n k : Nat} (hk : k < n) (h : z k < -1000000 ∨ 1000000 < z k) : ¬ (n ≤ 100 ∧ Small z n) := fun hh => by have := hh.2 k hk; omega

theorem sumN_add (z : Nat → Int) (k m : Nat) : sumN z (k + m) = sumN z k + sumN (fun i => z (k + i)) m := by
  induction m with
  | zero => simp [sumN]
  | succ m ih => rw [← Nat.add_assoc]; simp only [sumN]; rw [ih]; omega
theorem Small.take {z : Nat → Int} {n k : Nat} (h : Small z n) (hk : k ≤ n) : Small z k := fun i hi => h i (by omega)
theorem Small.drop {z : Nat → Int} {n k : Nat} (h : Small z n) (hk : k ≤ n) : Small (fun i => z (k + i)) (n - k) := fun i hi => h (k + i) (by omega)
theorem Ints.take {w : World} {a : Option Addr} {n k : Nat} {z : Nat → Int} (h : Ints w a n z) (hk : k ≤ n) : Ints w a k z := by
  rcases h with h | ⟨b, off, ha, hlt, hc⟩
  · exact .inl (by omega)
  · exact .inr ⟨b, off, ha, hlt, fun i hi => hc i (by omega)⟩
theorem Ints.drop {w : World} {b off n k : Nat} {z : Nat → Int} (h : Ints w (some ⟨b, off, none⟩) n z) (_hk : k ≤ n) : Ints w (some ⟨b, off + k, none⟩) (n - k) (fun i => z (k + i)) := by
  rcases h with h | ⟨b', off', ha, hlt, hc⟩
  · exact .inl (by omega)
  · injection ha with ha
    injection ha with ha1 ha2
    subst ha1 ha2
    refine .inr ⟨b, off + k, rfl, hlt, fun i hi => ?_⟩
    rw [Nat.add_assoc]
    exact hc (k + i) (by omega)
theorem Ints.cut {w : World} {a : Option Addr} {n k : Nat} {z : Nat → Int} (h : Ints w a n z) (_hk : k ≤ n) : Ints w (Option.map (fun x => x.add k) a) (n - k) (fun i => z (k + i)) := by
  by_cases hn : n - k = 0
  · exact .inl hn
  · rcases h with h | ⟨b, off, rfl, hlt, hc⟩
    · omega
    · by_cases hk0 : k = 0
      · subst hk0
        refine .inr ⟨b, off, by simp [Addr.add], hlt, fun i hi => ?_⟩
        simp only [Nat.zero_add]; exact hc i (by omega)
      · refine .inr ⟨b, off + k, by simp [Addr.add, hk0], hlt, fun i hi => ?_⟩
        rw [Nat.add_assoc]; exact hc (k + i) (by omega)
theorem Ints.none_ {w : World} {a : Option Addr} {n : Nat} {z : Nat → Int} (h : n = 0) : Ints w a n z := .inl h
end Go.Proofs.Ytjleofepjfdcbaa
