/- Contracts of the small tests of the program and of the reference: each answers one bool and leaves the world alone. -/
import Derived.Test.YtbpbadmgmlfdhaaRows
import Derived.WalkKit
import Derived.WalkSpells
import Derived.WalkLawsBesides
import Derived.Lib.Hide
import Derived.Below
namespace Go.Proofs.Ytbpbadmgmlfdhaa
open Go.RowKit

theorem ret_int {k : IntKind} {a b : Int} (h : a = b) : Ending.returned (.int k a) = .returned (.int k b) := by rw [h]
theorem ret_true {b : Bool} (h : b = true) : Ending.returned (.bool b) = .returned (.bool true) := by rw [h]

theorem bcell {W w1 : World} (hb : Below W.heap.size W w1) : (∀ b o, b < W.heap.size → w1.cell? ⟨b, o, none⟩ = W.cell? ⟨b, o, none⟩) ∧ (∀ b o, b < W.heap.size → w1.frozen? ⟨b, o, none⟩ = W.frozen? ⟨b, o, none⟩) :=
  ⟨fun b o h => hb.cell (p := ⟨b, o, none⟩) h, fun b o h => hb.frozen (p := ⟨b, o, none⟩) h⟩
theorem kept_refl (w : World) : Below w.heap.size w w := Below.refl _ _
theorem kept_alloc {w w1 : World} (h : Below w.heap.size w w1) (o : Obj) : Below w.heap.size w (w1.alloc o) := h.alloc h.size o
theorem kept_trans {w w1 w2 : World} (h : Below w.heap.size w w1) (k : Below w1.heap.size w1 w2) : Below w.heap.size w w2 := h.trans (k.mono h.size)
theorem below_drewN {B : Nat} {a w : World} (h : Below B a w) (n : Nat) : Below B a (w.drewN n) := ⟨h.os, h.tape, h.output, h.size, h.block⟩

theorem inRange_yes (n l : Int) (w : World) (h : -l ≤ n ∧ n ≤ l ∧ l ≤ 1000000000) : Calls Try.prog 26 #[.int .i64 n, .int .i64 l] w fun e w' => e = .returned (.bool true) ∧ w = w' := by
  obtain ⟨h1, h2, h3⟩ := h
  go_enter Try.func26, Try.ntmps26
  go_wp2
  go_ret
  exact ⟨rfl, rfl⟩
theorem inRange_no (n l : Int) (w : World) (h : (n < -l ∨ l < n) ∧ 0 ≤ l ∧ l ≤ 1000000000) : Calls Try.prog 26 #[.int .i64 n, .int .i64 l] w fun e w' => e = .returned (.bool false) ∧ w = w' := by
  obtain ⟨h1, h2, h3⟩ := h
  rcases h1 with h1 | h1
  · go_enter Try.func26, Try.ntmps26
    go_wp2
    go_ret
    exact ⟨rfl, rfl⟩
  · have h4 : decide (n ≤ l) = false := by simp; omega
    have h5 : -l ≤ n := by omega
    go_enter Try.func26, Try.ntmps26
    go_wp2
    go_ret
    exact ⟨rfl, rfl⟩

theorem l6In_yes (n l u : Int) (w : World) (h : l ≤ n ∧ n ≤ u) : Calls Try.prog 17 #[.int .i64 n, .int .i64 l, .int .i64 u] w fun e w' => e = .returned (.bool true) ∧ w = w' := by
  obtain ⟨h1, h2⟩ := h
  go_enter Try.func17, Try.ntmps17
  go_wp2
  go_ret
  exact ⟨rfl, rfl⟩
theorem l6In_no (n l u : Int) (w : World) (h : n < l ∨ u < n) : Calls Try.prog 17 #[.int .i64 n, .int .i64 l, .int .i64 u] w fun e w' => e = .returned (.bool false) ∧ w = w' := by
  by_cases h1 : n < l
  · go_enter Try.func17, Try.ntmps17
    go_wp2
    go_ret
    exact ⟨rfl, rfl⟩
  · have h4 : decide (n ≤ u) = false := by simp; omega
    have h5 : l ≤ n := by omega
    go_enter Try.func17, Try.ntmps17
    go_wp2
    go_ret
    exact ⟨rfl, rfl⟩




theorem isAnt_yes (n a : Int) (w : World) (h : 0 ≤ a ∧ a < n) : Calls Try.prog 21 #[.int .i64 n, .int .i64 a] w fun e w' => e = .returned (.bool true) ∧ w = w' := by
  obtain ⟨h1, h2⟩ := h
  go_enter Try.func21, Try.ntmps21
  go_wp2
  go_ret
  exact ⟨rfl, rfl⟩
theorem isAnt_no (n a : Int) (w : World) (h : a < 0 ∨ n ≤ a) : Calls Try.prog 21 #[.int .i64 n, .int .i64 a] w fun e w' => e = .returned (.bool false) ∧ w = w' := by
  by_cases h1 : a < 0
  · go_enter Try.func21, Try.ntmps21
    go_wp2
    go_ret
    exact ⟨rfl, rfl⟩
  · have h4 : decide (a < n) = false := by simp; omega
    have h5 : 0 ≤ a := by omega
    go_enter Try.func21, Try.ntmps21
    go_wp2
    go_ret
    exact ⟨rfl, rfl⟩
end Go.Proofs.Ytbpbadmgmlfdhaa
