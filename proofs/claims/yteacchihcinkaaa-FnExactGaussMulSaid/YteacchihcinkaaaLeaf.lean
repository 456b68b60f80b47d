/- Contracts of the small tests of the program and of the reference: each answers one bool and leaves the world alone. -/
import Derived.Test.YteacchihcinkaaaRows
import Derived.WalkKit
import Derived.WalkSpells
import Derived.WalkLawsBesides
import Derived.Lib.Hide
namespace Go.Proofs.Yteacchihcinkaaa
open Go.RowKit

theorem ret_int {k : IntKind} {a b : Int} (h : a = b) : Ending.returned (.int k a) = .returned (.int k b) := by rw [h]

theorem inRange_yes (n l : Int) (w : World) (h : -l ≤ n ∧ n ≤ l ∧ l ≤ 1000000000) : Calls Try.prog 35 #[.int .i64 n, .int .i64 l] w fun e w' => e = .returned (.bool true) ∧ w = w' := by
  obtain ⟨h1, h2, h3⟩ := h
  go_enter Try.func35, Try.ntmps35
  go_wp2
  go_ret
  exact ⟨rfl, rfl⟩
theorem inRange_no (n l : Int) (w : World) (h : (n < -l ∨ l < n) ∧ 0 ≤ l ∧ l ≤ 1000000000) : Calls Try.prog 35 #[.int .i64 n, .int .i64 l] w fun e w' => e = .returned (.bool false) ∧ w = w' := by
  obtain ⟨h1, h2, h3⟩ := h
  rcases h1 with h1 | h1
  · go_enter Try.func35, Try.ntmps35
    go_wp2
    go_ret
    exact ⟨rfl, rfl⟩
  · have h4 : decide (n ≤ l) = false := by simp; omega
    have h5 : -l ≤ n := by omega
    go_enter Try.func35, Try.ntmps35
    go_wp2
    go_ret
    exact ⟨rfl, rfl⟩

theorem l6In_yes (n l u : Int) (w : World) (h : l ≤ n ∧ n ≤ u) : Calls Try.prog 34 #[.int .i64 n, .int .i64 l, .int .i64 u] w fun e w' => e = .returned (.bool true) ∧ w = w' := by
  obtain ⟨h1, h2⟩ := h
  go_enter Try.func34, Try.ntmps34
  go_wp2
  go_ret
  exact ⟨rfl, rfl⟩
theorem l6In_no (n l u : Int) (w : World) (h : n < l ∨ u < n) : Calls Try.prog 34 #[.int .i64 n, .int .i64 l, .int .i64 u] w fun e w' => e = .returned (.bool false) ∧ w = w' := by
  by_cases h1 : n < l
  · go_enter Try.func34, Try.ntmps34
    go_wp2
    go_ret
    exact ⟨rfl, rfl⟩
  · have h4 : decide (n ≤ u) = false := by simp; omega
    have h5 : l ≤ n := by omega
    go_enter Try.func34, Try.ntmps34
    go_wp2
    go_ret
    exact ⟨rfl, rfl⟩




end Go.Proofs.Yteacchihcinkaaa
