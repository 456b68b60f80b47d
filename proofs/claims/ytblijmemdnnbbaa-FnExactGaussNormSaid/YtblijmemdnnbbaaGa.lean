/- Contracts of the Gaussian integers: each function returns what it says and changes no memory that was there. -/
import Derived.Test.YtblijmemdnnbbaaLeaf
import Derived.Below
import Derived.Outline
namespace Go.Proofs.Ytblijmemdnnbbaa
open Go.RowKit

/-- The number a + bi as Go holds it. -/
def G (x y : Int) : Value := .agg #[.int .i64 x, .int .i64 y]

theorem bcell {W w1 : World} (hb : Below W.heap.size W w1) : (∀ b o, b < W.heap.size → w1.cell? ⟨b, o, none⟩ = W.cell? ⟨b, o, none⟩) ∧ (∀ b o, b < W.heap.size → w1.frozen? ⟨b, o, none⟩ = W.frozen? ⟨b, o, none⟩) :=
  ⟨fun b o h => hb.cell (p := ⟨b, o, none⟩) h, fun b o h => hb.frozen (p := ⟨b, o, none⟩) h⟩
theorem kept_refl (w : World) : Below w.heap.size w w := Below.refl _ _
theorem kept_alloc {w w1 : World} (h : Below w.heap.size w w1) (o : Obj) : Below w.heap.size w (w1.alloc o) := h.alloc h.size o
theorem kept_trans {w w1 w2 : World} (h : Below w.heap.size w w1) (k : Below w1.heap.size w1 w2) : Below w.heap.size w w2 := h.trans (k.mono h.size)

theorem valid_yes (x y : Int) (w : World) (h : -1000000000 ≤ x ∧ x ≤ 1000000000 ∧ -1000000000 ≤ y ∧ y ≤ 1000000000) :
    Calls Try.prog 14 #[.agg #[.int .i64 x, .int .i64 y]] w fun e w' => e = .returned (.bool true) ∧ Below w.heap.size w w' := by
  obtain ⟨h1, h2, h3, h4⟩ := h
  go_enter Try.func14, Try.ntmps14
  go_wp2_with (first | (go_at_call 22; first | (refine (inRange_yes _ _ _ (by omega)).mono ?_; rintro e w' ⟨rfl, rfl⟩) | (refine (inRange_no _ _ _ (by omega)).mono ?_; rintro e w' ⟨rfl, rfl⟩)))
  go_ret
  exact ⟨rfl, kept_alloc (kept_refl _) _⟩
theorem valid_no (x y : Int) (w : World) (h : (x < -1000000000 ∨ 1000000000 < x) ∨ (y < -1000000000 ∨ 1000000000 < y)) :
    Calls Try.prog 14 #[.agg #[.int .i64 x, .int .i64 y]] w fun e w' => e = .returned (.bool false) ∧ Below w.heap.size w w' := by
  by_cases h1 : x < -1000000000 ∨ 1000000000 < x
  · go_enter Try.func14, Try.ntmps14
    go_wp2_with (first | (go_at_call 22; first | (refine (inRange_yes _ _ _ (by omega)).mono ?_; rintro e w' ⟨rfl, rfl⟩) | (refine (inRange_no _ _ _ (by omega)).mono ?_; rintro e w' ⟨rfl, rfl⟩)))
    go_ret
    exact ⟨rfl, kept_alloc (kept_refl _) _⟩
  · go_enter Try.func14, Try.ntmps14
    go_wp2_with (first | (go_at_call 22; first | (refine (inRange_yes _ _ _ (by omega)).mono ?_; rintro e w' ⟨rfl, rfl⟩) | (refine (inRange_no _ _ _ (by omega)).mono ?_; rintro e w' ⟨rfl, rfl⟩)))
    go_ret
    exact ⟨rfl, kept_alloc (kept_refl _) _⟩
theorem sValid_yes (x y : Int) (w : World) (h : -1000000000 ≤ x ∧ x ≤ 1000000000 ∧ -1000000000 ≤ y ∧ y ≤ 1000000000) :
    Calls Try.prog 12 #[.agg #[.int .i64 x, .int .i64 y]] w fun e w' => e = .returned (.bool true) ∧ Below w.heap.size w w' := by
  obtain ⟨h1, h2, h3, h4⟩ := h
  go_enter Try.func12, Try.ntmps12
  go_wp2_with (first | (go_at_call 20; first | (refine (l6In_yes _ _ _ _ (by omega)).mono ?_; rintro e w' ⟨rfl, rfl⟩) | (refine (l6In_no _ _ _ _ (by omega)).mono ?_; rintro e w' ⟨rfl, rfl⟩)))
  go_ret
  exact ⟨rfl, kept_alloc (kept_refl _) _⟩
theorem sValid_no (x y : Int) (w : World) (h : (x < -1000000000 ∨ 1000000000 < x) ∨ (y < -1000000000 ∨ 1000000000 < y)) :
    Calls Try.prog 12 #[.agg #[.int .i64 x, .int .i64 y]] w fun e w' => e = .returned (.bool false) ∧ Below w.heap.size w w' := by
  by_cases h1 : x < -1000000000 ∨ 1000000000 < x
  · go_enter Try.func12, Try.ntmps12
    go_wp2_with (first | (go_at_call 20; first | (refine (l6In_yes _ _ _ _ (by omega)).mono ?_; rintro e w' ⟨rfl, rfl⟩) | (refine (l6In_no _ _ _ _ (by omega)).mono ?_; rintro e w' ⟨rfl, rfl⟩)))
    go_ret
    exact ⟨rfl, kept_alloc (kept_refl _) _⟩
  · go_enter Try.func12, Try.ntmps12
    go_wp2_with (first | (go_at_call 20; first | (refine (l6In_yes _ _ _ _ (by omega)).mono ?_; rintro e w' ⟨rfl, rfl⟩) | (refine (l6In_no _ _ _ _ (by omega)).mono ?_; rintro e w' ⟨rfl, rfl⟩)))
    go_ret
    exact ⟨rfl, kept_alloc (kept_refl _) _⟩
theorem mul_bd (a b : Int) (ha : -1000000000 ≤ a ∧ a ≤ 1000000000) (hb : -1000000000 ≤ b ∧ b ≤ 1000000000) : -1000000000000000000 ≤ a * b ∧ a * b ≤ 1000000000000000000 := by
  have h1 : 0 ≤ (1000000000 - a) * (1000000000 - b) := Int.mul_nonneg (by omega) (by omega)
  have h2 : 0 ≤ (1000000000 + a) * (1000000000 + b) := Int.mul_nonneg (by omega) (by omega)
  have h3 : 0 ≤ (1000000000 - a) * (1000000000 + b) := Int.mul_nonneg (by omega) (by omega)
  have h4 : 0 ≤ (1000000000 + a) * (1000000000 - b) := Int.mul_nonneg (by omega) (by omega)
  simp only [Int.sub_mul, Int.mul_sub, Int.add_mul, Int.mul_add] at h1 h2 h3 h4
  omega
end Go.Proofs.Ytblijmemdnnbbaa
