/- Contracts of the Gaussian integers: each function returns what it says and changes no memory that was there. -/
import Derived.Test.YtafflgjngjmgiaaDoorLeaf
import Derived.Below
import Derived.Outline
namespace Go.Proofs.YtafflgjngjmgiaaDoor
open Go.RowKit

/-- The number a + bi as Go holds it. -/
def G (x y : Int) : Value := .agg #[.int .i64 x, .int .i64 y]

theorem keep2 {w W w' : World} {b c : Nat} {x y u v : Value} (h : W.cell? ⟨b, 0, none⟩ = some x ∧ W.cell? ⟨b, 1, none⟩ = some y ∧ W.cell? ⟨c, 0, none⟩ = some u ∧ W.cell? ⟨c, 1, none⟩ = some v ∧ Below w.heap.size w W) (hb : Below W.heap.size W w') :
    w'.cell? ⟨b, 0, none⟩ = some x ∧ w'.cell? ⟨b, 1, none⟩ = some y ∧ w'.cell? ⟨c, 0, none⟩ = some u ∧ w'.cell? ⟨c, 1, none⟩ = some v ∧ Below w.heap.size w w' := by
  obtain ⟨h1, h2, h3, h4, h5⟩ := h
  have hb1 : b < W.heap.size := World.block_lt_of_cell? W _ h1
  have hc1 : c < W.heap.size := World.block_lt_of_cell? W _ h3
  exact ⟨(hb.cell (p := ⟨b, 0, none⟩) hb1).trans h1, (hb.cell (p := ⟨b, 1, none⟩) hb1).trans h2, (hb.cell (p := ⟨c, 0, none⟩) hc1).trans h3, (hb.cell (p := ⟨c, 1, none⟩) hc1).trans h4, kept_trans h5 hb⟩

theorem start2 (w : World) (x y u v : Value) (t t' : TypeId) :
    ((w.alloc (.cells #[x, y] t)).alloc (.cells #[u, v] t')).drew.cell? ⟨w.heap.size, 0, none⟩ = some x ∧ ((w.alloc (.cells #[x, y] t)).alloc (.cells #[u, v] t')).drew.cell? ⟨w.heap.size, 1, none⟩ = some y ∧
    ((w.alloc (.cells #[x, y] t)).alloc (.cells #[u, v] t')).drew.cell? ⟨w.heap.size + 1, 0, none⟩ = some u ∧ ((w.alloc (.cells #[x, y] t)).alloc (.cells #[u, v] t')).drew.cell? ⟨w.heap.size + 1, 1, none⟩ = some v ∧
    Below w.heap.size w ((w.alloc (.cells #[x, y] t)).alloc (.cells #[u, v] t')).drew := by
  refine ⟨?_, ?_, ?_, ?_, Below.drew (kept_alloc (kept_alloc (kept_refl _) _) _)⟩ <;> go_simp

theorem valid_yes (x y : Int) (w : World) (h : -1000000000 ≤ x ∧ x ≤ 1000000000 ∧ -1000000000 ≤ y ∧ y ≤ 1000000000) :
    Calls Tryd.prog 12 #[.agg #[.int .i64 x, .int .i64 y]] w fun e w' => e = .returned (.bool true) ∧ Below w.heap.size w w' := by
  obtain ⟨h1, h2, h3, h4⟩ := h
  go_enter Tryd.func12, Tryd.ntmps12
  go_wp2_with (first | (go_at_call 17; first | (refine (inRange_yes _ _ _ (by omega)).mono ?_; rintro e w' ⟨rfl, rfl⟩) | (refine (inRange_no _ _ _ (by omega)).mono ?_; rintro e w' ⟨rfl, rfl⟩)))
  go_ret
  exact ⟨rfl, kept_alloc (kept_refl _) _⟩
theorem valid_no (x y : Int) (w : World) (h : (x < -1000000000 ∨ 1000000000 < x) ∨ (y < -1000000000 ∨ 1000000000 < y)) :
    Calls Tryd.prog 12 #[.agg #[.int .i64 x, .int .i64 y]] w fun e w' => e = .returned (.bool false) ∧ Below w.heap.size w w' := by
  by_cases h1 : x < -1000000000 ∨ 1000000000 < x
  · go_enter Tryd.func12, Tryd.ntmps12
    go_wp2_with (first | (go_at_call 17; first | (refine (inRange_yes _ _ _ (by omega)).mono ?_; rintro e w' ⟨rfl, rfl⟩) | (refine (inRange_no _ _ _ (by omega)).mono ?_; rintro e w' ⟨rfl, rfl⟩)))
    go_ret
    exact ⟨rfl, kept_alloc (kept_refl _) _⟩
  · go_enter Tryd.func12, Tryd.ntmps12
    go_wp2_with (first | (go_at_call 17; first | (refine (inRange_yes _ _ _ (by omega)).mono ?_; rintro e w' ⟨rfl, rfl⟩) | (refine (inRange_no _ _ _ (by omega)).mono ?_; rintro e w' ⟨rfl, rfl⟩)))
    go_ret
    exact ⟨rfl, kept_alloc (kept_refl _) _⟩
theorem sValid_yes (x y : Int) (w : World) (h : -1000000000 ≤ x ∧ x ≤ 1000000000 ∧ -1000000000 ≤ y ∧ y ≤ 1000000000) :
    Calls Tryd.prog 10 #[.agg #[.int .i64 x, .int .i64 y]] w fun e w' => e = .returned (.bool true) ∧ Below w.heap.size w w' := by
  obtain ⟨h1, h2, h3, h4⟩ := h
  go_enter Tryd.func10, Tryd.ntmps10
  go_wp2_with (first | (go_at_call 16; first | (refine (l6In_yes _ _ _ _ (by omega)).mono ?_; rintro e w' ⟨rfl, rfl⟩) | (refine (l6In_no _ _ _ _ (by omega)).mono ?_; rintro e w' ⟨rfl, rfl⟩)))
  go_ret
  exact ⟨rfl, kept_alloc (kept_refl _) _⟩
theorem sValid_no (x y : Int) (w : World) (h : (x < -1000000000 ∨ 1000000000 < x) ∨ (y < -1000000000 ∨ 1000000000 < y)) :
    Calls Tryd.prog 10 #[.agg #[.int .i64 x, .int .i64 y]] w fun e w' => e = .returned (.bool false) ∧ Below w.heap.size w w' := by
  by_cases h1 : x < -1000000000 ∨ 1000000000 < x
  · go_enter Tryd.func10, Tryd.ntmps10
    go_wp2_with (first | (go_at_call 16; first | (refine (l6In_yes _ _ _ _ (by omega)).mono ?_; rintro e w' ⟨rfl, rfl⟩) | (refine (l6In_no _ _ _ _ (by omega)).mono ?_; rintro e w' ⟨rfl, rfl⟩)))
    go_ret
    exact ⟨rfl, kept_alloc (kept_refl _) _⟩
  · go_enter Tryd.func10, Tryd.ntmps10
    go_wp2_with (first | (go_at_call 16; first | (refine (l6In_yes _ _ _ _ (by omega)).mono ?_; rintro e w' ⟨rfl, rfl⟩) | (refine (l6In_no _ _ _ _ (by omega)).mono ?_; rintro e w' ⟨rfl, rfl⟩)))
    go_ret
    exact ⟨rfl, kept_alloc (kept_refl _) _⟩
theorem mul_bd (a b : Int) (ha : -1000000000 ≤ a ∧ a ≤ 1000000000) (hb : -1000000000 ≤ b ∧ b ≤ 1000000000) : -1000000000000000000 ≤ a * b ∧ a * b ≤ 1000000000000000000 := by
  have h1 : 0 ≤ (1000000000 - a) * (1000000000 - b) := Int.mul_nonneg (by omega) (by omega)
  have h2 : 0 ≤ (1000000000 + a) * (1000000000 + b) := Int.mul_nonneg (by omega) (by omega)
  have h3 : 0 ≤ (1000000000 - a) * (1000000000 + b) := Int.mul_nonneg (by omega) (by omega)
  have h4 : 0 ≤ (1000000000 + a) * (1000000000 - b) := Int.mul_nonneg (by omega) (by omega)
  simp only [Int.sub_mul, Int.mul_sub, Int.add_mul, Int.mul_add] at h1 h2 h3 h4
  omega
end Go.Proofs.YtafflgjngjmgiaaDoor
