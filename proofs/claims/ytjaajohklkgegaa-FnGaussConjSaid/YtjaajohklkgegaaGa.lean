/- Contracts of the Gaussian integers: each function returns what it says and changes no memory that was there. -/
import Derived.Test.YtjaajohklkgegaaLeaf
import Derived.Below
import Derived.Outline
namespace Go.Proofs.Ytjaajohklkgegaa
open Go.RowKit

/-- The number a + bi as Go holds it. -/
def G (x y : Int) : Value := .agg #[.int .i64 x, .int .i64 y]

theorem keep2 {w W w' : World} {b c : Nat} {x y u v : Value} (h : W.cell? ⟨b, 0, none⟩ = some x ∧ W.cell? ⟨b, 1, none⟩ = some y ∧ W.cell? ⟨c, 0, none⟩ = some u ∧ W.cell? ⟨c, 1, none⟩ = some v ∧ Below w.heap.size w W) (hb : Below W.heap.size W w') :
    w'.cell? ⟨b, 0, none⟩ = some x ∧ w'.cell? ⟨b, 1, none⟩ = some y ∧ w'.cell? ⟨c, 0, none⟩ = some u ∧ w'.cell? ⟨c, 1, none⟩ = some v ∧ Below w.heap.size w w' := by
  obtain ⟨h1, h2, h3, h4, h5⟩ := h
  have hb1 : b < W.heap.size := World.block_lt_of_cell? W _ h1
  have hc1 : c < W.heap.size := World.block_lt_of_cell? W _ h3
  exact ⟨(hb.cell (p := ⟨b, 0, none⟩) hb1).trans h1, (hb.cell (p := ⟨b, 1, none⟩) hb1).trans h2, (hb.cell (p := ⟨c, 0, none⟩) hc1).trans h3, (hb.cell (p := ⟨c, 1, none⟩) hc1).trans h4, kept_trans h5 hb⟩

theorem start2 (w : World) (x y u v : Value) (t t' : TypeId) :
    ((w.alloc (.cells #[x, y] t)).alloc (.cells #[u, v] t')).drew.cell? ⟨w.heap.size, 0, none⟩ = some x ∧ ((w.alloc (.cells #[x, y] t)).alloc (.cells #[u, v] t')).drew.cell? ⟨w.heap.size, 1, none⟩ = some y ∧
    ((w.alloc (.cells #[x, y] t)).alloc (.cells #[u, v] t')).drew.cell? ⟨w.heap.size + 1, 0, none⟩ = some u ∧ ((w.alloc (.cells #[x, y] t)).alloc (.cells #[u, v] t')).drew.cell? ⟨w.heap.size + 1, 1, none⟩ = some v ∧
    Below w.heap.size w ((w.alloc (.cells #[x, y] t)).alloc (.cells #[u, v] t')).drew := by
  refine ⟨?_, ?_, ?_, ?_, Below.drew (kept_alloc (kept_alloc (kept_refl _) _) _)⟩ <;> go_simp

theorem valid_yes (x y : Int) (w : World) (h : -1000000000 ≤ x ∧ x ≤ 1000000000 ∧ -1000000000 ≤ y ∧ y ≤ 1000000000) :
    Calls Try.prog 14 #[.agg #[.int .i64 x, .int .i64 y]] w fun e w' => e = .returned (.bool true) ∧ Below w.heap.size w w' := by
  obtain ⟨h1, h2, h3, h4⟩ := h
  go_enter Try.func14, Try.ntmps14
  go_wp2_with (first | (go_at_call 30; first | (refine (inRange_yes _ _ _ (by omega)).mono ?_; rintro e w' ⟨rfl, rfl⟩) | (refine (inRange_no _ _ _ (by omega)).mono ?_; rintro e w' ⟨rfl, rfl⟩)))
  go_ret
  exact ⟨rfl, kept_alloc (kept_refl _) _⟩
theorem valid_no (x y : Int) (w : World) (h : (x < -1000000000 ∨ 1000000000 < x) ∨ (y < -1000000000 ∨ 1000000000 < y)) :
    Calls Try.prog 14 #[.agg #[.int .i64 x, .int .i64 y]] w fun e w' => e = .returned (.bool false) ∧ Below w.heap.size w w' := by
  by_cases h1 : x < -1000000000 ∨ 1000000000 < x
  · go_enter Try.func14, Try.ntmps14
    go_wp2_with (first | (go_at_call 30; first | (refine (inRange_yes _ _ _ (by omega)).mono ?_; rintro e w' ⟨rfl, rfl⟩) | (refine (inRange_no _ _ _ (by omega)).mono ?_; rintro e w' ⟨rfl, rfl⟩)))
    go_ret
    exact ⟨rfl, kept_alloc (kept_refl _) _⟩
  · go_enter Try.func14, Try.ntmps14
    go_wp2_with (first | (go_at_call 30; first | (refine (inRange_yes _ _ _ (by omega)).mono ?_; rintro e w' ⟨rfl, rfl⟩) | (refine (inRange_no _ _ _ (by omega)).mono ?_; rintro e w' ⟨rfl, rfl⟩)))
    go_ret
    exact ⟨rfl, kept_alloc (kept_refl _) _⟩
theorem sValid_yes (x y : Int) (w : World) (h : -1000000000 ≤ x ∧ x ≤ 1000000000 ∧ -1000000000 ≤ y ∧ y ≤ 1000000000) :
    Calls Try.prog 28 #[.agg #[.int .i64 x, .int .i64 y]] w fun e w' => e = .returned (.bool true) ∧ Below w.heap.size w w' := by
  obtain ⟨h1, h2, h3, h4⟩ := h
  go_enter Try.func28, Try.ntmps28
  go_wp2_with (first | (go_at_call 34; first | (refine (l6In_yes _ _ _ _ (by omega)).mono ?_; rintro e w' ⟨rfl, rfl⟩) | (refine (l6In_no _ _ _ _ (by omega)).mono ?_; rintro e w' ⟨rfl, rfl⟩)))
  go_ret
  exact ⟨rfl, kept_alloc (kept_refl _) _⟩
theorem sValid_no (x y : Int) (w : World) (h : (x < -1000000000 ∨ 1000000000 < x) ∨ (y < -1000000000 ∨ 1000000000 < y)) :
    Calls Try.prog 28 #[.agg #[.int .i64 x, .int .i64 y]] w fun e w' => e = .returned (.bool false) ∧ Below w.heap.size w w' := by
  by_cases h1 : x < -1000000000 ∨ 1000000000 < x
  · go_enter Try.func28, Try.ntmps28
    go_wp2_with (first | (go_at_call 34; first | (refine (l6In_yes _ _ _ _ (by omega)).mono ?_; rintro e w' ⟨rfl, rfl⟩) | (refine (l6In_no _ _ _ _ (by omega)).mono ?_; rintro e w' ⟨rfl, rfl⟩)))
    go_ret
    exact ⟨rfl, kept_alloc (kept_refl _) _⟩
  · go_enter Try.func28, Try.ntmps28
    go_wp2_with (first | (go_at_call 34; first | (refine (l6In_yes _ _ _ _ (by omega)).mono ?_; rintro e w' ⟨rfl, rfl⟩) | (refine (l6In_no _ _ _ _ (by omega)).mono ?_; rintro e w' ⟨rfl, rfl⟩)))
    go_ret
    exact ⟨rfl, kept_alloc (kept_refl _) _⟩
theorem conj_any (x y : Int) (w : World) (h : -2000000000 ≤ y ∧ y ≤ 2000000000) :
    Calls Try.prog 33 #[.agg #[.int .i64 x, .int .i64 y]] w fun e w' => e = .returned (.agg #[.int .i64 x, .int .i64 (-y)]) ∧ Below w.heap.size w w' := by
  obtain ⟨h1, h2⟩ := h
  go_enter Try.func33, Try.ntmps33
  go_wp2
  exact bodyPost_ret (v := .agg #[.int .i64 x, .int .i64 (-y)]) (by simp [results, Try.results33, go_sem]) rfl ⟨rfl, kept_alloc (kept_alloc (kept_refl _) _) _⟩
theorem plus_any (x y u v : Int) (w : World) (h : (-1000000000 ≤ x ∧ x ≤ 1000000000 ∧ -1000000000 ≤ y ∧ y ≤ 1000000000) ∧ (-1000000000 ≤ u ∧ u ≤ 1000000000 ∧ -1000000000 ≤ v ∧ v ≤ 1000000000)) :
    Calls Try.prog 27 #[.agg #[.int .i64 x, .int .i64 y], .agg #[.int .i64 u, .int .i64 v]] w fun e w' => e = .returned (.agg #[.int .i64 (x + u), .int .i64 (y + v)]) ∧ Below w.heap.size w w' := by
  obtain ⟨⟨h1, h2, h3, h4⟩, h5, h6, h7, h8⟩ := h
  go_enter Try.func27, Try.ntmps27
  go_wp2
  exact bodyPost_ret (v := .agg #[.int .i64 (x + u), .int .i64 (y + v)]) (by simp [results, Try.results27, go_sem]) rfl ⟨rfl, kept_alloc (kept_alloc (kept_alloc (kept_refl _) _) _) _⟩
theorem mul_bd (a b : Int) (ha : -1000000000 ≤ a ∧ a ≤ 1000000000) (hb : -1000000000 ≤ b ∧ b ≤ 1000000000) : -1000000000000000000 ≤ a * b ∧ a * b ≤ 1000000000000000000 := by
  have h1 : 0 ≤ (1000000000 - a) * (1000000000 - b) := Int.mul_nonneg (by omega) (by omega)
  have h2 : 0 ≤ (1000000000 + a) * (1000000000 + b) := Int.mul_nonneg (by omega) (by omega)
  have h3 : 0 ≤ (1000000000 - a) * (1000000000 + b) := Int.mul_nonneg (by omega) (by omega)
  have h4 : 0 ≤ (1000000000 + a) * (1000000000 - b) := Int.mul_nonneg (by omega) (by omega)
  simp only [Int.sub_mul, Int.mul_sub, Int.add_mul, Int.mul_add] at h1 h2 h3 h4
  omega
theorem times_any (x y u v : Int) (w : World) (h : (-1000000000 ≤ x ∧ x ≤ 1000000000 ∧ -1000000000 ≤ y ∧ y ≤ 1000000000) ∧ (-1000000000 ≤ u ∧ u ≤ 1000000000 ∧ -1000000000 ≤ v ∧ v ≤ 1000000000)) :
    Calls Try.prog 31 #[.agg #[.int .i64 x, .int .i64 y], .agg #[.int .i64 u, .int .i64 v]] w fun e w' => e = .returned (.agg #[.int .i64 (x * u - y * v), .int .i64 (x * v + y * u)]) ∧ Below w.heap.size w w' := by
  obtain ⟨⟨h1, h2, h3, h4⟩, h5, h6, h7, h8⟩ := h
  obtain ⟨p1, p2⟩ := mul_bd x u ⟨h1, h2⟩ ⟨h5, h6⟩
  obtain ⟨p3, p4⟩ := mul_bd y v ⟨h3, h4⟩ ⟨h7, h8⟩
  obtain ⟨p5, p6⟩ := mul_bd x v ⟨h1, h2⟩ ⟨h7, h8⟩
  obtain ⟨p7, p8⟩ := mul_bd y u ⟨h3, h4⟩ ⟨h5, h6⟩
  go_enter Try.func31, Try.ntmps31
  go_wp2
  exact bodyPost_ret (v := .agg #[.int .i64 (x * u - y * v), .int .i64 (x * v + y * u)]) (by simp [results, Try.results31, go_sem]) rfl ⟨rfl, kept_alloc (kept_alloc (kept_alloc (kept_refl _) _) _) _⟩
theorem checked_yes (x y : Int) (w : World) (h : -1000000000 ≤ x ∧ x ≤ 1000000000 ∧ -1000000000 ≤ y ∧ y ≤ 1000000000) :
    Calls Try.prog 26 #[.agg #[.int .i64 x, .int .i64 y]] w fun e w' => e = .returned (.tuple #[.agg #[.int .i64 x, .int .i64 y], .bool true]) ∧ Below w.heap.size w w' := by
  obtain ⟨h1, h2, h3, h4⟩ := h
  go_enter Try.func26, Try.ntmps26
  go_wp2_with (first | (go_at_call 14; first | (refine (valid_yes _ _ _ (by omega)).mono ?_; rintro e w' ⟨rfl, hb⟩; (first | (have hb1 := kept_trans HB hb; clear HB hb hc hf hz; have HB := hb1; clear hb1) | (have HB := hb; clear hb)); obtain ⟨hc, hf⟩ := bcell HB; have hz := HB.size; try simp at hz) | (refine (valid_no _ _ _ (by omega)).mono ?_; rintro e w' ⟨rfl, hb⟩; (first | (have hb1 := kept_trans HB hb; clear HB hb hc hf hz; have HB := hb1; clear hb1) | (have HB := hb; clear hb)); obtain ⟨hc, hf⟩ := bcell HB; have hz := HB.size; try simp at hz)))
  exact bodyPost_ret (v := .tuple #[.agg #[.int .i64 x, .int .i64 y], .bool true]) (by simp (maxDischargeDepth := 9) [results, Try.results26, go_sem, *]) rfl ⟨rfl, (by repeat (first | exact kept_refl _ | assumption | refine kept_alloc ?_ _ | refine Below.drew ?_ | refine Below.setCell ?_ (by simp <;> omega) _ | refine kept_trans ?_ (by assumption)))⟩
theorem checked_no (x y : Int) (w : World) (h : (x < -1000000000 ∨ 1000000000 < x) ∨ (y < -1000000000 ∨ 1000000000 < y)) :
    Calls Try.prog 26 #[.agg #[.int .i64 x, .int .i64 y]] w fun e w' => e = .returned (.tuple #[.agg #[.int .i64 0, .int .i64 0], .bool false]) ∧ Below w.heap.size w w' := by
  go_enter Try.func26, Try.ntmps26
  go_wp2_with (first | (go_at_call 14; first | (refine (valid_yes _ _ _ (by omega)).mono ?_; rintro e w' ⟨rfl, hb⟩; (first | (have hb1 := kept_trans HB hb; clear HB hb hc hf hz; have HB := hb1; clear hb1) | (have HB := hb; clear hb)); obtain ⟨hc, hf⟩ := bcell HB; have hz := HB.size; try simp at hz) | (refine (valid_no _ _ _ (by omega)).mono ?_; rintro e w' ⟨rfl, hb⟩; (first | (have hb1 := kept_trans HB hb; clear HB hb hc hf hz; have HB := hb1; clear hb1) | (have HB := hb; clear hb)); obtain ⟨hc, hf⟩ := bcell HB; have hz := HB.size; try simp at hz)))
  exact bodyPost_ret (v := .tuple #[.agg #[.int .i64 0, .int .i64 0], .bool false]) (by simp (maxDischargeDepth := 9) [results, Try.results26, go_sem, *]) rfl ⟨rfl, (by repeat (first | exact kept_refl _ | assumption | refine kept_alloc ?_ _ | refine Below.drew ?_ | refine Below.setCell ?_ (by simp <;> omega) _ | refine kept_trans ?_ (by assumption)))⟩
theorem made_yes (x y : Int) (w : World) (h : -1000000000 ≤ x ∧ x ≤ 1000000000 ∧ -1000000000 ≤ y ∧ y ≤ 1000000000) :
    Calls Try.prog 29 #[.int .i64 x, .int .i64 y] w fun e w' => e = .returned (.tuple #[.agg #[.int .i64 x, .int .i64 y], .bool true]) ∧ Below w.heap.size w w' := by
  obtain ⟨h1, h2, h3, h4⟩ := h
  go_enter Try.func29, Try.ntmps29
  go_wp2_with (first | (go_at_call 28; first | (refine (sValid_yes _ _ _ (by omega)).mono ?_; rintro e w' ⟨rfl, hb⟩; (first | (have hb1 := kept_trans HB hb; clear HB hb hc hf hz; have HB := hb1; clear hb1) | (have HB := hb; clear hb)); obtain ⟨hc, hf⟩ := bcell HB; have hz := HB.size; try simp at hz) | (refine (sValid_no _ _ _ (by omega)).mono ?_; rintro e w' ⟨rfl, hb⟩; (first | (have hb1 := kept_trans HB hb; clear HB hb hc hf hz; have HB := hb1; clear hb1) | (have HB := hb; clear hb)); obtain ⟨hc, hf⟩ := bcell HB; have hz := HB.size; try simp at hz)))
  exact bodyPost_ret (v := .tuple #[.agg #[.int .i64 x, .int .i64 y], .bool true]) (by simp (maxDischargeDepth := 9) [results, Try.results29, go_sem, *]) rfl ⟨rfl, (by repeat (first | exact kept_refl _ | assumption | refine kept_alloc ?_ _ | refine Below.drew ?_ | refine Below.setCell ?_ (by simp <;> omega) _ | refine kept_trans ?_ (by assumption)))⟩
theorem made_no (x y : Int) (w : World) (h : (x < -1000000000 ∨ 1000000000 < x) ∨ (y < -1000000000 ∨ 1000000000 < y)) :
    Calls Try.prog 29 #[.int .i64 x, .int .i64 y] w fun e w' => e = .returned (.tuple #[.agg #[.int .i64 0, .int .i64 0], .bool false]) ∧ Below w.heap.size w w' := by
  go_enter Try.func29, Try.ntmps29
  go_wp2_with (first | (go_at_call 28; first | (refine (sValid_yes _ _ _ (by omega)).mono ?_; rintro e w' ⟨rfl, hb⟩; (first | (have hb1 := kept_trans HB hb; clear HB hb hc hf hz; have HB := hb1; clear hb1) | (have HB := hb; clear hb)); obtain ⟨hc, hf⟩ := bcell HB; have hz := HB.size; try simp at hz) | (refine (sValid_no _ _ _ (by omega)).mono ?_; rintro e w' ⟨rfl, hb⟩; (first | (have hb1 := kept_trans HB hb; clear HB hb hc hf hz; have HB := hb1; clear hb1) | (have HB := hb; clear hb)); obtain ⟨hc, hf⟩ := bcell HB; have hz := HB.size; try simp at hz)))
  exact bodyPost_ret (v := .tuple #[.agg #[.int .i64 0, .int .i64 0], .bool false]) (by simp (maxDischargeDepth := 9) [results, Try.results29, go_sem, *]) rfl ⟨rfl, (by repeat (first | exact kept_refl _ | assumption | refine kept_alloc ?_ _ | refine Below.drew ?_ | refine Below.setCell ?_ (by simp <;> omega) _ | refine kept_trans ?_ (by assumption)))⟩
end Go.Proofs.Ytjaajohklkgegaa
