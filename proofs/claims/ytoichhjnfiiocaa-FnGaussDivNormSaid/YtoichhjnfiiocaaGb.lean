/- Contracts of the sum, difference, product, conjugate and norm of Gaussian integers, in the program and in the reference. -/
import Derived.Test.YtoichhjnfiiocaaGa
namespace Go.Proofs.Ytoichhjnfiiocaa
open Go.RowKit

set_option maxHeartbeats 800000 in
theorem mul_yes (x y u v : Int) (w : World) (h : (-1000000000 ≤ x ∧ x ≤ 1000000000 ∧ -1000000000 ≤ y ∧ y ≤ 1000000000) ∧ (-1000000000 ≤ u ∧ u ≤ 1000000000 ∧ -1000000000 ≤ v ∧ v ≤ 1000000000) ∧ (-1000000000 ≤ (x * u - y * v) ∧ (x * u - y * v) ≤ 1000000000 ∧ -1000000000 ≤ (x * v + y * u) ∧ (x * v + y * u) ≤ 1000000000)) :
    Calls Try.prog 12 #[.agg #[.int .i64 x, .int .i64 y], .agg #[.int .i64 u, .int .i64 v]] w fun e w' => e = .returned (.tuple #[.agg #[.int .i64 (x * u - y * v), .int .i64 (x * v + y * u)], .bool true]) ∧ Below w.heap.size w w' := by
  obtain ⟨⟨h1, h2, h3, h4⟩, ⟨h5, h6, h7, h8⟩, h9, h10, h11, h12⟩ := h
  obtain ⟨p1, p2⟩ := mul_bd x u ⟨h1, h2⟩ ⟨h5, h6⟩
  obtain ⟨p3, p4⟩ := mul_bd y v ⟨h3, h4⟩ ⟨h7, h8⟩
  obtain ⟨p5, p6⟩ := mul_bd x v ⟨h1, h2⟩ ⟨h7, h8⟩
  obtain ⟨p7, p8⟩ := mul_bd y u ⟨h3, h4⟩ ⟨h5, h6⟩
  go_enter Try.func12, Try.ntmps12
  go_wp2_with (first | (go_at_call 27; first | (refine (valid_yes _ _ _ (by omega)).mono ?_; rintro e w' ⟨rfl, hb⟩; (first | (have hb1 := kept_trans HB hb; clear HB hb hc hf hz; have HB := hb1; clear hb1) | (have HB := hb; clear hb)); obtain ⟨hc, hf⟩ := bcell HB; have hz := HB.size; try simp at hz) | (refine (valid_no _ _ _ (by omega)).mono ?_; rintro e w' ⟨rfl, hb⟩; (first | (have hb1 := kept_trans HB hb; clear HB hb hc hf hz; have HB := hb1; clear hb1) | (have HB := hb; clear hb)); obtain ⟨hc, hf⟩ := bcell HB; have hz := HB.size; try simp at hz)) | (go_at_call 28; refine (times_any _ _ _ _ _ (by omega)).mono ?_; rintro e w' ⟨rfl, hb⟩; (first | (have hb1 := kept_trans HB hb; clear HB hb hc hf hz; have HB := hb1; clear hb1) | (have HB := hb; clear hb)); obtain ⟨hc, hf⟩ := bcell HB; have hz := HB.size; try simp at hz) | (go_at_call 30; first | (refine (checked_yes _ _ _ (by omega)).mono ?_; rintro e w' ⟨rfl, hb⟩; (first | (have hb1 := kept_trans HB hb; clear HB hb hc hf hz; have HB := hb1; clear hb1) | (have HB := hb; clear hb)); obtain ⟨hc, hf⟩ := bcell HB; have hz := HB.size; try simp at hz) | (refine (checked_no _ _ _ (by omega)).mono ?_; rintro e w' ⟨rfl, hb⟩; (first | (have hb1 := kept_trans HB hb; clear HB hb hc hf hz; have HB := hb1; clear hb1) | (have HB := hb; clear hb)); obtain ⟨hc, hf⟩ := bcell HB; have hz := HB.size; try simp at hz)))
  exact bodyPost_ret (v := .tuple #[.agg #[.int .i64 (x * u - y * v), .int .i64 (x * v + y * u)], .bool true]) (by simp (maxDischargeDepth := 9) [results, Try.results12, go_sem, hc]) rfl ⟨rfl, (by repeat (first | exact kept_refl _ | assumption | refine kept_alloc ?_ _ | refine Below.drew ?_ | refine Below.setCell ?_ (by simp <;> omega) _ | refine kept_trans ?_ (by assumption)))⟩
set_option maxHeartbeats 800000 in
theorem mul_no1 (x y u v : Int) (w : World) (h : ((x < -1000000000 ∨ 1000000000 < x) ∨ (y < -1000000000 ∨ 1000000000 < y)) ∨ ((u < -1000000000 ∨ 1000000000 < u) ∨ (v < -1000000000 ∨ 1000000000 < v))) :
    Calls Try.prog 12 #[.agg #[.int .i64 x, .int .i64 y], .agg #[.int .i64 u, .int .i64 v]] w fun e w' => e = .returned (.tuple #[.agg #[.int .i64 0, .int .i64 0], .bool false]) ∧ Below w.heap.size w w' := by
  by_cases h1 : (-1000000000 ≤ x ∧ x ≤ 1000000000 ∧ -1000000000 ≤ y ∧ y ≤ 1000000000)
  all_goals
    go_enter Try.func12, Try.ntmps12
    go_wp2_with (first | (go_at_call 27; first | (refine (valid_yes _ _ _ (by omega)).mono ?_; rintro e w' ⟨rfl, hb⟩; (first | (have hb1 := kept_trans HB hb; clear HB hb hc hf hz; have HB := hb1; clear hb1) | (have HB := hb; clear hb)); obtain ⟨hc, hf⟩ := bcell HB; have hz := HB.size; try simp at hz) | (refine (valid_no _ _ _ (by omega)).mono ?_; rintro e w' ⟨rfl, hb⟩; (first | (have hb1 := kept_trans HB hb; clear HB hb hc hf hz; have HB := hb1; clear hb1) | (have HB := hb; clear hb)); obtain ⟨hc, hf⟩ := bcell HB; have hz := HB.size; try simp at hz)))
    exact bodyPost_ret (v := .tuple #[.agg #[.int .i64 0, .int .i64 0], .bool false]) (by simp (maxDischargeDepth := 9) [results, Try.results12, go_sem, hc]) rfl ⟨rfl, (by repeat (first | exact kept_refl _ | assumption | refine kept_alloc ?_ _ | refine Below.drew ?_ | refine Below.setCell ?_ (by simp <;> omega) _ | refine kept_trans ?_ (by assumption)))⟩
set_option maxHeartbeats 800000 in
theorem mul_no2 (x y u v : Int) (w : World) (h : (-1000000000 ≤ x ∧ x ≤ 1000000000 ∧ -1000000000 ≤ y ∧ y ≤ 1000000000) ∧ (-1000000000 ≤ u ∧ u ≤ 1000000000 ∧ -1000000000 ≤ v ∧ v ≤ 1000000000) ∧ (((x * u - y * v) < -1000000000 ∨ 1000000000 < (x * u - y * v)) ∨ ((x * v + y * u) < -1000000000 ∨ 1000000000 < (x * v + y * u)))) :
    Calls Try.prog 12 #[.agg #[.int .i64 x, .int .i64 y], .agg #[.int .i64 u, .int .i64 v]] w fun e w' => e = .returned (.tuple #[.agg #[.int .i64 0, .int .i64 0], .bool false]) ∧ Below w.heap.size w w' := by
  obtain ⟨⟨h1, h2, h3, h4⟩, ⟨h5, h6, h7, h8⟩, h9⟩ := h
  obtain ⟨p1, p2⟩ := mul_bd x u ⟨h1, h2⟩ ⟨h5, h6⟩
  obtain ⟨p3, p4⟩ := mul_bd y v ⟨h3, h4⟩ ⟨h7, h8⟩
  obtain ⟨p5, p6⟩ := mul_bd x v ⟨h1, h2⟩ ⟨h7, h8⟩
  obtain ⟨p7, p8⟩ := mul_bd y u ⟨h3, h4⟩ ⟨h5, h6⟩
  go_enter Try.func12, Try.ntmps12
  go_wp2_with (first | (go_at_call 27; first | (refine (valid_yes _ _ _ (by omega)).mono ?_; rintro e w' ⟨rfl, hb⟩; (first | (have hb1 := kept_trans HB hb; clear HB hb hc hf hz; have HB := hb1; clear hb1) | (have HB := hb; clear hb)); obtain ⟨hc, hf⟩ := bcell HB; have hz := HB.size; try simp at hz) | (refine (valid_no _ _ _ (by omega)).mono ?_; rintro e w' ⟨rfl, hb⟩; (first | (have hb1 := kept_trans HB hb; clear HB hb hc hf hz; have HB := hb1; clear hb1) | (have HB := hb; clear hb)); obtain ⟨hc, hf⟩ := bcell HB; have hz := HB.size; try simp at hz)) | (go_at_call 28; refine (times_any _ _ _ _ _ (by omega)).mono ?_; rintro e w' ⟨rfl, hb⟩; (first | (have hb1 := kept_trans HB hb; clear HB hb hc hf hz; have HB := hb1; clear hb1) | (have HB := hb; clear hb)); obtain ⟨hc, hf⟩ := bcell HB; have hz := HB.size; try simp at hz) | (go_at_call 30; first | (refine (checked_yes _ _ _ (by omega)).mono ?_; rintro e w' ⟨rfl, hb⟩; (first | (have hb1 := kept_trans HB hb; clear HB hb hc hf hz; have HB := hb1; clear hb1) | (have HB := hb; clear hb)); obtain ⟨hc, hf⟩ := bcell HB; have hz := HB.size; try simp at hz) | (refine (checked_no _ _ _ (by omega)).mono ?_; rintro e w' ⟨rfl, hb⟩; (first | (have hb1 := kept_trans HB hb; clear HB hb hc hf hz; have HB := hb1; clear hb1) | (have HB := hb; clear hb)); obtain ⟨hc, hf⟩ := bcell HB; have hz := HB.size; try simp at hz)))
  exact bodyPost_ret (v := .tuple #[.agg #[.int .i64 0, .int .i64 0], .bool false]) (by simp (maxDischargeDepth := 9) [results, Try.results12, go_sem, hc]) rfl ⟨rfl, (by repeat (first | exact kept_refl _ | assumption | refine kept_alloc ?_ _ | refine Below.drew ?_ | refine Below.setCell ?_ (by simp <;> omega) _ | refine kept_trans ?_ (by assumption)))⟩
theorem mul_no (x y u v : Int) (w : World) (h : ¬ ((-1000000000 ≤ x ∧ x ≤ 1000000000 ∧ -1000000000 ≤ y ∧ y ≤ 1000000000) ∧ (-1000000000 ≤ u ∧ u ≤ 1000000000 ∧ -1000000000 ≤ v ∧ v ≤ 1000000000) ∧ (-1000000000 ≤ (x * u - y * v) ∧ (x * u - y * v) ≤ 1000000000 ∧ -1000000000 ≤ (x * v + y * u) ∧ (x * v + y * u) ≤ 1000000000))) :
    Calls Try.prog 12 #[.agg #[.int .i64 x, .int .i64 y], .agg #[.int .i64 u, .int .i64 v]] w fun e w' => e = .returned (.tuple #[.agg #[.int .i64 0, .int .i64 0], .bool false]) ∧ Below w.heap.size w w' := by
  by_cases h1 : ((x < -1000000000 ∨ 1000000000 < x) ∨ (y < -1000000000 ∨ 1000000000 < y)) ∨ ((u < -1000000000 ∨ 1000000000 < u) ∨ (v < -1000000000 ∨ 1000000000 < v))
  · exact mul_no1 x y u v w h1
  · exact mul_no2 x y u v w ⟨by omega, by omega, by omega⟩
set_option maxHeartbeats 800000 in
theorem sMul_yes (x y u v : Int) (w : World) (h : (-1000000000 ≤ x ∧ x ≤ 1000000000 ∧ -1000000000 ≤ y ∧ y ≤ 1000000000) ∧ (-1000000000 ≤ u ∧ u ≤ 1000000000 ∧ -1000000000 ≤ v ∧ v ≤ 1000000000) ∧ (-1000000000 ≤ (x * u - y * v) ∧ (x * u - y * v) ≤ 1000000000 ∧ -1000000000 ≤ (x * v + y * u) ∧ (x * v + y * u) ≤ 1000000000)) :
    Calls Try.prog 21 #[.agg #[.int .i64 x, .int .i64 y], .agg #[.int .i64 u, .int .i64 v]] w fun e w' => e = .returned (.tuple #[.agg #[.int .i64 (x * u - y * v), .int .i64 (x * v + y * u)], .bool true]) ∧ Below w.heap.size w w' := by
  obtain ⟨⟨h1, h2, h3, h4⟩, ⟨h5, h6, h7, h8⟩, h9, h10, h11, h12⟩ := h
  obtain ⟨p1, p2⟩ := mul_bd x u ⟨h1, h2⟩ ⟨h5, h6⟩
  obtain ⟨p3, p4⟩ := mul_bd y v ⟨h3, h4⟩ ⟨h7, h8⟩
  obtain ⟨p5, p6⟩ := mul_bd x v ⟨h1, h2⟩ ⟨h7, h8⟩
  obtain ⟨p7, p8⟩ := mul_bd y u ⟨h3, h4⟩ ⟨h5, h6⟩
  go_enter Try.func21, Try.ntmps21
  go_wp2_with (first | (go_at_call 31; first | (refine (sValid_yes _ _ _ (by omega)).mono ?_; rintro e w' ⟨rfl, hb⟩; (first | (have hb1 := kept_trans HB hb; clear HB hb hc hf hz; have HB := hb1; clear hb1) | (have HB := hb; clear hb)); obtain ⟨hc, hf⟩ := bcell HB; have hz := HB.size; try simp at hz) | (refine (sValid_no _ _ _ (by omega)).mono ?_; rintro e w' ⟨rfl, hb⟩; (first | (have hb1 := kept_trans HB hb; clear HB hb hc hf hz; have HB := hb1; clear hb1) | (have HB := hb; clear hb)); obtain ⟨hc, hf⟩ := bcell HB; have hz := HB.size; try simp at hz)) | (go_at_call 33; first | (refine (made_yes _ _ _ (by omega)).mono ?_; rintro e w' ⟨rfl, hb⟩; (first | (have hb1 := kept_trans HB hb; clear HB hb hc hf hz; have HB := hb1; clear hb1) | (have HB := hb; clear hb)); obtain ⟨hc, hf⟩ := bcell HB; have hz := HB.size; try simp at hz) | (refine (made_no _ _ _ (by omega)).mono ?_; rintro e w' ⟨rfl, hb⟩; (first | (have hb1 := kept_trans HB hb; clear HB hb hc hf hz; have HB := hb1; clear hb1) | (have HB := hb; clear hb)); obtain ⟨hc, hf⟩ := bcell HB; have hz := HB.size; try simp at hz)))
  exact bodyPost_ret (v := .tuple #[.agg #[.int .i64 (x * u - y * v), .int .i64 (x * v + y * u)], .bool true]) (by simp (maxDischargeDepth := 9) [results, Try.results21, go_sem, hc]) rfl ⟨rfl, (by repeat (first | exact kept_refl _ | assumption | refine kept_alloc ?_ _ | refine Below.drew ?_ | refine Below.setCell ?_ (by simp <;> omega) _ | refine kept_trans ?_ (by assumption)))⟩
set_option maxHeartbeats 800000 in
theorem sMul_no1 (x y u v : Int) (w : World) (h : ((x < -1000000000 ∨ 1000000000 < x) ∨ (y < -1000000000 ∨ 1000000000 < y)) ∨ ((u < -1000000000 ∨ 1000000000 < u) ∨ (v < -1000000000 ∨ 1000000000 < v))) :
    Calls Try.prog 21 #[.agg #[.int .i64 x, .int .i64 y], .agg #[.int .i64 u, .int .i64 v]] w fun e w' => e = .returned (.tuple #[.agg #[.int .i64 0, .int .i64 0], .bool false]) ∧ Below w.heap.size w w' := by
  by_cases h1 : (-1000000000 ≤ x ∧ x ≤ 1000000000 ∧ -1000000000 ≤ y ∧ y ≤ 1000000000)
  all_goals
    go_enter Try.func21, Try.ntmps21
    go_wp2_with (first | (go_at_call 31; first | (refine (sValid_yes _ _ _ (by omega)).mono ?_; rintro e w' ⟨rfl, hb⟩; (first | (have hb1 := kept_trans HB hb; clear HB hb hc hf hz; have HB := hb1; clear hb1) | (have HB := hb; clear hb)); obtain ⟨hc, hf⟩ := bcell HB; have hz := HB.size; try simp at hz) | (refine (sValid_no _ _ _ (by omega)).mono ?_; rintro e w' ⟨rfl, hb⟩; (first | (have hb1 := kept_trans HB hb; clear HB hb hc hf hz; have HB := hb1; clear hb1) | (have HB := hb; clear hb)); obtain ⟨hc, hf⟩ := bcell HB; have hz := HB.size; try simp at hz)))
    exact bodyPost_ret (v := .tuple #[.agg #[.int .i64 0, .int .i64 0], .bool false]) (by simp (maxDischargeDepth := 9) [results, Try.results21, go_sem, hc]) rfl ⟨rfl, (by repeat (first | exact kept_refl _ | assumption | refine kept_alloc ?_ _ | refine Below.drew ?_ | refine Below.setCell ?_ (by simp <;> omega) _ | refine kept_trans ?_ (by assumption)))⟩
set_option maxHeartbeats 800000 in
theorem sMul_no2 (x y u v : Int) (w : World) (h : (-1000000000 ≤ x ∧ x ≤ 1000000000 ∧ -1000000000 ≤ y ∧ y ≤ 1000000000) ∧ (-1000000000 ≤ u ∧ u ≤ 1000000000 ∧ -1000000000 ≤ v ∧ v ≤ 1000000000) ∧ (((x * u - y * v) < -1000000000 ∨ 1000000000 < (x * u - y * v)) ∨ ((x * v + y * u) < -1000000000 ∨ 1000000000 < (x * v + y * u)))) :
    Calls Try.prog 21 #[.agg #[.int .i64 x, .int .i64 y], .agg #[.int .i64 u, .int .i64 v]] w fun e w' => e = .returned (.tuple #[.agg #[.int .i64 0, .int .i64 0], .bool false]) ∧ Below w.heap.size w w' := by
  obtain ⟨⟨h1, h2, h3, h4⟩, ⟨h5, h6, h7, h8⟩, h9⟩ := h
  obtain ⟨p1, p2⟩ := mul_bd x u ⟨h1, h2⟩ ⟨h5, h6⟩
  obtain ⟨p3, p4⟩ := mul_bd y v ⟨h3, h4⟩ ⟨h7, h8⟩
  obtain ⟨p5, p6⟩ := mul_bd x v ⟨h1, h2⟩ ⟨h7, h8⟩
  obtain ⟨p7, p8⟩ := mul_bd y u ⟨h3, h4⟩ ⟨h5, h6⟩
  go_enter Try.func21, Try.ntmps21
  go_wp2_with (first | (go_at_call 31; first | (refine (sValid_yes _ _ _ (by omega)).mono ?_; rintro e w' ⟨rfl, hb⟩; (first | (have hb1 := kept_trans HB hb; clear HB hb hc hf hz; have HB := hb1; clear hb1) | (have HB := hb; clear hb)); obtain ⟨hc, hf⟩ := bcell HB; have hz := HB.size; try simp at hz) | (refine (sValid_no _ _ _ (by omega)).mono ?_; rintro e w' ⟨rfl, hb⟩; (first | (have hb1 := kept_trans HB hb; clear HB hb hc hf hz; have HB := hb1; clear hb1) | (have HB := hb; clear hb)); obtain ⟨hc, hf⟩ := bcell HB; have hz := HB.size; try simp at hz)) | (go_at_call 33; first | (refine (made_yes _ _ _ (by omega)).mono ?_; rintro e w' ⟨rfl, hb⟩; (first | (have hb1 := kept_trans HB hb; clear HB hb hc hf hz; have HB := hb1; clear hb1) | (have HB := hb; clear hb)); obtain ⟨hc, hf⟩ := bcell HB; have hz := HB.size; try simp at hz) | (refine (made_no _ _ _ (by omega)).mono ?_; rintro e w' ⟨rfl, hb⟩; (first | (have hb1 := kept_trans HB hb; clear HB hb hc hf hz; have HB := hb1; clear hb1) | (have HB := hb; clear hb)); obtain ⟨hc, hf⟩ := bcell HB; have hz := HB.size; try simp at hz)))
  exact bodyPost_ret (v := .tuple #[.agg #[.int .i64 0, .int .i64 0], .bool false]) (by simp (maxDischargeDepth := 9) [results, Try.results21, go_sem, hc]) rfl ⟨rfl, (by repeat (first | exact kept_refl _ | assumption | refine kept_alloc ?_ _ | refine Below.drew ?_ | refine Below.setCell ?_ (by simp <;> omega) _ | refine kept_trans ?_ (by assumption)))⟩
theorem sMul_no (x y u v : Int) (w : World) (h : ¬ ((-1000000000 ≤ x ∧ x ≤ 1000000000 ∧ -1000000000 ≤ y ∧ y ≤ 1000000000) ∧ (-1000000000 ≤ u ∧ u ≤ 1000000000 ∧ -1000000000 ≤ v ∧ v ≤ 1000000000) ∧ (-1000000000 ≤ (x * u - y * v) ∧ (x * u - y * v) ≤ 1000000000 ∧ -1000000000 ≤ (x * v + y * u) ∧ (x * v + y * u) ≤ 1000000000))) :
    Calls Try.prog 21 #[.agg #[.int .i64 x, .int .i64 y], .agg #[.int .i64 u, .int .i64 v]] w fun e w' => e = .returned (.tuple #[.agg #[.int .i64 0, .int .i64 0], .bool false]) ∧ Below w.heap.size w w' := by
  by_cases h1 : ((x < -1000000000 ∨ 1000000000 < x) ∨ (y < -1000000000 ∨ 1000000000 < y)) ∨ ((u < -1000000000 ∨ 1000000000 < u) ∨ (v < -1000000000 ∨ 1000000000 < v))
  · exact sMul_no1 x y u v w h1
  · exact sMul_no2 x y u v w ⟨by omega, by omega, by omega⟩
set_option maxHeartbeats 800000 in
theorem gconj_yes (x y : Int) (w : World) (h : (-1000000000 ≤ x ∧ x ≤ 1000000000 ∧ -1000000000 ≤ y ∧ y ≤ 1000000000)) :
    Calls Try.prog 18 #[.agg #[.int .i64 x, .int .i64 y]] w fun e w' => e = .returned (.tuple #[.agg #[.int .i64 x, .int .i64 (-y)], .bool true]) ∧ Below w.heap.size w w' := by
  obtain ⟨h1, h2, h3, h4⟩ := h
  go_enter Try.func18, Try.ntmps18
  go_wp2_with (first | (go_at_call 27; first | (refine (valid_yes _ _ _ (by omega)).mono ?_; rintro e w' ⟨rfl, hb⟩; (first | (have hb1 := kept_trans HB hb; clear HB hb hc hf hz; have HB := hb1; clear hb1) | (have HB := hb; clear hb)); obtain ⟨hc, hf⟩ := bcell HB; have hz := HB.size; try simp at hz) | (refine (valid_no _ _ _ (by omega)).mono ?_; rintro e w' ⟨rfl, hb⟩; (first | (have hb1 := kept_trans HB hb; clear HB hb hc hf hz; have HB := hb1; clear hb1) | (have HB := hb; clear hb)); obtain ⟨hc, hf⟩ := bcell HB; have hz := HB.size; try simp at hz)) | (go_at_call 29; refine (conj_any _ _ _ (by omega)).mono ?_; rintro e w' ⟨rfl, hb⟩; (first | (have hb1 := kept_trans HB hb; clear HB hb hc hf hz; have HB := hb1; clear hb1) | (have HB := hb; clear hb)); obtain ⟨hc, hf⟩ := bcell HB; have hz := HB.size; try simp at hz))
  exact bodyPost_ret (v := .tuple #[.agg #[.int .i64 x, .int .i64 (-y)], .bool true]) (by simp (maxDischargeDepth := 9) [results, Try.results18, go_sem, hc]) rfl ⟨rfl, (by repeat (first | exact kept_refl _ | assumption | refine kept_alloc ?_ _ | refine Below.drew ?_ | refine Below.setCell ?_ (by simp <;> omega) _ | refine kept_trans ?_ (by assumption)))⟩
set_option maxHeartbeats 800000 in
theorem gconj_no (x y : Int) (w : World) (h : ((x < -1000000000 ∨ 1000000000 < x) ∨ (y < -1000000000 ∨ 1000000000 < y))) :
    Calls Try.prog 18 #[.agg #[.int .i64 x, .int .i64 y]] w fun e w' => e = .returned (.tuple #[.agg #[.int .i64 0, .int .i64 0], .bool false]) ∧ Below w.heap.size w w' := by
  go_enter Try.func18, Try.ntmps18
  go_wp2_with (first | (go_at_call 27; first | (refine (valid_yes _ _ _ (by omega)).mono ?_; rintro e w' ⟨rfl, hb⟩; (first | (have hb1 := kept_trans HB hb; clear HB hb hc hf hz; have HB := hb1; clear hb1) | (have HB := hb; clear hb)); obtain ⟨hc, hf⟩ := bcell HB; have hz := HB.size; try simp at hz) | (refine (valid_no _ _ _ (by omega)).mono ?_; rintro e w' ⟨rfl, hb⟩; (first | (have hb1 := kept_trans HB hb; clear HB hb hc hf hz; have HB := hb1; clear hb1) | (have HB := hb; clear hb)); obtain ⟨hc, hf⟩ := bcell HB; have hz := HB.size; try simp at hz)) | (go_at_call 29; refine (conj_any _ _ _ (by omega)).mono ?_; rintro e w' ⟨rfl, hb⟩; (first | (have hb1 := kept_trans HB hb; clear HB hb hc hf hz; have HB := hb1; clear hb1) | (have HB := hb; clear hb)); obtain ⟨hc, hf⟩ := bcell HB; have hz := HB.size; try simp at hz))
  exact bodyPost_ret (v := .tuple #[.agg #[.int .i64 0, .int .i64 0], .bool false]) (by simp (maxDischargeDepth := 9) [results, Try.results18, go_sem, hc]) rfl ⟨rfl, (by repeat (first | exact kept_refl _ | assumption | refine kept_alloc ?_ _ | refine Below.drew ?_ | refine Below.setCell ?_ (by simp <;> omega) _ | refine kept_trans ?_ (by assumption)))⟩
set_option maxHeartbeats 800000 in
theorem norm_yes (x y : Int) (w : World) (h : (-1000000000 ≤ x ∧ x ≤ 1000000000 ∧ -1000000000 ≤ y ∧ y ≤ 1000000000)) :
    Calls Try.prog 17 #[.agg #[.int .i64 x, .int .i64 y]] w fun e w' => e = .returned (.int .i64 (x * x + y * y)) ∧ Below w.heap.size w w' := by
  obtain ⟨h1, h2, h3, h4⟩ := h
  obtain ⟨p1, p2⟩ := mul_bd x x ⟨h1, h2⟩ ⟨h1, h2⟩
  obtain ⟨p3, p4⟩ := mul_bd y y ⟨h3, h4⟩ ⟨h3, h4⟩
  go_enter Try.func17, Try.ntmps17
  go_wp2_with (first | (go_at_call 27; first | (refine (valid_yes _ _ _ (by omega)).mono ?_; rintro e w' ⟨rfl, hb⟩; (first | (have hb1 := kept_trans HB hb; clear HB hb hc hf hz; have HB := hb1; clear hb1) | (have HB := hb; clear hb)); obtain ⟨hc, hf⟩ := bcell HB; have hz := HB.size; try simp at hz) | (refine (valid_no _ _ _ (by omega)).mono ?_; rintro e w' ⟨rfl, hb⟩; (first | (have hb1 := kept_trans HB hb; clear HB hb hc hf hz; have HB := hb1; clear hb1) | (have HB := hb; clear hb)); obtain ⟨hc, hf⟩ := bcell HB; have hz := HB.size; try simp at hz)))
  go_ret
  exact ⟨rfl, (by repeat (first | exact kept_refl _ | assumption | refine kept_alloc ?_ _ | refine Below.drew ?_ | refine Below.setCell ?_ (by simp <;> omega) _ | refine kept_trans ?_ (by assumption)))⟩
theorem norm_no (x y : Int) (w : World) (h : ((x < -1000000000 ∨ 1000000000 < x) ∨ (y < -1000000000 ∨ 1000000000 < y))) :
    Calls Try.prog 17 #[.agg #[.int .i64 x, .int .i64 y]] w fun e w' => e = .returned (.int .i64 (-1)) ∧ Below w.heap.size w w' := by
  go_enter Try.func17, Try.ntmps17
  go_wp2_with (first | (go_at_call 27; first | (refine (valid_yes _ _ _ (by omega)).mono ?_; rintro e w' ⟨rfl, hb⟩; (first | (have hb1 := kept_trans HB hb; clear HB hb hc hf hz; have HB := hb1; clear hb1) | (have HB := hb; clear hb)); obtain ⟨hc, hf⟩ := bcell HB; have hz := HB.size; try simp at hz) | (refine (valid_no _ _ _ (by omega)).mono ?_; rintro e w' ⟨rfl, hb⟩; (first | (have hb1 := kept_trans HB hb; clear HB hb hc hf hz; have HB := hb1; clear hb1) | (have HB := hb; clear hb)); obtain ⟨hc, hf⟩ := bcell HB; have hz := HB.size; try simp at hz)))
  go_ret
  exact ⟨rfl, (by repeat (first | exact kept_refl _ | assumption | refine kept_alloc ?_ _ | refine Below.drew ?_ | refine Below.setCell ?_ (by simp <;> omega) _ | refine kept_trans ?_ (by assumption)))⟩
set_option maxHeartbeats 800000 in
theorem sGconj_yes (x y : Int) (w : World) (h : (-1000000000 ≤ x ∧ x ≤ 1000000000 ∧ -1000000000 ≤ y ∧ y ≤ 1000000000)) :
    Calls Try.prog 23 #[.agg #[.int .i64 x, .int .i64 y]] w fun e w' => e = .returned (.tuple #[.agg #[.int .i64 x, .int .i64 (-y)], .bool true]) ∧ Below w.heap.size w w' := by
  obtain ⟨h1, h2, h3, h4⟩ := h
  go_enter Try.func23, Try.ntmps23
  go_wp2_with (first | (go_at_call 31; first | (refine (sValid_yes _ _ _ (by omega)).mono ?_; rintro e w' ⟨rfl, hb⟩; (first | (have hb1 := kept_trans HB hb; clear HB hb hc hf hz; have HB := hb1; clear hb1) | (have HB := hb; clear hb)); obtain ⟨hc, hf⟩ := bcell HB; have hz := HB.size; try simp at hz) | (refine (sValid_no _ _ _ (by omega)).mono ?_; rintro e w' ⟨rfl, hb⟩; (first | (have hb1 := kept_trans HB hb; clear HB hb hc hf hz; have HB := hb1; clear hb1) | (have HB := hb; clear hb)); obtain ⟨hc, hf⟩ := bcell HB; have hz := HB.size; try simp at hz)) | (go_at_call 33; first | (refine (made_yes _ _ _ (by omega)).mono ?_; rintro e w' ⟨rfl, hb⟩; (first | (have hb1 := kept_trans HB hb; clear HB hb hc hf hz; have HB := hb1; clear hb1) | (have HB := hb; clear hb)); obtain ⟨hc, hf⟩ := bcell HB; have hz := HB.size; try simp at hz) | (refine (made_no _ _ _ (by omega)).mono ?_; rintro e w' ⟨rfl, hb⟩; (first | (have hb1 := kept_trans HB hb; clear HB hb hc hf hz; have HB := hb1; clear hb1) | (have HB := hb; clear hb)); obtain ⟨hc, hf⟩ := bcell HB; have hz := HB.size; try simp at hz)))
  exact bodyPost_ret (v := .tuple #[.agg #[.int .i64 x, .int .i64 (-y)], .bool true]) (by simp (maxDischargeDepth := 9) [results, Try.results23, go_sem, hc]) rfl ⟨rfl, (by repeat (first | exact kept_refl _ | assumption | refine kept_alloc ?_ _ | refine Below.drew ?_ | refine Below.setCell ?_ (by simp <;> omega) _ | refine kept_trans ?_ (by assumption)))⟩
set_option maxHeartbeats 800000 in
theorem sGconj_no (x y : Int) (w : World) (h : ((x < -1000000000 ∨ 1000000000 < x) ∨ (y < -1000000000 ∨ 1000000000 < y))) :
    Calls Try.prog 23 #[.agg #[.int .i64 x, .int .i64 y]] w fun e w' => e = .returned (.tuple #[.agg #[.int .i64 0, .int .i64 0], .bool false]) ∧ Below w.heap.size w w' := by
  go_enter Try.func23, Try.ntmps23
  go_wp2_with (first | (go_at_call 31; first | (refine (sValid_yes _ _ _ (by omega)).mono ?_; rintro e w' ⟨rfl, hb⟩; (first | (have hb1 := kept_trans HB hb; clear HB hb hc hf hz; have HB := hb1; clear hb1) | (have HB := hb; clear hb)); obtain ⟨hc, hf⟩ := bcell HB; have hz := HB.size; try simp at hz) | (refine (sValid_no _ _ _ (by omega)).mono ?_; rintro e w' ⟨rfl, hb⟩; (first | (have hb1 := kept_trans HB hb; clear HB hb hc hf hz; have HB := hb1; clear hb1) | (have HB := hb; clear hb)); obtain ⟨hc, hf⟩ := bcell HB; have hz := HB.size; try simp at hz)) | (go_at_call 33; first | (refine (made_yes _ _ _ (by omega)).mono ?_; rintro e w' ⟨rfl, hb⟩; (first | (have hb1 := kept_trans HB hb; clear HB hb hc hf hz; have HB := hb1; clear hb1) | (have HB := hb; clear hb)); obtain ⟨hc, hf⟩ := bcell HB; have hz := HB.size; try simp at hz) | (refine (made_no _ _ _ (by omega)).mono ?_; rintro e w' ⟨rfl, hb⟩; (first | (have hb1 := kept_trans HB hb; clear HB hb hc hf hz; have HB := hb1; clear hb1) | (have HB := hb; clear hb)); obtain ⟨hc, hf⟩ := bcell HB; have hz := HB.size; try simp at hz)))
  exact bodyPost_ret (v := .tuple #[.agg #[.int .i64 0, .int .i64 0], .bool false]) (by simp (maxDischargeDepth := 9) [results, Try.results23, go_sem, hc]) rfl ⟨rfl, (by repeat (first | exact kept_refl _ | assumption | refine kept_alloc ?_ _ | refine Below.drew ?_ | refine Below.setCell ?_ (by simp <;> omega) _ | refine kept_trans ?_ (by assumption)))⟩
set_option maxHeartbeats 800000 in
theorem sNorm_yes (x y : Int) (w : World) (h : (-1000000000 ≤ x ∧ x ≤ 1000000000 ∧ -1000000000 ≤ y ∧ y ≤ 1000000000)) :
    Calls Try.prog 32 #[.agg #[.int .i64 x, .int .i64 y]] w fun e w' => e = .returned (.int .i64 (x * x + y * y)) ∧ Below w.heap.size w w' := by
  obtain ⟨h1, h2, h3, h4⟩ := h
  obtain ⟨p1, p2⟩ := mul_bd x x ⟨h1, h2⟩ ⟨h1, h2⟩
  obtain ⟨p3, p4⟩ := mul_bd y y ⟨h3, h4⟩ ⟨h3, h4⟩
  go_enter Try.func32, Try.ntmps32
  go_wp2_with (first | (go_at_call 31; first | (refine (sValid_yes _ _ _ (by omega)).mono ?_; rintro e w' ⟨rfl, hb⟩; (first | (have hb1 := kept_trans HB hb; clear HB hb hc hf hz; have HB := hb1; clear hb1) | (have HB := hb; clear hb)); obtain ⟨hc, hf⟩ := bcell HB; have hz := HB.size; try simp at hz) | (refine (sValid_no _ _ _ (by omega)).mono ?_; rintro e w' ⟨rfl, hb⟩; (first | (have hb1 := kept_trans HB hb; clear HB hb hc hf hz; have HB := hb1; clear hb1) | (have HB := hb; clear hb)); obtain ⟨hc, hf⟩ := bcell HB; have hz := HB.size; try simp at hz)))
  go_ret
  exact ⟨rfl, (by repeat (first | exact kept_refl _ | assumption | refine kept_alloc ?_ _ | refine Below.drew ?_ | refine Below.setCell ?_ (by simp <;> omega) _ | refine kept_trans ?_ (by assumption)))⟩
theorem sNorm_no (x y : Int) (w : World) (h : ((x < -1000000000 ∨ 1000000000 < x) ∨ (y < -1000000000 ∨ 1000000000 < y))) :
    Calls Try.prog 32 #[.agg #[.int .i64 x, .int .i64 y]] w fun e w' => e = .returned (.int .i64 (-1)) ∧ Below w.heap.size w w' := by
  go_enter Try.func32, Try.ntmps32
  go_wp2_with (first | (go_at_call 31; first | (refine (sValid_yes _ _ _ (by omega)).mono ?_; rintro e w' ⟨rfl, hb⟩; (first | (have hb1 := kept_trans HB hb; clear HB hb hc hf hz; have HB := hb1; clear hb1) | (have HB := hb; clear hb)); obtain ⟨hc, hf⟩ := bcell HB; have hz := HB.size; try simp at hz) | (refine (sValid_no _ _ _ (by omega)).mono ?_; rintro e w' ⟨rfl, hb⟩; (first | (have hb1 := kept_trans HB hb; clear HB hb hc hf hz; have HB := hb1; clear hb1) | (have HB := hb; clear hb)); obtain ⟨hc, hf⟩ := bcell HB; have hz := HB.size; try simp at hz)))
  go_ret
  exact ⟨rfl, (by repeat (first | exact kept_refl _ | assumption | refine kept_alloc ?_ _ | refine Below.drew ?_ | refine Below.setCell ?_ (by simp <;> omega) _ | refine kept_trans ?_ (by assumption)))⟩
theorem gauss_any (x y : Int) (w : World) :
    Calls Try.prog 13 #[.int .i64 x, .int .i64 y] w fun e w' => e = .returned (.agg #[.int .i64 x, .int .i64 y]) ∧ Below w.heap.size w w' := by
  go_enter Try.func13, Try.ntmps13
  go_wp2
  exact bodyPost_ret (v := .agg #[.int .i64 x, .int .i64 y]) (by simp (maxDischargeDepth := 9) [results, Try.results13, go_sem]) rfl ⟨rfl, (by repeat (first | exact kept_refl _ | assumption | refine kept_alloc ?_ _ | refine Below.drew ?_ | refine Below.setCell ?_ (by simp <;> omega) _ | refine kept_trans ?_ (by assumption)))⟩
end Go.Proofs.Ytoichhjnfiiocaa
