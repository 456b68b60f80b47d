/- Contracts of the sum, difference, product, conjugate and norm of Gaussian integers, in the program and in the reference. -/
import Derived.Test.YtblijmemdnnbbaaGa
namespace Go.Proofs.Ytblijmemdnnbbaa
open Go.RowKit

set_option maxHeartbeats 800000 in
theorem norm_yes (x y : Int) (w : World) (h : (-1000000000 ≤ x ∧ x ≤ 1000000000 ∧ -1000000000 ≤ y ∧ y ≤ 1000000000)) :
    Calls Try.prog 18 #[.agg #[.int .i64 x, .int .i64 y]] w fun e w' => e = .returned (.int .i64 (x * x + y * y)) ∧ Below w.heap.size w w' := by
  obtain ⟨h1, h2, h3, h4⟩ := h
  obtain ⟨p1, p2⟩ := mul_bd x x ⟨h1, h2⟩ ⟨h1, h2⟩
  obtain ⟨p3, p4⟩ := mul_bd y y ⟨h3, h4⟩ ⟨h3, h4⟩
  go_enter Try.func18, Try.ntmps18
  go_wp2_with (first | (go_at_call 14; first | (refine (valid_yes _ _ _ (by omega)).mono ?_; rintro e w' ⟨rfl, hb⟩; (first | (have hb1 := kept_trans HB hb; clear HB hb hc hf; have HB := hb1; clear hb1) | (have HB := hb; clear hb)); obtain ⟨hc, hf⟩ := bcell HB) | (refine (valid_no _ _ _ (by omega)).mono ?_; rintro e w' ⟨rfl, hb⟩; (first | (have hb1 := kept_trans HB hb; clear HB hb hc hf; have HB := hb1; clear hb1) | (have HB := hb; clear hb)); obtain ⟨hc, hf⟩ := bcell HB)))
  go_ret
  exact ⟨rfl, (by repeat (first | exact kept_refl _ | refine kept_alloc ?_ _ | refine Below.setCell ?_ (by simp <;> omega) _ | refine kept_trans ?_ (by assumption)))⟩
theorem norm_no (x y : Int) (w : World) (h : ((x < -1000000000 ∨ 1000000000 < x) ∨ (y < -1000000000 ∨ 1000000000 < y))) :
    Calls Try.prog 18 #[.agg #[.int .i64 x, .int .i64 y]] w fun e w' => e = .returned (.int .i64 (-1)) ∧ Below w.heap.size w w' := by
  go_enter Try.func18, Try.ntmps18
  go_wp2_with (first | (go_at_call 14; first | (refine (valid_yes _ _ _ (by omega)).mono ?_; rintro e w' ⟨rfl, hb⟩; (first | (have hb1 := kept_trans HB hb; clear HB hb hc hf; have HB := hb1; clear hb1) | (have HB := hb; clear hb)); obtain ⟨hc, hf⟩ := bcell HB) | (refine (valid_no _ _ _ (by omega)).mono ?_; rintro e w' ⟨rfl, hb⟩; (first | (have hb1 := kept_trans HB hb; clear HB hb hc hf; have HB := hb1; clear hb1) | (have HB := hb; clear hb)); obtain ⟨hc, hf⟩ := bcell HB)))
  go_ret
  exact ⟨rfl, (by repeat (first | exact kept_refl _ | refine kept_alloc ?_ _ | refine Below.setCell ?_ (by simp <;> omega) _ | refine kept_trans ?_ (by assumption)))⟩
set_option maxHeartbeats 800000 in
theorem sNorm_yes (x y : Int) (w : World) (h : (-1000000000 ≤ x ∧ x ≤ 1000000000 ∧ -1000000000 ≤ y ∧ y ≤ 1000000000)) :
    Calls Try.prog 17 #[.agg #[.int .i64 x, .int .i64 y]] w fun e w' => e = .returned (.int .i64 (x * x + y * y)) ∧ Below w.heap.size w w' := by
  obtain ⟨h1, h2, h3, h4⟩ := h
  obtain ⟨p1, p2⟩ := mul_bd x x ⟨h1, h2⟩ ⟨h1, h2⟩
  obtain ⟨p3, p4⟩ := mul_bd y y ⟨h3, h4⟩ ⟨h3, h4⟩
  go_enter Try.func17, Try.ntmps17
  go_wp2_with (first | (go_at_call 12; first | (refine (sValid_yes _ _ _ (by omega)).mono ?_; rintro e w' ⟨rfl, hb⟩; (first | (have hb1 := kept_trans HB hb; clear HB hb hc hf; have HB := hb1; clear hb1) | (have HB := hb; clear hb)); obtain ⟨hc, hf⟩ := bcell HB) | (refine (sValid_no _ _ _ (by omega)).mono ?_; rintro e w' ⟨rfl, hb⟩; (first | (have hb1 := kept_trans HB hb; clear HB hb hc hf; have HB := hb1; clear hb1) | (have HB := hb; clear hb)); obtain ⟨hc, hf⟩ := bcell HB)))
  go_ret
  exact ⟨rfl, (by repeat (first | exact kept_refl _ | refine kept_alloc ?_ _ | refine Below.setCell ?_ (by simp <;> omega) _ | refine kept_trans ?_ (by assumption)))⟩
theorem sNorm_no (x y : Int) (w : World) (h : ((x < -1000000000 ∨ 1000000000 < x) ∨ (y < -1000000000 ∨ 1000000000 < y))) :
    Calls Try.prog 17 #[.agg #[.int .i64 x, .int .i64 y]] w fun e w' => e = .returned (.int .i64 (-1)) ∧ Below w.heap.size w w' := by
  go_enter Try.func17, Try.ntmps17
  go_wp2_with (first | (go_at_call 12; first | (refine (sValid_yes _ _ _ (by omega)).mono ?_; rintro e w' ⟨rfl, hb⟩; (first | (have hb1 := kept_trans HB hb; clear HB hb hc hf; have HB := hb1; clear hb1) | (have HB := hb; clear hb)); obtain ⟨hc, hf⟩ := bcell HB) | (refine (sValid_no _ _ _ (by omega)).mono ?_; rintro e w' ⟨rfl, hb⟩; (first | (have hb1 := kept_trans HB hb; clear HB hb hc hf; have HB := hb1; clear hb1) | (have HB := hb; clear hb)); obtain ⟨hc, hf⟩ := bcell HB)))
  go_ret
  exact ⟨rfl, (by repeat (first | exact kept_refl _ | refine kept_alloc ?_ _ | refine Below.setCell ?_ (by simp <;> omega) _ | refine kept_trans ?_ (by assumption)))⟩
theorem toGauss_any (x y : Int) (w : World) :
    Calls Try.prog 13 #[.agg #[.int .i64 x, .int .i64 y]] w fun e w' => e = .returned (.agg #[.int .i64 x, .int .i64 y]) ∧ Below w.heap.size w w' := by
  go_enter Try.func13, Try.ntmps13
  go_wp2
  exact bodyPost_ret (v := .agg #[.int .i64 x, .int .i64 y]) (by simp (maxDischargeDepth := 9) [results, Try.results13, go_sem]) rfl ⟨rfl, (by repeat (first | exact kept_refl _ | refine kept_alloc ?_ _ | refine Below.setCell ?_ (by simp <;> omega) _ | refine kept_trans ?_ (by assumption)))⟩
end Go.Proofs.Ytblijmemdnnbbaa
