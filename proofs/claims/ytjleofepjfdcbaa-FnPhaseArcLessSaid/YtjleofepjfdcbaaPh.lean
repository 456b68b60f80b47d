/- Contracts of the phase functions of the program and of the reference, for every int. -/
import Derived.Test.YtjleofepjfdcbaaLeaf
namespace Go.Proofs.Ytjleofepjfdcbaa
open Go.RowKit

theorem tmod_bd (n : Int) : -360 < n.tmod 360 ∧ n.tmod 360 < 360 := by
  have h1 := Int.lt_tmod_of_pos n (b := 360) (by omega)
  have h2 := Int.tmod_lt_of_pos n (b := 360) (by omega)
  exact ⟨by omega, h2⟩
theorem tmod_neg (n : Int) (h : n.tmod 360 < 0) : n.tmod 360 + 360 = n % 360 := by
  have hh := Int.tmod_eq_emod (a := n) (b := 360)
  rw [hh] at h ⊢
  by_cases h0 : 0 ≤ n
  · rw [if_pos (.inl h0)] at h; omega
  · by_cases h1 : (360 : Int) ∣ n
    · rw [if_pos (.inr h1)] at h; omega
    · rw [if_neg (by simp [h0, h1])]; simp
theorem tmod_pos (n : Int) (h : 0 ≤ n.tmod 360) : n.tmod 360 = n % 360 := by
  have hh := Int.tmod_eq_emod (a := n) (b := 360)
  rw [hh] at h ⊢
  by_cases h0 : 0 ≤ n
  · rw [if_pos (.inl h0)]; omega
  · by_cases h1 : (360 : Int) ∣ n
    · rw [if_pos (.inr h1)]; omega
    · rw [if_neg (by simp [h0, h1])] at h; simp at h; omega

set_option maxHeartbeats 400000 in
theorem phaseOf_any (n : Int) (w : World) : Calls Try.prog 16 #[.int .i64 n] w fun e w' => e = .returned (.int .i64 (n % 360)) ∧ w = w' := by
  have hb := tmod_bd n
  have H1 := Lib.hid (tmod_neg n)
  have H2 := Lib.hid (tmod_pos n)
  go_enter Try.func16, Try.ntmps16
  go_wp2
  all_goals go_ret
  all_goals refine ⟨ret_int ?_, rfl⟩
  all_goals first | exact H1.out (by assumption) | exact H2.out (by omega)

set_option maxHeartbeats 400000 in
theorem l1Mod_any (n : Int) (w : World) : Calls Try.prog 28 #[.int .i64 n, .int .i64 360] w fun e w' => e = .returned (.int .i64 (n % 360)) ∧ w = w' := by
  have hb := tmod_bd n
  have H1 := Lib.hid (tmod_neg n)
  have H2 := Lib.hid (tmod_pos n)
  go_enter Try.func28, Try.ntmps28
  go_wp2
  all_goals go_ret
  all_goals refine ⟨ret_int ?_, rfl⟩
  all_goals first | exact H1.out (by assumption) | exact H2.out (by omega)

theorem sPhaseOf_any (n : Int) (w : World) : Calls Try.prog 26 #[.int .i64 n] w fun e w' => e = .returned (.int .i64 (n % 360)) ∧ w = w' := by
  go_enter Try.func26, Try.ntmps26
  go_wp2_with (go_at_call 28; refine (l1Mod_any _ _).mono ?_; rintro e w' ⟨rfl, rfl⟩)
  go_ret
  exact ⟨rfl, rfl⟩

/-- The signed phase. -/
def sgn (a : Int) : Int := if 0 ≤ a ∧ a < 360 then (if 180 < a then a - 360 else a) else 0
theorem sgn_hi (a : Int) (h : 180 < a ∧ a < 360) : a - 360 = sgn a := by unfold sgn; rw [if_pos (by omega), if_pos (by omega)]
theorem sgn_lo (a : Int) (h : 0 ≤ a ∧ a ≤ 180) : a = sgn a := by unfold sgn; rw [if_pos (by omega), if_neg (by omega)]
theorem sgn_no (a : Int) (h : a < 0 ∨ 360 ≤ a) : 0 = sgn a := by unfold sgn; rw [if_neg (by omega)]

set_option maxHeartbeats 400000 in
theorem signed_any (a : Int) (w : World) : Calls Try.prog 24 #[.int .i64 a] w fun e w' => e = .returned (.int .i64 (sgn a)) ∧ w = w' := by
  have H1 := Lib.hid (sgn_hi a)
  have H2 := Lib.hid (sgn_lo a)
  have H3 := Lib.hid (sgn_no a)
  rcases (by omega : a < 0 ∨ (0 ≤ a ∧ a ≤ 180) ∨ (180 < a ∧ a < 360) ∨ 360 ≤ a) with h | ⟨h, h'⟩ | ⟨h, h'⟩ | h
  all_goals
    go_enter Try.func24, Try.ntmps24
    go_wp2_with (first | (go_at_call 23; first | (refine (isPhase_yes _ _ (by omega)).mono ?_; rintro e w' ⟨rfl, rfl⟩) | (refine (isPhase_no _ _ (by omega)).mono ?_; rintro e w' ⟨rfl, rfl⟩)))
    go_ret
    exact ⟨ret_int (by first | exact H1.out (by omega) | exact H2.out (by omega) | exact H3.out (by omega)), rfl⟩

set_option maxHeartbeats 400000 in
theorem sSigned_any (a : Int) (w : World) : Calls Try.prog 25 #[.int .i64 a] w fun e w' => e = .returned (.int .i64 (sgn a)) ∧ w = w' := by
  have H1 := Lib.hid (sgn_hi a)
  have H2 := Lib.hid (sgn_lo a)
  have H3 := Lib.hid (sgn_no a)
  rcases (by omega : a < 0 ∨ (0 ≤ a ∧ a ≤ 180) ∨ (180 < a ∧ a < 360) ∨ 360 ≤ a) with h | ⟨h, h'⟩ | ⟨h, h'⟩ | h
  all_goals
    go_enter Try.func25, Try.ntmps25
    go_wp2_with (first | (go_at_call 17; first | (refine (l2Phase_yes _ _ (by omega)).mono ?_; rintro e w' ⟨rfl, rfl⟩) | (refine (l2Phase_no _ _ (by omega)).mono ?_; rintro e w' ⟨rfl, rfl⟩)))
    go_ret
    exact ⟨ret_int (by first | exact H1.out (by omega) | exact H2.out (by omega) | exact H3.out (by omega)), rfl⟩

theorem sgn_cases (a : Int) : (0 ≤ a ∧ a ≤ 180 ∧ sgn a = a) ∨ (180 < a ∧ a < 360 ∧ sgn a = a - 360) ∨ ((a < 0 ∨ 360 ≤ a) ∧ sgn a = 0) := by
  unfold sgn; split <;> (try split) <;> omega

/-- The distance of two phases. -/
def nearI (a b : Int) : Int := if (0 ≤ a ∧ a < 360) ∧ (0 ≤ b ∧ b < 360) then (if (a - b) % 360 ≤ 180 then (a - b) % 360 else 360 - (a - b) % 360) else -1
theorem near_eq (a b : Int) (ha : 0 ≤ a ∧ a < 360) (hb : 0 ≤ b ∧ b < 360) : max (sgn ((a - b) % 360)) (0 - sgn ((a - b) % 360)) = nearI a b := by
  unfold nearI
  rw [if_pos (⟨ha, hb⟩ : (0 ≤ a ∧ a < 360) ∧ (0 ≤ b ∧ b < 360))]
  by_cases h : 180 < (a - b) % 360
  · rw [← sgn_hi _ (by omega), if_neg (by omega)]; omega
  · rw [← sgn_lo _ (by omega), if_pos (by omega)]; omega
theorem near_no (a b : Int) (h : (a < 0 ∨ 360 ≤ a) ∨ (b < 0 ∨ 360 ≤ b)) : -1 = nearI a b := by
  unfold nearI
  rw [if_neg (by omega)]
theorem sgn_bd (a : Int) : -179 ≤ sgn a ∧ sgn a ≤ 180 := by unfold sgn; split <;> (try split) <;> omega

theorem near_cases (a b : Int) : ((0 ≤ a ∧ a < 360 ∧ 0 ≤ b ∧ b < 360) ∧ (((a - b) % 360 ≤ 180 ∧ nearI a b = (a - b) % 360) ∨ (180 < (a - b) % 360 ∧ nearI a b = 360 - (a - b) % 360))) ∨ ((a < 0 ∨ 360 ≤ a ∨ b < 0 ∨ 360 ≤ b) ∧ nearI a b = -1) := by
  unfold nearI; split <;> (try split) <;> omega
theorem near_bd (a b : Int) : -1 ≤ nearI a b ∧ nearI a b ≤ 180 := by have := near_cases a b; omega
theorem near_turn (u v k : Int) (hu : 0 ≤ u ∧ u < 360) (hv : 0 ≤ v ∧ v < 360) : nearI ((u + k) % 360) ((v + k) % 360) = nearI u v := by
  have e : ((u + k) % 360 - (v + k) % 360) % 360 = (u - v) % 360 := by omega
  unfold nearI
  rw [if_pos (⟨hu, hv⟩ : (0 ≤ u ∧ u < 360) ∧ (0 ≤ v ∧ v < 360)), if_pos (by omega), e]
theorem near_sym (u v : Int) : nearI u v = nearI v u := by
  have h1 := near_cases u v
  have h2 := near_cases v u
  omega
theorem near_neg (u v : Int) (hu : 0 ≤ u ∧ u < 360) (hv : 0 ≤ v ∧ v < 360) : nearI (-u % 360) (-v % 360) = nearI u v := by
  have e : (-u % 360 - -v % 360) % 360 = (v - u) % 360 := by omega
  rw [near_sym u v]
  unfold nearI
  rw [if_pos (⟨hv, hu⟩ : (0 ≤ v ∧ v < 360) ∧ (0 ≤ u ∧ u < 360)), if_pos (by omega), e]
set_option maxHeartbeats 400000 in
theorem near_any (a b : Int) (w : World) : Calls Try.prog 13 #[.int .i64 a, .int .i64 b] w fun e w' => e = .returned (.int .i64 (nearI a b)) ∧ w = w' := by
  have hs := sgn_bd ((a - b) % 360)
  have H1 := Lib.hid (near_eq a b)
  have H2 := Lib.hid (near_no a b)
  by_cases ha : 0 ≤ a ∧ a < 360
  · obtain ⟨ha1, ha2⟩ := ha
    by_cases hb : 0 ≤ b ∧ b < 360
    · obtain ⟨hb1, hb2⟩ := hb
      go_enter Try.func13, Try.ntmps13
      go_wp2_with (first | (go_at_call 23; first | (refine (isPhase_yes _ _ (by omega)).mono ?_; rintro e w' ⟨rfl, rfl⟩) | (refine (isPhase_no _ _ (by omega)).mono ?_; rintro e w' ⟨rfl, rfl⟩)) | (go_at_call 16; refine (phaseOf_any _ _).mono ?_; rintro e w' ⟨rfl, rfl⟩) | (go_at_call 24; refine (signed_any _ _).mono ?_; rintro e w' ⟨rfl, rfl⟩))
      all_goals go_ret
      all_goals exact ⟨ret_int (by rw [← H1.out ⟨ha1, ha2⟩ ⟨hb1, hb2⟩]; omega), rfl⟩
    · go_enter Try.func13, Try.ntmps13
      go_wp2_with (first | (go_at_call 23; first | (refine (isPhase_yes _ _ (by omega)).mono ?_; rintro e w' ⟨rfl, rfl⟩) | (refine (isPhase_no _ _ (by omega)).mono ?_; rintro e w' ⟨rfl, rfl⟩)) | (go_at_call 16; refine (phaseOf_any _ _).mono ?_; rintro e w' ⟨rfl, rfl⟩) | (go_at_call 24; refine (signed_any _ _).mono ?_; rintro e w' ⟨rfl, rfl⟩))
      go_ret
      exact ⟨ret_int (H2.out (by omega)), rfl⟩
  · go_enter Try.func13, Try.ntmps13
    go_wp2_with (first | (go_at_call 23; first | (refine (isPhase_yes _ _ (by omega)).mono ?_; rintro e w' ⟨rfl, rfl⟩) | (refine (isPhase_no _ _ (by omega)).mono ?_; rintro e w' ⟨rfl, rfl⟩)) | (go_at_call 16; refine (phaseOf_any _ _).mono ?_; rintro e w' ⟨rfl, rfl⟩) | (go_at_call 24; refine (signed_any _ _).mono ?_; rintro e w' ⟨rfl, rfl⟩))
    go_ret
    exact ⟨ret_int (H2.out (by omega)), rfl⟩

theorem near_b (a b : Int) (w : World) : Calls Try.prog 13 #[.int .i64 a, .int .i64 b] w fun e w' => e = .returned (.int .i64 (nearI a b)) ∧ w = w' ∧ -1 ≤ nearI a b ∧ nearI a b ≤ 180 :=
  (near_any a b w).mono fun _ _ ⟨h1, h2⟩ => ⟨h1, h2, near_bd a b⟩
set_option maxHeartbeats 400000 in
theorem sNear_any (a b : Int) (w : World) : Calls Try.prog 14 #[.int .i64 a, .int .i64 b] w fun e w' => e = .returned (.int .i64 (nearI a b)) ∧ w = w' := by
  have hs := sgn_bd ((a - b) % 360)
  have H1 := Lib.hid (near_eq a b)
  have H2 := Lib.hid (near_no a b)
  by_cases ha : 0 ≤ a ∧ a < 360
  · obtain ⟨ha1, ha2⟩ := ha
    by_cases hb : 0 ≤ b ∧ b < 360
    · obtain ⟨hb1, hb2⟩ := hb
      go_enter Try.func14, Try.ntmps14
      go_wp2_with (first | (go_at_call 17; first | (refine (l2Phase_yes _ _ (by omega)).mono ?_; rintro e w' ⟨rfl, rfl⟩) | (refine (l2Phase_no _ _ (by omega)).mono ?_; rintro e w' ⟨rfl, rfl⟩)) | (go_at_call 26; refine (sPhaseOf_any _ _).mono ?_; rintro e w' ⟨rfl, rfl⟩) | (go_at_call 25; refine (sSigned_any _ _).mono ?_; rintro e w' ⟨rfl, rfl⟩))
      all_goals go_ret
      all_goals exact ⟨ret_int (by rw [← H1.out ⟨ha1, ha2⟩ ⟨hb1, hb2⟩]; omega), rfl⟩
    · go_enter Try.func14, Try.ntmps14
      go_wp2_with (first | (go_at_call 17; first | (refine (l2Phase_yes _ _ (by omega)).mono ?_; rintro e w' ⟨rfl, rfl⟩) | (refine (l2Phase_no _ _ (by omega)).mono ?_; rintro e w' ⟨rfl, rfl⟩)) | (go_at_call 26; refine (sPhaseOf_any _ _).mono ?_; rintro e w' ⟨rfl, rfl⟩) | (go_at_call 25; refine (sSigned_any _ _).mono ?_; rintro e w' ⟨rfl, rfl⟩))
      go_ret
      exact ⟨ret_int (H2.out (by omega)), rfl⟩
  · go_enter Try.func14, Try.ntmps14
    go_wp2_with (first | (go_at_call 17; first | (refine (l2Phase_yes _ _ (by omega)).mono ?_; rintro e w' ⟨rfl, rfl⟩) | (refine (l2Phase_no _ _ (by omega)).mono ?_; rintro e w' ⟨rfl, rfl⟩)) | (go_at_call 26; refine (sPhaseOf_any _ _).mono ?_; rintro e w' ⟨rfl, rfl⟩) | (go_at_call 25; refine (sSigned_any _ _).mono ?_; rintro e w' ⟨rfl, rfl⟩))
    go_ret
    exact ⟨ret_int (H2.out (by omega)), rfl⟩
end Go.Proofs.Ytjleofepjfdcbaa
