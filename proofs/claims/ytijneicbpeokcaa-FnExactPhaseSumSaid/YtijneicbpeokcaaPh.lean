/- Contracts of the phase functions of the program and of the reference, for every int. -/
import Derived.Test.YtijneicbpeokcaaLeaf
namespace Go.Proofs.Ytijneicbpeokcaa
open Go.RowKit

theorem tmod_bd (n : Int) : -360 < n.tmod 360 ∧ n.tmod 360 < 360 := by
  have h1 := Int.lt_tmod_of_pos n (b := 360) (by omega)
  have h2 := Int.tmod_lt_of_pos n (b := 360) (by omega)
  exact ⟨by omega, h2⟩
theorem tmod_neg (n : Int) (h : n.tmod 360 < 0) : n.tmod 360 + 360 = n % 360 := by
  have hh := Int.tmod_eq_emod (a := n) (b := 360)
  rw [hh] at h ⊢
  by_cases h0 : 0 ≤ n
  · rw [if_pos (.inl h0)] at h; omega
  · by_cases h1 : (360 : Int) ∣ n
    · rw [if_pos (.inr h1)] at h; omega
    · rw [if_neg (by simp [h0, h1])]; simp
theorem tmod_pos (n : Int) (h : 0 ≤ n.tmod 360) : n.tmod 360 = n % 360 := by
  have hh := Int.tmod_eq_emod (a := n) (b := 360)
  rw [hh] at h ⊢
  by_cases h0 : 0 ≤ n
  · rw [if_pos (.inl h0)]; omega
  · by_cases h1 : (360 : Int) ∣ n
    · rw [if_pos (.inr h1)]; omega
    · rw [if_neg (by simp [h0, h1])] at h; simp at h; omega

set_option maxHeartbeats 400000 in
theorem phaseOf_any (n : Int) (w : World) : Calls Try.prog 16 #[.int .i64 n] w fun e w' => e = .returned (.int .i64 (n % 360)) ∧ w = w' := by
  have hb := tmod_bd n
  have H1 := Lib.hid (tmod_neg n)
  have H2 := Lib.hid (tmod_pos n)
  go_enter Try.func16, Try.ntmps16
  go_wp2
  all_goals go_ret
  all_goals refine ⟨ret_int ?_, rfl⟩
  all_goals first | exact H1.out (by assumption) | exact H2.out (by omega)

set_option maxHeartbeats 400000 in
theorem l1Mod_any (n : Int) (w : World) : Calls Try.prog 27 #[.int .i64 n, .int .i64 360] w fun e w' => e = .returned (.int .i64 (n % 360)) ∧ w = w' := by
  have hb := tmod_bd n
  have H1 := Lib.hid (tmod_neg n)
  have H2 := Lib.hid (tmod_pos n)
  go_enter Try.func27, Try.ntmps27
  go_wp2
  all_goals go_ret
  all_goals refine ⟨ret_int ?_, rfl⟩
  all_goals first | exact H1.out (by assumption) | exact H2.out (by omega)

theorem sPhaseOf_any (n : Int) (w : World) : Calls Try.prog 17 #[.int .i64 n] w fun e w' => e = .returned (.int .i64 (n % 360)) ∧ w = w' := by
  go_enter Try.func17, Try.ntmps17
  go_wp2_with (go_at_call 27; refine (l1Mod_any _ _).mono ?_; rintro e w' ⟨rfl, rfl⟩)
  go_ret
  exact ⟨rfl, rfl⟩

/-- The signed phase. -/
def sgn (a : Int) : Int := if 0 ≤ a ∧ a < 360 then (if 180 < a then a - 360 else a) else 0
theorem sgn_hi (a : Int) (h : 180 < a ∧ a < 360) : a - 360 = sgn a := by unfold sgn; rw [if_pos (by omega), if_pos (by omega)]
theorem sgn_lo (a : Int) (h : 0 ≤ a ∧ a ≤ 180) : a = sgn a := by unfold sgn; rw [if_pos (by omega), if_neg (by omega)]
theorem sgn_no (a : Int) (h : a < 0 ∨ 360 ≤ a) : 0 = sgn a := by unfold sgn; rw [if_neg (by omega)]

set_option maxHeartbeats 400000 in
theorem signed_any (a : Int) (w : World) : Calls Try.prog 19 #[.int .i64 a] w fun e w' => e = .returned (.int .i64 (sgn a)) ∧ w = w' := by
  have H1 := Lib.hid (sgn_hi a)
  have H2 := Lib.hid (sgn_lo a)
  have H3 := Lib.hid (sgn_no a)
  rcases (by omega : a < 0 ∨ (0 ≤ a ∧ a ≤ 180) ∨ (180 < a ∧ a < 360) ∨ 360 ≤ a) with h | ⟨h, h'⟩ | ⟨h, h'⟩ | h
  all_goals
    go_enter Try.func19, Try.ntmps19
    go_wp2_with (first | (go_at_call 22; first | (refine (isPhase_yes _ _ (by omega)).mono ?_; rintro e w' ⟨rfl, rfl⟩) | (refine (isPhase_no _ _ (by omega)).mono ?_; rintro e w' ⟨rfl, rfl⟩)))
    go_ret
    exact ⟨ret_int (by first | exact H1.out (by omega) | exact H2.out (by omega) | exact H3.out (by omega)), rfl⟩

set_option maxHeartbeats 400000 in
theorem sSigned_any (a : Int) (w : World) : Calls Try.prog 20 #[.int .i64 a] w fun e w' => e = .returned (.int .i64 (sgn a)) ∧ w = w' := by
  have H1 := Lib.hid (sgn_hi a)
  have H2 := Lib.hid (sgn_lo a)
  have H3 := Lib.hid (sgn_no a)
  rcases (by omega : a < 0 ∨ (0 ≤ a ∧ a ≤ 180) ∨ (180 < a ∧ a < 360) ∨ 360 ≤ a) with h | ⟨h, h'⟩ | ⟨h, h'⟩ | h
  all_goals
    go_enter Try.func20, Try.ntmps20
    go_wp2_with (first | (go_at_call 21; first | (refine (l2Phase_yes _ _ (by omega)).mono ?_; rintro e w' ⟨rfl, rfl⟩) | (refine (l2Phase_no _ _ (by omega)).mono ?_; rintro e w' ⟨rfl, rfl⟩)))
    go_ret
    exact ⟨ret_int (by first | exact H1.out (by omega) | exact H2.out (by omega) | exact H3.out (by omega)), rfl⟩

theorem sgn_cases (a : Int) : (0 ≤ a ∧ a ≤ 180 ∧ sgn a = a) ∨ (180 < a ∧ a < 360 ∧ sgn a = a - 360) ∨ ((a < 0 ∨ 360 ≤ a) ∧ sgn a = 0) := by
  unfold sgn; split <;> (try split) <;> omega

/-- The distance of two phases. -/
def nearI (a b : Int) : Int := if (0 ≤ a ∧ a < 360) ∧ (0 ≤ b ∧ b < 360) then (if (a - b) % 360 ≤ 180 then (a - b) % 360 else 360 - (a - b) % 360) else -1
theorem near_eq (a b : Int) (ha : 0 ≤ a ∧ a < 360) (hb : 0 ≤ b ∧ b < 360) : max (sgn ((a - b) % 360)) (0 - sgn ((a - b) % 360)) = nearI a b := by
  unfold nearI
  rw [if_pos (⟨ha, hb⟩ : (0 ≤ a ∧ a < 360) ∧ (0 ≤ b ∧ b < 360))]
  by_cases h : 180 < (a - b) % 360
  · rw [← sgn_hi _ (by omega), if_neg (by omega)]; omega
  · rw [← sgn_lo _ (by omega), if_pos (by omega)]; omega
theorem near_no (a b : Int) (h : (a < 0 ∨ 360 ≤ a) ∨ (b < 0 ∨ 360 ≤ b)) : -1 = nearI a b := by
  unfold nearI
  rw [if_neg (by omega)]
theorem sgn_bd (a : Int) : -179 ≤ sgn a ∧ sgn a ≤ 180 := by unfold sgn; split <;> (try split) <;> omega

set_option maxHeartbeats 400000 in
theorem near_any (a b : Int) (w : World) : Calls Try.prog 10 #[.int .i64 a, .int .i64 b] w fun e w' => e = .returned (.int .i64 (nearI a b)) ∧ w = w' := by
  have hs := sgn_bd ((a - b) % 360)
  have H1 := Lib.hid (near_eq a b)
  have H2 := Lib.hid (near_no a b)
  by_cases ha : 0 ≤ a ∧ a < 360
  · obtain ⟨ha1, ha2⟩ := ha
    by_cases hb : 0 ≤ b ∧ b < 360
    · obtain ⟨hb1, hb2⟩ := hb
      go_enter Try.func10, Try.ntmps10
      go_wp2_with (first | (go_at_call 22; first | (refine (isPhase_yes _ _ (by omega)).mono ?_; rintro e w' ⟨rfl, rfl⟩) | (refine (isPhase_no _ _ (by omega)).mono ?_; rintro e w' ⟨rfl, rfl⟩)) | (go_at_call 16; refine (phaseOf_any _ _).mono ?_; rintro e w' ⟨rfl, rfl⟩) | (go_at_call 19; refine (signed_any _ _).mono ?_; rintro e w' ⟨rfl, rfl⟩))
      all_goals go_ret
      all_goals exact ⟨ret_int (by rw [← H1.out ⟨ha1, ha2⟩ ⟨hb1, hb2⟩]; omega), rfl⟩
    · go_enter Try.func10, Try.ntmps10
      go_wp2_with (first | (go_at_call 22; first | (refine (isPhase_yes _ _ (by omega)).mono ?_; rintro e w' ⟨rfl, rfl⟩) | (refine (isPhase_no _ _ (by omega)).mono ?_; rintro e w' ⟨rfl, rfl⟩)) | (go_at_call 16; refine (phaseOf_any _ _).mono ?_; rintro e w' ⟨rfl, rfl⟩) | (go_at_call 19; refine (signed_any _ _).mono ?_; rintro e w' ⟨rfl, rfl⟩))
      go_ret
      exact ⟨ret_int (H2.out (by omega)), rfl⟩
  · go_enter Try.func10, Try.ntmps10
    go_wp2_with (first | (go_at_call 22; first | (refine (isPhase_yes _ _ (by omega)).mono ?_; rintro e w' ⟨rfl, rfl⟩) | (refine (isPhase_no _ _ (by omega)).mono ?_; rintro e w' ⟨rfl, rfl⟩)) | (go_at_call 16; refine (phaseOf_any _ _).mono ?_; rintro e w' ⟨rfl, rfl⟩) | (go_at_call 19; refine (signed_any _ _).mono ?_; rintro e w' ⟨rfl, rfl⟩))
    go_ret
    exact ⟨ret_int (H2.out (by omega)), rfl⟩

set_option maxHeartbeats 400000 in
theorem sNear_any (a b : Int) (w : World) : Calls Try.prog 9 #[.int .i64 a, .int .i64 b] w fun e w' => e = .returned (.int .i64 (nearI a b)) ∧ w = w' := by
  have hs := sgn_bd ((a - b) % 360)
  have H1 := Lib.hid (near_eq a b)
  have H2 := Lib.hid (near_no a b)
  by_cases ha : 0 ≤ a ∧ a < 360
  · obtain ⟨ha1, ha2⟩ := ha
    by_cases hb : 0 ≤ b ∧ b < 360
    · obtain ⟨hb1, hb2⟩ := hb
      go_enter Try.func9, Try.ntmps9
      go_wp2_with (first | (go_at_call 21; first | (refine (l2Phase_yes _ _ (by omega)).mono ?_; rintro e w' ⟨rfl, rfl⟩) | (refine (l2Phase_no _ _ (by omega)).mono ?_; rintro e w' ⟨rfl, rfl⟩)) | (go_at_call 17; refine (sPhaseOf_any _ _).mono ?_; rintro e w' ⟨rfl, rfl⟩) | (go_at_call 20; refine (sSigned_any _ _).mono ?_; rintro e w' ⟨rfl, rfl⟩))
      all_goals go_ret
      all_goals exact ⟨ret_int (by rw [← H1.out ⟨ha1, ha2⟩ ⟨hb1, hb2⟩]; omega), rfl⟩
    · go_enter Try.func9, Try.ntmps9
      go_wp2_with (first | (go_at_call 21; first | (refine (l2Phase_yes _ _ (by omega)).mono ?_; rintro e w' ⟨rfl, rfl⟩) | (refine (l2Phase_no _ _ (by omega)).mono ?_; rintro e w' ⟨rfl, rfl⟩)) | (go_at_call 17; refine (sPhaseOf_any _ _).mono ?_; rintro e w' ⟨rfl, rfl⟩) | (go_at_call 20; refine (sSigned_any _ _).mono ?_; rintro e w' ⟨rfl, rfl⟩))
      go_ret
      exact ⟨ret_int (H2.out (by omega)), rfl⟩
  · go_enter Try.func9, Try.ntmps9
    go_wp2_with (first | (go_at_call 21; first | (refine (l2Phase_yes _ _ (by omega)).mono ?_; rintro e w' ⟨rfl, rfl⟩) | (refine (l2Phase_no _ _ (by omega)).mono ?_; rintro e w' ⟨rfl, rfl⟩)) | (go_at_call 17; refine (sPhaseOf_any _ _).mono ?_; rintro e w' ⟨rfl, rfl⟩) | (go_at_call 20; refine (sSigned_any _ _).mono ?_; rintro e w' ⟨rfl, rfl⟩))
    go_ret
    exact ⟨ret_int (H2.out (by omega)), rfl⟩
end Go.Proofs.Ytijneicbpeokcaa
