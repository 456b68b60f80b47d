/- Contracts of the phase functions of the program and of the reference, for every int. -/
import Derived.Test.YtbpbadmgmlfdhaaLeaf
namespace Go.Proofs.Ytbpbadmgmlfdhaa
open Go.RowKit

theorem tmod_bd (n : Int) : -360 < n.tmod 360 ∧ n.tmod 360 < 360 := by
  have h1 := Int.lt_tmod_of_pos n (b := 360) (by omega)
  have h2 := Int.tmod_lt_of_pos n (b := 360) (by omega)
  exact ⟨by omega, h2⟩
theorem tmod_neg (n : Int) (h : n.tmod 360 < 0) : n.tmod 360 + 360 = n % 360 := by
  have hh := Int.tmod_eq_emod (a := n) (b := 360)
  rw [hh] at h ⊢
  by_cases h0 : 0 ≤ n
  · rw [if_pos (.inl h0)] at h; omega
  · by_cases h1 : (360 : Int) ∣ n
    · rw [if_pos (.inr h1)] at h; omega
    · rw [if_neg (by simp [h0, h1])]; simp
theorem tmod_pos (n : Int) (h : 0 ≤ n.tmod 360) : n.tmod 360 = n % 360 := by
  have hh := Int.tmod_eq_emod (a := n) (b := 360)
  rw [hh] at h ⊢
  by_cases h0 : 0 ≤ n
  · rw [if_pos (.inl h0)]; omega
  · by_cases h1 : (360 : Int) ∣ n
    · rw [if_pos (.inr h1)]; omega
    · rw [if_neg (by simp [h0, h1])] at h; simp at h; omega



/-- The signed phase. -/
def sgn (a : Int) : Int := if 0 ≤ a ∧ a < 360 then (if 180 < a then a - 360 else a) else 0
theorem sgn_hi (a : Int) (h : 180 < a ∧ a < 360) : a - 360 = sgn a := by unfold sgn; rw [if_pos (by omega), if_pos (by omega)]
theorem sgn_lo (a : Int) (h : 0 ≤ a ∧ a ≤ 180) : a = sgn a := by unfold sgn; rw [if_pos (by omega), if_neg (by omega)]
theorem sgn_no (a : Int) (h : a < 0 ∨ 360 ≤ a) : 0 = sgn a := by unfold sgn; rw [if_neg (by omega)]



theorem sgn_cases (a : Int) : (0 ≤ a ∧ a ≤ 180 ∧ sgn a = a) ∨ (180 < a ∧ a < 360 ∧ sgn a = a - 360) ∨ ((a < 0 ∨ 360 ≤ a) ∧ sgn a = 0) := by
  unfold sgn; split <;> (try split) <;> omega

/-- The distance of two phases. -/
def nearI (a b : Int) : Int := if (0 ≤ a ∧ a < 360) ∧ (0 ≤ b ∧ b < 360) then (if (a - b) % 360 ≤ 180 then (a - b) % 360 else 360 - (a - b) % 360) else -1
theorem near_eq (a b : Int) (ha : 0 ≤ a ∧ a < 360) (hb : 0 ≤ b ∧ b < 360) : max (sgn ((a - b) % 360)) (0 - sgn ((a - b) % 360)) = nearI a b := by
  unfold nearI
  rw [if_pos (⟨ha, hb⟩ : (0 ≤ a ∧ a < 360) ∧ (0 ≤ b ∧ b < 360))]
  by_cases h : 180 < (a - b) % 360
  · rw [← sgn_hi _ (by omega), if_neg (by omega)]; omega
  · rw [← sgn_lo _ (by omega), if_pos (by omega)]; omega
theorem near_no (a b : Int) (h : (a < 0 ∨ 360 ≤ a) ∨ (b < 0 ∨ 360 ≤ b)) : -1 = nearI a b := by
  unfold nearI
  rw [if_neg (by omega)]
theorem sgn_bd (a : Int) : -179 ≤ sgn a ∧ sgn a ≤ 180 := by unfold sgn; split <;> (try split) <;> omega

theorem near_cases (a b : Int) : ((0 ≤ a ∧ a < 360 ∧ 0 ≤ b ∧ b < 360) ∧ (((a - b) % 360 ≤ 180 ∧ nearI a b = (a - b) % 360) ∨ (180 < (a - b) % 360 ∧ nearI a b = 360 - (a - b) % 360))) ∨ ((a < 0 ∨ 360 ≤ a ∨ b < 0 ∨ 360 ≤ b) ∧ nearI a b = -1) := by
  unfold nearI; split <;> (try split) <;> omega
theorem near_bd (a b : Int) : -1 ≤ nearI a b ∧ nearI a b ≤ 180 := by have := near_cases a b; omega
theorem near_turn (u v k : Int) (hu : 0 ≤ u ∧ u < 360) (hv : 0 ≤ v ∧ v < 360) : nearI ((u + k) % 360) ((v + k) % 360) = nearI u v := by
  have e : ((u + k) % 360 - (v + k) % 360) % 360 = (u - v) % 360 := by omega
  unfold nearI
  rw [if_pos (⟨hu, hv⟩ : (0 ≤ u ∧ u < 360) ∧ (0 ≤ v ∧ v < 360)), if_pos (by omega), e]
theorem near_sym (u v : Int) : nearI u v = nearI v u := by
  have h1 := near_cases u v
  have h2 := near_cases v u
  omega
theorem near_neg (u v : Int) (hu : 0 ≤ u ∧ u < 360) (hv : 0 ≤ v ∧ v < 360) : nearI (-u % 360) (-v % 360) = nearI u v := by
  have e : (-u % 360 - -v % 360) % 360 = (v - u) % 360 := by omega
  rw [near_sym u v]
  unfold nearI
  rw [if_pos (⟨hv, hu⟩ : (0 ≤ v ∧ v < 360) ∧ (0 ≤ u ∧ u < 360)), if_pos (by omega), e]

end Go.Proofs.Ytbpbadmgmlfdhaa
