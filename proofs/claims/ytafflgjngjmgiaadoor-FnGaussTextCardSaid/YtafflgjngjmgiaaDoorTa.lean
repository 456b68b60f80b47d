/- Plain laws of decimal numerals and of the texts of Gaussian integers. -/
import Derived.Lib.ItoaNum
import Derived.Lib.ItoaLen
namespace Go.Proofs.YtafflgjngjmgiaaDoor
open Go.Lib
theorem digit_inj {a b : Nat} (ha : a < 10) (hb : b < 10) (h : UInt8.ofNat (48 + a) = UInt8.ofNat (48 + b)) : a = b := by
  have := congrArg UInt8.toNat h
  simp [UInt8.toNat_ofNat'] at this
  omega
theorem dd_big {u : Nat} (h : ¬ u < 10) : decDigits u = decDigits (u / 10) ++ [UInt8.ofNat (48 + u % 10)] := by rw [decDigits, dif_neg h]
theorem dd_ne (u : Nat) : decDigits u ≠ [] := by
  by_cases h : u < 10
  · rw [decDigits_one h]; simp
  · rw [dd_big h]; simp
theorem dd_inj : ∀ u v : Nat, decDigits u = decDigits v → u = v := by
  intro u
  induction u using Nat.strongRecOn with
  | ind u ih =>
    intro v h
    by_cases hu : u < 10
    · by_cases hv : v < 10
      · rw [decDigits_one hu, decDigits_one hv] at h
        exact digit_inj hu hv (by simpa using h)
      · exfalso
        rw [decDigits_one hu, dd_big hv] at h
        have hl := congrArg List.length h
        simp at hl
        exact dd_ne _ hl
    · by_cases hv : v < 10
      · exfalso
        rw [decDigits_one hv, dd_big hu] at h
        have hl := congrArg List.length h
        simp at hl
        exact dd_ne _ hl
      · rw [dd_big hu, dd_big hv] at h
        obtain ⟨h1, h2⟩ := List.append_inj' h rfl
        have e1 := ih (u / 10) (by omega) _ h1
        have e2 := digit_inj (a := u % 10) (b := v % 10) (Nat.mod_lt _ (by omega)) (Nat.mod_lt _ (by omega)) (by simpa using h2)
        omega
theorem dd_head : ∀ u : Nat, ∃ c r, decDigits u = c :: r ∧ 48 ≤ c.toNat := by
  intro u
  induction u using Nat.strongRecOn with
  | ind u ih =>
    by_cases hu : u < 10
    · refine ⟨_, _, decDigits_one hu, ?_⟩
      simp [UInt8.toNat_ofNat']
      omega
    · obtain ⟨c, r, h, hc⟩ := ih (u / 10) (by omega)
      exact ⟨c, r ++ [UInt8.ofNat (48 + u % 10)], by rw [dd_big hu, h]; rfl, hc⟩
theorem itoa_ne (n : Int) : itoa n ≠ [] := by
  unfold itoa
  split
  · simp
  · exact dd_ne _
theorem itoa_inj {a b : Int} (h : itoa a = itoa b) : a = b := by
  unfold itoa at h
  split at h <;> split at h
  · have := dd_inj _ _ (by simpa using h)
    omega
  · exfalso
    obtain ⟨c, r, e, hc⟩ := dd_head b.toNat
    rw [e] at h
    simp only [List.cons.injEq] at h
    rw [← h.1] at hc
    exact absurd hc (by decide)
  · exfalso
    obtain ⟨c, r, e, hc⟩ := dd_head a.toNat
    rw [e] at h
    simp only [List.cons.injEq] at h
    rw [h.1] at hc
    exact absurd hc (by decide)
  · have := dd_inj _ _ h
    omega
/-- The text of a Gaussian integer: the real part, a sign, the absolute value of the other part, i. -/
def gText (x y : Int) : List UInt8 := itoa x ++ ((if y < 0 then [45] else [43]) ++ (itoa (y.natAbs : Int) ++ [105]))
theorem gText_re (x y : Int) : gText (x + 1) y ≠ gText x y := by
  intro h
  unfold gText at h
  have := itoa_inj (List.append_cancel_right h)
  omega
theorem gText_im (x y : Int) : gText x (y + 1) ≠ gText x y := by
  intro h
  unfold gText at h
  have h := List.append_cancel_left h
  by_cases h1 : y < 0
  · by_cases h2 : y + 1 < 0
    · rw [if_pos h1, if_pos h2] at h
      have := itoa_inj (List.append_cancel_right (List.append_cancel_left h))
      omega
    · rw [if_pos h1, if_neg h2] at h
      simp at h
  · rw [if_neg h1, if_neg (by omega)] at h
    have := itoa_inj (List.append_cancel_right (List.append_cancel_left h))
    omega
theorem gText_length (x y : Int) : 4 ≤ (gText x y).length := by
  have h1 := List.length_pos_iff.2 (itoa_ne x)
  have h2 := List.length_pos_iff.2 (itoa_ne (y.natAbs : Int))
  unfold gText
  split <;> simp <;> omega
theorem gText_last (x y : Int) : (gText x y)[(gText x y).length - 1]? = some 105 := by
  rw [← List.getLast?_eq_getElem?]
  unfold gText
  simp [List.getLast?_append]
theorem gText_bound (x y : Int) (hx : -1000000000 ≤ x ∧ x ≤ 1000000000) (hy : -1000000000 ≤ y ∧ y ≤ 1000000000) : (gText x y).length ≤ 50 := by
  have h1 := itoa_length_le x (by omega) (by omega)
  have h2 := itoa_length_le (y.natAbs : Int) (by omega) (by omega)
  unfold gText
  split <;> simp <;> omega
theorem bytes_append (a b : List UInt8) : (⟨a.toArray⟩ : ByteArray) ++ ⟨b.toArray⟩ = ⟨(a ++ b).toArray⟩ := by
  apply ByteArray.ext
  simp
end Go.Proofs.YtafflgjngjmgiaaDoor
