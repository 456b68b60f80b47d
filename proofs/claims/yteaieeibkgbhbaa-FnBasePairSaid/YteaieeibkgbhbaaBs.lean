/- Contracts of BaseIndex in the program and in the reference, for every int. -/
import Derived.Test.YteaieeibkgbhbaaBm
namespace Go.Proofs.Yteaieeibkgbhbaa
open Go.RowKit

/-- The number of the baseline of antennas l < h of n. -/
def bF (n l h : Int) : Int := l * (2 * n - l - 1) / 2 + h - l - 1
def bV (n i j : Int) : Prop := (2 ≤ n ∧ n ≤ 7) ∧ (0 ≤ i ∧ i < n) ∧ (0 ≤ j ∧ j < n) ∧ i ≠ j
instance (n i j : Int) : Decidable (bV n i j) := by unfold bV; infer_instance
/-- The number of the baseline of two antennas, -1 if there is none. -/
def biI (n i j : Int) : Int := if bV n i j then (if i < j then bF n i j else bF n j i) else -1
theorem bi_lt {n i j : Int} (hn : 2 ≤ n ∧ n ≤ 7) (hi : 0 ≤ i ∧ i < j) (hj : j < n) : biI n i j = bF n i j := by
  have hv : bV n i j := ⟨hn, ⟨hi.1, by omega⟩, ⟨by omega, hj⟩, by omega⟩
  unfold biI; rw [if_pos hv, if_pos hi.2]
theorem bi_gt {n i j : Int} (hn : 2 ≤ n ∧ n ≤ 7) (hi : 0 ≤ j ∧ j < i) (hj : i < n) : biI n i j = bF n j i := by
  have hv : bV n i j := ⟨hn, ⟨by omega, hj⟩, ⟨hi.1, by omega⟩, by omega⟩
  unfold biI; rw [if_pos hv, if_neg (by omega)]
theorem bi_no {n i j : Int} (h : ¬ bV n i j) : biI n i j = -1 := by unfold biI; rw [if_neg h]
theorem b_mul (n l : Int) (hn : 2 ≤ n ∧ n ≤ 7) (hl : 0 ≤ l ∧ l < n) : (0 ≤ l * (2 * n - l - 1) ∧ l * (2 * n - l - 1) ≤ 100) ∧ (0 ≤ l * n ∧ l * n ≤ 100) ∧ (0 ≤ l * (l + 1) ∧ l * (l + 1) ≤ 100) ∧ l * n - l * (l + 1) / 2 = l * (2 * n - l - 1) / 2 := by
  rcases (by omega : l = 0 ∨ l = 1 ∨ l = 2 ∨ l = 3 ∨ l = 4 ∨ l = 5 ∨ l = 6) with rfl | rfl | rfl | rfl | rfl | rfl | rfl <;> omega
theorem bm_pos (n : Int) (h : 2 ≤ n ∧ n ≤ 7) : 1 ≤ bmI n ∧ bmI n ≤ 21 := by
  rcases (by omega : n = 2 ∨ n = 3 ∨ n = 4 ∨ n = 5 ∨ n = 6 ∨ n = 7) with rfl | rfl | rfl | rfl | rfl | rfl <;> decide

set_option maxHeartbeats 400000 in
theorem baseAt_lt (n i j : Int) (w : World) (hn : 2 ≤ n ∧ n ≤ 7) (hi : 0 ≤ i ∧ i < j) (hj : j < n) : Calls Try.prog 21 #[.int .i64 n, .int .i64 i, .int .i64 j] w fun e w' => e = .returned (.int .i64 (bF n i j)) ∧ w = w' := by
  obtain ⟨⟨m0, m1⟩, _⟩ := b_mul n i hn ⟨hi.1, by omega⟩
  obtain ⟨h1, h2⟩ := hn
  obtain ⟨h3, h4⟩ := hi
  go_enter Try.func21, Try.ntmps21
  go_wp2
  go_ret
  exact ⟨rfl, rfl⟩
set_option maxHeartbeats 400000 in
theorem baseAt_gt (n i j : Int) (w : World) (hn : 2 ≤ n ∧ n ≤ 7) (hi : 0 ≤ j ∧ j < i) (hj : i < n) : Calls Try.prog 21 #[.int .i64 n, .int .i64 i, .int .i64 j] w fun e w' => e = .returned (.int .i64 (bF n j i)) ∧ w = w' := by
  obtain ⟨⟨m0, m1⟩, _⟩ := b_mul n j hn ⟨hi.1, by omega⟩
  obtain ⟨h1, h2⟩ := hn
  obtain ⟨h3, h4⟩ := hi
  go_enter Try.func21, Try.ntmps21
  go_wp2
  go_ret
  exact ⟨rfl, rfl⟩
set_option maxHeartbeats 1000000 in
theorem baseIndex_any (n i j : Int) (w : World) : Calls Try.prog 10 #[.int .i64 n, .int .i64 i, .int .i64 j] w fun e w' => e = .returned (.int .i64 (biI n i j)) ∧ w = w' := by
  by_cases hn : 2 ≤ n ∧ n ≤ 7
  · obtain ⟨n0, n1⟩ := hn
    by_cases hi : 0 ≤ i ∧ i < n
    · obtain ⟨i0, i1⟩ := hi
      by_cases hj : 0 ≤ j ∧ j < n
      · obtain ⟨j0, j1⟩ := hj
        rcases Int.lt_trichotomy i j with h | h | h
        · have hij : (i == j) = false := by simp; omega
          have e := bi_lt ⟨n0, n1⟩ ⟨i0, h⟩ j1
          rw [e]; clear e
          go_enter Try.func10, Try.ntmps10
          go_wp2_with (first | (first | (go_at_call 19; first | (refine (isMany_yes _ _ (by omega)).mono ?_; rintro e w' ⟨rfl, rfl⟩) | (refine (isMany_no _ _ (by omega)).mono ?_; rintro e w' ⟨rfl, rfl⟩))) | (first | (go_at_call 20; first | (refine (isAnt_yes _ _ _ (by omega)).mono ?_; rintro e w' ⟨rfl, rfl⟩) | (refine (isAnt_no _ _ _ (by omega)).mono ?_; rintro e w' ⟨rfl, rfl⟩))) | (go_at_call 21; refine (baseAt_lt _ _ _ _ ⟨by omega, by omega⟩ ⟨by omega, by omega⟩ (by omega)).mono ?_; rintro e w' ⟨rfl, rfl⟩))
          go_ret
          exact ⟨rfl, rfl⟩
        · subst h
          have e := bi_no (n := n) (i := i) (j := i) (fun h => h.2.2.2 rfl)
          rw [e]; clear e
          go_enter Try.func10, Try.ntmps10
          go_wp2_with (first | (go_at_call 19; first | (refine (isMany_yes _ _ (by omega)).mono ?_; rintro e w' ⟨rfl, rfl⟩) | (refine (isMany_no _ _ (by omega)).mono ?_; rintro e w' ⟨rfl, rfl⟩)) | (go_at_call 20; first | (refine (isAnt_yes _ _ _ (by omega)).mono ?_; rintro e w' ⟨rfl, rfl⟩) | (refine (isAnt_no _ _ _ (by omega)).mono ?_; rintro e w' ⟨rfl, rfl⟩)))
          go_ret
          exact ⟨rfl, rfl⟩
        · have hij : (i == j) = false := by simp; omega
          have e := bi_gt ⟨n0, n1⟩ ⟨j0, h⟩ i1
          rw [e]; clear e
          go_enter Try.func10, Try.ntmps10
          go_wp2_with (first | (first | (go_at_call 19; first | (refine (isMany_yes _ _ (by omega)).mono ?_; rintro e w' ⟨rfl, rfl⟩) | (refine (isMany_no _ _ (by omega)).mono ?_; rintro e w' ⟨rfl, rfl⟩))) | (first | (go_at_call 20; first | (refine (isAnt_yes _ _ _ (by omega)).mono ?_; rintro e w' ⟨rfl, rfl⟩) | (refine (isAnt_no _ _ _ (by omega)).mono ?_; rintro e w' ⟨rfl, rfl⟩))) | (go_at_call 21; refine (baseAt_gt _ _ _ _ ⟨by omega, by omega⟩ ⟨by omega, by omega⟩ (by omega)).mono ?_; rintro e w' ⟨rfl, rfl⟩))
          go_ret
          exact ⟨rfl, rfl⟩
      · have e := bi_no (n := n) (i := i) (j := j) (fun h => hj h.2.2.1)
        rw [e]; clear e
        go_enter Try.func10, Try.ntmps10
        go_wp2_with (first | (go_at_call 19; first | (refine (isMany_yes _ _ (by omega)).mono ?_; rintro e w' ⟨rfl, rfl⟩) | (refine (isMany_no _ _ (by omega)).mono ?_; rintro e w' ⟨rfl, rfl⟩)) | (go_at_call 20; first | (refine (isAnt_yes _ _ _ (by omega)).mono ?_; rintro e w' ⟨rfl, rfl⟩) | (refine (isAnt_no _ _ _ (by omega)).mono ?_; rintro e w' ⟨rfl, rfl⟩)))
        go_ret
        exact ⟨rfl, rfl⟩
    · have e := bi_no (n := n) (i := i) (j := j) (fun h => hi h.2.1)
      rw [e]; clear e
      go_enter Try.func10, Try.ntmps10
      go_wp2_with (first | (go_at_call 19; first | (refine (isMany_yes _ _ (by omega)).mono ?_; rintro e w' ⟨rfl, rfl⟩) | (refine (isMany_no _ _ (by omega)).mono ?_; rintro e w' ⟨rfl, rfl⟩)) | (go_at_call 20; first | (refine (isAnt_yes _ _ _ (by omega)).mono ?_; rintro e w' ⟨rfl, rfl⟩) | (refine (isAnt_no _ _ _ (by omega)).mono ?_; rintro e w' ⟨rfl, rfl⟩)))
      go_ret
      exact ⟨rfl, rfl⟩
  · have e := bi_no (n := n) (i := i) (j := j) (fun h => hn h.1)
    rw [e]; clear e
    go_enter Try.func10, Try.ntmps10
    go_wp2_with (first | (go_at_call 19; first | (refine (isMany_yes _ _ (by omega)).mono ?_; rintro e w' ⟨rfl, rfl⟩) | (refine (isMany_no _ _ (by omega)).mono ?_; rintro e w' ⟨rfl, rfl⟩)))
    go_ret
    exact ⟨rfl, rfl⟩
theorem sBm_no (n : Int) (w : World) (h : n < 2 ∨ 7 < n) : Calls Try.prog 13 #[.int .i64 n] w fun e w' => e = .returned (.int .i64 0) ∧ w = w' := by
  have e := bm_no n h
  have h1 := sBaseMany_any n w
  rw [← e] at h1
  exact h1
set_option maxHeartbeats 1000000 in
theorem sBaseIndex_any (n i j : Int) (w : World) : Calls Try.prog 9 #[.int .i64 n, .int .i64 i, .int .i64 j] w fun e w' => e = .returned (.int .i64 (biI n i j)) ∧ w = w' := by
  by_cases hn : 2 ≤ n ∧ n ≤ 7
  · have hb := bm_pos n hn
    obtain ⟨n0, n1⟩ := hn
    have hb0 : (bmI n == 0) = false := by simp; omega
    by_cases hi : 0 ≤ i ∧ i < n
    · obtain ⟨i0, i1⟩ := hi
      by_cases hj : 0 ≤ j ∧ j < n
      · obtain ⟨j0, j1⟩ := hj
        rcases Int.lt_trichotomy i j with h | h | h
        · have hij : (i == j) = false := by simp; omega
          have e := bi_lt ⟨n0, n1⟩ ⟨i0, h⟩ j1
          rw [e]; clear e
          obtain ⟨_, ⟨q0, q1⟩, ⟨r0, r1⟩, he⟩ := b_mul n i ⟨n0, n1⟩ ⟨i0, i1⟩
          have HE := Lib.hid he; clear he
          go_enter Try.func9, Try.ntmps9
          go_wp2_with (first | (go_at_call 13; refine (sBaseMany_any _ _).mono ?_; rintro e w' ⟨rfl, rfl⟩) | (go_at_call 18; first | (refine (l6In_yes _ _ _ _ (by omega)).mono ?_; rintro e w' ⟨rfl, rfl⟩) | (refine (l6In_no _ _ _ _ (by omega)).mono ?_; rintro e w' ⟨rfl, rfl⟩)))
          all_goals go_ret
          all_goals exact ⟨ret_int (by have := HE.out; unfold bF; omega), rfl⟩
        · subst h
          have e := bi_no (n := n) (i := i) (j := i) (fun h => h.2.2.2 rfl)
          rw [e]; clear e
          go_enter Try.func9, Try.ntmps9
          go_wp2_with (first | (go_at_call 13; refine (sBaseMany_any _ _).mono ?_; rintro e w' ⟨rfl, rfl⟩) | (go_at_call 18; first | (refine (l6In_yes _ _ _ _ (by omega)).mono ?_; rintro e w' ⟨rfl, rfl⟩) | (refine (l6In_no _ _ _ _ (by omega)).mono ?_; rintro e w' ⟨rfl, rfl⟩)))
          go_ret
          exact ⟨rfl, rfl⟩
        · have hij : (i == j) = false := by simp; omega
          have e := bi_gt ⟨n0, n1⟩ ⟨j0, h⟩ i1
          rw [e]; clear e
          obtain ⟨_, ⟨q0, q1⟩, ⟨r0, r1⟩, he⟩ := b_mul n j ⟨n0, n1⟩ ⟨j0, j1⟩
          have HE := Lib.hid he; clear he
          go_enter Try.func9, Try.ntmps9
          go_wp2_with (first | (go_at_call 13; refine (sBaseMany_any _ _).mono ?_; rintro e w' ⟨rfl, rfl⟩) | (go_at_call 18; first | (refine (l6In_yes _ _ _ _ (by omega)).mono ?_; rintro e w' ⟨rfl, rfl⟩) | (refine (l6In_no _ _ _ _ (by omega)).mono ?_; rintro e w' ⟨rfl, rfl⟩)))
          all_goals go_ret
          all_goals exact ⟨ret_int (by have := HE.out; unfold bF; omega), rfl⟩
      · have e := bi_no (n := n) (i := i) (j := j) (fun h => hj h.2.2.1)
        rw [e]; clear e
        go_enter Try.func9, Try.ntmps9
        go_wp2_with (first | (go_at_call 13; refine (sBaseMany_any _ _).mono ?_; rintro e w' ⟨rfl, rfl⟩) | (go_at_call 18; first | (refine (l6In_yes _ _ _ _ (by omega)).mono ?_; rintro e w' ⟨rfl, rfl⟩) | (refine (l6In_no _ _ _ _ (by omega)).mono ?_; rintro e w' ⟨rfl, rfl⟩)))
        go_ret
        exact ⟨rfl, rfl⟩
    · have e := bi_no (n := n) (i := i) (j := j) (fun h => hi h.2.1)
      rw [e]; clear e
      go_enter Try.func9, Try.ntmps9
      go_wp2_with (first | (go_at_call 13; refine (sBaseMany_any _ _).mono ?_; rintro e w' ⟨rfl, rfl⟩) | (go_at_call 18; first | (refine (l6In_yes _ _ _ _ (by omega)).mono ?_; rintro e w' ⟨rfl, rfl⟩) | (refine (l6In_no _ _ _ _ (by omega)).mono ?_; rintro e w' ⟨rfl, rfl⟩)))
      go_ret
      exact ⟨rfl, rfl⟩
  · have e := bi_no (n := n) (i := i) (j := j) (fun h => hn h.1)
    rw [e]; clear e
    go_enter Try.func9, Try.ntmps9
    go_wp2_with (go_at_call 13; refine (sBm_no _ _ (by omega)).mono ?_; rintro e w' ⟨rfl, rfl⟩)
    go_ret
    exact ⟨rfl, rfl⟩
end Go.Proofs.Yteaieeibkgbhbaa
