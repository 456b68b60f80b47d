/- Own rows of places as arrays: turned, with the first told again. -/
import Derived.Test.YtbpbadmgmlfdhaaAy
import Derived.Test.YtbpbadmgmlfdhaaAz
import Derived.Outline
namespace Go.Proofs.Ytbpbadmgmlfdhaa
open Go.RowKit
theorem own_madeA {w : World} {B k : Nat} (hk : w.heap.size = k) (hB : B ≤ k) : (w.alloc (.cells #[] 30)).ownsRow B 30 2 (.slice (some ⟨k, 0, none⟩) 0 0) 0 (flatA []) := by
  subst hk
  exact World.ownsRow_made w #[] 0 hB (Nat.zero_le _) rfl
theorem own_one {w : World} {B k : Nat} {x y : Int} (hk : w.heap.size = k) (hB : B ≤ k) : (w.alloc (.cells #[.int .i64 x, .int .i64 y] 30)).cell? ⟨k, 0, none⟩ = some (.int .i64 x) := by
  subst hk
  simp
theorem own_cap {w : World} {B g cap n : Nat} {cs : List Value} (h : w.ownsRow B 30 2 (.slice (some ⟨g, 0, none⟩) n cap) n cs) : n ≤ cap ∧ cap ≤ maxLen ∧ g < w.heap.size ∧ B ≤ g := by
  rcases h.2 with ⟨he, _⟩ | ⟨g', cap', cur, he, hb, hh, hnc, hcm, _⟩
  · cases he
  · cases he
    exact ⟨hnc, hcm, (h.lt g rfl).2, hb⟩
theorem own_ants {w : World} {B g cap n : Nat} {xs : List (Int × Int)} (h : w.ownsRow B 30 2 (.slice (some ⟨g, 0, none⟩) n cap) n (flatA xs)) (hl : xs.length = n) : Ants w (some ⟨g, 0, none⟩) n (fun i => (xs.getD i (0, 0)).1) (fun i => (xs.getD i (0, 0)).2) := by
  obtain ⟨a, c, he, _, _, hI⟩ := ants_of_own h hl
  cases he
  exact hI
theorem own_yes {w : World} {B g cap n : Nat} {xs : List (Int × Int)} (h : w.ownsRow B 30 2 (.slice (some ⟨g, 0, none⟩) n cap) n (flatA xs)) (hl : xs.length = n) (hA : Arr (fun i => (xs.getD i (0, 0)).1) (fun i => (xs.getD i (0, 0)).2) n) :
    Calls Try.prog 10 #[.slice (some ⟨g, 0, none⟩) n cap] w fun e w' => e = .returned (.bool true) ∧ Below w.heap.size w w' :=
  arr_yes _ _ _ _ _ _ (own_ants h hl) (own_cap h).1 (own_cap h).2.1 hA
theorem own_no {w : World} {B g cap n : Nat} {xs : List (Int × Int)} (h : w.ownsRow B 30 2 (.slice (some ⟨g, 0, none⟩) n cap) n (flatA xs)) (hl : xs.length = n) (hA : ¬ Arr (fun i => (xs.getD i (0, 0)).1) (fun i => (xs.getD i (0, 0)).2) n) :
    Calls Try.prog 10 #[.slice (some ⟨g, 0, none⟩) n cap] w fun e w' => e = .returned (.bool false) ∧ Below w.heap.size w w' :=
  arr_no _ _ _ _ _ _ (own_ants h hl) (own_cap h).1 (own_cap h).2.1 hA
theorem pairs_arr {X Y : Nat → Int} {n : Nat} (h : Arr X Y n) : Arr (fun i => ((pairsA X Y n).getD i (0, 0)).1) (fun i => ((pairsA X Y n).getD i (0, 0)).2) n :=
  ⟨h.1, good_congr h.2 fun i hi => by simp only [pairsA_at X Y n i hi, and_self]⟩
theorem getD_left {xs ys : List (Int × Int)} {i : Nat} (h : i < xs.length) : (xs ++ ys).getD i (0, 0) = xs.getD i (0, 0) := by
  simp [List.getD_eq_getElem?_getD, List.getElem?_append_left h]
theorem getD_right {xs ys : List (Int × Int)} {i : Nat} (h : xs.length ≤ i) : (xs ++ ys).getD i (0, 0) = ys.getD (i - xs.length) (0, 0) := by
  simp [List.getD_eq_getElem?_getD, List.getElem?_append_right h]
theorem turn_arr {X Y : Nat → Int} {n k : Nat} (h : Arr X Y n) (hk : k < n) :
    Arr (fun i => ((pairsA (fun i => X (k + i)) (fun i => Y (k + i)) (n - k) ++ pairsA X Y k).getD i (0, 0)).1) (fun i => ((pairsA (fun i => X (k + i)) (fun i => Y (k + i)) (n - k) ++ pairsA X Y k).getD i (0, 0)).2) n := by
  refine ⟨h.1, good_congr (good_turn h.2 hk) fun i hi => ?_⟩
  by_cases c : i < n - k
  · simp only [turnN, c, if_true]
    rw [getD_left (by rw [pairsA_length]; exact c), pairsA_at _ _ _ _ c]
    exact ⟨rfl, rfl⟩
  · simp only [turnN, c, if_false]
    rw [getD_right (by rw [pairsA_length]; omega), pairsA_length, pairsA_at _ _ _ _ (by omega)]
    exact ⟨rfl, rfl⟩
theorem again_no {X Y : Nat → Int} {n : Nat} (hn : 0 < n) :
    ¬ Arr (fun i => ((pairsA X Y n ++ [(X 0, Y 0)]).getD i (0, 0)).1) (fun i => ((pairsA X Y n ++ [(X 0, Y 0)]).getD i (0, 0)).2) (n + 1) := by
  intro h
  refine good_not_again hn ?_ ?_ h.2
  · rw [getD_right (by rw [pairsA_length]; omega), getD_left (by rw [pairsA_length]; exact hn), pairsA_length, pairsA_at _ _ _ _ hn]
    simp
  · rw [getD_right (by rw [pairsA_length]; omega), getD_left (by rw [pairsA_length]; exact hn), pairsA_length, pairsA_at _ _ _ _ hn]
    simp
end Go.Proofs.Ytbpbadmgmlfdhaa
