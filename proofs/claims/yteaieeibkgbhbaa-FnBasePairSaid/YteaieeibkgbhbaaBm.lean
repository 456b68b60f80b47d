/- Contracts of BaseMany in the program and in the reference, for every int. -/
import Derived.Test.YteaieeibkgbhbaaLeaf
namespace Go.Proofs.Yteaieeibkgbhbaa
open Go.RowKit

/-- The number of baselines of n antennas. -/
def bmI (n : Int) : Int := if n = 2 then 1 else if n = 3 then 3 else if n = 4 then 6 else if n = 5 then 10 else if n = 6 then 15 else if n = 7 then 21 else 0
theorem bm_no (n : Int) (h : n < 2 ∨ 7 < n) : 0 = bmI n := by
  unfold bmI; repeat rw [if_neg (by omega)]

set_option maxHeartbeats 400000 in
theorem baseMany_any (n : Int) (w : World) : Calls Try.prog 12 #[.int .i64 n] w fun e w' => e = .returned (.int .i64 (bmI n)) ∧ w = w' := by
  have H := Lib.hid (bm_no n)
  rcases (by omega : n < 2 ∨ 7 < n ∨ n = 2 ∨ n = 3 ∨ n = 4 ∨ n = 5 ∨ n = 6 ∨ n = 7) with h | h | rfl | rfl | rfl | rfl | rfl | rfl
  all_goals
    go_enter Try.func12, Try.ntmps12
    go_wp2_with (first | (go_at_call 19; first | (refine (isMany_yes _ _ (by omega)).mono ?_; rintro e w' ⟨rfl, rfl⟩) | (refine (isMany_no _ _ (by omega)).mono ?_; rintro e w' ⟨rfl, rfl⟩)))
    go_ret
    first | exact ⟨ret_int (H.out (by omega)), rfl⟩ | exact ⟨rfl, rfl⟩
set_option maxHeartbeats 400000 in
theorem sBaseMany_any (n : Int) (w : World) : Calls Try.prog 13 #[.int .i64 n] w fun e w' => e = .returned (.int .i64 (bmI n)) ∧ w = w' := by
  have H := Lib.hid (bm_no n)
  rcases (by omega : n < 2 ∨ 7 < n ∨ n = 2 ∨ n = 3 ∨ n = 4 ∨ n = 5 ∨ n = 6 ∨ n = 7) with h | h | rfl | rfl | rfl | rfl | rfl | rfl
  all_goals
    go_enter Try.func13, Try.ntmps13
    go_wp2_with (first | (go_at_call 18; first | (refine (l6In_yes _ _ _ _ (by omega)).mono ?_; rintro e w' ⟨rfl, rfl⟩) | (refine (l6In_no _ _ _ _ (by omega)).mono ?_; rintro e w' ⟨rfl, rfl⟩)))
    go_ret
    first | exact ⟨ret_int (H.out (by omega)), rfl⟩ | exact ⟨rfl, rfl⟩
end Go.Proofs.Yteaieeibkgbhbaa
