/- Contracts of the drawers of numbers of antennas. -/
import Derived.Test.YteaieeibkgbhbaaDr
import Derived.Test.YteaieeibkgbhbaaBs
namespace Go.Proofs.Yteaieeibkgbhbaa
open Go.RowKit
set_option maxHeartbeats 400000 in
theorem drawBaseMany_any {a : Option Addr} {len cap : Nat} {w : World} (h : IsCode w a len cap) :
    Calls Try.prog 11 #[.slice a len cap] w fun e w' => ∃ v : Int, (0 ≤ v ∧ v < 10) ∧ e = .returned (.int .i64 v) ∧ Below w.heap.size w w' := by
  have H := Lib.hid h; clear h
  go_enter Try.func11, Try.ntmps11
  go_wp2_with (first | (go_at_call 22; refine l6Open_St H.out ?_; intro b w' hst) | (go_at_call 23; refine (pick_st (by first | assumption | exact St.alloc (by assumption) _) (by omega) (by omega)).mono ?_; rintro e w' ⟨v, ⟨hv0, hv1⟩, rfl, hst⟩))
  all_goals go_ret
  all_goals exact ⟨_, ⟨by omega, by omega⟩, rfl, And.left (by assumption)⟩
end Go.Proofs.Yteaieeibkgbhbaa
