/- Contracts of the drawers of exponents and of quotients. -/
import Derived.Test.YtoichhjnfiiocaaGd
import Derived.Test.YtoichhjnfiiocaaGh
namespace Go.Proofs.Ytoichhjnfiiocaa
open Go.RowKit
set_option maxHeartbeats 400000 in
theorem drawGaussUnit_any {a : Option Addr} {len cap : Nat} {w : World} (h : IsCode w a len cap) :
    Calls Try.prog 14 #[.slice a len cap] w fun e w' => ∃ v : Int, (-9223372036854775808 ≤ v ∧ v ≤ 9223372036854775807) ∧ e = .returned (.int .i64 v) ∧ Below w.heap.size w w' := by
  have H := Lib.hid h; clear h
  go_enter Try.func14, Try.ntmps14
  go_wp2_with (first | (go_at_call 24; refine l6Open_St H.out ?_; intro b w' hst) | (go_at_call 26; refine (pick_lit (by assumption) _ (by omega) (by omega)).mono ?_; rintro e w' ⟨v, ⟨hv0, hv1⟩, rfl, hst, hh⟩; have hc0 := cell_at hh 0; have hc1 := cell_at hh 1; have hc2 := cell_at hh 2; clear hh; simp at hc0 hc1 hc2; rcases (by omega : v = 0 ∨ v = 1 ∨ v = 2) with rfl | rfl | rfl; all_goals (try (exfalso; omega))) | (go_at_call 26; refine (pick_st (by first | assumption | exact St.alloc (by assumption) _) (by omega) (by omega)).mono ?_; rintro e w' ⟨v, ⟨hv0, hv1⟩, rfl, hst⟩))
  all_goals go_ret
  all_goals exact ⟨_, ⟨by omega, by omega⟩, rfl, And.left (by assumption)⟩
end Go.Proofs.Ytoichhjnfiiocaa
