/- Contracts of the sum, difference, product, conjugate and norm of Gaussian integers, in the program and in the reference. -/
import Derived.Test.YtafflgjngjmgiaaDoorGa
namespace Go.Proofs.YtafflgjngjmgiaaDoor
open Go.RowKit

theorem toGauss_any (x y : Int) (w : World) :
    Calls Tryd.prog 6 #[.agg #[.int .i64 x, .int .i64 y]] w fun e w' => e = .returned (.agg #[.int .i64 x, .int .i64 y]) ∧ Below w.heap.size w w' := by
  go_enter Tryd.func6, Tryd.ntmps6
  go_wp2
  exact bodyPost_ret (v := .agg #[.int .i64 x, .int .i64 y]) (by simp (maxDischargeDepth := 9) [results, Tryd.results6, go_sem]) rfl ⟨rfl, (by repeat (first | exact kept_refl _ | assumption | refine kept_alloc ?_ _ | refine Below.drew ?_ | refine Below.setCell ?_ (by simp <;> omega) _ | refine kept_trans ?_ (by assumption)))⟩
theorem gauss_any (x y : Int) (w : World) :
    Calls Tryd.prog 9 #[.int .i64 x, .int .i64 y] w fun e w' => e = .returned (.agg #[.int .i64 x, .int .i64 y]) ∧ Below w.heap.size w w' := by
  go_enter Tryd.func9, Tryd.ntmps9
  go_wp2
  exact bodyPost_ret (v := .agg #[.int .i64 x, .int .i64 y]) (by simp (maxDischargeDepth := 9) [results, Tryd.results9, go_sem]) rfl ⟨rfl, (by repeat (first | exact kept_refl _ | assumption | refine kept_alloc ?_ _ | refine Below.drew ?_ | refine Below.setCell ?_ (by simp <;> omega) _ | refine kept_trans ?_ (by assumption)))⟩
end Go.Proofs.YtafflgjngjmgiaaDoor
