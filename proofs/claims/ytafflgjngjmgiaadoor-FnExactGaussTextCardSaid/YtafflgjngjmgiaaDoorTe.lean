/- From the row's own condition to the table of powers of ten. -/
import Derived.Test.YtafflgjngjmgiaaDoorTd
import Derived.Stop.LaidErr
import Derived.LaidMore
import Derived.ProofKit
import Derived.KernelRfl
namespace Go.Proofs.YtafflgjngjmgiaaDoor
open Go.RowKit Go.Lib
theorem pow_data : (Rows.laid_internal_strconv_uint64pow10 : DataW Unit) = tabData .u64 pow10Tab := by rfl
theorem tab_of_laid {W : World} (h : laidMetH Tryd.prog [("math/bits.deBruijn32tab", Rows.laid_math_bits_deBruijn32tab), ("math/bits.deBruijn64tab", Rows.laid_math_bits_deBruijn64tab), ("internal/strconv.uint64pow10", Rows.laid_internal_strconv_uint64pow10)] W) : Tab W := by
  rw [MakeChecks.laidMetH_plain _ _ _ (by kernel_rfl)] at h
  have h2 := laidMet.tail (laidMet.tail h)
  rw [pow_data] at h2
  exact tabIs_of_head (P := Tryd.prog) (g := 0) (n := 20) (by kernel_rfl) (by kernel_rfl) Tryd.underlying52 Tryd.underlying45 (by kernel_rfl) (by kernel_rfl) h2
/-- Both texts of (x, y) are t. -/
def Texts (x y : Int) (t : ByteArray) : Prop :=
  (∀ w, Calls Tryd.prog 5 #[.agg #[.int .i64 x, .int .i64 y]] w fun e w' => e = .returned (.string t) ∧ Below w.heap.size w w') ∧
  (∀ w, Tab w → Calls Tryd.prog 7 #[.agg #[.int .i64 x, .int .i64 y]] w fun e w' => e = .returned (.string t) ∧ Below w.heap.size w w')
theorem texts_yes {x y : Int} (h : -1000000000 ≤ x ∧ x ≤ 1000000000 ∧ -1000000000 ≤ y ∧ y ≤ 1000000000) : Texts x y ⟨(gText x y).toArray⟩ :=
  ⟨fun w => sText_yes x y w h, fun w ht => text_yes x y w h ht⟩
theorem texts_no {x y : Int} (h : ¬ (-1000000000 ≤ x ∧ x ≤ 1000000000 ∧ -1000000000 ≤ y ∧ y ≤ 1000000000)) : Texts x y ⟨#[]⟩ :=
  ⟨fun w => sText_no x y w (by omega), fun w _ => text_no x y w (by omega)⟩
theorem texts_ex (x y : Int) : ∃ t, Texts x y t := by
  by_cases h : -1000000000 ≤ x ∧ x ≤ 1000000000 ∧ -1000000000 ≤ y ∧ y ≤ 1000000000
  · exact ⟨_, texts_yes h⟩
  · exact ⟨_, texts_no h⟩
end Go.Proofs.YtafflgjngjmgiaaDoor
