/- From the row's own condition to the table of powers of ten. -/
import Derived.Test.YtafflgjngjmgiaaDoorTd
import Derived.Stop.LaidErr
import Derived.LaidMore
import Derived.ProofKit
import Derived.Laws.Strings
import Derived.WideShapes
import Derived.KernelRfl
namespace Go.Proofs.YtafflgjngjmgiaaDoor
open Go.RowKit Go.Lib
theorem pow_data : (Rows.laid_internal_strconv_uint64pow10 : DataW Unit) = tabData .u64 pow10Tab := by rfl
theorem tab_of_laid {W : World} (h : laidMetH Tryd.prog [("math/bits.deBruijn32tab", Rows.laid_math_bits_deBruijn32tab), ("math/bits.deBruijn64tab", Rows.laid_math_bits_deBruijn64tab), ("internal/strconv.uint64pow10", Rows.laid_internal_strconv_uint64pow10)] W) : Tab W := by
  rw [MakeChecks.laidMetH_plain _ _ _ (by kernel_rfl)] at h
  have h2 := laidMet.tail (laidMet.tail h)
  rw [pow_data] at h2
  exact tabIs_of_head (P := Tryd.prog) (g := 0) (n := 20) (by kernel_rfl) (by kernel_rfl) Tryd.underlying52 Tryd.underlying45 (by kernel_rfl) (by kernel_rfl) h2
/-- Both texts of (x, y) are t. -/
def Texts (x y : Int) (t : ByteArray) : Prop :=
  (∀ w, Calls Tryd.prog 5 #[.agg #[.int .i64 x, .int .i64 y]] w fun e w' => e = .returned (.string t) ∧ Below w.heap.size w w') ∧
  (∀ w, Tab w → Calls Tryd.prog 7 #[.agg #[.int .i64 x, .int .i64 y]] w fun e w' => e = .returned (.string t) ∧ Below w.heap.size w w')
theorem texts_yes {x y : Int} (h : -1000000000 ≤ x ∧ x ≤ 1000000000 ∧ -1000000000 ≤ y ∧ y ≤ 1000000000) : Texts x y ⟨(gText x y).toArray⟩ :=
  ⟨fun w => sText_yes x y w h, fun w ht => text_yes x y w h ht⟩
theorem texts_no {x y : Int} (h : ¬ (-1000000000 ≤ x ∧ x ≤ 1000000000 ∧ -1000000000 ≤ y ∧ y ≤ 1000000000)) : Texts x y ⟨#[]⟩ :=
  ⟨fun w => sText_no x y w (by omega), fun w _ => text_no x y w (by omega)⟩
theorem texts_ex (x y : Int) : ∃ t, Texts x y t := by
  by_cases h : -1000000000 ≤ x ∧ x ≤ 1000000000 ∧ -1000000000 ≤ y ∧ y ≤ 1000000000
  · exact ⟨_, texts_yes h⟩
  · exact ⟨_, texts_no h⟩
theorem bytes_inj {a b : List UInt8} (h : (⟨a.toArray⟩ : ByteArray) = ⟨b.toArray⟩) : a = b := by
  have := congrArg (fun s : ByteArray => s.data.toList) h
  simpa using this
theorem near_texts {x y : Int} (h : -1000000000 ≤ x ∧ x ≤ 1000000000 ∧ -1000000000 ≤ y ∧ y ≤ 1000000000) :
    ∃ t tx ty : ByteArray, Texts x y t ∧ Texts (x + 1) y tx ∧ Texts x (y + 1) ty ∧ tx ≠ t ∧ ty ≠ t ∧ 4 ≤ t.size ∧ t.size ≤ 50 ∧ t.data.toList[t.size - 1]? = some 105 := by
  have hl := gText_length x y
  have hne : (⟨#[]⟩ : ByteArray) ≠ ⟨(gText x y).toArray⟩ := fun e => by
    have := congrArg ByteArray.size e
    rw [str_size] at this
    simp [ByteArray.size] at this
    omega
  have hx : ∃ tx, Texts (x + 1) y tx ∧ tx ≠ ⟨(gText x y).toArray⟩ := by
    by_cases h1 : -1000000000 ≤ x + 1 ∧ x + 1 ≤ 1000000000 ∧ -1000000000 ≤ y ∧ y ≤ 1000000000
    · exact ⟨_, texts_yes h1, fun e => gText_re x y (bytes_inj e)⟩
    · exact ⟨_, texts_no h1, hne⟩
  have hy : ∃ ty, Texts x (y + 1) ty ∧ ty ≠ ⟨(gText x y).toArray⟩ := by
    by_cases h1 : -1000000000 ≤ x ∧ x ≤ 1000000000 ∧ -1000000000 ≤ y + 1 ∧ y + 1 ≤ 1000000000
    · exact ⟨_, texts_yes h1, fun e => gText_im x y (bytes_inj e)⟩
    · exact ⟨_, texts_no h1, hne⟩
  obtain ⟨tx, hx1, hx2⟩ := hx
  obtain ⟨ty, hy1, hy2⟩ := hy
  refine ⟨_, tx, ty, texts_yes h, hx1, hy1, hx2, hy2, ?_, ?_, ?_⟩
  · rw [str_size]; exact hl
  · rw [str_size]; exact gText_bound x y ⟨h.1, h.2.1⟩ h.2.2
  · rw [str_size]; simpa using gText_last x y
theorem idx_last (t : ByteArray) (h : 4 ≤ t.size) (hl : t.data.toList[t.size - 1]? = some 105) (w : World) :
    (Instr.index 9 (.string t) (.int .i64 ((t.size : Int) - 1))).run Tryd.prog w = .ok (.int .u8 105) w := by
  rw [run_index_string w 9 t .i64 _ Tryd.underlying9, dif_pos ⟨by omega, by omega⟩]
  have e : ((t.size : Int) - 1).toNat = t.size - 1 := by omega
  simp only [e]
  rw [getD_at t (t.size - 1) (by omega), List.getD, hl]
  rfl
theorem list_ne {a b : ByteArray} (h : a ≠ b) : ¬ a.toList = b.toList := fun e => h (by
  rw [ByteArray.toList_eq, ByteArray.toList_eq] at e
  exact Go.WideShapes.bytes_inj e)
theorem text_ne {t : ByteArray} (h : 4 ≤ t.size) : t.toList.isEmpty = false := by
  rw [ByteArray.toList_eq]
  cases e : t.data.toList with
  | nil =>
    have : t.data.toList.length = 0 := by rw [e]; rfl
    have h2 : t.data.toList.length = t.size := Array.length_toList
    omega
  | cons a r => rfl
end Go.Proofs.YtafflgjngjmgiaaDoor
