/- Contracts of the two texts of a Gaussian integer. -/
import Derived.Test.YtafflgjngjmgiaaDoorTc
import Derived.Test.YtafflgjngjmgiaaDoorGh
import Derived.Lib.ItoaMem
import Derived.Deep.QuietTactic
import Derived.Deep.RegionLaw
import Derived.BigQuiet
import Derived.IntWalk
import Derived.Outline
namespace Go.Proofs.YtafflgjngjmgiaaDoor
open Go.RowKit Go.Lib
theorem dec_any (n : Int) (w : World) (h : -9223372036854775807 ≤ n ∧ n ≤ 9223372036854775807) :
    Calls Tryd.prog 11 #[.int .i64 n] w fun e w' => e = .returned (.string ⟨(itoa n).toArray⟩) ∧ Below w.heap.size w w' := by
  by_cases h0 : 0 ≤ n
  · obtain ⟨u, rfl⟩ : ∃ u : Nat, n = u := ⟨n.toNat, by omega⟩
    rw [itoa_nonneg]
    exact dec_nat u (by omega) w
  · obtain ⟨u, rfl⟩ : ∃ u : Nat, n = -(u : Int) := ⟨n.natAbs, by omega⟩
    have hu : 1 ≤ u := by omega
    have hu2 : u ≤ 9223372036854775807 := by omega
    obtain ⟨r, hr⟩ : ∃ r : ByteArray, r = ⟨(decDigits u).toArray⟩ := ⟨_, rfl⟩
    have HC : Hid (∀ w, Calls Tryd.prog 11 #[.int .i64 (u : Int)] w fun e w' => e = .returned (.string r) ∧ Below w.heap.size w w') := Lib.hid fun w => by rw [hr]; exact dec_nat u hu2 w
    have hlen : ¬ 9223372036854775807 < 1 + r.size := by
      have h1 : r.size = (decDigits u).length := by rw [hr]; simp [ByteArray.size]
      have h3 := decDigits_length u
      have h4 := nDigits_le20 u (by omega)
      omega
    have HE : Hid ((⟨#[45]⟩ : ByteArray) ++ r = ⟨(itoa (-(u : Int))).toArray⟩) := Lib.hid (by rw [hr, itoa_neg u hu]; exact bytes_append [45] (decDigits u))
    have e1 : IntKind.i64.wrap (u : Int) = (u : Int) := IntWalk.i64_in _ ⟨by omega, by omega⟩
    clear hr h
    go_enter Tryd.func11, Tryd.ntmps11
    go_wp2_with (go_at_call 11; refine (HC.out _).mono ?_; rintro e w' ⟨rfl, hb⟩)
    go_ret
    refine ⟨ret_str ?_, by assumption⟩
    exact HE.out
theorem b2_drew {w : World} {n : Nat} {x y : Value} (h : B2 w n x y) : B2 w.drew n x y := h
theorem str_size (l : List UInt8) : (⟨l.toArray⟩ : ByteArray).size = l.length := by simp [ByteArray.size]
theorem itoa_size (n : Int) (h : -9223372036854775808 ≤ n ∧ n ≤ 9223372036854775807) : (⟨(itoa n).toArray⟩ : ByteArray).size ≤ 21 := by rw [str_size]; exact itoa_length_le n h.1 h.2
theorem text_eq (x y : Int) : (((⟨(itoa x).toArray⟩ : ByteArray) ++ ⟨(if y < 0 then [45] else [43]).toArray⟩) ++ ⟨(itoa (y.natAbs : Int)).toArray⟩) ++ ⟨[105].toArray⟩ = ⟨(gText x y).toArray⟩ := by
  rw [bytes_append, bytes_append, bytes_append]
  unfold gText
  simp only [List.append_assoc]
set_option maxRecDepth 100000 in
set_option maxHeartbeats 1000000 in
theorem sText_yes (x y : Int) (w : World) (h : -1000000000 ≤ x ∧ x ≤ 1000000000 ∧ -1000000000 ≤ y ∧ y ≤ 1000000000) :
    Calls Tryd.prog 5 #[.agg #[.int .i64 x, .int .i64 y]] w fun e w' => e = .returned (.string ⟨(gText x y).toArray⟩) ∧ Below w.heap.size w w' := by
  obtain ⟨h1, h2, h3, h4⟩ := h
  obtain ⟨a, ha⟩ : ∃ a : ByteArray, a = ⟨(itoa x).toArray⟩ := ⟨_, rfl⟩
  obtain ⟨b, hb⟩ : ∃ b : ByteArray, b = ⟨(itoa (y.natAbs : Int)).toArray⟩ := ⟨_, rfl⟩
  have sa : a.size ≤ 21 := by rw [ha]; exact itoa_size x (by omega)
  have sb : b.size ≤ 21 := by rw [hb]; exact itoa_size _ (by omega)
  have HX : Hid (∀ w, Calls Tryd.prog 11 #[.int .i64 x] w fun e w' => e = .returned (.string a) ∧ Below w.heap.size w w') := Lib.hid fun w => by rw [ha]; exact dec_any x w (by omega)
  have l1 : ¬ 9223372036854775807 < a.size + 1 := by omega
  have l2 : ¬ 9223372036854775807 < a.size + 1 + b.size := by omega
  have l3 : ¬ 9223372036854775807 < a.size + 1 + b.size + 1 := by omega
  by_cases hy : y < 0
  · have HY : Hid (∀ w, Calls Tryd.prog 11 #[.int .i64 (-y)] w fun e w' => e = .returned (.string b) ∧ Below w.heap.size w w') := Lib.hid fun w => by
      have e : -y = (y.natAbs : Int) := by omega
      rw [hb, e]; exact dec_any _ w (by omega)
    have HE : Hid (((a ++ ⟨#[45]⟩) ++ b) ++ ⟨#[105]⟩ = ⟨(gText x y).toArray⟩) := Lib.hid (by rw [← text_eq, if_pos hy, ha, hb])
    have e1 : IntKind.i64.wrap (-y) = -y := IntWalk.i64_in _ ⟨by omega, by omega⟩
    clear ha hb sa sb
    go_enter Tryd.func5, Tryd.ntmps5
    go_wp2_with (go_at_call 10; refine (sValid_yes _ _ _ ⟨h1, h2, h3, h4⟩).mono ?_; rintro e w1 ⟨rfl, hq⟩; have hB := B2.below (B2.new _ _ _ _) hq; have HB2 := Below.drew (kept_trans (kept_alloc (kept_refl _) _) hq); clear hq; have c0 := hB.1; have c1 := hB.2; have hB2 := b2_drew hB; clear hB)
    go_region_law (go_simp; go_at_call 11; (first | (with_reducible refine (HX.out _).mono ?_) | (with_reducible refine (HY.out _).mono ?_)); rintro e w' ⟨rfl, hq⟩; have q := B2.below hB2 hq; have qq := kept_trans HB2 hq; clear hB2 HB2 hq; have hB2 := q; have HB2 := qq; obtain ⟨c0, c1⟩ := q; clear qq)
    all_goals go_wp2_with fail
    all_goals go_ret
    all_goals refine ⟨ret_str ?_, HB2⟩
    all_goals exact HE.out
  · have HY : Hid (∀ w, Calls Tryd.prog 11 #[.int .i64 y] w fun e w' => e = .returned (.string b) ∧ Below w.heap.size w w') := Lib.hid fun w => by
      rw [hb, show (y.natAbs : Int) = y from by omega]; exact dec_any _ w (by omega)
    have HE : Hid (((a ++ ⟨#[43]⟩) ++ b) ++ ⟨#[105]⟩ = ⟨(gText x y).toArray⟩) := Lib.hid (by rw [← text_eq, if_neg hy, ha, hb])
    clear ha hb sa sb
    go_enter Tryd.func5, Tryd.ntmps5
    go_wp2_with (go_at_call 10; refine (sValid_yes _ _ _ ⟨h1, h2, h3, h4⟩).mono ?_; rintro e w1 ⟨rfl, hq⟩; have hB := B2.below (B2.new _ _ _ _) hq; have HB2 := Below.drew (kept_trans (kept_alloc (kept_refl _) _) hq); clear hq; have c0 := hB.1; have c1 := hB.2; have hB2 := b2_drew hB; clear hB)
    go_region_law (go_simp; go_at_call 11; (first | (with_reducible refine (HX.out _).mono ?_) | (with_reducible refine (HY.out _).mono ?_)); rintro e w' ⟨rfl, hq⟩; have q := B2.below hB2 hq; have qq := kept_trans HB2 hq; clear hB2 HB2 hq; have hB2 := q; have HB2 := qq; obtain ⟨c0, c1⟩ := q; clear qq)
    all_goals go_wp2_with fail
    all_goals go_ret
    all_goals refine ⟨ret_str ?_, HB2⟩
    all_goals exact HE.out
set_option maxRecDepth 100000 in
theorem sText_no (x y : Int) (w : World) (h : (x < -1000000000 ∨ 1000000000 < x) ∨ (y < -1000000000 ∨ 1000000000 < y)) :
    Calls Tryd.prog 5 #[.agg #[.int .i64 x, .int .i64 y]] w fun e w' => e = .returned (.string ⟨#[]⟩) ∧ Below w.heap.size w w' := by
  have H := Lib.hid h
  clear h
  go_enter Tryd.func5, Tryd.ntmps5
  go_wp2_with (go_at_call 10; refine (sValid_no _ _ _ H.out).mono ?_; rintro e w1 ⟨rfl, hq⟩; have HB2 := kept_trans (kept_alloc (kept_refl _) _) hq; clear hq)
  go_ret
  exact ⟨rfl, HB2⟩
set_option maxRecDepth 100000 in
theorem text_no (x y : Int) (w : World) (h : (x < -1000000000 ∨ 1000000000 < x) ∨ (y < -1000000000 ∨ 1000000000 < y)) :
    Calls Tryd.prog 7 #[.agg #[.int .i64 x, .int .i64 y]] w fun e w' => e = .returned (.string ⟨#[]⟩) ∧ Below w.heap.size w w' := by
  have H := Lib.hid h
  clear h
  go_enter Tryd.func7, Tryd.ntmps7
  go_wp2_with (go_at_call 12; refine (valid_no _ _ _ H.out).mono ?_; rintro e w1 ⟨rfl, hq⟩; have HB2 := kept_trans (kept_alloc (kept_refl _) _) hq; clear hq)
  go_ret
  exact ⟨rfl, HB2⟩
set_option maxRecDepth 100000 in
set_option maxHeartbeats 1000000 in
theorem text_yes (x y : Int) (w : World) (h : -1000000000 ≤ x ∧ x ≤ 1000000000 ∧ -1000000000 ≤ y ∧ y ≤ 1000000000) (ht : Tab w) :
    Calls Tryd.prog 7 #[.agg #[.int .i64 x, .int .i64 y]] w fun e w' => e = .returned (.string ⟨(gText x y).toArray⟩) ∧ Below w.heap.size w w' := by
  obtain ⟨h1, h2, h3, h4⟩ := h
  have HT := Lib.hid ht
  clear ht
  obtain ⟨a, ha⟩ : ∃ a : ByteArray, a = ⟨(itoa x).toArray⟩ := ⟨_, rfl⟩
  obtain ⟨b, hb⟩ : ∃ b : ByteArray, b = ⟨(itoa (y.natAbs : Int)).toArray⟩ := ⟨_, rfl⟩
  have sa : a.size ≤ 21 := by rw [ha]; exact itoa_size x (by omega)
  have sb : b.size ≤ 21 := by rw [hb]; exact itoa_size _ (by omega)
  have HX : Hid (∀ w, Tab w → Calls Tryd.prog 13 #[.int .i64 x] w fun e w' => e = .returned (.string a) ∧ Below w.heap.size w w') := Lib.hid fun w ht => by rw [ha]; exact itoa_any x w (by omega) ht
  have l1 : ¬ 9223372036854775807 < a.size + 1 := by omega
  have l2 : ¬ 9223372036854775807 < a.size + 1 + b.size := by omega
  have l3 : ¬ 9223372036854775807 < a.size + 1 + b.size + 1 := by omega
  by_cases hy : y < 0
  · have HY : Hid (∀ w, Tab w → Calls Tryd.prog 13 #[.int .i64 (-y)] w fun e w' => e = .returned (.string b) ∧ Below w.heap.size w w') := Lib.hid fun w ht => by
      have e : -y = (y.natAbs : Int) := by omega
      rw [hb, e]; exact itoa_any _ w (by omega) ht
    have HE : Hid (((a ++ ⟨#[45]⟩) ++ b) ++ ⟨#[105]⟩ = ⟨(gText x y).toArray⟩) := Lib.hid (by rw [← text_eq, if_pos hy, ha, hb])
    have e1 : IntKind.i64.wrap (-y) = -y := IntWalk.i64_in _ ⟨by omega, by omega⟩
    clear ha hb sa sb
    go_enter Tryd.func7, Tryd.ntmps7
    go_wp2_with (go_at_call 12; refine (valid_yes _ _ _ ⟨h1, h2, h3, h4⟩).mono ?_; rintro e w1 ⟨rfl, hq⟩; have hB := B2.below (B2.new _ _ _ _) hq; have HB2 := Below.drew (kept_trans (kept_alloc (kept_refl _) _) hq); clear hq; have c0 := hB.1; have c1 := hB.2; have hB2 := b2_drew hB; clear hB)
    go_region
    all_goals go_wp2_with (go_at_call 13; (first | (with_reducible refine (HX.out _ (HT.out.keep HB2)).mono ?_) | (with_reducible refine (HY.out _ (HT.out.keep HB2)).mono ?_)); rintro e w' ⟨rfl, hq⟩; have q := B2.below hB2 hq; have qq := kept_trans HB2 hq; clear hB2 HB2 hq; have hB2 := q; have HB2 := qq; obtain ⟨c0, c1⟩ := q; clear qq)
    all_goals go_ret
    all_goals refine ⟨ret_str ?_, HB2⟩
    all_goals exact HE.out
  · have HY : Hid (∀ w, Tab w → Calls Tryd.prog 13 #[.int .i64 y] w fun e w' => e = .returned (.string b) ∧ Below w.heap.size w w') := Lib.hid fun w ht => by
      rw [hb, show (y.natAbs : Int) = y from by omega]; exact itoa_any _ w (by omega) ht
    have HE : Hid (((a ++ ⟨#[43]⟩) ++ b) ++ ⟨#[105]⟩ = ⟨(gText x y).toArray⟩) := Lib.hid (by rw [← text_eq, if_neg hy, ha, hb])
    clear ha hb sa sb
    go_enter Tryd.func7, Tryd.ntmps7
    go_wp2_with (go_at_call 12; refine (valid_yes _ _ _ ⟨h1, h2, h3, h4⟩).mono ?_; rintro e w1 ⟨rfl, hq⟩; have hB := B2.below (B2.new _ _ _ _) hq; have HB2 := Below.drew (kept_trans (kept_alloc (kept_refl _) _) hq); clear hq; have c0 := hB.1; have c1 := hB.2; have hB2 := b2_drew hB; clear hB)
    go_region
    all_goals go_wp2_with (go_at_call 13; (first | (with_reducible refine (HX.out _ (HT.out.keep HB2)).mono ?_) | (with_reducible refine (HY.out _ (HT.out.keep HB2)).mono ?_)); rintro e w' ⟨rfl, hq⟩; have q := B2.below hB2 hq; have qq := kept_trans HB2 hq; clear hB2 HB2 hq; have hB2 := q; have HB2 := qq; obtain ⟨c0, c1⟩ := q; clear qq)
    all_goals go_ret
    all_goals refine ⟨ret_str ?_, HB2⟩
    all_goals exact HE.out
end Go.Proofs.YtafflgjngjmgiaaDoor