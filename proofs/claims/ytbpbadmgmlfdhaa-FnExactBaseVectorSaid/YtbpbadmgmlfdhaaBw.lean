/- The contract of BaseVector in the reference. -/
import Derived.Test.YtbpbadmgmlfdhaaBv
import Derived.Deep.RegionHeld3
import Derived.Deep.DrawnRows
import Derived.IntWalk
namespace Go.Proofs.Ytbpbadmgmlfdhaa
open Go.RowKit
set_option linter.unusedVariables false
set_option linter.unusedSimpArgs false
attribute [local go_sem ↓] Go.wp_at_zero Go.wp_at_succ
set_option maxRecDepth 100000 in
set_option maxHeartbeats 2000000 in
theorem sBv_yes (a : Option Addr) (n c : Nat) (X Y : Nat → Int) (i j : Nat) (w : World) (h : Ants w a n X Y) (hc : n ≤ c) (hcm : c ≤ maxLen) (hg : Arr X Y n) (hi : i < n) (hj : j < n) :
    Calls Try.prog 12 #[.slice a n c, .int .i64 i, .int .i64 j] w fun e w' => e = .returned (.tuple #[.agg #[.int .i64 (X j - X i), .int .i64 (Y j - Y i)], .bool true]) ∧ Below w.heap.size w w' := by
  have HI := Lib.hid (h.keep (kept_alloc (kept_refl w) (.cells #[.int .i64 0, .int .i64 0] 30)))
  have HG := Lib.hid hg
  have hn := hg.1
  obtain ⟨hn0, hn1⟩ := hn
  have HPI := Lib.hid (hg.pl hi)
  have HPJ := Lib.hid (hg.pl hj)
  obtain ⟨b1, o1, ha1, hlt, c1, c2⟩ := h.at hi
  obtain ⟨b2, o2, ha, _, d1, d2⟩ := h.at hj
  subst ha1
  simp only [Option.some.injEq, Addr.mk.injEq, and_true] at ha
  obtain ⟨rfl, rfl⟩ := ha
  obtain ⟨p1, p2, p3, p4⟩ := HPI.out
  obtain ⟨r1, r2, r3, r4⟩ := HPJ.out
  have e1 : (0 : Int) ≤ (i : Int) := by omega
  have e2 : (i : Int) < (n : Int) := by omega
  have e3 : (0 : Int) ≤ (j : Int) := by omega
  have e4 : (j : Int) < (n : Int) := by omega
  have e5 : IntKind.i64.wrap (X j - X i) = X j - X i := IntWalk.i64_in _ ⟨by omega, by omega⟩
  have e6 : IntKind.i64.wrap (Y j - Y i) = Y j - Y i := IntWalk.i64_in _ ⟨by omega, by omega⟩
  have E := Lib.hid (And.intro e5 e6)
  have HS := Lib.hid (And.intro c1 (And.intro c2 (And.intro d1 (And.intro d2 (kept_refl w)))))
  have hne : ¬ b1 = w.heap.size := by omega
  clear h hg e5 e6 c1 c2 d1 d2
  go_enter Try.func12, Try.ntmps12
  go_wp2_with (first | (go_at_call 8; refine (sArr_yes _ _ _ X Y _ HI.out HG.out).mono ?_; rintro e w1 ⟨rfl, hb1⟩; have k0 := (hb1.cell (p := ⟨w.heap.size, 0, none⟩) (by simp)).trans (show (w.alloc (.cells #[.int .i64 0, .int .i64 0] 30)).cell? ⟨w.heap.size, 0, none⟩ = some (.int .i64 0) by simp); have k1 := (hb1.cell (p := ⟨w.heap.size, 1, none⟩) (by simp)).trans (show (w.alloc (.cells #[.int .i64 0, .int .i64 0] 30)).cell? ⟨w.heap.size, 1, none⟩ = some (.int .i64 0) by simp); have g0 := (hb1.frozen (p := ⟨w.heap.size, 0, none⟩) (by simp)).trans (show (w.alloc (.cells #[.int .i64 0, .int .i64 0] 30)).frozen? ⟨w.heap.size, 0, none⟩ = false by simp); have g1 := (hb1.frozen (p := ⟨w.heap.size, 1, none⟩) (by simp)).trans (show (w.alloc (.cells #[.int .i64 0, .int .i64 0] 30)).frozen? ⟨w.heap.size, 1, none⟩ = false by simp); have HI1 := Lib.hid (HI.out.keep hb1); have K1 := Lib.hid (kept_trans (kept_alloc (kept_refl w) (.cells #[.int .i64 0, .int .i64 0] 30)) hb1); have HB1 := Lib.hid hb1; clear hb1) | (first | (go_at_call 17; first | (refine (l6In_yes _ _ _ _ (by omega)).mono ?_; rintro e w' ⟨rfl, rfl⟩) | (refine (l6In_no _ _ _ _ (by omega)).mono ?_; rintro e w' ⟨rfl, rfl⟩))))
  obtain ⟨e5, e6⟩ := E.out
  go_region_held3 (fun W => W.cell? ⟨b1, o1 + i * 2, none⟩ = some (.int .i64 (X i)) ∧ W.cell? ⟨b1, o1 + i * 2 + 1, none⟩ = some (.int .i64 (Y i)) ∧ W.cell? ⟨b1, o1 + j * 2, none⟩ = some (.int .i64 (X j)) ∧ W.cell? ⟨b1, o1 + j * 2 + 1, none⟩ = some (.int .i64 (Y j)) ∧ Below w.heap.size w W) (first | assumption | (refine quad_keep HS.out ?_; first | exact K1.out.drew | exact ((K1.out.setCell (Nat.le_refl _) _).setCell (Nat.le_refl _) _).drew)) (fail)
  all_goals go_wp2
  all_goals exact bodyPost_ret (v := .tuple #[.agg #[.int .i64 (X j - X i), .int .i64 (Y j - Y i)], .bool true]) (by simp (maxDischargeDepth := 9) [results, Try.results12, go_sem, k0, k1]) rfl ⟨rfl, ((K1.out.setCell (Nat.le_refl _) _).setCell (Nat.le_refl _) _).drew⟩
set_option maxHeartbeats 2000000 in
theorem sBv_no (a : Option Addr) (n c : Nat) (X Y : Nat → Int) (i j : Int) (w : World) (h : Ants w a n X Y) (hc : n ≤ c) (hcm : c ≤ maxLen) (hn : n ≤ 1048576) (hno : ¬ (Arr X Y n ∧ (0 ≤ i ∧ i < n) ∧ (0 ≤ j ∧ j < n))) :
    Calls Try.prog 12 #[.slice a n c, .int .i64 i, .int .i64 j] w fun e w' => e = .returned (.tuple #[.agg #[.int .i64 0, .int .i64 0], .bool false]) ∧ Below w.heap.size w w' := by
  have HI := Lib.hid (h.keep (kept_alloc (kept_refl w) (.cells #[.int .i64 0, .int .i64 0] 30)))
  clear h
  by_cases hg : Arr X Y n
  · have HG := Lib.hid hg
    have hN2 : 2 ≤ n := hg.1.1
    by_cases hi : 0 ≤ i ∧ i < n
    · have hj : ¬ (0 ≤ j ∧ j < n) := fun h => hno ⟨hg, hi, h⟩
      clear hg hno
      obtain ⟨i0, i1⟩ := hi
      go_enter Try.func12, Try.ntmps12
      go_wp2_with (first | (go_at_call 8; refine (sArr_yes _ _ _ X Y _ HI.out HG.out).mono ?_; rintro e w1 ⟨rfl, hb1⟩; have k0 := (hb1.cell (p := ⟨w.heap.size, 0, none⟩) (by simp)).trans (show (w.alloc (.cells #[.int .i64 0, .int .i64 0] 30)).cell? ⟨w.heap.size, 0, none⟩ = some (.int .i64 0) by simp); have k1 := (hb1.cell (p := ⟨w.heap.size, 1, none⟩) (by simp)).trans (show (w.alloc (.cells #[.int .i64 0, .int .i64 0] 30)).cell? ⟨w.heap.size, 1, none⟩ = some (.int .i64 0) by simp); have g0 := (hb1.frozen (p := ⟨w.heap.size, 0, none⟩) (by simp)).trans (show (w.alloc (.cells #[.int .i64 0, .int .i64 0] 30)).frozen? ⟨w.heap.size, 0, none⟩ = false by simp); have g1 := (hb1.frozen (p := ⟨w.heap.size, 1, none⟩) (by simp)).trans (show (w.alloc (.cells #[.int .i64 0, .int .i64 0] 30)).frozen? ⟨w.heap.size, 1, none⟩ = false by simp); have HI1 := Lib.hid (HI.out.keep hb1); have K1 := Lib.hid (kept_trans (kept_alloc (kept_refl w) (.cells #[.int .i64 0, .int .i64 0] 30)) hb1); have HB1 := Lib.hid hb1; clear hb1) | (first | (go_at_call 17; first | (refine (l6In_yes _ _ _ _ (by omega)).mono ?_; rintro e w' ⟨rfl, rfl⟩) | (refine (l6In_no _ _ _ _ (by omega)).mono ?_; rintro e w' ⟨rfl, rfl⟩))))
      exact bodyPost_ret (v := .tuple #[.agg #[.int .i64 0, .int .i64 0], .bool false]) (by simp (maxDischargeDepth := 9) [results, Try.results12, go_sem, k0, k1]) rfl ⟨rfl, by first | exact (K1.out.setCell (Nat.le_refl _) _).setCell (Nat.le_refl _) _ | exact ((K1.out.setCell (Nat.le_refl _) _).setCell (Nat.le_refl _) _).drew⟩
    · clear hg hno
      go_enter Try.func12, Try.ntmps12
      go_wp2_with (first | (go_at_call 8; refine (sArr_yes _ _ _ X Y _ HI.out HG.out).mono ?_; rintro e w1 ⟨rfl, hb1⟩; have k0 := (hb1.cell (p := ⟨w.heap.size, 0, none⟩) (by simp)).trans (show (w.alloc (.cells #[.int .i64 0, .int .i64 0] 30)).cell? ⟨w.heap.size, 0, none⟩ = some (.int .i64 0) by simp); have k1 := (hb1.cell (p := ⟨w.heap.size, 1, none⟩) (by simp)).trans (show (w.alloc (.cells #[.int .i64 0, .int .i64 0] 30)).cell? ⟨w.heap.size, 1, none⟩ = some (.int .i64 0) by simp); have g0 := (hb1.frozen (p := ⟨w.heap.size, 0, none⟩) (by simp)).trans (show (w.alloc (.cells #[.int .i64 0, .int .i64 0] 30)).frozen? ⟨w.heap.size, 0, none⟩ = false by simp); have g1 := (hb1.frozen (p := ⟨w.heap.size, 1, none⟩) (by simp)).trans (show (w.alloc (.cells #[.int .i64 0, .int .i64 0] 30)).frozen? ⟨w.heap.size, 1, none⟩ = false by simp); have HI1 := Lib.hid (HI.out.keep hb1); have K1 := Lib.hid (kept_trans (kept_alloc (kept_refl w) (.cells #[.int .i64 0, .int .i64 0] 30)) hb1); have HB1 := Lib.hid hb1; clear hb1) | (first | (go_at_call 17; first | (refine (l6In_yes _ _ _ _ (by omega)).mono ?_; rintro e w' ⟨rfl, rfl⟩) | (refine (l6In_no _ _ _ _ (by omega)).mono ?_; rintro e w' ⟨rfl, rfl⟩))))
      exact bodyPost_ret (v := .tuple #[.agg #[.int .i64 0, .int .i64 0], .bool false]) (by simp (maxDischargeDepth := 9) [results, Try.results12, go_sem, k0, k1]) rfl ⟨rfl, by first | exact (K1.out.setCell (Nat.le_refl _) _).setCell (Nat.le_refl _) _ | exact ((K1.out.setCell (Nat.le_refl _) _).setCell (Nat.le_refl _) _).drew⟩
  · have HG := Lib.hid hg
    clear hg hno
    go_enter Try.func12, Try.ntmps12
    go_wp2_with (first | (go_at_call 8; refine (sArr_no _ _ _ X Y _ HI.out (by omega) HG.out).mono ?_; rintro e w1 ⟨rfl, hb1⟩; have k0 := (hb1.cell (p := ⟨w.heap.size, 0, none⟩) (by simp)).trans (show (w.alloc (.cells #[.int .i64 0, .int .i64 0] 30)).cell? ⟨w.heap.size, 0, none⟩ = some (.int .i64 0) by simp); have k1 := (hb1.cell (p := ⟨w.heap.size, 1, none⟩) (by simp)).trans (show (w.alloc (.cells #[.int .i64 0, .int .i64 0] 30)).cell? ⟨w.heap.size, 1, none⟩ = some (.int .i64 0) by simp); have g0 := (hb1.frozen (p := ⟨w.heap.size, 0, none⟩) (by simp)).trans (show (w.alloc (.cells #[.int .i64 0, .int .i64 0] 30)).frozen? ⟨w.heap.size, 0, none⟩ = false by simp); have g1 := (hb1.frozen (p := ⟨w.heap.size, 1, none⟩) (by simp)).trans (show (w.alloc (.cells #[.int .i64 0, .int .i64 0] 30)).frozen? ⟨w.heap.size, 1, none⟩ = false by simp); have HI1 := Lib.hid (HI.out.keep hb1); have K1 := Lib.hid (kept_trans (kept_alloc (kept_refl w) (.cells #[.int .i64 0, .int .i64 0] 30)) hb1); have HB1 := Lib.hid hb1; clear hb1) | (first | (go_at_call 17; first | (refine (l6In_yes _ _ _ _ (by omega)).mono ?_; rintro e w' ⟨rfl, rfl⟩) | (refine (l6In_no _ _ _ _ (by omega)).mono ?_; rintro e w' ⟨rfl, rfl⟩))))
    exact bodyPost_ret (v := .tuple #[.agg #[.int .i64 0, .int .i64 0], .bool false]) (by simp (maxDischargeDepth := 9) [results, Try.results12, go_sem, k0, k1]) rfl ⟨rfl, by first | exact (K1.out.setCell (Nat.le_refl _) _).setCell (Nat.le_refl _) _ | exact ((K1.out.setCell (Nat.le_refl _) _).setCell (Nat.le_refl _) _).drew⟩
end Go.Proofs.Ytbpbadmgmlfdhaa
