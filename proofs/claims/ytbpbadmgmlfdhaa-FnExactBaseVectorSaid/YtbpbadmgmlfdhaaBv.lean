/- Contracts of BaseVector in the program and in the reference. -/
import Derived.Test.YtbpbadmgmlfdhaaAo
import Derived.Test.YtbpbadmgmlfdhaaAp
import Derived.Deep.RegionHeld3
import Derived.Deep.DrawnRows
import Derived.IntWalk
namespace Go.Proofs.Ytbpbadmgmlfdhaa
open Go.RowKit
set_option linter.unusedVariables false
set_option linter.unusedSimpArgs false
attribute [local go_sem ↓] Go.wp_at_zero Go.wp_at_succ
theorem Arr.pl {X Y : Nat → Int} {n i : Nat} (h : Arr X Y n) (hi : i < n) : Pl (X i) (Y i) := (h.2 i hi).1
set_option maxHeartbeats 2000000 in
theorem vector_any (a : Option Addr) (n c : Nat) (X Y : Nat → Int) (i j : Nat) (w : World) (h : Ants w a n X Y) (hn : n ≤ 7) (hi : i < n) (hj : j < n) (pi : Pl (X i) (Y i)) (pj : Pl (X j) (Y j)) :
    Calls Try.prog 22 #[.slice a n c, .int .i64 i, .int .i64 j] w fun e w' => e = .returned (.agg #[.int .i64 (X j - X i), .int .i64 (Y j - Y i)]) ∧ Below w.heap.size w w' := by
  obtain ⟨b1, o1, rfl, hlt, c1, c2⟩ := h.at hi
  obtain ⟨b2, o2, ha, _, d1, d2⟩ := h.at hj
  simp only [Option.some.injEq, Addr.mk.injEq, and_true] at ha
  obtain ⟨rfl, rfl⟩ := ha
  obtain ⟨p1, p2, p3, p4⟩ := pi
  obtain ⟨r1, r2, r3, r4⟩ := pj
  have e1 : (0 : Int) ≤ (i : Int) := by omega
  have e2 : (i : Int) < (n : Int) := by omega
  have e3 : (0 : Int) ≤ (j : Int) := by omega
  have e4 : (j : Int) < (n : Int) := by omega
  have e5 : IntKind.i64.wrap (X j - X i) = X j - X i := IntWalk.i64_in _ ⟨by omega, by omega⟩
  have e6 : IntKind.i64.wrap (Y j - Y i) = Y j - Y i := IntWalk.i64_in _ ⟨by omega, by omega⟩
  have HS := Lib.hid (And.intro c1 (And.intro c2 (And.intro d1 (And.intro d2 (kept_refl w)))))
  have hne : ¬ b1 = w.heap.size := by omega
  clear h
  go_enter Try.func22, Try.ntmps22
  go_wp2
  go_region_held3 (fun W => W.cell? ⟨b1, o1 + i * 2, none⟩ = some (.int .i64 (X i)) ∧ W.cell? ⟨b1, o1 + i * 2 + 1, none⟩ = some (.int .i64 (Y i)) ∧ W.cell? ⟨b1, o1 + j * 2, none⟩ = some (.int .i64 (X j)) ∧ W.cell? ⟨b1, o1 + j * 2 + 1, none⟩ = some (.int .i64 (Y j)) ∧ Below w.heap.size w W) (first | assumption | (refine quad_keep HS.out ?_; (repeat (first | exact kept_refl _ | refine Below.drew ?_ | refine kept_alloc ?_ _ | (refine Below.setCell ?_ (Nat.le_refl w.heap.size) _))); done)) (fail)
  all_goals go_wp2
  all_goals exact bodyPost_ret (v := .agg #[.int .i64 (X j - X i), .int .i64 (Y j - Y i)]) (by simp (maxDischargeDepth := 9) [results, Try.results22, go_sem]) rfl ⟨rfl, Below.drew (kept_alloc (kept_refl _) _)⟩
set_option maxHeartbeats 2000000 in
theorem bv_yes (a : Option Addr) (n c : Nat) (X Y : Nat → Int) (i j : Nat) (w : World) (h : Ants w a n X Y) (hc : n ≤ c) (hcm : c ≤ maxLen) (hg : Arr X Y n) (hi : i < n) (hj : j < n) :
    Calls Try.prog 13 #[.slice a n c, .int .i64 i, .int .i64 j] w fun e w' => e = .returned (.tuple #[.agg #[.int .i64 (X j - X i), .int .i64 (Y j - Y i)], .bool true]) ∧ Below w.heap.size w w' := by
  have HI := Lib.hid (h.keep (kept_alloc (kept_refl w) (.cells #[.int .i64 0, .int .i64 0] 30)))
  have HG := Lib.hid hg
  have hn := hg.1
  obtain ⟨hn0, hn1⟩ := hn
  have HPI := Lib.hid (hg.pl hi)
  have HPJ := Lib.hid (hg.pl hj)
  clear h hg
  go_enter Try.func13, Try.ntmps13
  go_wp2_with (first | (go_at_call 10; refine (arr_yes _ _ _ X Y _ HI.out hc hcm HG.out).mono ?_; rintro e w1 ⟨rfl, hb1⟩; have k0 := (hb1.cell (p := ⟨w.heap.size, 0, none⟩) (by simp)).trans (show (w.alloc (.cells #[.int .i64 0, .int .i64 0] 30)).cell? ⟨w.heap.size, 0, none⟩ = some (.int .i64 0) by simp); have k1 := (hb1.cell (p := ⟨w.heap.size, 1, none⟩) (by simp)).trans (show (w.alloc (.cells #[.int .i64 0, .int .i64 0] 30)).cell? ⟨w.heap.size, 1, none⟩ = some (.int .i64 0) by simp); have g0 := (hb1.frozen (p := ⟨w.heap.size, 0, none⟩) (by simp)).trans (show (w.alloc (.cells #[.int .i64 0, .int .i64 0] 30)).frozen? ⟨w.heap.size, 0, none⟩ = false by simp); have g1 := (hb1.frozen (p := ⟨w.heap.size, 1, none⟩) (by simp)).trans (show (w.alloc (.cells #[.int .i64 0, .int .i64 0] 30)).frozen? ⟨w.heap.size, 1, none⟩ = false by simp); have HI1 := Lib.hid (HI.out.keep hb1); have K1 := Lib.hid (kept_trans (kept_alloc (kept_refl w) (.cells #[.int .i64 0, .int .i64 0] 30)) hb1); have HB1 := Lib.hid hb1; clear hb1) | (first | (go_at_call 21; first | (refine (isAnt_yes _ _ _ (by omega)).mono ?_; rintro e w' ⟨rfl, rfl⟩) | (refine (isAnt_no _ _ _ (by omega)).mono ?_; rintro e w' ⟨rfl, rfl⟩))) | (go_at_call 22; refine (vector_any _ n c X Y i j _ HI1.out hn1 hi hj HPI.out HPJ.out).mono ?_; rintro e w2 ⟨rfl, hb2⟩; clear k0 k1 g0 g1; have hb1 := kept_trans HB1.out hb2; have k0 := (hb1.cell (p := ⟨w.heap.size, 0, none⟩) (by simp)).trans (show (w.alloc (.cells #[.int .i64 0, .int .i64 0] 30)).cell? ⟨w.heap.size, 0, none⟩ = some (.int .i64 0) by simp); have k1 := (hb1.cell (p := ⟨w.heap.size, 1, none⟩) (by simp)).trans (show (w.alloc (.cells #[.int .i64 0, .int .i64 0] 30)).cell? ⟨w.heap.size, 1, none⟩ = some (.int .i64 0) by simp); have g0 := (hb1.frozen (p := ⟨w.heap.size, 0, none⟩) (by simp)).trans (show (w.alloc (.cells #[.int .i64 0, .int .i64 0] 30)).frozen? ⟨w.heap.size, 0, none⟩ = false by simp); have g1 := (hb1.frozen (p := ⟨w.heap.size, 1, none⟩) (by simp)).trans (show (w.alloc (.cells #[.int .i64 0, .int .i64 0] 30)).frozen? ⟨w.heap.size, 1, none⟩ = false by simp); have K2 := Lib.hid (kept_trans K1.out hb2); clear hb1 hb2 K1; have K1 := Lib.hid K2.out; clear K2))
  exact bodyPost_ret (v := .tuple #[.agg #[.int .i64 (X j - X i), .int .i64 (Y j - Y i)], .bool true]) (by simp (maxDischargeDepth := 9) [results, Try.results13, go_sem, k0, k1]) rfl ⟨rfl, by first | exact (K1.out.setCell (Nat.le_refl _) _).setCell (Nat.le_refl _) _ | exact ((K1.out.setCell (Nat.le_refl _) _).setCell (Nat.le_refl _) _).drew⟩
set_option maxHeartbeats 2000000 in
theorem bv_no (a : Option Addr) (n c : Nat) (X Y : Nat → Int) (i j : Int) (w : World) (h : Ants w a n X Y) (hc : n ≤ c) (hcm : c ≤ maxLen) (hn : n ≤ 1048576) (hno : ¬ (Arr X Y n ∧ (0 ≤ i ∧ i < n) ∧ (0 ≤ j ∧ j < n))) :
    Calls Try.prog 13 #[.slice a n c, .int .i64 i, .int .i64 j] w fun e w' => e = .returned (.tuple #[.agg #[.int .i64 0, .int .i64 0], .bool false]) ∧ Below w.heap.size w w' := by
  have HI := Lib.hid (h.keep (kept_alloc (kept_refl w) (.cells #[.int .i64 0, .int .i64 0] 30)))
  clear h
  by_cases hg : Arr X Y n
  · have HG := Lib.hid hg
    have hN2 : 2 ≤ n := hg.1.1
    by_cases hi : 0 ≤ i ∧ i < n
    · have hj : ¬ (0 ≤ j ∧ j < n) := fun h => hno ⟨hg, hi, h⟩
      clear hg hno
      obtain ⟨i0, i1⟩ := hi
      go_enter Try.func13, Try.ntmps13
      go_wp2_with (first | (go_at_call 10; refine (arr_yes _ _ _ X Y _ HI.out hc hcm HG.out).mono ?_; rintro e w1 ⟨rfl, hb1⟩; have k0 := (hb1.cell (p := ⟨w.heap.size, 0, none⟩) (by simp)).trans (show (w.alloc (.cells #[.int .i64 0, .int .i64 0] 30)).cell? ⟨w.heap.size, 0, none⟩ = some (.int .i64 0) by simp); have k1 := (hb1.cell (p := ⟨w.heap.size, 1, none⟩) (by simp)).trans (show (w.alloc (.cells #[.int .i64 0, .int .i64 0] 30)).cell? ⟨w.heap.size, 1, none⟩ = some (.int .i64 0) by simp); have g0 := (hb1.frozen (p := ⟨w.heap.size, 0, none⟩) (by simp)).trans (show (w.alloc (.cells #[.int .i64 0, .int .i64 0] 30)).frozen? ⟨w.heap.size, 0, none⟩ = false by simp); have g1 := (hb1.frozen (p := ⟨w.heap.size, 1, none⟩) (by simp)).trans (show (w.alloc (.cells #[.int .i64 0, .int .i64 0] 30)).frozen? ⟨w.heap.size, 1, none⟩ = false by simp); have HI1 := Lib.hid (HI.out.keep hb1); have K1 := Lib.hid (kept_trans (kept_alloc (kept_refl w) (.cells #[.int .i64 0, .int .i64 0] 30)) hb1); have HB1 := Lib.hid hb1; clear hb1) | (first | (go_at_call 21; first | (refine (isAnt_yes _ _ _ (by omega)).mono ?_; rintro e w' ⟨rfl, rfl⟩) | (refine (isAnt_no _ _ _ (by omega)).mono ?_; rintro e w' ⟨rfl, rfl⟩))))
      exact bodyPost_ret (v := .tuple #[.agg #[.int .i64 0, .int .i64 0], .bool false]) (by simp (maxDischargeDepth := 9) [results, Try.results13, go_sem, k0, k1]) rfl ⟨rfl, by first | exact (K1.out.setCell (Nat.le_refl _) _).setCell (Nat.le_refl _) _ | exact ((K1.out.setCell (Nat.le_refl _) _).setCell (Nat.le_refl _) _).drew⟩
    · clear hg hno
      go_enter Try.func13, Try.ntmps13
      go_wp2_with (first | (go_at_call 10; refine (arr_yes _ _ _ X Y _ HI.out hc hcm HG.out).mono ?_; rintro e w1 ⟨rfl, hb1⟩; have k0 := (hb1.cell (p := ⟨w.heap.size, 0, none⟩) (by simp)).trans (show (w.alloc (.cells #[.int .i64 0, .int .i64 0] 30)).cell? ⟨w.heap.size, 0, none⟩ = some (.int .i64 0) by simp); have k1 := (hb1.cell (p := ⟨w.heap.size, 1, none⟩) (by simp)).trans (show (w.alloc (.cells #[.int .i64 0, .int .i64 0] 30)).cell? ⟨w.heap.size, 1, none⟩ = some (.int .i64 0) by simp); have g0 := (hb1.frozen (p := ⟨w.heap.size, 0, none⟩) (by simp)).trans (show (w.alloc (.cells #[.int .i64 0, .int .i64 0] 30)).frozen? ⟨w.heap.size, 0, none⟩ = false by simp); have g1 := (hb1.frozen (p := ⟨w.heap.size, 1, none⟩) (by simp)).trans (show (w.alloc (.cells #[.int .i64 0, .int .i64 0] 30)).frozen? ⟨w.heap.size, 1, none⟩ = false by simp); have HI1 := Lib.hid (HI.out.keep hb1); have K1 := Lib.hid (kept_trans (kept_alloc (kept_refl w) (.cells #[.int .i64 0, .int .i64 0] 30)) hb1); have HB1 := Lib.hid hb1; clear hb1) | (first | (go_at_call 21; first | (refine (isAnt_yes _ _ _ (by omega)).mono ?_; rintro e w' ⟨rfl, rfl⟩) | (refine (isAnt_no _ _ _ (by omega)).mono ?_; rintro e w' ⟨rfl, rfl⟩))))
      exact bodyPost_ret (v := .tuple #[.agg #[.int .i64 0, .int .i64 0], .bool false]) (by simp (maxDischargeDepth := 9) [results, Try.results13, go_sem, k0, k1]) rfl ⟨rfl, by first | exact (K1.out.setCell (Nat.le_refl _) _).setCell (Nat.le_refl _) _ | exact ((K1.out.setCell (Nat.le_refl _) _).setCell (Nat.le_refl _) _).drew⟩
  · have HG := Lib.hid hg
    clear hg hno
    go_enter Try.func13, Try.ntmps13
    go_wp2_with (first | (go_at_call 10; refine (arr_no _ _ _ X Y _ HI.out hc hcm HG.out).mono ?_; rintro e w1 ⟨rfl, hb1⟩; have k0 := (hb1.cell (p := ⟨w.heap.size, 0, none⟩) (by simp)).trans (show (w.alloc (.cells #[.int .i64 0, .int .i64 0] 30)).cell? ⟨w.heap.size, 0, none⟩ = some (.int .i64 0) by simp); have k1 := (hb1.cell (p := ⟨w.heap.size, 1, none⟩) (by simp)).trans (show (w.alloc (.cells #[.int .i64 0, .int .i64 0] 30)).cell? ⟨w.heap.size, 1, none⟩ = some (.int .i64 0) by simp); have g0 := (hb1.frozen (p := ⟨w.heap.size, 0, none⟩) (by simp)).trans (show (w.alloc (.cells #[.int .i64 0, .int .i64 0] 30)).frozen? ⟨w.heap.size, 0, none⟩ = false by simp); have g1 := (hb1.frozen (p := ⟨w.heap.size, 1, none⟩) (by simp)).trans (show (w.alloc (.cells #[.int .i64 0, .int .i64 0] 30)).frozen? ⟨w.heap.size, 1, none⟩ = false by simp); have HI1 := Lib.hid (HI.out.keep hb1); have K1 := Lib.hid (kept_trans (kept_alloc (kept_refl w) (.cells #[.int .i64 0, .int .i64 0] 30)) hb1); have HB1 := Lib.hid hb1; clear hb1) | (first | (go_at_call 21; first | (refine (isAnt_yes _ _ _ (by omega)).mono ?_; rintro e w' ⟨rfl, rfl⟩) | (refine (isAnt_no _ _ _ (by omega)).mono ?_; rintro e w' ⟨rfl, rfl⟩))))
    exact bodyPost_ret (v := .tuple #[.agg #[.int .i64 0, .int .i64 0], .bool false]) (by simp (maxDischargeDepth := 9) [results, Try.results13, go_sem, k0, k1]) rfl ⟨rfl, by first | exact (K1.out.setCell (Nat.le_refl _) _).setCell (Nat.le_refl _) _ | exact ((K1.out.setCell (Nat.le_refl _) _).setCell (Nat.le_refl _) _).drew⟩
end Go.Proofs.Ytbpbadmgmlfdhaa
