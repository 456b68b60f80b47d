/- Contracts of the functions that copy and compare lists of places. -/
import Derived.Test.YtbpbadmgmlfdhaaAn
import Derived.Deep.OwnRows
import Derived.Deep.RegionHeld3
import Derived.Deep.DrawnRows
namespace Go.Proofs.Ytbpbadmgmlfdhaa
open Go.RowKit
set_option linter.unusedVariables false
set_option linter.unusedSimpArgs false
attribute [local go_sem ↓] Go.wp_at_zero Go.wp_at_succ
theorem infoAnt : (Try.prog.info? 30).map (fun i => (i.zero, i.size, i.bytes)) = some (some (.agg #[.int .i64 0, .int .i64 0]), 2, 16) := by kernel_rfl
/-- The cells of a row of which k places are laid. -/
def rowF (X Y : Nat → Int) (k j : Nat) : Value := if j / 2 < k then (if j % 2 = 0 then .int .i64 (X (j / 2)) else .int .i64 (Y (j / 2))) else .int .i64 0
theorem rowF_next {w : World} {B n k : Nat} {X Y : Nat → Int} (h : w.rowIs B 30 (n * 2) (rowF X Y k)) :
    ((w.setCell ⟨B, k * 2, none⟩ (.int .i64 (X k))).setCell ⟨B, k * 2 + 1, none⟩ (.int .i64 (Y k))).rowIs B 30 (n * 2) (rowF X Y (k + 1)) :=
  ((h.set (k * 2) (.int .i64 (X k))).set (k * 2 + 1) (.int .i64 (Y k))).congr fun i _ => by
    unfold rowF
    by_cases e1 : i = k * 2 + 1
    · subst e1
      have h1 : (k * 2 + 1) / 2 = k := by omega
      have h2 : ¬ (k * 2 + 1) % 2 = 0 := by omega
      simp [h1, h2]
    · by_cases e0 : i = k * 2
      · subst e0
        have h1 : (k * 2) / 2 = k := by omega
        have h2 : (k * 2) % 2 = 0 := by omega
        simp [h1, h2]
      · have h1 : (i / 2 < k + 1) ↔ (i / 2 < k) := by omega
        simp [e0, e1, h1]
theorem Ants.of_row {w : World} {B n : Nat} {X Y : Nat → Int} (h : w.rowIs B 30 (n * 2) (rowF X Y n)) : Ants w (some ⟨B, 0, none⟩) n X Y := by
  refine .inr ⟨B, 0, rfl, h.lt, fun i hi => ⟨?_, ?_⟩⟩
  · have e := h.cell (i := i * 2) (by omega)
    have h1 : i * 2 / 2 = i := by omega
    have h2 : i * 2 % 2 = 0 := by omega
    simp only [rowF, h1, h2, hi, if_true] at e
    simpa using e
  · have e := h.cell (i := i * 2 + 1) (by omega)
    have h1 : (i * 2 + 1) / 2 = i := by omega
    have h2 : ¬ (i * 2 + 1) % 2 = 0 := by omega
    simp only [rowF, h1, h2, hi, if_true, if_false] at e
    simpa using e
theorem run_make2 (n : Nat) (h63 : n ≤ 1048576) (w : World) :
    (Instr.makeSlice 25 (.int .i64 (n : Int)) (.int .i64 (n : Int))).run Try.prog w = .ok (.slice (some ⟨w.heap.size, 0, none⟩) n n) (w.alloc (.cells (madeCells #[.int .i64 0, .int .i64 0] (n * 2)) 30)) := by
  obtain ⟨i, hi, hzz⟩ := Option.map_eq_some_iff.1 infoAnt
  simp only [Prod.mk.injEq] at hzz
  obtain ⟨hz, hs, hb⟩ := hzz
  have hr := run_make (P := Try.prog) w 25 30 i _ Try.underlying25 hi hz .i64 .i64 n n (by omega) (Int.le_refl _) (by rw [hb]; omega) (by omega)
  simp only [Int.toNat_natCast, hs] at hr
  exact hr
theorem made_row (w : World) (n : Nat) (X Y : Nat → Int) : (w.alloc (.cells (madeCells #[.int .i64 0, .int .i64 0] (n * 2)) 30)).rowIs w.heap.size 30 (n * 2) (rowF X Y 0) := by
  have h := World.rowIs_alloc w (madeCells #[.int .i64 0, .int .i64 0] (n * 2)) 30 (rowF X Y 0) (fun i hi => by
    rw [size_madeCells] at hi
    rcases (by omega : i % 2 = 0 ∨ i % 2 = 1) with h | h <;> simp [madeCells, hi, h, rowF])
  rw [size_madeCells] at h
  exact h
theorem toAnt_any (x y : Int) (w : World) :
    Calls Try.prog 18 #[.agg #[.int .i64 x, .int .i64 y]] w fun e w' => e = .returned (.agg #[.int .i64 x, .int .i64 y]) ∧ Below w.heap.size w w' := by
  go_enter Try.func18, Try.ntmps18
  go_wp2
  exact bodyPost_ret (v := .agg #[.int .i64 x, .int .i64 y]) (by simp (maxDischargeDepth := 9) [results, Try.results18, go_sem]) rfl ⟨rfl, (by repeat (first | exact kept_refl _ | assumption | refine kept_alloc ?_ _ | refine Below.drew ?_ | refine Below.setCell ?_ (by simp <;> omega) _ | refine kept_trans ?_ (by assumption)))⟩
/-- What toAntS does: a copy at a new place. -/
def CopiedA (w : World) (n : Nat) (X Y : Nat → Int) (e : Ending) (w' : World) : Prop :=
  ∃ B, e = .returned (.slice (some ⟨B, 0, none⟩) n n) ∧ w.heap.size ≤ B ∧ Ants w' (some ⟨B, 0, none⟩) n X Y ∧ Below w.heap.size w w'
set_option maxHeartbeats 1000000 in
theorem toAntS_any (a : Option Addr) (n c : Nat) (X Y : Nat → Int) (w : World) (h : Ants w a n X Y) (hn : n ≤ 1048576) :
    Calls Try.prog 9 #[.slice a n c] w (CopiedA w n X Y) := by
  have hmk := run_make2 n hn
  have hrow := Lib.hid (made_row w n X Y)
  have H := Lib.hid h; clear h
  go_enter Try.func9, Try.ntmps9
  go_wp2
  clear hmk
  go_loopw [4] (fun i wr => ∃ k : Nat, k ≤ n ∧ i = .int .i64 k ∧ wr.rowIs w.heap.size 30 (n * 2) (rowF X Y k) ∧ Below w.heap.size w wr) (fun i _ => n - (intOf i).toNat)
  case atStart => exact ⟨0, Nat.zero_le _, rfl, hrow.out, (Below.refl _ _).alloc (Nat.le_refl _) _⟩
  case round =>
    obtain ⟨k, hk, rfl, hr, hb⟩ := hrel
    by_cases hlt : k < n
    · obtain ⟨b, o, rfl, hbl, c1, c2⟩ := (H.out.keep hb).at hlt
      have HR := Lib.hid hr
      have HB := Lib.hid hb
      clear hr hb H hrow
      go_wp2_with (go_at_call 18; refine (toAnt_any _ _ _).mono ?_; rintro e w2 ⟨rfl, hb2⟩; have hr2 := HR.out.of_block (hb2.block w.heap.size HR.out.lt); have s0 := hr2.cell (i := k * 2) (by omega); have s1 := hr2.cell (i := k * 2 + 1) (by omega); have g0 := hr2.frozen (k * 2); have g1 := hr2.frozen (k * 2 + 1); have HX := Lib.hid (rowF_next hr2); have HB2 := Lib.hid (kept_trans HB.out hb2); clear hr2 hb2 HR HB)
      go_roundw
      case rel => exact ⟨k + 1, by omega, by go_num, HX.out, (HB2.out.setCell (Nat.le_refl _) _).setCell (Nat.le_refl _) _⟩
      case measure => simp [intOf]; omega
    · have hkn : k = n := by omega
      subst hkn
      have HR := Lib.hid hr
      have HB := Lib.hid hb
      clear hr hb H hrow
      go_wp2
      go_ret
      exact ⟨_, rfl, Nat.le_refl _, Ants.of_row HR.out, HB.out⟩
theorem eqAnt_same (x y : Int) (w : World) :
    Calls Try.prog 14 #[.agg #[.int .i64 x, .int .i64 y], .agg #[.int .i64 x, .int .i64 y]] w fun e w' => e = .returned (.bool true) ∧ Below w.heap.size w w' := by
  go_enter Try.func14, Try.ntmps14
  go_wp2
  go_ret
  exact ⟨rfl, (by repeat (first | exact kept_refl _ | assumption | refine kept_alloc ?_ _ | refine Below.drew ?_ | refine Below.setCell ?_ (by simp <;> omega) _ | refine kept_trans ?_ (by assumption)))⟩
theorem quad_keep {wb W w' : World} {b1 b2 p1 p2 p3 p4 : Nat} {x1 x2 x3 x4 : Value} (h : W.cell? ⟨b1, p1, none⟩ = some x1 ∧ W.cell? ⟨b1, p2, none⟩ = some x2 ∧ W.cell? ⟨b2, p3, none⟩ = some x3 ∧ W.cell? ⟨b2, p4, none⟩ = some x4 ∧ Below wb.heap.size wb W) (hb : Below W.heap.size W w') :
    w'.cell? ⟨b1, p1, none⟩ = some x1 ∧ w'.cell? ⟨b1, p2, none⟩ = some x2 ∧ w'.cell? ⟨b2, p3, none⟩ = some x3 ∧ w'.cell? ⟨b2, p4, none⟩ = some x4 ∧ Below wb.heap.size wb w' := by
  obtain ⟨h1, h2, h3, h4, h5⟩ := h
  exact ⟨(hb.cell (p := ⟨b1, p1, none⟩) (World.block_lt_of_cell? W _ h1)).trans h1, (hb.cell (p := ⟨b1, p2, none⟩) (World.block_lt_of_cell? W _ h2)).trans h2, (hb.cell (p := ⟨b2, p3, none⟩) (World.block_lt_of_cell? W _ h3)).trans h3, (hb.cell (p := ⟨b2, p4, none⟩) (World.block_lt_of_cell? W _ h4)).trans h4, kept_trans h5 hb⟩
set_option maxHeartbeats 2000000 in
theorem eqAntS_same (a a' : Option Addr) (n c d : Nat) (X Y : Nat → Int) (w : World) (h : Ants w a n X Y) (h' : Ants w a' n X Y) (hn : n ≤ 1048576) :
    Calls Try.prog 11 #[.slice a n c, .slice a' n d] w fun e w' => e = .returned (.bool true) ∧ Below w.heap.size w w' := by
  have H := Lib.hid h; clear h
  have H' := Lib.hid h'; clear h'
  go_enter Try.func11, Try.ntmps11
  go_wp2
  go_loopw [5] (fun i wr => ∃ k : Nat, k ≤ n ∧ i = .int .i64 k ∧ Below w.heap.size w wr) (fun i _ => n - (intOf i).toNat)
  case atStart => exact ⟨0, Nat.zero_le _, rfl, kept_refl _⟩
  case round =>
    obtain ⟨k, hk, rfl, hb⟩ := hrel
    by_cases hlt : k < n
    · obtain ⟨b1, o1, rfl, hb1, c1, c2⟩ := (H.out.keep hb).at hlt
      obtain ⟨b2, o2, rfl, hb2, d1, d2⟩ := (H'.out.keep hb).at hlt
      have e1 : (0 : Int) ≤ (k : Int) := by omega
      have e2 : (k : Int) < (n : Int) := by omega
      have HS := Lib.hid (And.intro c1 (And.intro c2 (And.intro d1 (And.intro d2 (kept_refl wr)))))
      have KW := Lib.hid hb
      clear H H' hb
      go_wp2
      go_region_held3 (fun W => W.cell? ⟨b1, o1 + k * 2, none⟩ = some (.int .i64 (X k)) ∧ W.cell? ⟨b1, o1 + k * 2 + 1, none⟩ = some (.int .i64 (Y k)) ∧ W.cell? ⟨b2, o2 + k * 2, none⟩ = some (.int .i64 (X k)) ∧ W.cell? ⟨b2, o2 + k * 2 + 1, none⟩ = some (.int .i64 (Y k)) ∧ Below wr.heap.size wr W) (first | assumption | (refine quad_keep HS.out ?_; (repeat (first | exact kept_refl _ | refine Below.drew ?_ | refine kept_trans ?_ (by assumption))); done)) (first | (go_at_call 14; refine (eqAnt_same _ _ _).mono ?_; rintro e w' ⟨rfl, HB⟩))
      all_goals go_wp2
      all_goals
        go_roundw
        case rel => exact ⟨k + 1, by omega, by go_num, by repeat (first | exact KW.out | refine Below.drew ?_ | refine kept_trans ?_ (by assumption))⟩
        case measure => simp [intOf]; omega
    · have HB := Lib.hid hb
      clear H H' hb
      go_wp2
      go_ret
      exact ⟨rfl, HB.out⟩
theorem szAntS_any (a : Option Addr) (n c : Nat) (w : World) (hn : n ≤ 9223372036854775807) :
    Calls Try.prog 7 #[.slice a n c, .int .i64 1048576] w fun e w' => e = .returned (.int .i64 (if n ≤ 1048576 then 1048576 - (n : Int) else -1)) ∧ w = w' := by
  by_cases h : n ≤ 1048576
  · rw [if_pos h]
    go_enter Try.func7, Try.ntmps7
    go_wp2
    go_ret
    exact ⟨rfl, rfl⟩
  · rw [if_neg h]
    go_enter Try.func7, Try.ntmps7
    go_wp2
    go_ret
    exact ⟨rfl, rfl⟩
end Go.Proofs.Ytbpbadmgmlfdhaa
