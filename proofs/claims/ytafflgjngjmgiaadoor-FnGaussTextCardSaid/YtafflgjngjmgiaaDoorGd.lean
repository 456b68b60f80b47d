/- Contracts of the drawers of Gaussian integers: each returns numbers in a known range and changes no memory that was there but the reader. -/
import Derived.Test.YtafflgjngjmgiaaDoorDr
import Derived.Test.YtafflgjngjmgiaaDoorGb
import Derived.Maps.AppendAt
import Derived.Deep.AppendLies
import Derived.Deep.RegionWith
namespace Go.Proofs.YtafflgjngjmgiaaDoor
open Go.RowKit

/-- From w to w' only the reader at b has changed (and new blocks were made); it has read at most p times. -/
def Gr (b p : Nat) (w w' : World) : Prop := w.grownBy w' (some b) ∧ ∃ q, q ≤ p ∧ Rd b q w'
theorem Gr.start {b p : Nat} {w : World} (h : Rd b p w) : Gr b p w w := ⟨⟨rfl, rfl, rfl, Nat.le_refl _, fun _ _ _ => rfl⟩, p, Nat.le_refl _, h⟩
theorem Gr.lt {b p : Nat} {w w' : World} (h : Gr b p w w') : b < w'.heap.size := by obtain ⟨_, q, _, hr⟩ := h; exact hr.lt
theorem Gr.mono {b p p' : Nat} {w w' : World} (h : Gr b p w w') (hp : p ≤ p') : Gr b p' w w' := by obtain ⟨h1, q, hq, hr⟩ := h; exact ⟨h1, q, by omega, hr⟩
theorem Gr.alloc {b p : Nat} {w w' : World} (h : Gr b p w w') (o : Obj) : Gr b p w (w'.alloc o) := by
  have hl := h.lt
  obtain ⟨h1, q, hq, hr⟩ := h
  exact ⟨⟨h1.os, h1.tape, h1.output, Nat.le_trans h1.size (by simp), fun i hi hne => (Below.heap_alloc w' o i (Nat.lt_of_lt_of_le hi h1.size)).trans (h1.block i hi hne)⟩, q, hq, hr.keep fun k hk => Below.heap_alloc w' o k (by omega)⟩
theorem Gr.trans {b p : Nat} {w w1 w2 : World} (h : w.grownBy w1 (some b)) (k : Gr b p w1 w2) : Gr b p w w2 := ⟨h.trans k.1, k.2⟩
theorem Gr.set {b p : Nat} {w w' : World} (h : Gr b p w w') {a : Addr} (ha : w.heap.size ≤ a.block) (hb : b < a.block) (u : Value) : Gr b p w (w'.setCell a u) := by
  obtain ⟨h1, q, hq, hr⟩ := h
  exact ⟨⟨h1.os, h1.tape, h1.output, by simpa [World.setCell] using h1.size, fun i hi hne => (Below.heap_setCell w' a u i (by omega)).trans (h1.block i hi hne)⟩, q, hq, hr.keep fun k hk => Below.heap_setCell w' a u k (by omega)⟩
theorem Gr.drew {b p : Nat} {w w' : World} (h : Gr b p w w') : Gr b p w w'.drew := by
  obtain ⟨h1, q, hq, hr⟩ := h
  exact ⟨⟨h1.os, h1.tape, h1.output, h1.size, h1.block⟩, q, hq, hr.drew⟩
theorem Gr.st {B b p p' : Nat} {w0 w w' : World} (h : St B w0 b p w) (k : Gr b p' w w') : St B w0 b p' w' := by
  have hl := h.lt
  obtain ⟨h1, h2, q, hq, hr⟩ := h
  exact ⟨h1.grown k.1 (by omega) (by rintro j ⟨⟩; exact h2), h2, k.2⟩

theorem pick_g {b p : Nat} {n : Int} {w W : World} (h : Gr b p w W) (hp : p ≤ 90000) (hn : 1 ≤ n ∧ n ≤ 1000000) :
    Calls Tryd.prog 20 #[.pointer (some ⟨b, 0, none⟩), .int .i64 n] W fun e w' => ∃ v : Int, (0 ≤ v ∧ v < n) ∧ e = .returned (.int .i64 v) ∧ Gr b (p + 1) w w' ∧ W.grownBy w' (some b) := by
  obtain ⟨h1, q, hq, hr⟩ := h
  refine (pick_any b q n W hr (by omega) hn).mono ?_
  rintro e w' ⟨v, hv, rfl, hg, q', hq', hr'⟩
  exact ⟨v, hv, rfl, ⟨h1.trans hg, q', by omega, hr'⟩, hg⟩
theorem pick_gl {b p : Nat} {n : Int} {w W : World} (h : Gr b p w W) (o : Obj) (hp : p ≤ 90000) (hn : 1 ≤ n ∧ n ≤ 1000000) :
    Calls Tryd.prog 20 #[.pointer (some ⟨b, 0, none⟩), .int .i64 n] (W.alloc o) fun e w' => ∃ v : Int, (0 ≤ v ∧ v < n) ∧ e = .returned (.int .i64 v) ∧ Gr b (p + 1) w w' ∧ w'.heap[W.heap.size]? = some o := by
  have hl := h.lt
  have hsz : (W.alloc o).heap.size = W.heap.size + 1 := by simp
  refine (pick_g (h.alloc o) hp hn).mono ?_
  rintro e w' ⟨v, hv, rfl, hg, hgb⟩
  refine ⟨v, hv, rfl, hg, ?_⟩
  rw [hgb.block W.heap.size (by omega) (by simp; omega)]
  exact alloc_top W o

set_option maxHeartbeats 800000 in
theorem part_r {b p : Nat} {w : World} (hr : Rd b p w) (hp : p ≤ 80000) :
    Calls Tryd.prog 22 #[.pointer (some ⟨b, 0, none⟩)] w fun e w' => ∃ v : Int, (-1000000000 ≤ v ∧ v ≤ 1000000000) ∧ e = .returned (.int .i64 v) ∧ Gr b (p + 2) w w' := by
  have hg := Gr.start hr
  clear hr
  go_enter Tryd.func22, Tryd.ntmps22
  go_wp2_with (first | (go_at_call 20; refine (pick_gl (by assumption) _ (by omega) (by omega)).mono ?_; rintro e w' ⟨v, ⟨hv0, hv1⟩, rfl, hst, hh⟩; have hc0 := cell_at hh 0; have hc1 := cell_at hh 1; have hc2 := cell_at hh 2; have hc3 := cell_at hh 3; clear hh; simp at hc0 hc1 hc2 hc3; rcases (by omega : v = 0 ∨ v = 1 ∨ v = 2 ∨ v = 3) with rfl | rfl | rfl | rfl) | (go_at_call 20; refine (pick_g (by assumption) (by omega) (by omega)).mono ?_; rintro e w' ⟨v, ⟨hv0, hv1⟩, rfl, hst, _⟩))
  all_goals go_ret
  all_goals exact ⟨_, ⟨by omega, by omega⟩, rfl, Gr.mono (by assumption) (by omega)⟩
theorem part_g {b p : Nat} {w W : World} (h : Gr b p w W) (hp : p ≤ 80000) :
    Calls Tryd.prog 22 #[.pointer (some ⟨b, 0, none⟩)] W fun e w' => ∃ v : Int, (-1000000000 ≤ v ∧ v ≤ 1000000000) ∧ e = .returned (.int .i64 v) ∧ Gr b (p + 2) w w' ∧ W.grownBy w' (some b) := by
  obtain ⟨h1, q, hq, hr⟩ := h
  refine (part_r hr (by omega)).mono ?_
  rintro e w' ⟨v, hv, rfl, hg⟩
  exact ⟨v, hv, rfl, (Gr.trans h1 hg).mono (by omega), hg.1⟩
set_option maxHeartbeats 800000 in
theorem gaussD_r {b p : Nat} {w : World} (hr : Rd b p w) (hp : p ≤ 70000) :
    Calls Tryd.prog 19 #[.pointer (some ⟨b, 0, none⟩)] w fun e w' => ∃ x y : Int, (-1000000000 ≤ x ∧ x ≤ 1000000000 ∧ -1000000000 ≤ y ∧ y ≤ 1000000000) ∧ e = .returned (.agg #[.int .i64 x, .int .i64 y]) ∧ Gr b (p + 4) w w' := by
  have hbl := hr.lt
  have hg := (Gr.start hr).alloc (.cells #[.int .i64 0, .int .i64 0] 25)
  clear hr
  go_enter Tryd.func19, Tryd.ntmps19
  go_wp2_with fail
  refine (part_g hg (by omega)).mono ?_
  rintro e w1 ⟨x, ⟨x0, x1⟩, rfl, hg1, hk1⟩
  have c0 : w1.cell? ⟨w.heap.size, 0, none⟩ = some (.int .i64 0) := hk1.cell (by simp) (by simp; omega)
  have c1 : w1.cell? ⟨w.heap.size, 1, none⟩ = some (.int .i64 0) := hk1.cell (by simp) (by simp; omega)
  have f0 : w1.frozen? ⟨w.heap.size, 0, none⟩ = false := by rw [hk1.frozen_far _ (by simp) (by simp; omega)]; simp
  have f1 : w1.frozen? ⟨w.heap.size, 1, none⟩ = false := by rw [hk1.frozen_far _ (by simp) (by simp; omega)]; simp
  clear hk1 hg
  go_wp2_with fail
  refine (part_g hg1 (by omega)).mono ?_
  rintro e w2 ⟨y, ⟨y0, y1⟩, rfl, hg2, hk2⟩
  have d0 := hk2.cell c0 (by simp; omega)
  have d1 := hk2.cell c1 (by simp; omega)
  have hlt1 := World.block_lt_of_cell? w1 _ c0
  have e0 := (hk2.frozen_far ⟨w.heap.size, 0, none⟩ hlt1 (by simp; omega)).trans f0
  have e1 := (hk2.frozen_far ⟨w.heap.size, 1, none⟩ hlt1 (by simp; omega)).trans f1
  clear hk2 hg1 c0 c1 f0 f1
  go_wp2_with fail
  refine bodyPost_ret (v := .agg #[.int .i64 x, .int .i64 y]) ?_ rfl ⟨x, y, ⟨x0, x1, y0, y1⟩, rfl, ?_⟩
  · simp (maxDischargeDepth := 9) [results, Tryd.results19, go_sem, d0, d1]
  · exact ((hg2.mono (by omega)).set (Nat.le_refl _) hbl _).set (Nat.le_refl _) hbl _

/-- A box with two cells that may be written. -/
def Bx (w : World) (g : Nat) (x y : Value) : Prop := w.cell? ⟨g, 0, none⟩ = some x ∧ w.cell? ⟨g, 1, none⟩ = some y ∧ w.frozen? ⟨g, 0, none⟩ = false ∧ w.frozen? ⟨g, 1, none⟩ = false
theorem Bx.lt {w : World} {g : Nat} {x y : Value} (h : Bx w g x y) : g < w.heap.size := World.block_lt_of_cell? w _ h.1
theorem Bx.new (w : World) (x y : Value) (t : TypeId) : Bx (w.alloc (.cells #[x, y] t)) w.heap.size x y := by
  have e := alloc_top w (.cells #[x, y] t)
  refine ⟨(cell_at e 0).trans rfl, (cell_at e 1).trans rfl, ?_, ?_⟩
  · simp only [World.frozen?, e]; rfl
  · simp only [World.frozen?, e]; rfl
theorem Bx.alloc {w : World} {g : Nat} {x y : Value} (h : Bx w g x y) (o : Obj) : Bx (w.alloc o) g x y := by
  have e := Below.heap_alloc w o g h.lt
  exact ⟨(World.cell?_of_block (w := w) e).trans h.1, (World.cell?_of_block (w := w) e).trans h.2.1, (World.frozen?_of_block (w := w) e).trans h.2.2.1, (World.frozen?_of_block (w := w) e).trans h.2.2.2⟩
theorem Bx.kept {w w' : World} {b g : Nat} {x y : Value} (h : Bx w g x y) (hk : w.grownBy w' (some b)) (hne : g ≠ b) : Bx w' g x y := by
  have e := hk.block g h.lt (by simpa using hne)
  exact ⟨(World.cell?_of_block (w := w) e).trans h.1, (World.cell?_of_block (w := w) e).trans h.2.1, (World.frozen?_of_block (w := w) e).trans h.2.2.1, (World.frozen?_of_block (w := w) e).trans h.2.2.2⟩
theorem Bx.drew {w : World} {g : Nat} {x y : Value} (h : Bx w g x y) : Bx w.drew g x y := h
theorem Bx.below {w w' : World} {g : Nat} {x y : Value} (h : Bx w g x y) (hb : Below w.heap.size w w') : Bx w' g x y := by
  have e := hb.block g h.lt
  exact ⟨(World.cell?_of_block (w := w) e).trans h.1, (World.cell?_of_block (w := w) e).trans h.2.1, (World.frozen?_of_block (w := w) e).trans h.2.2.1, (World.frozen?_of_block (w := w) e).trans h.2.2.2⟩

theorem gaussD_g {b p : Nat} {w W : World} (h : Gr b p w W) (hp : p ≤ 70000) :
    Calls Tryd.prog 19 #[.pointer (some ⟨b, 0, none⟩)] W fun e w' => ∃ x y : Int, (-1000000000 ≤ x ∧ x ≤ 1000000000 ∧ -1000000000 ≤ y ∧ y ≤ 1000000000) ∧ e = .returned (.agg #[.int .i64 x, .int .i64 y]) ∧ Gr b (p + 4) w w' ∧ W.grownBy w' (some b) := by
  obtain ⟨h1, q, hq, hr⟩ := h
  refine (gaussD_r hr (by omega)).mono ?_
  rintro e w' ⟨x, y, hv, rfl, hg⟩
  exact ⟨x, y, hv, rfl, (Gr.trans h1 hg).mono (by omega), hg.1⟩
set_option maxHeartbeats 1000000 in
theorem wrong_r {b p : Nat} {w : World} (hr : Rd b p w) (hp : p ≤ 60000) :
    Calls Tryd.prog 14 #[.pointer (some ⟨b, 0, none⟩)] w fun e w' => ∃ x y : Int, (-1000000001 ≤ x ∧ x ≤ 1000000001 ∧ -1000000001 ≤ y ∧ y ≤ 1000000001) ∧ e = .returned (.agg #[.int .i64 x, .int .i64 y]) ∧ Gr b (p + 5) w w' := by
  have hbl := hr.lt
  have hg := (Gr.start hr).alloc (.cells #[.int .i64 0, .int .i64 0] 25)
  clear hr
  go_enter Tryd.func14, Tryd.ntmps14
  go_wp2_with fail
  refine (gaussD_g hg (by omega)).mono ?_
  rintro e w1 ⟨x, y, ⟨x0, x1, y0, y1⟩, rfl, hg1, hk1⟩
  have hbx := Lib.hid ((Bx.new w (.int .i64 0) (.int .i64 0) 25).kept hk1 (by omega))
  have hsz : w.heap.size < w1.heap.size := hbx.out.lt
  have hg2 := hg1.alloc (.cells #[.int .i64 x, .int .i64 y] 25)
  clear hk1 hg hg1
  go_wp2_with fail
  refine (pick_g hg2 (by omega) (by omega)).mono ?_
  rintro e w2 ⟨v, ⟨v0, v1⟩, rfl, hg3, hk3⟩
  have hb1 := (hbx.out.alloc (.cells #[.int .i64 x, .int .i64 y] 25)).kept hk3 (by omega)
  have hb2 := (Bx.new w1 (.int .i64 x) (.int .i64 y) 25).kept hk3 (by omega)
  obtain ⟨c0, c1, f0, f1⟩ := hb1
  obtain ⟨d0, d1, e0, e1⟩ := hb2
  have HG := Lib.hid hg3
  clear hk3 hg2 hg3 hbx
  have hne : ¬ w.heap.size = w1.heap.size := by omega
  have hne' : ¬ w1.heap.size = w.heap.size := by omega
  rcases (by omega : v = 0 ∨ v = 1 ∨ 2 ≤ v) with rfl | rfl | hv
  · go_wp2_with fail
    refine bodyPost_ret (v := .agg #[.int .i64 1000000001, .int .i64 y]) ?_ rfl ⟨1000000001, y, ⟨by omega, by omega, by omega, by omega⟩, rfl, ?_⟩
    · simp (maxDischargeDepth := 9) [results, Tryd.results14, go_sem, c0, c1]
    · exact (((HG.out.mono (by omega)).set (Nat.le_of_lt hsz) (Nat.lt_trans hbl hsz) _).set (Nat.le_refl _) hbl _).set (Nat.le_refl _) hbl _
  · go_wp2_with fail
    refine bodyPost_ret (v := .agg #[.int .i64 x, .int .i64 (-1000000001)]) ?_ rfl ⟨x, -1000000001, ⟨by omega, by omega, by omega, by omega⟩, rfl, ?_⟩
    · simp (maxDischargeDepth := 9) [results, Tryd.results14, go_sem, c0, c1]
    · exact (((HG.out.mono (by omega)).set (Nat.le_of_lt hsz) (Nat.lt_trans hbl hsz) _).set (Nat.le_refl _) hbl _).set (Nat.le_refl _) hbl _
  · have q0 : (v == 0) = false := by simp; omega
    have q1 : (v == 1) = false := by simp; omega
    go_wp2_with fail
    refine bodyPost_ret (v := .agg #[.int .i64 x, .int .i64 y]) ?_ rfl ⟨x, y, ⟨by omega, by omega, by omega, by omega⟩, rfl, ?_⟩
    · simp (maxDischargeDepth := 9) [results, Tryd.results14, go_sem, c0, c1]
    · exact ((HG.out.mono (by omega)).set (Nat.le_refl _) hbl _).set (Nat.le_refl _) hbl _
theorem wrong_g {b p : Nat} {w W : World} (h : Gr b p w W) (hp : p ≤ 60000) :
    Calls Tryd.prog 14 #[.pointer (some ⟨b, 0, none⟩)] W fun e w' => ∃ x y : Int, (-1000000001 ≤ x ∧ x ≤ 1000000001 ∧ -1000000001 ≤ y ∧ y ≤ 1000000001) ∧ e = .returned (.agg #[.int .i64 x, .int .i64 y]) ∧ Gr b (p + 5) w w' ∧ W.grownBy w' (some b) := by
  obtain ⟨h1, q, hq, hr⟩ := h
  refine (wrong_r hr (by omega)).mono ?_
  rintro e w' ⟨x, y, hv, rfl, hg⟩
  exact ⟨x, y, hv, rfl, (Gr.trans h1 hg).mono (by omega), hg.1⟩
theorem IsCode.alloc {w : World} {a : Option Addr} {len cap : Nat} (h : IsCode w a len cap) (o : Obj) : IsCode (w.alloc o) a len cap := by
  obtain ⟨h1, h2, h3⟩ := h
  refine ⟨h1, h2, ?_⟩
  rcases h3 with h3 | ⟨cb, off, ha, hlt, hc⟩
  · exact .inl h3
  · refine .inr ⟨cb, off, ha, by simp; omega, fun i hi => ?_⟩
    obtain ⟨c, c1, c2, c3⟩ := hc i hi
    exact ⟨c, c1, c2, (World.cell?_of_block (w := w) (Below.heap_alloc w o cb hlt)).trans c3⟩
set_option maxHeartbeats 1000000 in
theorem drawGaussText {a : Option Addr} {len cap : Nat} {w : World} (h : IsCode w a len cap) :
    Calls Tryd.prog 8 #[.slice a len cap] w fun e w' => ∃ x y : Int, (-1000000001 ≤ x ∧ x ≤ 1000000001 ∧ -1000000001 ≤ y ∧ y ≤ 1000000001) ∧ e = .returned (.agg #[.int .i64 x, .int .i64 y]) ∧ Below w.heap.size w w' := by
  have H := Lib.hid (h.alloc (.cells #[.int .i64 0, .int .i64 0] 25)); clear h
  have N1 := Lib.hid (Bx.new w (.int .i64 0) (.int .i64 0) 25)
  go_enter Tryd.func8, Tryd.ntmps8
  go_wp2_with fail
  refine l6Open_St H.out ?_
  intro b w1 hst
  obtain ⟨hb1, hbb, q, hq, hrd⟩ := hst
  have hq0 : q = 0 := by omega
  subst hq0
  have hbb' : w.heap.size + 1 ≤ b := by simpa using hbb
  have R := Lib.hid hrd
  have K := Lib.hid (kept_trans (kept_alloc (kept_refl w) _) hb1)
  have M1 := Lib.hid (N1.out.below hb1)
  clear hb1 hbb hrd N1 H
  go_wp2_with fail
  refine (wrong_r R.out (by omega)).mono ?_
  rintro e w2 ⟨x, y, hv, rfl, hg⟩
  obtain ⟨c0, c1, f0, f1⟩ := M1.out.kept hg.1 (by omega)
  have hsz := hg.1.size
  have hK := Lib.hid (K.out.grown hg.1 K.out.size (by rintro k ⟨⟩; omega))
  have HV := Lib.hid hv
  clear hg hv M1 R K
  go_wp2_with fail
  refine bodyPost_ret (v := .agg #[.int .i64 x, .int .i64 y]) ?_ rfl ⟨x, y, HV.out, rfl, ?_⟩
  · simp (maxDischargeDepth := 9) [results, Tryd.results8, go_sem, c0, c1]
  · exact (hK.out.setCell (Nat.le_refl _) _).setCell (Nat.le_refl _) _
end Go.Proofs.YtafflgjngjmgiaaDoor
