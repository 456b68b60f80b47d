/- Helpers for regions that call functions of Gaussian integers in an open order. -/
import Derived.Test.YtjaajohklkgegaaGb
namespace Go.Proofs.Ytjaajohklkgegaa
open Go.RowKit
theorem begin2 (w : World) (x y u v : Value) (t t' : TypeId) :
    ((w.alloc (.cells #[x, y] t)).alloc (.cells #[u, v] t')).cell? ⟨w.heap.size, 0, none⟩ = some x ∧ ((w.alloc (.cells #[x, y] t)).alloc (.cells #[u, v] t')).cell? ⟨w.heap.size, 1, none⟩ = some y ∧
    ((w.alloc (.cells #[x, y] t)).alloc (.cells #[u, v] t')).cell? ⟨w.heap.size + 1, 0, none⟩ = some u ∧ ((w.alloc (.cells #[x, y] t)).alloc (.cells #[u, v] t')).cell? ⟨w.heap.size + 1, 1, none⟩ = some v ∧
    Below w.heap.size w ((w.alloc (.cells #[x, y] t)).alloc (.cells #[u, v] t')) := by
  refine ⟨?_, ?_, ?_, ?_, kept_alloc (kept_alloc (kept_refl _) _) _⟩ <;> go_simp

--GEN
/-- A box: two cells. -/
def B2 (w : World) (g : Nat) (x y : Value) : Prop := w.cell? ⟨g, 0, none⟩ = some x ∧ w.cell? ⟨g, 1, none⟩ = some y
theorem B2.lt {w : World} {g : Nat} {x y : Value} (h : B2 w g x y) : g < w.heap.size := World.block_lt_of_cell? w _ h.1
theorem B2.new (w : World) (x y : Value) (t : TypeId) : B2 (w.alloc (.cells #[x, y] t)) w.heap.size x y := by constructor <;> simp
theorem B2.alloc {w : World} {g : Nat} {x y : Value} (h : B2 w g x y) (o : Obj) : B2 (w.alloc o) g x y := by
  have e := Below.heap_alloc w o g h.lt
  exact ⟨(World.cell?_of_block (w := w) e).trans h.1, (World.cell?_of_block (w := w) e).trans h.2⟩
theorem B2.below {w w' : World} {g : Nat} {x y : Value} (h : B2 w g x y) (hb : Below w.heap.size w w') : B2 w' g x y := by
  have e := hb.block g h.lt
  exact ⟨(World.cell?_of_block (w := w) e).trans h.1, (World.cell?_of_block (w := w) e).trans h.2⟩
theorem size_alloc1 (w : World) (o : Obj) : (w.alloc o).heap.size = w.heap.size + 1 := by simp
theorem set_two {w' W : World} {n : Nat} {a b u v : Value} (hc : ∀ b o, b < W.heap.size → w'.cell? ⟨b, o, none⟩ = W.cell? ⟨b, o, none⟩) (hn : n < W.heap.size) (h0 : W.cell? ⟨n, 0, none⟩ = some u) (h1 : W.cell? ⟨n, 1, none⟩ = some v) :
    ((w'.setCell ⟨n, 0, none⟩ a).setCell ⟨n, 1, none⟩ b).cell? ⟨n, 0, none⟩ = some a ∧ ((w'.setCell ⟨n, 0, none⟩ a).setCell ⟨n, 1, none⟩ b).cell? ⟨n, 1, none⟩ = some b := by
  have k0 := (hc n 0 hn).trans h0
  have k1 := (hc n 1 hn).trans h1
  refine ⟨?_, ?_⟩
  · exact (World.cell?_setCell_other _ _ _ _ (by simp)).trans (World.cell?_setCell_same _ _ _ k0)
  · exact World.cell?_setCell_same _ _ _ ((World.cell?_setCell_other _ _ _ _ (by simp)).trans k1)
theorem set_one {w : World} {n : Nat} {a b : Value} {x y : Value} (h0 : w.cell? ⟨n, 0, none⟩ = some x) (h1 : w.cell? ⟨n, 1, none⟩ = some y) :
    ((w.setCell ⟨n, 0, none⟩ a).setCell ⟨n, 1, none⟩ b).cell? ⟨n, 0, none⟩ = some a ∧ ((w.setCell ⟨n, 0, none⟩ a).setCell ⟨n, 1, none⟩ b).cell? ⟨n, 1, none⟩ = some b :=
  ⟨(World.cell?_setCell_other _ _ _ _ (by simp)).trans (World.cell?_setCell_same _ _ _ h0), World.cell?_setCell_same _ _ _ ((World.cell?_setCell_other _ _ _ _ (by simp)).trans h1)⟩
def addB (x y u v : Int) : Bool := decide ((-1000000000 ≤ x ∧ x ≤ 1000000000 ∧ -1000000000 ≤ y ∧ y ≤ 1000000000) ∧ (-1000000000 ≤ u ∧ u ≤ 1000000000 ∧ -1000000000 ≤ v ∧ v ≤ 1000000000) ∧ (-1000000000 ≤ (x + u) ∧ (x + u) ≤ 1000000000 ∧ -1000000000 ≤ (y + v) ∧ (y + v) ≤ 1000000000))
def addR (x y u v : Int) : Int := if (-1000000000 ≤ x ∧ x ≤ 1000000000 ∧ -1000000000 ≤ y ∧ y ≤ 1000000000) ∧ (-1000000000 ≤ u ∧ u ≤ 1000000000 ∧ -1000000000 ≤ v ∧ v ≤ 1000000000) ∧ (-1000000000 ≤ (x + u) ∧ (x + u) ≤ 1000000000 ∧ -1000000000 ≤ (y + v) ∧ (y + v) ≤ 1000000000) then x + u else 0
def addI (x y u v : Int) : Int := if (-1000000000 ≤ x ∧ x ≤ 1000000000 ∧ -1000000000 ≤ y ∧ y ≤ 1000000000) ∧ (-1000000000 ≤ u ∧ u ≤ 1000000000 ∧ -1000000000 ≤ v ∧ v ≤ 1000000000) ∧ (-1000000000 ≤ (x + u) ∧ (x + u) ≤ 1000000000 ∧ -1000000000 ≤ (y + v) ∧ (y + v) ≤ 1000000000) then y + v else 0
theorem add_any (x y u v : Int) (w : World) : Calls Try.prog 10 #[.agg #[.int .i64 x, .int .i64 y], .agg #[.int .i64 u, .int .i64 v]] w fun e w' => e = .returned (.tuple #[.agg #[.int .i64 (addR x y u v), .int .i64 (addI x y u v)], .bool (addB x y u v)]) ∧ Below w.heap.size w w' := by
  by_cases h : (-1000000000 ≤ x ∧ x ≤ 1000000000 ∧ -1000000000 ≤ y ∧ y ≤ 1000000000) ∧ (-1000000000 ≤ u ∧ u ≤ 1000000000 ∧ -1000000000 ≤ v ∧ v ≤ 1000000000) ∧ (-1000000000 ≤ (x + u) ∧ (x + u) ≤ 1000000000 ∧ -1000000000 ≤ (y + v) ∧ (y + v) ≤ 1000000000)
  · have e1 : addR x y u v = x + u := if_pos h
    have e2 : addI x y u v = y + v := if_pos h
    have e3 : addB x y u v = true := decide_eq_true h
    rw [e1, e2, e3]
    exact add_yes x y u v w h
  · have e1 : addR x y u v = 0 := if_neg h
    have e2 : addI x y u v = 0 := if_neg h
    have e3 : addB x y u v = false := decide_eq_false h
    rw [e1, e2, e3]
    exact add_no x y u v w h
theorem sAdd_any (x y u v : Int) (w : World) : Calls Try.prog 11 #[.agg #[.int .i64 x, .int .i64 y], .agg #[.int .i64 u, .int .i64 v]] w fun e w' => e = .returned (.tuple #[.agg #[.int .i64 (addR x y u v), .int .i64 (addI x y u v)], .bool (addB x y u v)]) ∧ Below w.heap.size w w' := by
  by_cases h : (-1000000000 ≤ x ∧ x ≤ 1000000000 ∧ -1000000000 ≤ y ∧ y ≤ 1000000000) ∧ (-1000000000 ≤ u ∧ u ≤ 1000000000 ∧ -1000000000 ≤ v ∧ v ≤ 1000000000) ∧ (-1000000000 ≤ (x + u) ∧ (x + u) ≤ 1000000000 ∧ -1000000000 ≤ (y + v) ∧ (y + v) ≤ 1000000000)
  · have e1 : addR x y u v = x + u := if_pos h
    have e2 : addI x y u v = y + v := if_pos h
    have e3 : addB x y u v = true := decide_eq_true h
    rw [e1, e2, e3]
    exact sAdd_yes x y u v w h
  · have e1 : addR x y u v = 0 := if_neg h
    have e2 : addI x y u v = 0 := if_neg h
    have e3 : addB x y u v = false := decide_eq_false h
    rw [e1, e2, e3]
    exact sAdd_no x y u v w h
def subB (x y u v : Int) : Bool := decide ((-1000000000 ≤ x ∧ x ≤ 1000000000 ∧ -1000000000 ≤ y ∧ y ≤ 1000000000) ∧ (-1000000000 ≤ u ∧ u ≤ 1000000000 ∧ -1000000000 ≤ v ∧ v ≤ 1000000000) ∧ (-1000000000 ≤ (x - u) ∧ (x - u) ≤ 1000000000 ∧ -1000000000 ≤ (y - v) ∧ (y - v) ≤ 1000000000))
def subR (x y u v : Int) : Int := if (-1000000000 ≤ x ∧ x ≤ 1000000000 ∧ -1000000000 ≤ y ∧ y ≤ 1000000000) ∧ (-1000000000 ≤ u ∧ u ≤ 1000000000 ∧ -1000000000 ≤ v ∧ v ≤ 1000000000) ∧ (-1000000000 ≤ (x - u) ∧ (x - u) ≤ 1000000000 ∧ -1000000000 ≤ (y - v) ∧ (y - v) ≤ 1000000000) then x - u else 0
def subI (x y u v : Int) : Int := if (-1000000000 ≤ x ∧ x ≤ 1000000000 ∧ -1000000000 ≤ y ∧ y ≤ 1000000000) ∧ (-1000000000 ≤ u ∧ u ≤ 1000000000 ∧ -1000000000 ≤ v ∧ v ≤ 1000000000) ∧ (-1000000000 ≤ (x - u) ∧ (x - u) ≤ 1000000000 ∧ -1000000000 ≤ (y - v) ∧ (y - v) ≤ 1000000000) then y - v else 0
theorem sub_any (x y u v : Int) (w : World) : Calls Try.prog 13 #[.agg #[.int .i64 x, .int .i64 y], .agg #[.int .i64 u, .int .i64 v]] w fun e w' => e = .returned (.tuple #[.agg #[.int .i64 (subR x y u v), .int .i64 (subI x y u v)], .bool (subB x y u v)]) ∧ Below w.heap.size w w' := by
  by_cases h : (-1000000000 ≤ x ∧ x ≤ 1000000000 ∧ -1000000000 ≤ y ∧ y ≤ 1000000000) ∧ (-1000000000 ≤ u ∧ u ≤ 1000000000 ∧ -1000000000 ≤ v ∧ v ≤ 1000000000) ∧ (-1000000000 ≤ (x - u) ∧ (x - u) ≤ 1000000000 ∧ -1000000000 ≤ (y - v) ∧ (y - v) ≤ 1000000000)
  · have e1 : subR x y u v = x - u := if_pos h
    have e2 : subI x y u v = y - v := if_pos h
    have e3 : subB x y u v = true := decide_eq_true h
    rw [e1, e2, e3]
    exact sub_yes x y u v w h
  · have e1 : subR x y u v = 0 := if_neg h
    have e2 : subI x y u v = 0 := if_neg h
    have e3 : subB x y u v = false := decide_eq_false h
    rw [e1, e2, e3]
    exact sub_no x y u v w h
theorem sSub_any (x y u v : Int) (w : World) : Calls Try.prog 16 #[.agg #[.int .i64 x, .int .i64 y], .agg #[.int .i64 u, .int .i64 v]] w fun e w' => e = .returned (.tuple #[.agg #[.int .i64 (subR x y u v), .int .i64 (subI x y u v)], .bool (subB x y u v)]) ∧ Below w.heap.size w w' := by
  by_cases h : (-1000000000 ≤ x ∧ x ≤ 1000000000 ∧ -1000000000 ≤ y ∧ y ≤ 1000000000) ∧ (-1000000000 ≤ u ∧ u ≤ 1000000000 ∧ -1000000000 ≤ v ∧ v ≤ 1000000000) ∧ (-1000000000 ≤ (x - u) ∧ (x - u) ≤ 1000000000 ∧ -1000000000 ≤ (y - v) ∧ (y - v) ≤ 1000000000)
  · have e1 : subR x y u v = x - u := if_pos h
    have e2 : subI x y u v = y - v := if_pos h
    have e3 : subB x y u v = true := decide_eq_true h
    rw [e1, e2, e3]
    exact sSub_yes x y u v w h
  · have e1 : subR x y u v = 0 := if_neg h
    have e2 : subI x y u v = 0 := if_neg h
    have e3 : subB x y u v = false := decide_eq_false h
    rw [e1, e2, e3]
    exact sSub_no x y u v w h
def mulB (x y u v : Int) : Bool := decide ((-1000000000 ≤ x ∧ x ≤ 1000000000 ∧ -1000000000 ≤ y ∧ y ≤ 1000000000) ∧ (-1000000000 ≤ u ∧ u ≤ 1000000000 ∧ -1000000000 ≤ v ∧ v ≤ 1000000000) ∧ (-1000000000 ≤ (x * u - y * v) ∧ (x * u - y * v) ≤ 1000000000 ∧ -1000000000 ≤ (x * v + y * u) ∧ (x * v + y * u) ≤ 1000000000))
def mulR (x y u v : Int) : Int := if (-1000000000 ≤ x ∧ x ≤ 1000000000 ∧ -1000000000 ≤ y ∧ y ≤ 1000000000) ∧ (-1000000000 ≤ u ∧ u ≤ 1000000000 ∧ -1000000000 ≤ v ∧ v ≤ 1000000000) ∧ (-1000000000 ≤ (x * u - y * v) ∧ (x * u - y * v) ≤ 1000000000 ∧ -1000000000 ≤ (x * v + y * u) ∧ (x * v + y * u) ≤ 1000000000) then x * u - y * v else 0
def mulI (x y u v : Int) : Int := if (-1000000000 ≤ x ∧ x ≤ 1000000000 ∧ -1000000000 ≤ y ∧ y ≤ 1000000000) ∧ (-1000000000 ≤ u ∧ u ≤ 1000000000 ∧ -1000000000 ≤ v ∧ v ≤ 1000000000) ∧ (-1000000000 ≤ (x * u - y * v) ∧ (x * u - y * v) ≤ 1000000000 ∧ -1000000000 ≤ (x * v + y * u) ∧ (x * v + y * u) ≤ 1000000000) then x * v + y * u else 0
theorem mul_any (x y u v : Int) (w : World) : Calls Try.prog 17 #[.agg #[.int .i64 x, .int .i64 y], .agg #[.int .i64 u, .int .i64 v]] w fun e w' => e = .returned (.tuple #[.agg #[.int .i64 (mulR x y u v), .int .i64 (mulI x y u v)], .bool (mulB x y u v)]) ∧ Below w.heap.size w w' := by
  by_cases h : (-1000000000 ≤ x ∧ x ≤ 1000000000 ∧ -1000000000 ≤ y ∧ y ≤ 1000000000) ∧ (-1000000000 ≤ u ∧ u ≤ 1000000000 ∧ -1000000000 ≤ v ∧ v ≤ 1000000000) ∧ (-1000000000 ≤ (x * u - y * v) ∧ (x * u - y * v) ≤ 1000000000 ∧ -1000000000 ≤ (x * v + y * u) ∧ (x * v + y * u) ≤ 1000000000)
  · have e1 : mulR x y u v = x * u - y * v := if_pos h
    have e2 : mulI x y u v = x * v + y * u := if_pos h
    have e3 : mulB x y u v = true := decide_eq_true h
    rw [e1, e2, e3]
    exact mul_yes x y u v w h
  · have e1 : mulR x y u v = 0 := if_neg h
    have e2 : mulI x y u v = 0 := if_neg h
    have e3 : mulB x y u v = false := decide_eq_false h
    rw [e1, e2, e3]
    exact mul_no x y u v w h
def conB (x y : Int) : Bool := decide (-1000000000 ≤ x ∧ x ≤ 1000000000 ∧ -1000000000 ≤ y ∧ y ≤ 1000000000)
def conR (x y : Int) : Int := if (-1000000000 ≤ x ∧ x ≤ 1000000000 ∧ -1000000000 ≤ y ∧ y ≤ 1000000000) then x else 0
def conI (x y : Int) : Int := if (-1000000000 ≤ x ∧ x ≤ 1000000000 ∧ -1000000000 ≤ y ∧ y ≤ 1000000000) then -y else 0
theorem gconj_any (x y : Int) (w : World) : Calls Try.prog 21 #[.agg #[.int .i64 x, .int .i64 y]] w fun e w' => e = .returned (.tuple #[.agg #[.int .i64 (conR x y), .int .i64 (conI x y)], .bool (conB x y)]) ∧ Below w.heap.size w w' := by
  by_cases h : (-1000000000 ≤ x ∧ x ≤ 1000000000 ∧ -1000000000 ≤ y ∧ y ≤ 1000000000)
  · have e1 : conR x y = x := if_pos h
    have e2 : conI x y = -y := if_pos h
    have e3 : conB x y = true := decide_eq_true h
    rw [e1, e2, e3]
    exact gconj_yes x y w h
  · have e1 : conR x y = 0 := if_neg h
    have e2 : conI x y = 0 := if_neg h
    have e3 : conB x y = false := decide_eq_false h
    rw [e1, e2, e3]
    exact gconj_no x y w (by omega)
theorem sGconj_any (x y : Int) (w : World) : Calls Try.prog 23 #[.agg #[.int .i64 x, .int .i64 y]] w fun e w' => e = .returned (.tuple #[.agg #[.int .i64 (conR x y), .int .i64 (conI x y)], .bool (conB x y)]) ∧ Below w.heap.size w w' := by
  by_cases h : (-1000000000 ≤ x ∧ x ≤ 1000000000 ∧ -1000000000 ≤ y ∧ y ≤ 1000000000)
  · have e1 : conR x y = x := if_pos h
    have e2 : conI x y = -y := if_pos h
    have e3 : conB x y = true := decide_eq_true h
    rw [e1, e2, e3]
    exact sGconj_yes x y w h
  · have e1 : conR x y = 0 := if_neg h
    have e2 : conI x y = 0 := if_neg h
    have e3 : conB x y = false := decide_eq_false h
    rw [e1, e2, e3]
    exact sGconj_no x y w (by omega)
theorem keep1 {w W w' : World} {b0 : Nat} {x0 y0 : Value} (h : W.cell? ⟨b0, 0, none⟩ = some x0 ∧ W.cell? ⟨b0, 1, none⟩ = some y0 ∧ Below w.heap.size w W) (hb : Below W.heap.size W w') :
    w'.cell? ⟨b0, 0, none⟩ = some x0 ∧ w'.cell? ⟨b0, 1, none⟩ = some y0 ∧ Below w.heap.size w w' := by
  obtain ⟨h0, k0, hbel⟩ := h
  exact ⟨(hb.cell (p := ⟨b0, 0, none⟩) (show b0 < W.heap.size from World.block_lt_of_cell? W _ h0)).trans h0, (hb.cell (p := ⟨b0, 1, none⟩) (show b0 < W.heap.size from World.block_lt_of_cell? W _ h0)).trans k0, kept_trans hbel hb⟩
theorem keep3 {w W w' : World} {b0 b1 b2 : Nat} {x0 y0 x1 y1 x2 y2 : Value} (h : W.cell? ⟨b0, 0, none⟩ = some x0 ∧ W.cell? ⟨b0, 1, none⟩ = some y0 ∧ W.cell? ⟨b1, 0, none⟩ = some x1 ∧ W.cell? ⟨b1, 1, none⟩ = some y1 ∧ W.cell? ⟨b2, 0, none⟩ = some x2 ∧ W.cell? ⟨b2, 1, none⟩ = some y2 ∧ Below w.heap.size w W) (hb : Below W.heap.size W w') :
    w'.cell? ⟨b0, 0, none⟩ = some x0 ∧ w'.cell? ⟨b0, 1, none⟩ = some y0 ∧ w'.cell? ⟨b1, 0, none⟩ = some x1 ∧ w'.cell? ⟨b1, 1, none⟩ = some y1 ∧ w'.cell? ⟨b2, 0, none⟩ = some x2 ∧ w'.cell? ⟨b2, 1, none⟩ = some y2 ∧ Below w.heap.size w w' := by
  obtain ⟨h0, k0, h1, k1, h2, k2, hbel⟩ := h
  exact ⟨(hb.cell (p := ⟨b0, 0, none⟩) (show b0 < W.heap.size from World.block_lt_of_cell? W _ h0)).trans h0, (hb.cell (p := ⟨b0, 1, none⟩) (show b0 < W.heap.size from World.block_lt_of_cell? W _ h0)).trans k0, (hb.cell (p := ⟨b1, 0, none⟩) (show b1 < W.heap.size from World.block_lt_of_cell? W _ h1)).trans h1, (hb.cell (p := ⟨b1, 1, none⟩) (show b1 < W.heap.size from World.block_lt_of_cell? W _ h1)).trans k1, (hb.cell (p := ⟨b2, 0, none⟩) (show b2 < W.heap.size from World.block_lt_of_cell? W _ h2)).trans h2, (hb.cell (p := ⟨b2, 1, none⟩) (show b2 < W.heap.size from World.block_lt_of_cell? W _ h2)).trans k2, kept_trans hbel hb⟩
theorem keep4 {w W w' : World} {b0 b1 b2 b3 : Nat} {x0 y0 x1 y1 x2 y2 x3 y3 : Value} (h : W.cell? ⟨b0, 0, none⟩ = some x0 ∧ W.cell? ⟨b0, 1, none⟩ = some y0 ∧ W.cell? ⟨b1, 0, none⟩ = some x1 ∧ W.cell? ⟨b1, 1, none⟩ = some y1 ∧ W.cell? ⟨b2, 0, none⟩ = some x2 ∧ W.cell? ⟨b2, 1, none⟩ = some y2 ∧ W.cell? ⟨b3, 0, none⟩ = some x3 ∧ W.cell? ⟨b3, 1, none⟩ = some y3 ∧ Below w.heap.size w W) (hb : Below W.heap.size W w') :
    w'.cell? ⟨b0, 0, none⟩ = some x0 ∧ w'.cell? ⟨b0, 1, none⟩ = some y0 ∧ w'.cell? ⟨b1, 0, none⟩ = some x1 ∧ w'.cell? ⟨b1, 1, none⟩ = some y1 ∧ w'.cell? ⟨b2, 0, none⟩ = some x2 ∧ w'.cell? ⟨b2, 1, none⟩ = some y2 ∧ w'.cell? ⟨b3, 0, none⟩ = some x3 ∧ w'.cell? ⟨b3, 1, none⟩ = some y3 ∧ Below w.heap.size w w' := by
  obtain ⟨h0, k0, h1, k1, h2, k2, h3, k3, hbel⟩ := h
  exact ⟨(hb.cell (p := ⟨b0, 0, none⟩) (show b0 < W.heap.size from World.block_lt_of_cell? W _ h0)).trans h0, (hb.cell (p := ⟨b0, 1, none⟩) (show b0 < W.heap.size from World.block_lt_of_cell? W _ h0)).trans k0, (hb.cell (p := ⟨b1, 0, none⟩) (show b1 < W.heap.size from World.block_lt_of_cell? W _ h1)).trans h1, (hb.cell (p := ⟨b1, 1, none⟩) (show b1 < W.heap.size from World.block_lt_of_cell? W _ h1)).trans k1, (hb.cell (p := ⟨b2, 0, none⟩) (show b2 < W.heap.size from World.block_lt_of_cell? W _ h2)).trans h2, (hb.cell (p := ⟨b2, 1, none⟩) (show b2 < W.heap.size from World.block_lt_of_cell? W _ h2)).trans k2, (hb.cell (p := ⟨b3, 0, none⟩) (show b3 < W.heap.size from World.block_lt_of_cell? W _ h3)).trans h3, (hb.cell (p := ⟨b3, 1, none⟩) (show b3 < W.heap.size from World.block_lt_of_cell? W _ h3)).trans k3, kept_trans hbel hb⟩
theorem keep5 {w W w' : World} {b0 b1 b2 b3 b4 : Nat} {x0 y0 x1 y1 x2 y2 x3 y3 x4 y4 : Value} (h : W.cell? ⟨b0, 0, none⟩ = some x0 ∧ W.cell? ⟨b0, 1, none⟩ = some y0 ∧ W.cell? ⟨b1, 0, none⟩ = some x1 ∧ W.cell? ⟨b1, 1, none⟩ = some y1 ∧ W.cell? ⟨b2, 0, none⟩ = some x2 ∧ W.cell? ⟨b2, 1, none⟩ = some y2 ∧ W.cell? ⟨b3, 0, none⟩ = some x3 ∧ W.cell? ⟨b3, 1, none⟩ = some y3 ∧ W.cell? ⟨b4, 0, none⟩ = some x4 ∧ W.cell? ⟨b4, 1, none⟩ = some y4 ∧ Below w.heap.size w W) (hb : Below W.heap.size W w') :
    w'.cell? ⟨b0, 0, none⟩ = some x0 ∧ w'.cell? ⟨b0, 1, none⟩ = some y0 ∧ w'.cell? ⟨b1, 0, none⟩ = some x1 ∧ w'.cell? ⟨b1, 1, none⟩ = some y1 ∧ w'.cell? ⟨b2, 0, none⟩ = some x2 ∧ w'.cell? ⟨b2, 1, none⟩ = some y2 ∧ w'.cell? ⟨b3, 0, none⟩ = some x3 ∧ w'.cell? ⟨b3, 1, none⟩ = some y3 ∧ w'.cell? ⟨b4, 0, none⟩ = some x4 ∧ w'.cell? ⟨b4, 1, none⟩ = some y4 ∧ Below w.heap.size w w' := by
  obtain ⟨h0, k0, h1, k1, h2, k2, h3, k3, h4, k4, hbel⟩ := h
  exact ⟨(hb.cell (p := ⟨b0, 0, none⟩) (show b0 < W.heap.size from World.block_lt_of_cell? W _ h0)).trans h0, (hb.cell (p := ⟨b0, 1, none⟩) (show b0 < W.heap.size from World.block_lt_of_cell? W _ h0)).trans k0, (hb.cell (p := ⟨b1, 0, none⟩) (show b1 < W.heap.size from World.block_lt_of_cell? W _ h1)).trans h1, (hb.cell (p := ⟨b1, 1, none⟩) (show b1 < W.heap.size from World.block_lt_of_cell? W _ h1)).trans k1, (hb.cell (p := ⟨b2, 0, none⟩) (show b2 < W.heap.size from World.block_lt_of_cell? W _ h2)).trans h2, (hb.cell (p := ⟨b2, 1, none⟩) (show b2 < W.heap.size from World.block_lt_of_cell? W _ h2)).trans k2, (hb.cell (p := ⟨b3, 0, none⟩) (show b3 < W.heap.size from World.block_lt_of_cell? W _ h3)).trans h3, (hb.cell (p := ⟨b3, 1, none⟩) (show b3 < W.heap.size from World.block_lt_of_cell? W _ h3)).trans k3, (hb.cell (p := ⟨b4, 0, none⟩) (show b4 < W.heap.size from World.block_lt_of_cell? W _ h4)).trans h4, (hb.cell (p := ⟨b4, 1, none⟩) (show b4 < W.heap.size from World.block_lt_of_cell? W _ h4)).trans k4, kept_trans hbel hb⟩
theorem keep6 {w W w' : World} {b0 b1 b2 b3 b4 b5 : Nat} {x0 y0 x1 y1 x2 y2 x3 y3 x4 y4 x5 y5 : Value} (h : W.cell? ⟨b0, 0, none⟩ = some x0 ∧ W.cell? ⟨b0, 1, none⟩ = some y0 ∧ W.cell? ⟨b1, 0, none⟩ = some x1 ∧ W.cell? ⟨b1, 1, none⟩ = some y1 ∧ W.cell? ⟨b2, 0, none⟩ = some x2 ∧ W.cell? ⟨b2, 1, none⟩ = some y2 ∧ W.cell? ⟨b3, 0, none⟩ = some x3 ∧ W.cell? ⟨b3, 1, none⟩ = some y3 ∧ W.cell? ⟨b4, 0, none⟩ = some x4 ∧ W.cell? ⟨b4, 1, none⟩ = some y4 ∧ W.cell? ⟨b5, 0, none⟩ = some x5 ∧ W.cell? ⟨b5, 1, none⟩ = some y5 ∧ Below w.heap.size w W) (hb : Below W.heap.size W w') :
    w'.cell? ⟨b0, 0, none⟩ = some x0 ∧ w'.cell? ⟨b0, 1, none⟩ = some y0 ∧ w'.cell? ⟨b1, 0, none⟩ = some x1 ∧ w'.cell? ⟨b1, 1, none⟩ = some y1 ∧ w'.cell? ⟨b2, 0, none⟩ = some x2 ∧ w'.cell? ⟨b2, 1, none⟩ = some y2 ∧ w'.cell? ⟨b3, 0, none⟩ = some x3 ∧ w'.cell? ⟨b3, 1, none⟩ = some y3 ∧ w'.cell? ⟨b4, 0, none⟩ = some x4 ∧ w'.cell? ⟨b4, 1, none⟩ = some y4 ∧ w'.cell? ⟨b5, 0, none⟩ = some x5 ∧ w'.cell? ⟨b5, 1, none⟩ = some y5 ∧ Below w.heap.size w w' := by
  obtain ⟨h0, k0, h1, k1, h2, k2, h3, k3, h4, k4, h5, k5, hbel⟩ := h
  exact ⟨(hb.cell (p := ⟨b0, 0, none⟩) (show b0 < W.heap.size from World.block_lt_of_cell? W _ h0)).trans h0, (hb.cell (p := ⟨b0, 1, none⟩) (show b0 < W.heap.size from World.block_lt_of_cell? W _ h0)).trans k0, (hb.cell (p := ⟨b1, 0, none⟩) (show b1 < W.heap.size from World.block_lt_of_cell? W _ h1)).trans h1, (hb.cell (p := ⟨b1, 1, none⟩) (show b1 < W.heap.size from World.block_lt_of_cell? W _ h1)).trans k1, (hb.cell (p := ⟨b2, 0, none⟩) (show b2 < W.heap.size from World.block_lt_of_cell? W _ h2)).trans h2, (hb.cell (p := ⟨b2, 1, none⟩) (show b2 < W.heap.size from World.block_lt_of_cell? W _ h2)).trans k2, (hb.cell (p := ⟨b3, 0, none⟩) (show b3 < W.heap.size from World.block_lt_of_cell? W _ h3)).trans h3, (hb.cell (p := ⟨b3, 1, none⟩) (show b3 < W.heap.size from World.block_lt_of_cell? W _ h3)).trans k3, (hb.cell (p := ⟨b4, 0, none⟩) (show b4 < W.heap.size from World.block_lt_of_cell? W _ h4)).trans h4, (hb.cell (p := ⟨b4, 1, none⟩) (show b4 < W.heap.size from World.block_lt_of_cell? W _ h4)).trans k4, (hb.cell (p := ⟨b5, 0, none⟩) (show b5 < W.heap.size from World.block_lt_of_cell? W _ h5)).trans h5, (hb.cell (p := ⟨b5, 1, none⟩) (show b5 < W.heap.size from World.block_lt_of_cell? W _ h5)).trans k5, kept_trans hbel hb⟩
end Go.Proofs.Ytjaajohklkgegaa
