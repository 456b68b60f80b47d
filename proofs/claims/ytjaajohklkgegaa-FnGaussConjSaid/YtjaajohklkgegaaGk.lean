/- Contracts at special arguments, for laws whose regions draw their order. -/
import Derived.Test.YtjaajohklkgegaaGh
import Derived.Test.YtjaajohklkgegaaGi
import Derived.IntWalk
import Derived.Deep.QuietTactic
import Derived.BigQuiet
namespace Go.Proofs.Ytjaajohklkgegaa
open Go.RowKit
theorem B2.at {w : World} {n : Nat} {x y : Value} {t : TypeId} (h : w.heap.size = n) : B2 (w.alloc (.cells #[x, y] t)) n x y := by
  subst h; exact B2.new w x y t
theorem B2.drew {w : World} {n : Nat} {x y : Value} (h : B2 w n x y) : B2 w.drew n x y := h
theorem set_b2 {w : World} {n : Nat} {a b x y : Value} (h : B2 w n x y) :
    ((w.setCell ⟨n, 0, none⟩ a).setCell ⟨n, 1, none⟩ b).cell? ⟨n, 0, none⟩ = some a ∧ ((w.setCell ⟨n, 0, none⟩ a).setCell ⟨n, 1, none⟩ b).cell? ⟨n, 1, none⟩ = some b := set_one h.1 h.2
theorem B2.set {w : World} {n : Nat} {a b x y : Value} (h : B2 w n x y) : B2 ((w.setCell ⟨n, 0, none⟩ a).setCell ⟨n, 1, none⟩ b) n a b := set_one h.1 h.2
theorem B2.set_at {w : World} {n : Nat} {a b x y : Value} {t : TypeId} (h : w.heap.size = n) : B2 (((w.alloc (.cells #[x, y] t)).setCell ⟨n, 0, none⟩ a).setCell ⟨n, 1, none⟩ b) n a b := (B2.at h).set
theorem add_neg (a b : Int) : a + -b = a - b := by omega
theorem sq_zero (a b : Int) (h : a * a + b * b = 0) : a = 0 ∧ b = 0 := by
  have h1 := sq_nn0 a
  have h2 := sq_nn0 b
  have e1 : a * a = 0 := by omega
  have e2 : b * b = 0 := by omega
  exact ⟨by rcases Int.mul_eq_zero.1 e1 with e | e <;> exact e, by rcases Int.mul_eq_zero.1 e2 with e | e <;> exact e⟩
theorem prod_zero (x y u v : Int) (h1 : x * u - y * v = 0) (h2 : x * v + y * u = 0) : (x = 0 ∧ y = 0) ∨ (u = 0 ∧ v = 0) := by
  have h := normid x y u v
  rw [h1, h2] at h
  rcases Int.mul_eq_zero.1 (show (x * x + y * y) * (u * u + v * v) = 0 by omega) with e | e
  · exact .inl (sq_zero x y e)
  · exact .inr (sq_zero u v e)
set_option maxHeartbeats 1000000 in
theorem mz_cases (x y u v : Int) :
    ((x == 0) = true ∧ (y == 0) = true ∧ (x * u - y * v == 0) = true ∧ (x * v + y * u == 0) = true) ∨
    ((x == 0) = false ∧ (u == 0) = true ∧ (v == 0) = true ∧ (x * u - y * v == 0) = true ∧ (x * v + y * u == 0) = true) ∨
    ((x == 0) = true ∧ (y == 0) = false ∧ (u == 0) = true ∧ (v == 0) = true ∧ (x * u - y * v == 0) = true ∧ (x * v + y * u == 0) = true) ∨
    ((x == 0) = false ∧ (u == 0) = false ∧ (x * u - y * v == 0) = false) ∨
    ((x == 0) = false ∧ (u == 0) = false ∧ (x * u - y * v == 0) = true ∧ (x * v + y * u == 0) = false) ∨
    ((x == 0) = false ∧ (u == 0) = true ∧ (v == 0) = false ∧ (x * u - y * v == 0) = false) ∨
    ((x == 0) = false ∧ (u == 0) = true ∧ (v == 0) = false ∧ (x * u - y * v == 0) = true ∧ (x * v + y * u == 0) = false) ∨
    ((x == 0) = true ∧ (y == 0) = false ∧ (u == 0) = false ∧ (x * u - y * v == 0) = false) ∨
    ((x == 0) = true ∧ (y == 0) = false ∧ (u == 0) = false ∧ (x * u - y * v == 0) = true ∧ (x * v + y * u == 0) = false) ∨
    ((x == 0) = true ∧ (y == 0) = false ∧ (u == 0) = true ∧ (v == 0) = false ∧ (x * u - y * v == 0) = false) ∨
    ((x == 0) = true ∧ (y == 0) = false ∧ (u == 0) = true ∧ (v == 0) = false ∧ (x * u - y * v == 0) = true ∧ (x * v + y * u == 0) = false) := by
  have hp := prod_zero x y u v
  by_cases ha : x = 0 ∧ y = 0
  · obtain ⟨rfl, rfl⟩ := ha; left; simp
  · by_cases hb : u = 0 ∧ v = 0
    · obtain ⟨rfl, rfl⟩ := hb
      by_cases hx : x = 0
      · subst hx; right; right; left; simp at ha ⊢; exact ha
      · right; left; simp [hx]
    · right; right; right
      have hr : ¬ (x * u - y * v = 0 ∧ x * v + y * u = 0) := fun e => by rcases hp e.1 e.2 with e | e; exact ha e; exact hb e
      clear hp
      generalize x * u - y * v = R at *
      generalize x * v + y * u = I at *
      by_cases hx : x = 0 <;> by_cases hu : u = 0 <;> by_cases hR : R = 0 <;> simp [hx, hu, hR] at * <;> simp [*]
theorem gauss_ex (x y : Int) (w : World) :
    Calls Try.prog 12 #[.int .i64 x, .int .i64 y] w fun e w' => e = .returned (.agg #[.int .i64 x, .int .i64 y]) ∧ w.alloc (.cells #[.int .i64 x, .int .i64 y] 24) = w' := by
  go_enter Try.func12, Try.ntmps12
  go_wp2
  exact bodyPost_ret (v := .agg #[.int .i64 x, .int .i64 y]) (by simp (maxDischargeDepth := 9) [results, Try.results12, go_sem]) rfl ⟨rfl, rfl⟩
theorem mul_neg (u v : Int) (w : World) (h : -1000000000 ≤ u ∧ u ≤ 1000000000 ∧ -1000000000 ≤ v ∧ v ≤ 1000000000) :
    Calls Try.prog 17 #[.agg #[.int .i64 u, .int .i64 v], .agg #[.int .i64 (-1), .int .i64 0]] w fun e w' => e = .returned (.tuple #[.agg #[.int .i64 (-u), .int .i64 (-v)], .bool true]) ∧ Below w.heap.size w w' := by
  have hc := mul_yes u v (-1) 0 w ⟨h, by omega, by omega⟩
  have e1 : u * -1 - v * 0 = -u := by omega
  have e2 : u * 0 + v * -1 = -v := by omega
  rw [e1, e2] at hc
  exact hc
theorem norm_eq (x y m : Int) (w : World) (h : (-1000000000 ≤ x ∧ x ≤ 1000000000 ∧ -1000000000 ≤ y ∧ y ≤ 1000000000)) (e : x * x + y * y = m) :
    Calls Try.prog 18 #[.agg #[.int .i64 x, .int .i64 y]] w fun e w' => e = .returned (.int .i64 m) ∧ Below w.heap.size w w' := by
  subst e; exact norm_yes x y w h
theorem sNorm_eq (x y m : Int) (w : World) (h : (-1000000000 ≤ x ∧ x ≤ 1000000000 ∧ -1000000000 ≤ y ∧ y ≤ 1000000000)) (e : x * x + y * y = m) :
    Calls Try.prog 20 #[.agg #[.int .i64 x, .int .i64 y]] w fun e w' => e = .returned (.int .i64 m) ∧ Below w.heap.size w w' := by
  subst e; exact sNorm_yes x y w h
/-- One walk of a region's operations in the order of the text, in whatever world of the class C. -/
theorem region_quiet_c {P : Program} (C : World → Prop) {id : Nat} {Q : Exit → Act → World → Prop} {a : Act} {w : World} {l : List Oper} (hm : P.follows .mixedOrders = true) (hB : Region.lexB .any l.toArray = true) (hC : C w.drew)
    (h : wpQuiet P l.toArray C (fun a' => ∀ w', C w' → Q .normal a' w') l a) : (Code.region id l.toArray true).wp P Q a w :=
  wp_region_quiet (C := C) hm hB hC (by simpa using h)
theorem quiet_val {P : Program} {C : World → Prop} {o : Oper} {a : Act} {K : Act → Prop} (v : Value) (h : ∀ w, C w → o.quietAt P a C w v) (hK : K (a.put o.dst v)) : o.quiet P a C K := ⟨v, h, hK⟩
theorem neg_sq (x y : Int) : x * x + -y * -y = x * x + y * y := by rw [Int.neg_mul_neg]
theorem norm_two (x y u v : Int) : ((x + u) * (x + u) + (y + v) * (y + v)) + ((x - u) * (x - u) + (y - v) * (y - v)) = 2 * (x * x + y * y) + 2 * (u * u + v * v) := by grind
theorem mulcjR (x y : Int) : x * x - y * -y = x * x + y * y := by grind
theorem mulcjI (x y : Int) : x * -y + y * x = 0 := by grind
theorem mulcj_yes (x y m : Int) (w : World) (h : (-1000000000 ≤ x ∧ x ≤ 1000000000 ∧ -1000000000 ≤ y ∧ y ≤ 1000000000)) (e : x * x + y * y = m) (hm : 0 ≤ m ∧ m ≤ 1000000000) :
    Calls Try.prog 17 #[.agg #[.int .i64 x, .int .i64 y], .agg #[.int .i64 x, .int .i64 (-y)]] w fun e w' => e = .returned (.tuple #[.agg #[.int .i64 m, .int .i64 0], .bool true]) ∧ Below w.heap.size w w' := by
  have hc := mul_yes x y x (-y) w ⟨h, by omega, by rw [mulcjR, mulcjI]; omega⟩
  rw [mulcjR, mulcjI, e] at hc
  exact hc
theorem mulcj_no (x y m : Int) (w : World) (e : x * x + y * y = m) (hm : 1000000000 < m) :
    Calls Try.prog 17 #[.agg #[.int .i64 x, .int .i64 y], .agg #[.int .i64 x, .int .i64 (-y)]] w fun e w' => e = .returned (.tuple #[.agg #[.int .i64 0, .int .i64 0], .bool false]) ∧ Below w.heap.size w w' := by
  exact mul_no x y x (-y) w (by rw [mulcjR, mulcjI]; omega)
theorem addcj_yes (x y : Int) (w : World) (h : (-1000000000 ≤ x ∧ x ≤ 1000000000 ∧ -1000000000 ≤ y ∧ y ≤ 1000000000)) (hm : -1000000000 ≤ 2 * x ∧ 2 * x ≤ 1000000000) :
    Calls Try.prog 10 #[.agg #[.int .i64 x, .int .i64 y], .agg #[.int .i64 x, .int .i64 (-y)]] w fun e w' => e = .returned (.tuple #[.agg #[.int .i64 (2 * x), .int .i64 0], .bool true]) ∧ Below w.heap.size w w' := by
  have hc := add_yes x y x (-y) w ⟨h, by omega, by omega⟩
  have e1 : x + x = 2 * x := by omega
  have e2 : y + -y = 0 := by omega
  rw [e1, e2] at hc
  exact hc
theorem addcj_no (x y : Int) (w : World) (hm : ¬ (-1000000000 ≤ 2 * x ∧ 2 * x ≤ 1000000000)) :
    Calls Try.prog 10 #[.agg #[.int .i64 x, .int .i64 y], .agg #[.int .i64 x, .int .i64 (-y)]] w fun e w' => e = .returned (.tuple #[.agg #[.int .i64 0, .int .i64 0], .bool false]) ∧ Below w.heap.size w w' := by
  exact add_no x y x (-y) w (by omega)
end Go.Proofs.Ytjaajohklkgegaa
