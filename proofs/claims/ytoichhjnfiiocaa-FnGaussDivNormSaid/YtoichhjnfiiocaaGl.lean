/- Contracts of quotients and units at special arguments. -/
import Derived.Test.YtoichhjnfiiocaaGk
import Derived.Test.YtoichhjnfiiocaaGu
import Derived.Test.YtoichhjnfiiocaaGw
namespace Go.Proofs.Ytoichhjnfiiocaa
open Go.RowKit
/-- r + si is a unit. -/
def IsU (r s : Int) : Prop := (r = 1 ∧ s = 0) ∨ (r = 0 ∧ s = 1) ∨ (r = -1 ∧ s = 0) ∨ (r = 0 ∧ s = -1)
theorem u_is (k : Int) : IsU (uR k) (uI k) := by
  unfold IsU
  rcases u_at k with ⟨_, e1, e2⟩ | ⟨_, e1, e2⟩ | ⟨_, e1, e2⟩ | ⟨_, e1, e2⟩ <;> rw [e1, e2] <;> simp
theorem u_add (k m : Int) : uR (k % 4 + m) = uR k * uR m - uI k * uI m ∧ uI (k % 4 + m) = uR k * uI m + uI k * uR m := by
  rcases u_at k with ⟨h, e1, e2⟩ | ⟨h, e1, e2⟩ | ⟨h, e1, e2⟩ | ⟨h, e1, e2⟩ <;> rcases u_at m with ⟨h', e1', e2'⟩ | ⟨h', e1', e2'⟩ | ⟨h', e1', e2'⟩ | ⟨h', e1', e2'⟩ <;> rcases u_at (k % 4 + m) with ⟨h'', e1'', e2''⟩ | ⟨h'', e1'', e2''⟩ | ⟨h'', e1'', e2''⟩ | ⟨h'', e1'', e2''⟩ <;> first | (exfalso; omega) | (rw [e1, e2, e1', e2', e1'', e2'']; simp)
theorem u_eq (k m : Int) (h : k % 4 = m % 4) : uR k = uR m ∧ uI k = uI m := by unfold uR uI; rw [h]; exact ⟨rfl, rfl⟩
theorem u_next (k m : Int) (h : m % 4 = (k + 1) % 4) : uR m = -uI k ∧ uI m = uR k := by
  rcases u_at k with ⟨h0, e1, e2⟩ | ⟨h0, e1, e2⟩ | ⟨h0, e1, e2⟩ | ⟨h0, e1, e2⟩ <;> rcases u_at m with ⟨h', e1', e2'⟩ | ⟨h', e1', e2'⟩ | ⟨h', e1', e2'⟩ | ⟨h', e1', e2'⟩ <;> first | (exfalso; omega) | (rw [e1, e2, e1', e2']; simp)
theorem u_neg (k m : Int) (h : m = -k ∨ m = 0 - k) : uR m = uR k ∧ uI m = -uI k := by
  rcases u_at k with ⟨h0, e1, e2⟩ | ⟨h0, e1, e2⟩ | ⟨h0, e1, e2⟩ | ⟨h0, e1, e2⟩ <;> rcases u_at m with ⟨h', e1', e2'⟩ | ⟨h', e1', e2'⟩ | ⟨h', e1', e2'⟩ | ⟨h', e1', e2'⟩ <;> first | (exfalso; omega) | (rw [e1, e2, e1', e2']; simp)
set_option maxHeartbeats 1000000 in
theorem unit_ex (k r s : Int) (w : World) (h : uR k = r ∧ uI k = s) : Calls Try.prog 15 #[.int .i64 k] w fun e w' => e = .returned (.agg #[.int .i64 r, .int .i64 s]) ∧ w.alloc (.cells #[.int .i64 r, .int .i64 s] 24) = w' := by
  rw [← h.1, ← h.2]
  clear h
  have hb := and3 k
  rcases u_at k with ⟨h, e1, e2⟩ | ⟨h, e1, e2⟩ | ⟨h, e1, e2⟩ | ⟨h, e1, e2⟩
  all_goals
    rw [e1, e2]
    rw [h] at hb
    clear h e1 e2
    have i0 := unit_idx0
    have i1 := unit_idx1
    have i2 := unit_idx2
    have i3 := unit_idx3
    go_enter Try.func15, Try.ntmps15
    go_wp2
    exact bodyPost_ret (by simp (maxDischargeDepth := 9) [results, Try.results15, go_sem]) rfl ⟨rfl, rfl⟩
theorem unit_b (k r s : Int) (w : World) (h : uR k = r ∧ uI k = s) : Calls Try.prog 15 #[.int .i64 k] w fun e w' => e = .returned (.agg #[.int .i64 r, .int .i64 s]) ∧ Below w.heap.size w w' := by
  rw [← h.1, ← h.2]; exact unit_any k w
theorem sUnit_b (k r s : Int) (w : World) (h : uR k = r ∧ uI k = s) : Calls Try.prog 16 #[.int .i64 k] w fun e w' => e = .returned (.agg #[.int .i64 r, .int .i64 s]) ∧ Below w.heap.size w w' := by
  rw [← h.1, ← h.2]; exact sUnit_any k w
/-- Products with given values. -/
theorem mul_eq (x y u v p q : Int) (w : World) (h : (-1000000000 ≤ x ∧ x ≤ 1000000000 ∧ -1000000000 ≤ y ∧ y ≤ 1000000000) ∧ (-1000000000 ≤ u ∧ u ≤ 1000000000 ∧ -1000000000 ≤ v ∧ v ≤ 1000000000) ∧ (-1000000000 ≤ p ∧ p ≤ 1000000000 ∧ -1000000000 ≤ q ∧ q ≤ 1000000000)) (e : x * u - y * v = p ∧ x * v + y * u = q) :
    Calls Try.prog 12 #[.agg #[.int .i64 x, .int .i64 y], .agg #[.int .i64 u, .int .i64 v]] w fun e w' => e = .returned (.tuple #[.agg #[.int .i64 p, .int .i64 q], .bool true]) ∧ Below w.heap.size w w' := by
  obtain ⟨e1, e2⟩ := e
  subst e1 e2
  exact mul_yes x y u v w h
theorem dv_prod (x y u v : Int) : dvR (x * u - y * v) (x * v + y * u) u v = x * nm u v ∧ dvI (x * u - y * v) (x * v + y * u) u v = y * nm u v := by
  unfold dvR dvI nm
  constructor <;> grind
/-- The quotient of a product. -/
theorem div_eq (x y u v p q : Int) (w : World) (h : (-1000000000 ≤ x ∧ x ≤ 1000000000 ∧ -1000000000 ≤ y ∧ y ≤ 1000000000) ∧ (-1000000000 ≤ u ∧ u ≤ 1000000000 ∧ -1000000000 ≤ v ∧ v ≤ 1000000000) ∧ (-1000000000 ≤ p ∧ p ≤ 1000000000 ∧ -1000000000 ≤ q ∧ q ≤ 1000000000)) (e : p * u - q * v = x ∧ p * v + q * u = y) (hne : ¬ (u = 0 ∧ v = 0)) :
    Calls Try.prog 10 #[.agg #[.int .i64 x, .int .i64 y], .agg #[.int .i64 u, .int .i64 v]] w fun e w' => e = .returned (.tuple #[.agg #[.int .i64 p, .int .i64 q], .bool true]) ∧ Below w.heap.size w w' := by
  obtain ⟨hx, hu, hp⟩ := h
  have hn := nm_pos u v hne
  obtain ⟨e1, e2⟩ := dv_prod p q u v
  rw [e.1, e.2] at e1 e2
  have t1 : (dvR x y u v).tdiv (nm u v) = p := by rw [e1]; exact Int.mul_tdiv_cancel _ (by omega)
  have t2 : (dvI x y u v).tdiv (nm u v) = q := by rw [e2]; exact Int.mul_tdiv_cancel _ (by omega)
  have hd : divP x y u v := ⟨⟨hx, hu⟩, hne, by rw [e1]; exact Int.mul_tmod_left _ _, by rw [e2]; exact Int.mul_tmod_left _ _, by rw [t1, t2]; exact hp⟩
  have hc := divV_any x y u v w
  unfold divV at hc
  rw [if_pos hd, t1, t2] at hc
  exact hc
theorem div_zero (x y : Int) (w : World) :
    Calls Try.prog 10 #[.agg #[.int .i64 x, .int .i64 y], .agg #[.int .i64 0, .int .i64 0]] w fun e w' => e = .returned (.tuple #[.agg #[.int .i64 0, .int .i64 0], .bool false]) ∧ Below w.heap.size w w' := by
  have hc := divV_any x y 0 0 w
  unfold divV at hc
  rw [if_neg (fun h => h.2.1 ⟨rfl, rfl⟩)] at hc
  exact hc
/-- What a quotient is. -/
theorem div_cases (x y u v : Int) : (∃ p q, ((-1000000000 ≤ x ∧ x ≤ 1000000000 ∧ -1000000000 ≤ y ∧ y ≤ 1000000000) ∧ (-1000000000 ≤ u ∧ u ≤ 1000000000 ∧ -1000000000 ≤ v ∧ v ≤ 1000000000) ∧ (-1000000000 ≤ p ∧ p ≤ 1000000000 ∧ -1000000000 ≤ q ∧ q ≤ 1000000000)) ∧ (p * u - q * v = x ∧ p * v + q * u = y) ∧ ¬ (u = 0 ∧ v = 0) ∧ divV x y u v = .tuple #[.agg #[.int .i64 p, .int .i64 q], .bool true]) ∨ divV x y u v = .tuple #[.agg #[.int .i64 0, .int .i64 0], .bool false] := by
  by_cases hd : divP x y u v
  · left
    have hv : divV x y u v = .tuple #[.agg #[.int .i64 ((dvR x y u v).tdiv (nm u v)), .int .i64 ((dvI x y u v).tdiv (nm u v))], .bool true] := by unfold divV; rw [if_pos hd]
    obtain ⟨⟨hx, hu⟩, hne, m1, m2, hb⟩ := hd
    have hn := nm_pos u v hne
    have d1 := Int.mul_tdiv_add_tmod (dvR x y u v) (nm u v)
    have d2 := Int.mul_tdiv_add_tmod (dvI x y u v) (nm u v)
    rw [m1] at d1
    rw [m2] at d2
    refine ⟨_, _, ⟨hx, hu, hb⟩, ?_, hne, hv⟩
    generalize (dvR x y u v).tdiv (nm u v) = p at *
    generalize (dvI x y u v).tdiv (nm u v) = q at *
    have k1 : nm u v * (p * u - q * v) = nm u v * x := by
      have : (nm u v * p + 0) * u - (nm u v * q + 0) * v = nm u v * x := by rw [d1, d2]; unfold dvR dvI nm; grind
      grind
    have k2 : nm u v * (p * v + q * u) = nm u v * y := by
      have : (nm u v * p + 0) * v + (nm u v * q + 0) * u = nm u v * y := by rw [d1, d2]; unfold dvR dvI nm; grind
      grind
    exact ⟨Int.eq_of_mul_eq_mul_left (by omega) k1, Int.eq_of_mul_eq_mul_left (by omega) k2⟩
  · right
    unfold divV; rw [if_neg hd]
theorem div_to (x y u v : Int) (r : Value) (w : World) (h : divV x y u v = r) :
    Calls Try.prog 10 #[.agg #[.int .i64 x, .int .i64 y], .agg #[.int .i64 u, .int .i64 v]] w fun e w' => e = .returned r ∧ Below w.heap.size w w' := by
  rw [← h]; exact divV_any x y u v w
theorem sDiv_to (x y u v : Int) (r : Value) (w : World) (h : divV x y u v = r) :
    Calls Try.prog 11 #[.agg #[.int .i64 x, .int .i64 y], .agg #[.int .i64 u, .int .i64 v]] w fun e w' => e = .returned r ∧ Below w.heap.size w w' := by
  rw [← h]; exact sDivV_any x y u v w
theorem div_one (p q x y u v : Int) (e : p * u - q * v = x ∧ p * v + q * u = y) (hne : ¬ (u = 0 ∧ v = 0)) : (p = 1 ∧ q = 0) ↔ (x = u ∧ y = v) := by
  constructor
  · rintro ⟨rfl, rfl⟩; omega
  · rintro ⟨rfl, rfl⟩
    rcases prod_zero (p - 1) q x y (by rw [Int.sub_mul]; omega) (by rw [Int.sub_mul]; omega) with h | h
    · omega
    · exact absurd h hne
theorem dz_cases (p q x y u v : Int) (e : p * u - q * v = x ∧ p * v + q * u = y) (hne : ¬ (u = 0 ∧ v = 0)) :
    ((p == 1) = true ∧ (q == 0) = true ∧ (x == u) = true ∧ (y == v) = true) ∨ ((p == 1) = false ∧ (x == u) = false) ∨ ((p == 1) = false ∧ (x == u) = true ∧ (y == v) = false) ∨ ((p == 1) = true ∧ (q == 0) = false ∧ (x == u) = false) ∨ ((p == 1) = true ∧ (q == 0) = false ∧ (x == u) = true ∧ (y == v) = false) := by
  have h := div_one p q x y u v e hne
  by_cases h1 : p = 1 <;> by_cases h2 : q = 0 <;> by_cases h3 : x = u <;> by_cases h4 : y = v <;> simp [h1, h2, h3, h4] at h ⊢
set_option maxHeartbeats 400000 in
theorem rest4 (n : Int) (w : World) : Calls Try.prog 19 #[.int .i64 n, .int .i64 4] w fun e w' => e = .returned (.int .i64 (n % 4)) ∧ w = w' := by
  have hb1 := Int.lt_tmod_of_pos n (b := 4) (by omega)
  have hb2 := Int.tmod_lt_of_pos n (b := 4) (by omega)
  have H1 := Lib.hid (tmod4 n)
  go_enter Try.func19, Try.ntmps19
  go_wp2
  all_goals go_ret
  all_goals refine ⟨ret_int ?_, rfl⟩
  all_goals have h := H1.out
  all_goals omega
end Go.Proofs.Ytoichhjnfiiocaa
