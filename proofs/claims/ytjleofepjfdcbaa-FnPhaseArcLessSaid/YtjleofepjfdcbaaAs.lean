/- The laws of arcs that the statements ask, in plain integers. -/
import Derived.Test.YtjleofepjfdcbaaAr
namespace Go.Proofs.Ytjleofepjfdcbaa
open Go.RowKit

theorem IsArc.bd {z : Nat → Int} {n : Nat} {F L : Int} (h : IsArc z n F L) : 0 ≤ F ∧ F < 360 ∧ 0 ≤ L ∧ L < 360 := by
  have hb := rch_bd z F n
  obtain ⟨h1, h2, _⟩ := h
  omega
theorem arc_ex (z : Nat → Int) (n : Nat) : ∃ F L, IsArc z n F L := by
  obtain ⟨F, L, h⟩ := arc_exists z n 360 (by omega)
  exact ⟨F, L, ArcTo.done h⟩
/-- One of the first k distances from F is m. -/
def hitB (z : Nat → Int) (F m : Int) : Nat → Bool
  | 0 => false
  | k + 1 => hitB z F m k || decide ((z k - F) % 360 = m)
theorem hit_of (z : Nat → Int) (F m : Int) (n i : Nat) (hi : i < n) (e : (z i - F) % 360 = m) : hitB z F m n = true := by
  induction n with
  | zero => omega
  | succ n ih =>
    simp only [hitB, Bool.or_eq_true, decide_eq_true_eq]
    by_cases h : i = n
    · subst h; exact .inr e
    · exact .inl (ih (by omega))
theorem IsArc.first {z : Nat → Int} {n : Nat} {F L : Int} (h : IsArc z n F L) (hn : 0 < n) (hz : Phs z n) : hitB z F 0 n = true := by
  obtain ⟨i, hi, e⟩ := h.mem hn hz
  exact hit_of z F 0 n i hi (by rw [e]; omega)
theorem IsArc.last {z : Nat → Int} {n : Nat} {F L : Int} (h : IsArc z n F L) (hn : 0 < n) : hitB z F L n = true := by
  obtain ⟨i, hi, e⟩ := rch_hit z F n hn
  exact hit_of z F L n i hi (by rw [← e]; exact h.2.1)
theorem IsArc.inside {z : Nat → Int} {n : Nat} {F L : Int} (h : IsArc z n F L) {i : Nat} (hi : i < n) : (z i - F) % 360 ≤ L := by
  have h1 := rch_ge z F n i hi
  have h2 := h.2.1
  omega
theorem IsArc.less {z : Nat → Int} {n m : Nat} {F L F' L' : Int} (h : IsArc z n F L) (h' : IsArc z m F' L') (hm : m ≤ n) : L' ≤ L := by
  have h1 := (h'.2.2 F h.1.1 h.1.2).1
  have h2 : rch z F m ≤ rch z F n := rch_le z F _ m (rch_bd z F n).1 (fun i hi => rch_ge z F n i (by omega))
  have := h.2.1
  omega
theorem rch_again (y z : Nat → Int) (a : Int) (n : Nat) (h : ∀ i, i < n → y i = z i) (hn : 0 < n) (h0 : y n = z 0) : rch y a (n + 1) = rch z a n := by
  have e := rch_congr y z a n h
  have h1 := rch_ge z a n 0 hn
  simp only [rch]
  rw [e, h0]
  omega
theorem IsArc.again {y z : Nat → Int} {n : Nat} {F L : Int} (h : IsArc z n F L) (hy : ∀ i, i < n → y i = z i) (hn : 0 < n) (h0 : y n = z 0) : IsArc y (n + 1) F L := by
  refine ⟨h.1, by rw [rch_again y z F n hy hn h0]; exact h.2.1, fun a ha ha' => ?_⟩
  rw [rch_again y z a n hy hn h0]
  exact h.2.2 a ha ha'
theorem rch_turn (z y : Nat → Int) (k a : Int) (n : Nat) (h : ∀ i, i < n → y i = (z i + k) % 360) : rch y a n = rch z ((a - k) % 360) n := by
  induction n with
  | zero => rfl
  | succ n ih =>
    have e : ((z n + k) % 360 - a) % 360 = (z n - (a - k) % 360) % 360 := by omega
    simp only [rch]
    rw [ih (fun i hi => h i (by omega)), h n (by omega), e]
theorem IsArc.turn {y z : Nat → Int} {n : Nat} {k F L F' L' : Int} (h : IsArc z n F L) (h' : IsArc y n F' L') (hy : ∀ i, i < n → y i = (z i + k) % 360) : L' = L := by
  have h1 := (h'.2.2 ((F + k) % 360) (by omega) (by omega)).1
  have h2 := (h.2.2 ((F' - k) % 360) (by omega) (by omega)).1
  rw [rch_turn z y k _ n hy] at h1
  have e : ((F + k) % 360 - k) % 360 = F := by have := h.1; omega
  rw [e] at h1
  have h3 := h'.2.1
  rw [rch_turn z y k _ n hy] at h3
  have h4 := h.2.1
  omega
theorem IsArc.near {z : Nat → Int} {n : Nat} {F L : Int} (h : IsArc z n F L) (hz : Phs z n) {i j : Nat} (hi : i < n) (hj : j < n) : nearI (z i) (z j) ≤ L := by
  have h1 := rch_ge z F n i hi
  have h2 := rch_ge z F n j hj
  have h3 := h.2.1
  have h4 := hz i hi
  have h5 := hz j hj
  have h6 := h.1
  have h7 := near_cases (z i) (z j)
  omega
theorem IsArc.pair {z : Nat → Int} {n : Nat} {F L a b : Int} (h : IsArc z n F L) (hz : Phs z n) (hin : ∀ i, i < n → z i = a ∨ z i = b) {i j : Nat} (hi : i < n) (hj : j < n) (ei : z i = a) (ej : z j = b) : L = nearI a b := by
  have h1 := h.near hz hi hj
  rw [ei, ej] at h1
  have hzi := hz i hi
  have hzj := hz j hj
  have ha := (h.2.2 a (by omega) (by omega)).1
  have hb := (h.2.2 b (by omega) (by omega)).1
  have h2 : rch z a n ≤ (b - a) % 360 := rch_le z a _ n (by omega) (fun k hk => by rcases hin k hk with e | e <;> rw [e] <;> omega)
  have h3 : rch z b n ≤ (a - b) % 360 := rch_le z b _ n (by omega) (fun k hk => by rcases hin k hk with e | e <;> rw [e] <;> omega)
  have h4 := near_cases a b
  omega
theorem Ints.two (w : World) (u v : Int) : Ints (w.alloc (.cells #[.int .i64 u, .int .i64 v] 3)) (some ⟨w.heap.size, 0, none⟩) 2 (fun i => if i = 0 then u else v) := by
  refine .inr ⟨w.heap.size, 0, rfl, by simp, fun i hi => ?_⟩
  rcases (by omega : i = 0 ∨ i = 1) with rfl | rfl <;> simp
theorem Ints.three (w : World) (u v : Int) (m : Nat) (h : w.heap.size = m) : Ints (w.alloc (.cells #[.int .i64 v, .int .i64 u, .int .i64 v] 3)) (some ⟨m, 0, none⟩) 3 (fun i => if i = 1 then u else v) := by
  subst h
  refine .inr ⟨w.heap.size, 0, rfl, by simp, fun i hi => ?_⟩
  rcases (by omega : i = 0 ∨ i = 1 ∨ i = 2) with rfl | rfl | rfl <;> simp
end Go.Proofs.Ytjleofepjfdcbaa
