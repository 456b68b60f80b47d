/- The plain law of arcs: which first phase and length an arc has that holds all phases of a list. -/
import Derived.Test.YtjleofepjfdcbaaIs
namespace Go.Proofs.Ytjleofepjfdcbaa
open Go.RowKit

/-- The length of the arc from a that has the first n phases. -/
def rch (z : Nat → Int) (a : Int) : Nat → Int
  | 0 => 0
  | k + 1 => max (rch z a k) ((z k - a) % 360)
theorem rch_bd (z : Nat → Int) (a : Int) (n : Nat) : 0 ≤ rch z a n ∧ rch z a n < 360 := by
  induction n with
  | zero => simp [rch]
  | succ n ih => simp only [rch]; omega
theorem rch_ge (z : Nat → Int) (a : Int) (n : Nat) : ∀ i, i < n → (z i - a) % 360 ≤ rch z a n := by
  induction n with
  | zero => intro i hi; omega
  | succ n ih =>
    intro i hi
    simp only [rch]
    by_cases e : i = n
    · subst e; omega
    · have := ih i (by omega); omega
theorem rch_le (z : Nat → Int) (a M : Int) (n : Nat) (hM : 0 ≤ M) (h : ∀ i, i < n → (z i - a) % 360 ≤ M) : rch z a n ≤ M := by
  induction n with
  | zero => simpa [rch] using hM
  | succ n ih =>
    have h1 := ih (fun i hi => h i (by omega))
    have h2 := h n (by omega)
    simp only [rch]; omega
theorem rch_hit (z : Nat → Int) (a : Int) (n : Nat) (hn : 0 < n) : ∃ i, i < n ∧ rch z a n = (z i - a) % 360 := by
  induction n with
  | zero => omega
  | succ n ih =>
    have hb := rch_bd z a n
    by_cases h0 : n = 0
    · subst h0; exact ⟨0, by omega, by simp only [rch]; omega⟩
    · obtain ⟨i, hi, e⟩ := ih (by omega)
      simp only [rch]
      by_cases hm : rch z a n ≤ (z n - a) % 360
      · exact ⟨n, by omega, by omega⟩
      · exact ⟨i, by omega, by omega⟩
theorem rch_congr (z y : Nat → Int) (a : Int) (n : Nat) (h : ∀ i, i < n → z i = y i) : rch z a n = rch y a n := by
  induction n with
  | zero => rfl
  | succ n ih => simp only [rch]; rw [ih (fun i hi => h i (by omega)), h n (by omega)]
/-- All of the first n numbers are phases. -/
def Phs (z : Nat → Int) (n : Nat) : Prop := ∀ i, i < n → 0 ≤ z i ∧ z i < 360
instance (z : Nat → Int) (n : Nat) : Decidable (Phs z n) := by unfold Phs; infer_instance
theorem least_at (f : Nat → Int) (n : Nat) (hn : 0 < n) : ∃ i, i < n ∧ ∀ j, j < n → f i ≤ f j := by
  induction n with
  | zero => omega
  | succ n ih =>
    by_cases h0 : n = 0
    · subst h0; exact ⟨0, by omega, fun j hj => by (obtain rfl : j = 0 := (by omega)); exact Int.le_refl _⟩
    · obtain ⟨i, hi, h⟩ := ih (by omega)
      by_cases hm : f i ≤ f n
      · exact ⟨i, by omega, fun j hj => by
          by_cases e : j = n
          · subst e; exact hm
          · exact h j (by omega)⟩
      · exact ⟨n, by omega, fun j hj => by
          by_cases e : j = n
          · subst e; exact Int.le_refl _
          · have := h j (by omega); omega⟩
/-- From a phase that is not in the list the arc is longer than from the next one that is. -/
theorem rch_less (z : Nat → Int) (a : Int) (n : Nat) (hz : Phs z n) (ha : 0 ≤ a ∧ a < 360) (hn : 0 < n) (hno : ∀ i, i < n → z i ≠ a) : ∃ i, i < n ∧ rch z (z i) n < rch z a n := by
  obtain ⟨i, hi, h⟩ := least_at (fun j => (z j - a) % 360) n hn
  have hzi := hz i hi
  have hne := hno i hi
  have hd : 0 < (z i - a) % 360 := by omega
  have hge := rch_ge z a n i hi
  refine ⟨i, hi, ?_⟩
  have hle : rch z (z i) n ≤ rch z a n - (z i - a) % 360 := by
    refine rch_le z (z i) _ n (by omega) fun j hj => ?_
    have h1 := h j hj
    have h2 := rch_ge z a n j hj
    have h3 := hz j hj
    try dsimp only at h1
    omega
  omega
/-- F and L: the first of the phases with the shortest arc, and its length. -/
def IsArc (z : Nat → Int) (n : Nat) (F L : Int) : Prop :=
  (0 ≤ F ∧ F < 360) ∧ rch z F n = L ∧ ∀ a, 0 ≤ a → a < 360 → L ≤ rch z a n ∧ (rch z a n = L → F ≤ a)
theorem IsArc.one {z : Nat → Int} {n : Nat} {F L F' L' : Int} (h : IsArc z n F L) (h' : IsArc z n F' L') : F = F' ∧ L = L' := by
  obtain ⟨hF, e, h⟩ := h
  obtain ⟨hF', e', h'⟩ := h'
  have h1 := h F' hF'.1 hF'.2
  have h2 := h' F hF.1 hF.2
  rw [e'] at h1
  rw [e] at h2
  have hL : L = L' := by omega
  exact ⟨by have := h1.2 hL.symm; have := h2.2 hL; omega, hL⟩
/-- What the program knows after it has tried the first phases 0 .. k-1. -/
def ArcTo (z : Nat → Int) (n : Nat) (k F L : Int) : Prop :=
  (k = 0 ∧ F = 0 ∧ L = 360) ∨ ((0 ≤ F ∧ F < k) ∧ rch z F n = L ∧ ∀ a, 0 ≤ a → a < k → L ≤ rch z a n ∧ (rch z a n = L → F ≤ a))
theorem ArcTo.better {z : Nat → Int} {n : Nat} {k F L : Int} (h : ArcTo z n k F L) (hk : 0 ≤ k) (hlt : rch z k n < L) : ArcTo z n (k + 1) k (rch z k n) := by
  refine .inr ⟨⟨hk, by omega⟩, rfl, fun a ha hak => ?_⟩
  by_cases e : a = k
  · subst e; omega
  · rcases h with ⟨rfl, _, _⟩ | ⟨_, _, h⟩
    · omega
    · have := h a ha (by omega); omega
theorem ArcTo.same {z : Nat → Int} {n : Nat} {k F L : Int} (h : ArcTo z n k F L) (hge : L ≤ rch z k n) : ArcTo z n (k + 1) F L := by
  have hb := rch_bd z k n
  rcases h with ⟨rfl, _, h⟩ | ⟨h1, h2, h⟩
  · omega
  · refine .inr ⟨⟨h1.1, by omega⟩, h2, fun a ha hak => ?_⟩
    by_cases e : a = k
    · subst e; omega
    · exact h a ha (by omega)
theorem ArcTo.done {z : Nat → Int} {n : Nat} {F L : Int} (h : ArcTo z n 360 F L) : IsArc z n F L := by
  rcases h with ⟨h, _⟩ | h
  · omega
  · exact h
/-- What the reference knows after it has tried the first k phases of the list. -/
def ListTo (z : Nat → Int) (n k : Nat) (F L : Int) : Prop :=
  (k = 0 ∧ F = 0 ∧ L = 360) ∨ ((∃ i, i < k ∧ F = z i) ∧ rch z F n = L ∧ ∀ i, i < k → L ≤ rch z (z i) n ∧ (rch z (z i) n = L → F ≤ z i))
theorem ListTo.better {z : Nat → Int} {n k : Nat} {F L : Int} (h : ListTo z n k F L) (hlt : rch z (z k) n < L ∨ (rch z (z k) n = L ∧ z k < F)) : ListTo z n (k + 1) (z k) (rch z (z k) n) := by
  refine .inr ⟨⟨k, by omega, rfl⟩, rfl, fun i hi => ?_⟩
  by_cases e : i = k
  · subst e; omega
  · rcases h with ⟨rfl, _, _⟩ | ⟨_, _, h⟩
    · omega
    · have := h i (by omega); omega
theorem ListTo.same {z : Nat → Int} {n k : Nat} {F L : Int} (h : ListTo z n k F L) (hge : ¬ (rch z (z k) n < L ∨ (rch z (z k) n = L ∧ z k < F))) : ListTo z n (k + 1) F L := by
  have hb := rch_bd z (z k) n
  rcases h with ⟨rfl, _, h⟩ | ⟨⟨i, hi, hF⟩, h2, h⟩
  · omega
  · refine .inr ⟨⟨i, by omega, hF⟩, h2, fun j hj => ?_⟩
    by_cases e : j = k
    · subst e; omega
    · exact h j (by omega)
theorem ListTo.bd {z : Nat → Int} {n k : Nat} {F L : Int} (h : ListTo z n k F L) (hz : Phs z n) (hk : k ≤ n) : 0 ≤ F ∧ F < 360 ∧ 0 ≤ L ∧ L ≤ 360 := by
  rcases h with ⟨_, rfl, rfl⟩ | ⟨⟨i, hi, rfl⟩, h2, _⟩
  · omega
  · have := hz i (by omega); have := rch_bd z (z i) n; omega
theorem ListTo.done {z : Nat → Int} {n : Nat} {F L : Int} (h : ListTo z n n F L) (hn : 0 < n) (hz : Phs z n) : IsArc z n F L := by
  rcases h with ⟨h, _⟩ | ⟨⟨i, hi, rfl⟩, h2, h⟩
  · omega
  · refine ⟨hz i hi, h2, fun a ha ha' => ?_⟩
    by_cases hin : ∃ j, j < n ∧ z j = a
    · obtain ⟨j, hj, rfl⟩ := hin; exact h j hj
    · obtain ⟨j, hj, hl⟩ := rch_less z a n hz ⟨ha, ha'⟩ hn (fun j hj e => hin ⟨j, hj, e⟩)
      have := (h j hj).1
      exact ⟨by omega, fun e => by omega⟩
/-- The first phase of the arc is in the list. -/
theorem IsArc.mem {z : Nat → Int} {n : Nat} {F L : Int} (h : IsArc z n F L) (hn : 0 < n) (hz : Phs z n) : ∃ i, i < n ∧ z i = F := by
  obtain ⟨hF, e, h⟩ := h
  by_cases hin : ∃ j, j < n ∧ z j = F
  · exact hin
  · obtain ⟨j, hj, hl⟩ := rch_less z F n hz hF hn (fun j hj e => hin ⟨j, hj, e⟩)
    have hzj := hz j hj
    have := (h (z j) hzj.1 hzj.2).1
    omega
theorem arc_exists (z : Nat → Int) (n : Nat) (k : Nat) (hk : k ≤ 360) : ∃ F L, ArcTo z n k F L := by
  induction k with
  | zero => exact ⟨0, 360, .inl ⟨rfl, rfl, rfl⟩⟩
  | succ k ih =>
    obtain ⟨F, L, h⟩ := ih (by omega)
    by_cases hl : rch z k n < L
    · exact ⟨k, rch z k n, by have := h.better (by omega) hl; simpa using this⟩
    · exact ⟨F, L, by have := h.same (by omega); simpa using this⟩
end Go.Proofs.Ytjleofepjfdcbaa
