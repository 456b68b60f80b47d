/- Plain laws of arrays: negated, shortened, with the first told again, turned. -/
import Derived.Test.YtbpbadmgmlfdhaaAo
namespace Go.Proofs.Ytbpbadmgmlfdhaa
theorem good_congr {X Y X' Y' : Nat → Int} {n : Nat} (h : Good X Y n) (e : ∀ i, i < n → X' i = X i ∧ Y' i = Y i) : Good X' Y' n := by
  intro i hi
  obtain ⟨e1, e2⟩ := e i hi
  obtain ⟨h1, h2⟩ := h i hi
  refine ⟨by rw [e1, e2]; exact h1, fun k hk => ?_⟩
  obtain ⟨e3, e4⟩ := e k (by omega)
  rw [e1, e2, e3, e4]
  exact h2 k hk
theorem good_neg {X Y : Nat → Int} {n : Nat} (h : Good X Y n) : Good (fun i => 0 - X i) (fun i => 0 - Y i) n := by
  intro i hi
  obtain ⟨h1, h2⟩ := h i hi
  unfold Pl at h1
  refine ⟨by unfold Pl; dsimp only; omega, fun k hk => ?_⟩
  have := h2 k hk
  dsimp only
  omega
theorem good_not_again {X Y : Nat → Int} {n : Nat} (hn : 0 < n) (eX : X n = X 0) (eY : Y n = Y 0) : ¬ Good X Y (n + 1) := fun h =>
  (h n (by omega)).2 0 hn ⟨eX.symm, eY.symm⟩
theorem good_inj {X Y : Nat → Int} {n : Nat} (h : Good X Y n) {i k : Nat} (hi : i < n) (hk : k < n) (e : X k = X i ∧ Y k = Y i) : k = i := by
  rcases Nat.lt_trichotomy k i with c | c | c
  · exact absurd e ((h i hi).2 k c)
  · exact c
  · exact absurd ⟨e.1.symm, e.2.symm⟩ ((h k hk).2 i c)
/-- The list less its first k, and they behind it. -/
def turnN (z : Nat → Int) (n k : Nat) : Nat → Int := fun i => if i < n - k then z (k + i) else z (i - (n - k))
theorem good_turn {X Y : Nat → Int} {n k : Nat} (h : Good X Y n) (hk : k < n) : Good (turnN X n k) (turnN Y n k) n := by
  have at_ : ∀ i, i < n → ∃ q, q < n ∧ (∀ z : Nat → Int, turnN z n k i = z q) ∧ (i < n - k ∧ q = k + i ∨ n - k ≤ i ∧ q = i - (n - k)) := by
    intro i hi
    by_cases c : i < n - k
    · exact ⟨k + i, by omega, fun z => by simp [turnN, c], .inl ⟨c, rfl⟩⟩
    · exact ⟨i - (n - k), by omega, fun z => by simp [turnN, c], .inr ⟨by omega, rfl⟩⟩
  intro i hi
  obtain ⟨q, hq, eq, cq⟩ := at_ i hi
  rw [eq X, eq Y]
  refine ⟨(h q hq).1, fun j hj e => ?_⟩
  obtain ⟨r, hr, er, cr⟩ := at_ j (by omega)
  rw [er X, er Y] at e
  have := good_inj h hq hr e
  omega
theorem Ants.drop {w : World} {b off n k : Nat} {X Y : Nat → Int} (h : Ants w (some ⟨b, off, none⟩) n X Y) : Ants w (some ⟨b, off + k * 2, none⟩) (n - k) (fun i => X (k + i)) (fun i => Y (k + i)) := by
  rcases h with h | ⟨b', o', ha, hlt, hc⟩
  · exact .inl (by omega)
  · cases ha
    refine .inr ⟨b, off + k * 2, rfl, hlt, fun i hi => ?_⟩
    obtain ⟨h1, h2⟩ := hc (k + i) (by omega)
    have e : off + (k + i) * 2 = off + k * 2 + i * 2 := by omega
    rw [e] at h1 h2
    exact ⟨h1, h2⟩
end Go.Proofs.Ytbpbadmgmlfdhaa
