/- Contracts of the drawers of lists of integers. -/
import Derived.Test.YtbpbadmgmlfdhaaDr
import Derived.Test.YtbpbadmgmlfdhaaIs
import Derived.Laws.OwnMore
import Derived.OwnWalk
import Derived.Deep.DeepCutAuto
import Derived.Maps.AppendAt
namespace Go.Proofs.Ytbpbadmgmlfdhaa
open Go.RowKit

/-- A reader as in St, and beside it a list of the drawer's own, above the reader. -/
def Lst (B : Nat) (w0 : World) (b p : Nat) (e : TypeId) (size : Nat) (v : Value) (n : Nat) (cs : List Value) (w : World) : Prop :=
  St B w0 b p w ∧ w.ownsRow (b + 1) e size v n cs
section
variable {B b p : Nat} {w0 w : World} {e : TypeId} {size : Nat} {v : Value} {n : Nat} {cs : List Value}
theorem Lst.mono {p' : Nat} (h : Lst B w0 b p e size v n cs w) (hp : p ≤ p') : Lst B w0 b p' e size v n cs w := ⟨h.1.mono hp, h.2⟩
theorem Lst.alloc (h : Lst B w0 b p e size v n cs w) (o : Obj) : Lst B w0 b p e size v n cs (w.alloc o) := ⟨h.1.alloc o, h.2.alloc o⟩
theorem Lst.kept {w' : World} (h : Lst B w0 b p e size v n cs w) (h' : St B w0 b p w') (hg : w.grownBy w' (some b)) : Lst B w0 b p e size v n cs w' :=
  ⟨h', h.2.kept hg (.inr (fun he => by have := h.2.lt b he; omega))⟩
/-- An append leaves the reader alone. -/
theorem Lst.appended {w' : World} {v' : Value} {n' : Nat} {cs' : List Value} (h : Lst B w0 b p e size v n cs w) (ho : w'.ownsRow (b + 1) e size v' n' cs') (hg : w.grownBy w' v.ownBlock) : Lst B w0 b p e size v' n' cs' w' := by
  obtain ⟨⟨h1, h2, q, hq, hr⟩, h3⟩ := h
  have hl := hr.lt
  have hr' : ∀ k, v.ownBlock = some k → B ≤ k := fun k hk => by have := h3.lt k hk; omega
  have hs : B ≤ w.heap.size := by omega
  refine ⟨⟨h1.grown hg hs hr', h2, q, hq, hr.keep fun k hk => hg.block k (by omega) (fun he => ?_)⟩, ho⟩
  have := h3.lt k he.symm
  omega
theorem Lst.begin_ (h : St B w0 b p w) (cur : Array Value) (hc : cur.size = 0) : Lst B w0 b p e size (.slice (some ⟨w.heap.size, 0, none⟩) 0 0) 0 [] (w.alloc (.cells cur e)) := by
  have hl := h.lt
  exact ⟨h.alloc _, World.ownsRow_made w cur 0 (by omega) (Nat.zero_le _) (by simpa using hc)⟩
end

theorem pick_l {B : Nat} {w0 : World} {b p : Nat} {m : Int} {w : World} {e : TypeId} {size : Nat} {v : Value} {n : Nat} {cs : List Value} (hs : Lst B w0 b p e size v n cs w) (hp : p ≤ 90000) (hn : 1 ≤ m ∧ m ≤ 1000000) :
    Calls Try.prog 25 #[.pointer (some ⟨b, 0, none⟩), .int .i64 m] w fun x w' => ∃ u : Int, (0 ≤ u ∧ u < m) ∧ x = .returned (.int .i64 u) ∧ Lst B w0 b (p + 1) e size v n cs w' := by
  have hl := hs.1.lt
  have hs0 := hs
  obtain ⟨⟨h1, h2, q, hq, hr⟩, ho⟩ := hs
  refine (pick_any b q m w hr (by omega) hn).mono ?_
  rintro x w' ⟨u, hu, rfl, hg, q', hq', hr'⟩
  have hS : St B w0 b (p + 1) w' := ⟨h1.grown hg (by omega) (by rintro k ⟨⟩; exact h2), h2, q', by omega, hr'⟩
  exact ⟨u, hu, rfl, (hs0.mono (by omega)).kept hS hg⟩
theorem pick_ll {B : Nat} {w0 : World} {b p : Nat} {m : Int} {w : World} {e : TypeId} {size : Nat} {v : Value} {n : Nat} {cs : List Value} (hs : Lst B w0 b p e size v n cs w) (o : Obj) (hp : p ≤ 90000) (hn : 1 ≤ m ∧ m ≤ 1000000) :
    Calls Try.prog 25 #[.pointer (some ⟨b, 0, none⟩), .int .i64 m] (w.alloc o) fun x w' => ∃ u : Int, (0 ≤ u ∧ u < m) ∧ x = .returned (.int .i64 u) ∧ Lst B w0 b (p + 1) e size v n cs w' ∧ w'.heap[w.heap.size]? = some o := by
  have hl := hs.1.lt
  have hs0 := hs.alloc o
  obtain ⟨⟨h1, h2, q, hq, hr⟩, ho⟩ := hs.alloc o
  have hsz : (w.alloc o).heap.size = w.heap.size + 1 := by simp
  refine (pick_any b q m _ hr (by omega) hn).mono ?_
  rintro x w' ⟨u, hu, rfl, hg, q', hq', hr'⟩
  have hS : St B w0 b (p + 1) w' := ⟨h1.grown hg (by omega) (by rintro k ⟨⟩; exact h2), h2, q', by omega, hr'⟩
  refine ⟨u, hu, rfl, (hs0.mono (by omega)).kept hS hg, ?_⟩
  rw [hg.block w.heap.size (by omega) (by simp; omega)]
  exact alloc_top w o

theorem ints_of_own {w : World} {base : Nat} {v : Value} {n : Nat} {f : Nat → Int} (h : w.ownsRow base 3 1 v n ((List.range n).map fun i => Value.int .i64 (f i))) : ∃ a c, v = .slice a n c ∧ n ≤ c ∧ Ints w a n f := by
  rcases h.2 with ⟨rfl, hn0⟩ | ⟨g, cap, cur, rfl, hg, hh, hnc, _⟩
  · exact ⟨none, 0, by rw [hn0], by omega, .inl hn0⟩
  · refine ⟨_, cap, rfl, hnc, .inr ⟨g, 0, rfl, (h.lt g rfl).2, fun i hi => ?_⟩⟩
    rw [Nat.zero_add, h.cellAt i (by omega)]
    simp [List.getElem?_map, List.getElem?_range hi]
theorem range_snoc {f : Nat → Value} (k : Nat) : ((List.range k).map f) ++ [f k] = (List.range (k + 1)).map f := by rw [List.range_succ, List.map_append]; rfl
theorem sumN_neg (z : Nat → Int) (n : Nat) : sumN (fun i => -z i) n = -sumN z n := by
  induction n with
  | zero => rfl
  | succ n ih => simp only [sumN]; rw [ih]; omega
theorem Small.neg {z : Nat → Int} {n : Nat} (h : Small z n) : Small (fun i => -z i) n := fun i hi => by have := h i hi; constructor <;> (dsimp only; omega)
/-- What a drawer of a list of integers does. -/
def DrawsInts (lo hi : Int) (m : Nat) (w : World) (e : Ending) (w' : World) : Prop :=
  ∃ (a : Option Addr) (n c : Nat) (z : Nat → Int), e = .returned (.slice a n c) ∧ n ≤ m ∧ n ≤ c ∧ Ints w' a n z ∧ (∀ i, lo ≤ z i ∧ z i ≤ hi) ∧ Below w.heap.size w w'
theorem draws_of {b p : Nat} {w w' : World} {v : Value} {n m : Nat} {xs : List Int} {lo hi : Int} (hl : Lst w.heap.size w b p 3 1 v n (xs.map (Value.int .i64)) w') (hn : n ≤ m) (hx : ∀ x ∈ xs, lo ≤ x ∧ x ≤ hi) (h0 : lo ≤ 0 ∧ 0 ≤ hi) :
    DrawsInts lo hi m w (.returned v) w' := by
  have hlen := hl.2.1
  simp at hlen
  have hz : ∀ i, lo ≤ xs.getD i 0 ∧ xs.getD i 0 ≤ hi := fun i => by
    by_cases hi' : i < xs.length
    · have : xs.getD i 0 = xs[i] := by simp [List.getD_eq_getElem?_getD, List.getElem?_eq_getElem hi']
      rw [this]; exact hx _ (List.getElem_mem _)
    · have : xs.getD i 0 = 0 := by simp [List.getD_eq_getElem?_getD, List.getElem?_eq_none (by omega : xs.length ≤ i)]
      rw [this]; exact h0
  rcases hl.2.2 with ⟨rfl, hn0⟩ | ⟨g, cap, cur, rfl, hg, hh, hnc, _⟩
  · exact ⟨none, 0, 0, fun i => xs.getD i 0, rfl, by omega, Nat.le_refl _, .inl rfl, hz, hl.1.1⟩
  · refine ⟨_, n, cap, fun i => xs.getD i 0, rfl, hn, hnc, .inr ⟨g, 0, rfl, ?_, fun i hi' => ?_⟩, hz, hl.1.1⟩
    · have hlt := hl.2.lt g rfl
      exact hlt.2
    · have hc := hl.2.cellAt i (by omega)
      rw [Nat.zero_add, hc]
      simp [List.getElem?_map, List.getElem?_eq_getElem (by omega : i < xs.length), List.getD_eq_getElem?_getD]
theorem mem_snoc {xs : List Int} {x lo hi : Int} (h : ∀ y ∈ xs, lo ≤ y ∧ y ≤ hi) (hx : lo ≤ x ∧ x ≤ hi) : ∀ y ∈ xs ++ [x], lo ≤ y ∧ y ≤ hi := fun y hy => by
  rcases List.mem_append.1 hy with h1 | h1
  · exact h y h1
  · simp at h1; subst h1; exact hx
theorem mem_set {xs : List Int} {x lo hi : Int} {i : Nat} (h : ∀ y ∈ xs, lo ≤ y ∧ y ≤ hi) (hx : lo ≤ x ∧ x ≤ hi) : ∀ y ∈ xs.set i x, lo ≤ y ∧ y ≤ hi := fun y hy => by
  rcases List.mem_or_eq_of_mem_set hy with h1 | h1
  · exact h y h1
  · subst h1; exact hx
theorem draws_set {b p : Nat} {w w' : World} {g cap n m : Nat} {xs : List Int} {lo hi : Int} (hl : Lst w.heap.size w b p 3 1 (.slice (some ⟨g, 0, none⟩) n cap) n (xs.map (Value.int .i64)) w') (hn : n ≤ m) (hx : ∀ x ∈ xs, lo ≤ x ∧ x ≤ hi) (x : Int) (hb : lo ≤ x ∧ x ≤ hi) (h0 : lo ≤ 0 ∧ 0 ≤ hi) :
    DrawsInts lo hi m w (.returned (.slice (some ⟨g, 0, none⟩) n cap)) (w'.setCell ⟨g, 0, none⟩ (.int .i64 x)) := by
  have hst := hl.2.stored 0 (.int .i64 x)
  rw [← List.map_set] at hst
  exact draws_of (hl.appended hst.1 hst.2) hn (mem_set hx hb) h0
theorem mul_phase (f g : Int) (hf : 0 ≤ f ∧ f < 360) (hg : 0 ≤ g ∧ g < 5) : -1000 ≤ f * (g - 2) ∧ f * (g - 2) ≤ 1000 := by
  rcases (by omega : g = 0 ∨ g = 1 ∨ g = 2 ∨ g = 3 ∨ g = 4) with rfl | rfl | rfl | rfl | rfl <;> omega

end Go.Proofs.Ytbpbadmgmlfdhaa
