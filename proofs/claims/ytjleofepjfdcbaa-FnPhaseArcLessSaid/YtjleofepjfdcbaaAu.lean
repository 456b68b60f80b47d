/- One step of a region that draws: append to an own row of ints. -/
import Derived.Test.YtjleofepjfdcbaaAt
import Derived.Test.YtjleofepjfdcbaaDl
import Derived.Deep.AppendLies
import Derived.Outline
namespace Go.Proofs.Ytjleofepjfdcbaa
open Go.RowKit
theorem ints_block {w : World} {b off n : Nat} {z : Nat → Int} (h : Ints w (some ⟨b, off, none⟩) n z) (hn : 0 < n) : b < w.heap.size := by
  rcases h with h | ⟨b', off', ha, hlt, _⟩
  · omega
  · simp only [Option.some.injEq, Addr.mk.injEq, and_true] at ha
    obtain ⟨rfl, rfl⟩ := ha
    exact hlt
theorem ints_cells {w : World} {b off n : Nat} {z : Nat → Int} (h : Ints w (some ⟨b, off, none⟩) n z) : ∀ j, j < n → w.cell? ⟨b, off + j, none⟩ = some (.int .i64 (z j)) := by
  rcases h with h | ⟨b', off', ha, hlt, hc⟩
  · intro j hj; omega
  · simp only [Option.some.injEq, Addr.mk.injEq, and_true] at ha
    obtain ⟨rfl, rfl⟩ := ha
    exact hc
theorem step_app {ops : Array Oper} {o : Oper} {a : Act} {w : World} {K : Act → World → Prop} {Q : Exit → Act → World → Prop} {E : Prop} {i0 : TypeInfo}
    (hi0 : Try.prog.info? 3 = some i0) (hz0 : i0.zero = some (Value.int .i64 0)) (hz1 : i0.size = 1) (hz2 : i0.bytes = 8)
    (hgd : o.guard = none) (s x : Operand) (ho : o.op = .call { callee := .builtin .append, args := #[s, x], argTypes := #[22, 22] })
    (w1 : World) (hb : Below w1.heap.size w1 w) (v : Value) (n : Nat) (xs : List Value) (hs : a.eval s = v) (hown : w.ownsRow w1.heap.size 3 1 v n xs)
    (b off m c : Nat) (z : Nat → Int) (hx : a.eval x = .slice (some ⟨b, off, none⟩) m c) (hc : ∀ j, j < m → w.cell? ⟨b, off + j, none⟩ = some (.int .i64 (z j))) (hm : 0 < m) (hn : n + m ≤ 100)
    (h : ∀ g cap w', w'.ownsRow w1.heap.size 3 1 (.slice (some ⟨g, 0, none⟩) (n + m) cap) (n + m) (xs ++ (List.range m).map fun j => .int .i64 (z j)) → Below w1.heap.size w1 w' → w.grownBy w' v.ownBlock → (∀ k, w1.heap.size ≤ k → k < w.heap.size → some k ≠ v.ownBlock → w'.heap[k]? = w.heap[k]?) → K (a.put o.dst (.slice (some ⟨g, 0, none⟩) (n + m) cap)) w') :
    if Region.wanted o (yielded ops a.tmps) = true then Oper.wp Try.prog o a w K Q else E := by
  have hl : ((List.range m).map fun j => Value.int .i64 (z j)).length = m * 1 := by simp
  refine step_append_lies w hgd s x 22 ho w1.heap.size 3 i0 (.int .i64 0) 1 8 Try.underlying22 hi0 hz0 hz1 hz2 rfl (by decide) v n xs hs hown ⟨b, off, none⟩ m c _ hx hl ?_ ?_ hm (by unfold maxLen; omega) (by omega) hb.size _ rfl ?_
  · intro j u hu
    rw [List.getElem?_map] at hu
    by_cases hj : j < m
    · simp [hj] at hu
      subst hu
      have := hc j hj
      by_cases h0 : j = 0
      · subst h0; simpa [Addr.add] using this
      · simpa [Addr.add, h0] using this
    · simp [hj] at hu
  · intro u hu
    simp at hu
    obtain ⟨j, _, rfl⟩ := hu
    rfl
  · intro g cap w' ho' hg _ _
    exact h g cap w' ho' (hb.grown hg hb.size (fun k hk => (hown.lt k hk).1)) hg (fun k _ hk hne => hg.block k hk hne)
theorem own_made {w : World} {B k : Nat} (hk : w.heap.size = k) (hB : B ≤ k) : (w.alloc (.cells #[] 3)).ownsRow B 3 1 (.slice (some ⟨k, 0, none⟩) 0 0) 0 [] := by
  subst hk
  exact World.ownsRow_made w #[] 0 hB (Nat.zero_le _) rfl
theorem one_cell {w : World} {k : Nat} (u : Value) (hk : w.heap.size = k) : (w.alloc (.cells #[u] 3)).cell? ⟨k, 0, none⟩ = some u := by
  subst hk
  simp
/-- The numbers with the first told again. -/
def againN (z : Nat → Int) (n : Nat) : Nat → Int := fun i => if i < n then z i else z 0
theorem again_list (z : Nat → Int) (n : Nat) : (([] ++ (List.range n).map fun j => Value.int .i64 (z j)) ++ (List.range 1).map fun _ => Value.int .i64 (z 0)) = (List.range (n + 1)).map fun j => Value.int .i64 (againN z n j) := by
  rw [List.range_succ (n := n), List.map_append, List.nil_append]
  refine congr (congrArg _ (List.map_congr_left fun j hj => ?_)) ?_
  · have := List.mem_range.1 hj
    simp [againN, this]
  · simp [againN]
theorem again_ints {w : World} {base g cap n : Nat} {z : Nat → Int} (h : w.ownsRow base 3 1 (.slice (some ⟨g, 0, none⟩) (n + 1) cap) (n + 1) (([] ++ (List.range n).map fun j => Value.int .i64 (z j)) ++ (List.range 1).map fun _ => Value.int .i64 (z 0))) : Ints w (some ⟨g, 0, none⟩) (n + 1) (againN z n) := by
  rw [again_list] at h
  obtain ⟨a, c, e, _, hi⟩ := ints_of_own h
  cases e
  exact hi
theorem again_arc {z : Nat → Int} {n : Nat} {F L : Int} (h : IsArc z n F L) (hn : 0 < n) : IsArc (againN z n) (n + 1) F L :=
  h.again (fun i hi => by simp [againN, hi]) hn (by simp [againN])
theorem again_phs {z : Nat → Int} {n : Nat} (h : Phs z n) (hn : 0 < n) : Phs (againN z n) (n + 1) := fun i hi => by
  by_cases c : i < n
  · simpa [againN, c] using h i c
  · simpa [againN, c] using h 0 hn
end Go.Proofs.Ytjleofepjfdcbaa
