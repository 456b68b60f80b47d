/- One step of a region that draws: append to an own row of places; plain laws of arrays. -/
import Derived.Test.YtbpbadmgmlfdhaaAx
import Derived.Deep.AppendLies
import Derived.Outline
namespace Go.Proofs.Ytbpbadmgmlfdhaa
open Go.RowKit
theorem flatA_one (zs : List (Int × Int)) : ∀ u ∈ flatA zs, u.oneCell' = true := by
  induction zs with
  | nil => intro u hu; cases hu
  | cons p r ih =>
    intro u hu
    simp only [flatA, List.mem_cons] at hu
    rcases hu with rfl | rfl | hu
    · rfl
    · rfl
    · exact ih u hu
/-- The pairs of a list of places. -/
def pairsA (X Y : Nat → Int) (n : Nat) : List (Int × Int) := (List.range n).map fun i => (X i, Y i)
theorem pairsA_length (X Y : Nat → Int) (n : Nat) : (pairsA X Y n).length = n := by simp [pairsA]
theorem pairsA_at (X Y : Nat → Int) (n i : Nat) (h : i < n) : (pairsA X Y n).getD i (0, 0) = (X i, Y i) := by
  simp [pairsA, List.getD_eq_getElem?_getD, h]
theorem ants_news {w : World} {b off n : Nat} {X Y : Nat → Int} (h : Ants w (some ⟨b, off, none⟩) n X Y) : ∀ j u, (flatA (pairsA X Y n))[j]? = some u → w.cell? ((⟨b, off, none⟩ : Addr).add j) = some u := by
  intro j u hu
  have hl : j < n * 2 := by
    have := (List.getElem?_eq_some_iff.1 hu).1
    rw [flatA_length, pairsA_length] at this
    exact this
  have hadd : (⟨b, off, none⟩ : Addr).add j = ⟨b, off + j, none⟩ := by
    by_cases h0 : j = 0
    · subst h0; simp [Addr.add]
    · simp [Addr.add, h0]
  obtain ⟨b', o', ha, _, c1, c2⟩ := h.at (show j / 2 < n by omega)
  cases ha
  have hf := flatA_at (pairsA X Y n) (j / 2) (by rw [pairsA_length]; omega)
  rw [pairsA_at X Y n (j / 2) (by omega)] at hf
  rw [hadd]
  obtain ⟨q, hq⟩ : ∃ q, q = j / 2 := ⟨_, rfl⟩
  rw [← hq] at hf c1 c2
  rcases (by omega : j = q * 2 ∨ j = q * 2 + 1) with e | e
  · subst e
    rw [hf.1] at hu
    cases hu
    exact c1
  · subst e
    rw [hf.2] at hu
    cases hu
    exact c2
theorem step_appA {ops : Array Oper} {o : Oper} {a : Act} {w : World} {K : Act → World → Prop} {Q : Exit → Act → World → Prop} {E : Prop} {i0 : TypeInfo}
    (hi0 : Try.prog.info? 30 = some i0) (hz0 : i0.zero = some (.agg #[.int .i64 0, .int .i64 0])) (hz1 : i0.size = 2) (hz2 : i0.bytes = 16)
    (hgd : o.guard = none) (s x : Operand) (ho : o.op = .call { callee := .builtin .append, args := #[s, x], argTypes := #[25, 25] })
    (w1 : World) (hb : Below w1.heap.size w1 w) (v : Value) (n : Nat) (xs : List (Int × Int)) (hs : a.eval s = v) (hown : w.ownsRow w1.heap.size 30 2 v n (flatA xs))
    (ad : Addr) (m c : Nat) (zs : List (Int × Int)) (hx : a.eval x = .slice (some ad) m c) (hzl : zs.length = m) (hc : ∀ j u, (flatA zs)[j]? = some u → w.cell? (ad.add j) = some u) (hm : 0 < m) (hn : n + m ≤ 100)
    (h : ∀ g cap w', w'.ownsRow w1.heap.size 30 2 (.slice (some ⟨g, 0, none⟩) (n + m) cap) (n + m) (flatA (xs ++ zs)) → Below w1.heap.size w1 w' → w.grownBy w' v.ownBlock → (∀ k, w1.heap.size ≤ k → k < w.heap.size → some k ≠ v.ownBlock → w'.heap[k]? = w.heap[k]?) → K (a.put o.dst (.slice (some ⟨g, 0, none⟩) (n + m) cap)) w') :
    if Region.wanted o (yielded ops a.tmps) = true then Oper.wp Try.prog o a w K Q else E := by
  have hl : (flatA zs).length = m * 2 := by rw [flatA_length, hzl]
  refine step_append_lies w hgd s x 25 ho w1.heap.size 30 i0 (.agg #[.int .i64 0, .int .i64 0]) 2 16 Try.underlying25 hi0 hz0 hz1 hz2 rfl (by decide) v n (flatA xs) hs hown ad m c _ hx hl hc (flatA_one zs) hm (by unfold maxLen; omega) (by omega) hb.size _ rfl ?_
  intro g cap w' ho' hg _ _
  rw [← flatA_append] at ho'
  exact h g cap w' ho' (hb.grown hg hb.size (fun k hk => (hown.lt k hk).1)) hg (fun k _ hk hne => hg.block k hk hne)
end Go.Proofs.Ytbpbadmgmlfdhaa
