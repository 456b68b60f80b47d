/- Own rows of places as arrays: turned, with the first told again. -/
import Derived.Test.YtbpbadmgmlfdhaaAy
import Derived.Test.YtbpbadmgmlfdhaaAz
import Derived.Deep.AppendLies
import Derived.Outline
namespace Go.Proofs.Ytbpbadmgmlfdhaa
open Go.RowKit
theorem own_madeA {w : World} {B k : Nat} (hk : w.heap.size = k) (hB : B ≤ k) : (w.alloc (.cells #[] 30)).ownsRow B 30 2 (.slice (some ⟨k, 0, none⟩) 0 0) 0 (flatA []) := by
  subst hk
  exact World.ownsRow_made w #[] 0 hB (Nat.zero_le _) rfl
theorem cell_two0 {w : World} {k : Nat} {x y : Int} (hk : w.heap.size = k) : (w.alloc (.cells #[.int .i64 x, .int .i64 y] 30)).cell? ⟨k, 0, none⟩ = some (.int .i64 x) := by
  subst hk
  simp
theorem cell_two1 {w : World} {k : Nat} {x y : Int} (hk : w.heap.size = k) : (w.alloc (.cells #[.int .i64 x, .int .i64 y] 30)).cell? ⟨k, 1, none⟩ = some (.int .i64 y) := by
  subst hk
  simp
theorem own_cap {w : World} {B g cap n : Nat} {cs : List Value} (h : w.ownsRow B 30 2 (.slice (some ⟨g, 0, none⟩) n cap) n cs) : n ≤ cap ∧ cap ≤ maxLen ∧ g < w.heap.size ∧ B ≤ g := by
  rcases h.2 with ⟨he, _⟩ | ⟨g', cap', cur, he, hb, hh, hnc, hcm, _⟩
  · cases he
  · cases he
    exact ⟨hnc, hcm, (h.lt g rfl).2, hb⟩
theorem own_ants {w : World} {B g cap n : Nat} {xs : List (Int × Int)} (h : w.ownsRow B 30 2 (.slice (some ⟨g, 0, none⟩) n cap) n (flatA xs)) (hl : xs.length = n) : Ants w (some ⟨g, 0, none⟩) n (fun i => (xs.getD i (0, 0)).1) (fun i => (xs.getD i (0, 0)).2) := by
  obtain ⟨a, c, he, _, _, hI⟩ := ants_of_own h hl
  cases he
  exact hI
theorem own_yes {w : World} {B g cap n : Nat} {xs : List (Int × Int)} (h : w.ownsRow B 30 2 (.slice (some ⟨g, 0, none⟩) n cap) n (flatA xs)) (hl : xs.length = n) (hA : Arr (fun i => (xs.getD i (0, 0)).1) (fun i => (xs.getD i (0, 0)).2) n) :
    Calls Try.prog 10 #[.slice (some ⟨g, 0, none⟩) n cap] w fun e w' => e = .returned (.bool true) ∧ Below w.heap.size w w' :=
  arr_yes _ _ _ _ _ _ (own_ants h hl) (own_cap h).1 (own_cap h).2.1 hA
theorem own_no {w : World} {B g cap n : Nat} {xs : List (Int × Int)} (h : w.ownsRow B 30 2 (.slice (some ⟨g, 0, none⟩) n cap) n (flatA xs)) (hl : xs.length = n) (hA : ¬ Arr (fun i => (xs.getD i (0, 0)).1) (fun i => (xs.getD i (0, 0)).2) n) :
    Calls Try.prog 10 #[.slice (some ⟨g, 0, none⟩) n cap] w fun e w' => e = .returned (.bool false) ∧ Below w.heap.size w w' :=
  arr_no _ _ _ _ _ _ (own_ants h hl) (own_cap h).1 (own_cap h).2.1 hA
theorem pairs_arr {X Y : Nat → Int} {n : Nat} (h : Arr X Y n) : Arr (fun i => ((pairsA X Y n).getD i (0, 0)).1) (fun i => ((pairsA X Y n).getD i (0, 0)).2) n :=
  ⟨h.1, good_congr h.2 fun i hi => by simp only [pairsA_at X Y n i hi, and_self]⟩
theorem getD_left {xs ys : List (Int × Int)} {i : Nat} (h : i < xs.length) : (xs ++ ys).getD i (0, 0) = xs.getD i (0, 0) := by
  simp [List.getD_eq_getElem?_getD, List.getElem?_append_left h]
theorem getD_right {xs ys : List (Int × Int)} {i : Nat} (h : xs.length ≤ i) : (xs ++ ys).getD i (0, 0) = ys.getD (i - xs.length) (0, 0) := by
  simp [List.getD_eq_getElem?_getD, List.getElem?_append_right h]
theorem turn_arr {X Y : Nat → Int} {n k : Nat} (h : Arr X Y n) (hk : k < n) :
    Arr (fun i => ((pairsA (fun i => X (k + i)) (fun i => Y (k + i)) (n - k) ++ pairsA X Y k).getD i (0, 0)).1) (fun i => ((pairsA (fun i => X (k + i)) (fun i => Y (k + i)) (n - k) ++ pairsA X Y k).getD i (0, 0)).2) n := by
  refine ⟨h.1, good_congr (good_turn h.2 hk) fun i hi => ?_⟩
  by_cases c : i < n - k
  · simp only [turnN, c, if_true]
    rw [getD_left (by rw [pairsA_length]; exact c), pairsA_at _ _ _ _ c]
    exact ⟨rfl, rfl⟩
  · simp only [turnN, c, if_false]
    rw [getD_right (by rw [pairsA_length]; omega), pairsA_length, pairsA_at _ _ _ _ (by omega)]
    exact ⟨rfl, rfl⟩
theorem again_no {X Y : Nat → Int} {n : Nat} (hn : 0 < n) :
    ¬ Arr (fun i => ((pairsA X Y n ++ [(X 0, Y 0)]).getD i (0, 0)).1) (fun i => ((pairsA X Y n ++ [(X 0, Y 0)]).getD i (0, 0)).2) (n + 1) := by
  intro h
  refine good_not_again hn ?_ ?_ h.2
  · rw [getD_right (by rw [pairsA_length]; omega), getD_left (by rw [pairsA_length]; exact hn), pairsA_length, pairsA_at _ _ _ _ hn]
    simp
  · rw [getD_right (by rw [pairsA_length]; omega), getD_left (by rw [pairsA_length]; exact hn), pairsA_length, pairsA_at _ _ _ _ hn]
    simp
theorem pairsA_snoc (X Y : Nat → Int) (k : Nat) : pairsA X Y (k + 1) = pairsA X Y k ++ [(X k, Y k)] := by
  simp [pairsA, List.range_succ]
theorem neg_arr {X Y : Nat → Int} {n : Nat} (h : Arr X Y n) : Arr (fun i => -X i) (fun i => -Y i) n :=
  ⟨h.1, good_congr (good_neg h.2) fun i _ => ⟨by omega, by omega⟩⟩
theorem Arr.bd {X Y : Nat → Int} {n i : Nat} (h : Arr X Y n) (hi : i < n) : -1000 ≤ X i ∧ X i ≤ 1000 ∧ -1000 ≤ Y i ∧ Y i ≤ 1000 := (h.2 i hi).1
theorem less_yes {X Y : Nat → Int} {m : Nat} (h : Arr X Y (m + 1)) (hm : 2 ≤ m) : Arr X Y m := ⟨⟨hm, by have := h.1; omega⟩, fun i hi => h.2 i (by omega)⟩
theorem less_no {X Y : Nat → Int} {m : Nat} (hm : ¬ 2 ≤ m) : ¬ Arr X Y m := fun h => hm h.1.1
theorem two_cells {w w' : World} {g : Nat} {x y : Int} (h0 : w.cell? ⟨g, 0, none⟩ = some (.int .i64 x)) (h1 : w.cell? ⟨g, 1, none⟩ = some (.int .i64 y)) (h : w'.heap[g]? = w.heap[g]?) : ∀ j u, (flatA [(x, y)])[j]? = some u → w'.cell? ((⟨g, 0, none⟩ : Addr).add j) = some u := by
  intro j u hj
  match j, hj with
  | 0, hj => simp [flatA] at hj; subst hj; simpa [Addr.add] using (World.cell?_of_block h).trans h0
  | 1, hj => simp [flatA] at hj; subst hj; simpa [Addr.add] using (World.cell?_of_block h).trans h1
  | j + 2, hj => simp [flatA] at hj
/-- 'step_appA' at an operation that bears a guard. -/
theorem step_appG {ops : Array Oper} {o : Oper} {a : Act} {w : World} {K : Act → World → Prop} {Q : Exit → Act → World → Prop} {E : Prop} {i0 : TypeInfo}
    (hi0 : Try.prog.info? 30 = some i0) (hz0 : i0.zero = some (.agg #[.int .i64 0, .int .i64 0])) (hz1 : i0.size = 2) (hz2 : i0.bytes = 16)
    (hw : Region.wanted o (yielded ops a.tmps) = true) (s x : Operand) (ho : o.op = .call { callee := .builtin .append, args := #[s, x], argTypes := #[25, 25] })
    (w1 : World) (hb : Below w1.heap.size w1 w) (v : Value) (n : Nat) (xs : List (Int × Int)) (hs : a.eval s = v) (hown : w.ownsRow w1.heap.size 30 2 v n (flatA xs))
    (ad : Addr) (m c : Nat) (zs : List (Int × Int)) (hx : a.eval x = .slice (some ad) m c) (hzl : zs.length = m) (hc : ∀ j u, (flatA zs)[j]? = some u → w.cell? (ad.add j) = some u) (hm : 0 < m) (hn : n + m ≤ 100)
    (h : ∀ g cap w', w'.ownsRow w1.heap.size 30 2 (.slice (some ⟨g, 0, none⟩) (n + m) cap) (n + m) (flatA (xs ++ zs)) → Below w1.heap.size w1 w' → w.grownBy w' v.ownBlock → (∀ k, w1.heap.size ≤ k → k < w.heap.size → some k ≠ v.ownBlock → w'.heap[k]? = w.heap[k]?) → K (a.put o.dst (.slice (some ⟨g, 0, none⟩) (n + m) cap)) w') :
    if Region.wanted o (yielded ops a.tmps) = true then Oper.wp Try.prog o a w K Q else E := by
  have hl : (flatA zs).length = m * 2 := by rw [flatA_length, hzl]
  rw [if_pos hw]
  refine wp_append_lies w s x 25 ho w1.heap.size 30 i0 (.agg #[.int .i64 0, .int .i64 0]) 2 16 Try.underlying25 hi0 hz0 hz1 hz2 rfl (by decide) v n (flatA xs) hs hown ad m c _ hx hl hc (flatA_one zs) hm (by unfold maxLen; omega) (by omega) hb.size _ rfl ?_
  intro g cap w' ho' hg _ _
  rw [← flatA_append] at ho'
  exact h g cap w' ho' (hb.grown hg hb.size (fun k hk => (hown.lt k hk).1)) hg (fun k _ hk hne => hg.block k hk hne)
end Go.Proofs.Ytbpbadmgmlfdhaa
