/- Contracts of BasePair, in the program (which ranges over the function that 'bases' hands back) and in the reference. -/
import Derived.Test.YteaieeibkgbhbaaBs
import Derived.RangeFuncNested
import Derived.RangeFuncBound
import Derived.RangeFuncCalls
import Derived.RangeFuncLeaves
import Derived.RangeFuncFrom
import Derived.Shelf.Abstract
import Derived.Shelf.RegionOpen
import Derived.WalkKit
import Derived.OwnWalkIn
import Derived.TacticsInMore
import Derived.LoopNIn
import Derived.LoopIn
import Derived.Deep.QuietTactic
import Derived.BigQuiet
import Derived.Outline
namespace Go.Proofs.Yteaieeibkgbhbaa
open Go.RowKit Go.Shelf
attribute [local go_sem] Oper.semAt_some

/-- The antennas x < y of n make a baseline. -/
def Pr (n x y : Int) : Prop := (2 ≤ n ∧ n ≤ 7) ∧ 0 ≤ x ∧ x < y ∧ y < n
instance (n x y : Int) : Decidable (Pr n x y) := by unfold Pr; infer_instance
set_option maxHeartbeats 2000000 in
theorem bi_one {n x y u v : Int} (h : Pr n x y) (k : Pr n u v) (e : biI n x y = biI n u v) : x = u ∧ y = v := by
  obtain ⟨hn, h0, h1, h2⟩ := h
  obtain ⟨_, k0, k1, k2⟩ := k
  rw [bi_lt hn ⟨h0, h1⟩ h2, bi_lt hn ⟨k0, k1⟩ k2] at e
  unfold bF at e
  rcases (by omega : n = 2 ∨ n = 3 ∨ n = 4 ∨ n = 5 ∨ n = 6 ∨ n = 7) with rfl | rfl | rfl | rfl | rfl | rfl
  all_goals
    rcases (by omega : x = 0 ∨ x = 1 ∨ x = 2 ∨ x = 3 ∨ x = 4 ∨ x = 5) with rfl | rfl | rfl | rfl | rfl | rfl
    all_goals try omega
    all_goals
      rcases (by omega : u = 0 ∨ u = 1 ∨ u = 2 ∨ u = 3 ∨ u = 4 ∨ u = 5) with rfl | rfl | rfl | rfl | rfl | rfl
      all_goals omega
/-- The facts about numbers of baselines that the laws ask. -/
theorem bi_facts {n x y : Int} (h : Pr n x y) : (0 ≤ biI n x y ∧ biI n x y ≤ bmI n - 1 ∧ bmI n ≤ 21) ∧ (y < n - 1 → biI n x (y + 1) = biI n x y + 1) ∧ (y = n - 1 → x < n - 2 → biI n (x + 1) (x + 2) = biI n x y + 1) ∧ (x = n - 2 → biI n x y = bmI n - 1) := by
  obtain ⟨hn, h0, h1, h2⟩ := h
  have e := bi_lt hn ⟨h0, h1⟩ h2
  refine ⟨?_, fun h3 => ?_, fun h3 h4 => ?_, fun h3 => ?_⟩
  · rw [e]; unfold bF bmI
    rcases (by omega : n = 2 ∨ n = 3 ∨ n = 4 ∨ n = 5 ∨ n = 6 ∨ n = 7) with rfl | rfl | rfl | rfl | rfl | rfl
    all_goals
      simp only [Int.reduceEq, if_true, if_false]
      rcases (by omega : x = 0 ∨ x = 1 ∨ x = 2 ∨ x = 3 ∨ x = 4 ∨ x = 5) with rfl | rfl | rfl | rfl | rfl | rfl
      all_goals omega
  · rw [e, bi_lt hn ⟨h0, by omega⟩ (by omega)]; unfold bF; omega
  · rw [e, bi_lt hn ⟨by omega, by omega⟩ (by omega)]; unfold bF; subst h3
    rcases (by omega : n = 2 ∨ n = 3 ∨ n = 4 ∨ n = 5 ∨ n = 6 ∨ n = 7) with rfl | rfl | rfl | rfl | rfl | rfl
    all_goals
      rcases (by omega : x = 0 ∨ x = 1 ∨ x = 2 ∨ x = 3 ∨ x = 4 ∨ x = 5) with rfl | rfl | rfl | rfl | rfl | rfl
      all_goals omega
  · rw [e]; unfold bF bmI; subst h3
    rcases (by omega : n = 2 ∨ n = 3 ∨ n = 4 ∨ n = 5 ∨ n = 6 ∨ n = 7) with rfl | rfl | rfl | rfl | rfl | rfl
    all_goals
      simp only [Int.reduceEq, if_true, if_false]
      omega
theorem bi_sym {n x y : Int} (h : Pr n x y) : biI n y x = biI n x y := by
  obtain ⟨hn, h0, h1, h2⟩ := h
  rw [bi_lt hn ⟨h0, h1⟩ h2, bi_gt hn ⟨h0, h1⟩ h2]
/-- No baseline has a number beyond the last. -/
theorem bi_none {n a : Int} (h : a < 0 ∨ bmI n ≤ a) : ∀ x y, Pr n x y → biI n x y ≠ a := fun x y hp e => by
  have := (bi_facts hp).1; omega

def SAll (n : Int) (xs : List (Int × Int)) : Prop := (∀ x y, Pr n x y → (x, y) ∈ xs) ∧ ∀ p ∈ xs, Pr n p.1 p.2
def SPre (n i j : Int) (xs : List (Int × Int)) : Prop := (∀ x y, Pr n x y → (x < i ∨ (x = i ∧ y < j)) → (x, y) ∈ xs) ∧ (∀ p ∈ xs, Pr n p.1 p.2)
theorem SPre.snoc {n i j : Int} {xs : List (Int × Int)} (h : SPre n i j xs) (hp : Pr n i j) : SPre n i (j + 1) (xs ++ [(i, j)]) := by
  refine ⟨fun x y hxy hb => ?_, fun p hm => ?_⟩
  · by_cases e : x = i ∧ y = j
    · obtain ⟨rfl, rfl⟩ := e; simp
    · exact List.mem_append.2 (.inl (h.1 x y hxy (by omega)))
  · rcases List.mem_append.1 hm with h1 | h1
    · exact h.2 p h1
    · simp at h1; subst h1; exact hp
theorem SPre.row {n i j : Int} {xs : List (Int × Int)} (h : SPre n i j xs) (hj : n ≤ j) : SPre n (i + 1) (i + 1 + 1) xs :=
  ⟨fun x y hxy hb => h.1 x y hxy (by obtain ⟨_, _, _, _⟩ := hxy; omega), h.2⟩
theorem SPre.all {n i j : Int} {xs : List (Int × Int)} (h : SPre n i j xs) (hi : n ≤ i) : SAll n xs :=
  ⟨fun x y hxy => h.1 x y hxy (by obtain ⟨_, _, _, _⟩ := hxy; omega), h.2⟩
abbrev encP (p : Int × Int) : Array Value := #[.int .i64 p.1, .int .i64 p.2]
theorem bases_any (n : Int) (w : World) : Calls Try.prog 24 #[.int .i64 n] w fun e w' => e = .returned (.func (.func 25) #[] #[.pointer (some ⟨w.heap.size, 0, none⟩)]) ∧ w' = w.alloc (.cells #[.int .i64 n] 3) := by
  go_enter Try.func24, Try.ntmps24
  go_wp2
  go_ret
  exact ⟨rfl, rfl⟩
theorem cell_box1 {W : World} {B : Nat} {v : Value} {t : TypeId} (h : W.heap[B]? = some (.cells #[v] t (0, 0))) : W.cell? ⟨B, 0, none⟩ = some v ∧ W.frozen? ⟨B, 0, none⟩ = false := by
  constructor <;> simp [World.cell?, World.frozen?, h]
theorem cell_new1 (W : World) (v : Value) (t : TypeId) : (W.alloc (.cells #[v] t)).cell? ⟨W.heap.size, 0, none⟩ = some v ∧ (W.alloc (.cells #[v] t)).frozen? ⟨W.heap.size, 0, none⟩ = false :=
  cell_box1 (World.alloc_heap_new W _)
theorem cell_alloc1 {W : World} {a : Addr} {v : Value} (o : Obj) (h : W.cell? a = some v) : (W.alloc o).cell? a = some v := cell_kept h (World.grownBy_alloc W o none) (fun r e => by cases e)
theorem frozen_alloc1 {W : World} {a : Addr} {v : Value} (o : Obj) (h : W.cell? a = some v) (hf : W.frozen? a = false) : (W.alloc o).frozen? a = false := (frozen_kept h (World.grownBy_alloc W o none) (fun r e => by cases e)).trans hf
set_option maxRecDepth 100000 in
set_option maxHeartbeats 2000000 in
/-- The iterator of 'bases': all pairs in order, or as many as the loop's body asks for. -/
theorem bases1_in (l Bn n₀ : Nat) (n : Int) (J Jx : List (Int × Int) → World → Prop)
    (hY : ∀ pre x W, J pre W → pre.length < 100 → YieldAt Fence.wide 4 Try.prog l (encP x) W fun e W' =>
      (e = .returned (.bool true) ∧ J (pre ++ [x]) W' ∧ Below n₀ W W') ∨ (e = .returned (.bool false) ∧ Jx (pre ++ [x]) W'))
    (W : World) (hlt : Bn < n₀) (hBn : W.cell? ⟨Bn, 0, none⟩ = some (.int .i64 n)) (h0 : J [] W) :
    CallsIn Fence.wide 5 Try.prog 25 #[.func (.yield l) #[] #[], .pointer (some ⟨Bn, 0, none⟩)] W fun e W' => (∃ v, e = .returned v) ∧
      ((∃ ys, SAll n ys ∧ J ys W') ∨ (∃ pre, (∀ p ∈ pre, Pr n p.1 p.2) ∧ Jx pre W')) := by
  refine callsIn_of_wp Try.func25 rfl trivial ?_ rfl
  simp only [Try.ntmps25, List.size_toArray, List.length_cons, List.length_nil, Nat.reduceAdd, Nat.reduceSub, Array.replicate_succ, Array.replicate_zero, List.push_toArray, List.append_toArray, List.nil_append, List.cons_append]
  have f19 : Fence.wide.fn 19 := trivial
  by_cases hn : 2 ≤ n ∧ n ≤ 7
  · obtain ⟨n0, n1⟩ := hn
    have HY := Lib.hid hY
    clear hY
    gi_wp2
    gi_loopw [3] (fun i wr => ∃ (k : Nat) (pre : List (Int × Int)), (k : Int) ≤ n ∧ i = .int .i64 k ∧ pre.length ≤ 7 * k ∧ SPre n k (k + 1) pre ∧ J pre wr ∧ wr.cell? ⟨Bn, 0, none⟩ = some (.int .i64 n)) (fun i wr => n.toNat - (intOf i).toNat)
    case atStart => exact ⟨0, [], by omega, rfl, by simp, ⟨fun x y hxy hb => by obtain ⟨_, _, _, _⟩ := hxy; omega, by simp⟩, h0, hBn⟩
    case round =>
      obtain ⟨k, pre, hk, rfl, hlen, hS, hJ, hc⟩ := hrel
      have HS := Lib.hid hS
      clear hS
      obtain ⟨wo, rfl⟩ : ∃ wo : World, wo = wr := ⟨_, rfl⟩
      by_cases hkn : (k : Int) < n
      · gi_wp2_with (gi_at_call 19; refine (callsIn_wide.2 (isMany_yes _ _ ⟨n0, n1⟩)).mono ?_; rintro e w' ⟨rfl, rfl⟩)
        gi_loopw [4] (fun j wx => ∃ (m : Nat) (pre : List (Int × Int)), k + 1 ≤ m ∧ (m : Int) ≤ n ∧ j = .int .i64 m ∧ pre.length ≤ 7 * k + m ∧ SPre n k m pre ∧ J pre wx ∧ wx.cell? ⟨Bn, 0, none⟩ = some (.int .i64 n)) (fun j wx => n.toNat - (intOf j).toNat)
        case atStart => exact ⟨k + 1, pre, by omega, by omega, by go_num, by omega, HS.out, hJ, hc⟩
        case round =>
          obtain ⟨m, pre, hm0, hm1, rfl, hlen', hS', hJ', hc'⟩ := hrel
          have HS := Lib.hid hS'
          clear hS'
          by_cases hmn : (m : Int) < n
          · obtain ⟨fn, tmps, assign, body, hy, hR⟩ := HY.out pre ((k : Int), (m : Int)) wr hJ' (by omega)
            dsimp only [encP] at hy
            gi_wp2
            refine hR.mono ?_
            rintro e W3 (⟨rfl, hJ3, hk3⟩ | ⟨rfl, hJx3⟩)
            · have hc3 : W3.cell? ⟨Bn, 0, none⟩ = some (.int .i64 n) := (hk3.cell (p := ⟨Bn, 0, none⟩) hlt).trans hc'
              gi_wp2
              go_roundw
              case rel => exact ⟨m + 1, pre ++ [((k : Int), (m : Int))], by omega, by omega, by go_num, by simp; omega, HS.out.snoc ⟨⟨n0, n1⟩, by omega, by omega, hmn⟩, hJ3, hc3⟩
              case measure => simp [intOf]; omega
            · gi_wp2
              refine bodyPost_ret (results_none rfl _ _ _) rfl ?_
              refine ⟨⟨_, rfl⟩, .inr ⟨_, ?_, hJx3⟩⟩
              exact (HS.out.snoc ⟨⟨n0, n1⟩, by omega, by omega, hmn⟩).2
          · gi_wp2
            go_roundw
            case rel => exact ⟨k + 1, pre, by omega, by go_num, by omega, by have h := HS.out.row (by omega : n ≤ (m : Int)); simpa using h, hJ', hc'⟩
            case measure => simp [intOf]; omega
      · gi_wp2
        go_end0
        exact ⟨⟨_, rfl⟩, .inl ⟨pre, HS.out.all (by omega), hJ⟩⟩
  · have hnp : SAll n [] := ⟨fun x y h => absurd h.1 hn, by simp⟩
    gi_wp2
    gi_loopw [3] (fun i wr => i = .int .i64 0 ∧ J [] wr ∧ wr.cell? ⟨Bn, 0, none⟩ = some (.int .i64 n)) (fun i wr => 0)
    case atStart => exact ⟨rfl, h0, hBn⟩
    case round =>
      obtain ⟨rfl, hJ, hc⟩ := hrel
      have HP := Lib.hid hnp
      clear hnp
      by_cases hkn : (0 : Int) < n
      · gi_wp2_with (gi_at_call 19; refine (callsIn_wide.2 (isMany_no _ _ (by omega))).mono ?_; rintro e w' ⟨rfl, rfl⟩)
        go_end0
        exact ⟨⟨_, rfl⟩, .inl ⟨[], HP.out, hJ⟩⟩
      · gi_wp2
        go_end0
        exact ⟨⟨_, rfl⟩, .inl ⟨[], HP.out, hJ⟩⟩
theorem bases_stops (Bn n₀ : Nat) (n : Int) (w : World) (hlt : Bn < n₀) (hn₀ : n₀ ≤ w.heap.size) (hc : w.cell? ⟨Bn, 0, none⟩ = some (.int .i64 n)) :
    SeqStopsK Fence.wide 5 Try.prog 25 #[.pointer (some ⟨Bn, 0, none⟩)] encP (Below n₀) (SAll n) (fun pre => ∀ p ∈ pre, Pr n p.1 p.2) 100 w := fun l J Jx W hW _ _ hY h0 =>
  bases1_in l Bn n₀ n J Jx hY W hlt ((hW.cell (p := ⟨Bn, 0, none⟩) (show Bn < w.heap.size by omega)).trans hc) h0
/-- What BasePair comes to. -/
def BPost (n a : Int) (e : Ending) : Prop :=
  (∃ x y, Pr n x y ∧ biI n x y = a ∧ e = .returned (.tuple #[.int .i64 x, .int .i64 y, .bool true])) ∨ ((∀ x y, Pr n x y → biI n x y ≠ a) ∧ e = .returned (.tuple #[.int .i64 0, .int .i64 0, .bool false]))
theorem set3 {W : World} {b c d : Nat} (h1 : b ≠ c) (h2 : b ≠ d) (h3 : c ≠ d) {x y z x' y' z' : Value} (k1 : W.cell? ⟨b, 0, none⟩ = some x') (k2 : W.cell? ⟨c, 0, none⟩ = some y') (k3 : W.cell? ⟨d, 0, none⟩ = some z') :
    (((W.setCell ⟨b, 0, none⟩ x).setCell ⟨c, 0, none⟩ y).setCell ⟨d, 0, none⟩ z).cell? ⟨b, 0, none⟩ = some x ∧ (((W.setCell ⟨b, 0, none⟩ x).setCell ⟨c, 0, none⟩ y).setCell ⟨d, 0, none⟩ z).cell? ⟨c, 0, none⟩ = some y ∧ (((W.setCell ⟨b, 0, none⟩ x).setCell ⟨c, 0, none⟩ y).setCell ⟨d, 0, none⟩ z).cell? ⟨d, 0, none⟩ = some z := by
  refine ⟨?_, ?_, ?_⟩
  · exact (World.cell?_setCell_other _ _ _ _ (fun e => by injection e with e1 e2; omega)).trans ((World.cell?_setCell_other _ _ _ _ (fun e => by injection e with e1 e2; omega)).trans (World.cell?_setCell_same _ _ _ k1))
  · exact (World.cell?_setCell_other _ _ _ _ (fun e => by injection e with e1 e2; omega)).trans (World.cell?_setCell_same _ _ _ ((World.cell?_setCell_other _ _ _ _ (fun e => by injection e with e1 e2; omega)).trans k2))
  · exact World.cell?_setCell_same _ _ _ ((World.cell?_setCell_other _ _ _ _ (fun e => by injection e with e1 e2; omega)).trans ((World.cell?_setCell_other _ _ _ _ (fun e => by injection e with e1 e2; omega)).trans k3))
set_option maxRecDepth 100000 in
set_option maxHeartbeats 4000000 in
theorem basePair_in (n a : Int) (w : World) :
    CallsIn Fence.wide 6 Try.prog 16 #[.int .i64 n, .int .i64 a] w fun e W' => BPost n a e ∧ Below w.heap.size w W' := by
  have f16 : Fence.wide.fn 16 := trivial
  have f24 : Fence.wide.fn 24 := trivial
  have h1 : 1 ≤ 6 := by omega
  refine callsIn_of_wp_marks Try.func16 rfl trivial ?_ rfl
  simp only [Try.ntmps16, List.size_toArray, List.length_cons, List.length_nil, Nat.reduceAdd, Nat.reduceSub, Array.replicate_succ, Array.replicate_zero, List.push_toArray, List.append_toArray, List.nil_append, List.cons_append]
  gi_wp2_with (gi_at_call 24; refine (callsIn_wide.2 (bases_any _ _)).mono ?_; rintro e w' ⟨rfl, rfl⟩)
  have c0 := cell_new1 w (.int .i64 n) 3
  have c1 := cell_new1 (w.alloc (.cells #[.int .i64 n] 3)) (.int .i64 a) 3
  have c2 := cell_new1 ((w.alloc (.cells #[.int .i64 n] 3)).alloc (.cells #[.int .i64 a] 3)) (.int .i64 0) 3
  have c3 := cell_new1 (((w.alloc (.cells #[.int .i64 n] 3)).alloc (.cells #[.int .i64 a] 3)).alloc (.cells #[.int .i64 0] 3)) (.int .i64 0) 3
  have c4 := cell_new1 ((((w.alloc (.cells #[.int .i64 n] 3)).alloc (.cells #[.int .i64 a] 3)).alloc (.cells #[.int .i64 0] 3)).alloc (.cells #[.int .i64 0] 3)) (.bool false) 4
  have c5 := cell_new1 (((((w.alloc (.cells #[.int .i64 n] 3)).alloc (.cells #[.int .i64 a] 3)).alloc (.cells #[.int .i64 0] 3)).alloc (.cells #[.int .i64 0] 3)).alloc (.cells #[.bool false] 4)) (.int .i64 n) 3
  simp only [World.size_alloc] at c1 c2 c3 c4 c5
  have hB0 : Below w.heap.size w ((((((w.alloc (.cells #[.int .i64 n] 3)).alloc (.cells #[.int .i64 a] 3)).alloc (.cells #[.int .i64 0] 3)).alloc (.cells #[.int .i64 0] 3)).alloc (.cells #[.bool false] 4)).alloc (.cells #[.int .i64 n] 3)) := kept_alloc (kept_alloc (kept_alloc (kept_alloc (kept_alloc (kept_alloc (kept_refl w) _) _) _) _) _) _
  refine wpIn_rangeFunc_ownF rfl h1 (gf := 25) (lb := #[.pointer (some ⟨w.heap.size + 1 + 1 + 1 + 1 + 1, 0, none⟩)]) rfl trivial (enters_of Try.func25 (by kernel_rfl) rfl)
    (bases_stops (w.heap.size + 1 + 1 + 1 + 1 + 1) (w.heap.size + 1 + 1 + 1 + 1 + 1 + 1) n _ (by omega) (by simp) c5.1) belowK_t (belowK_b (by simp; try omega)) (Below.refl _ _) (fun _ => rfl)
    (fun pre W => ((∀ p ∈ pre, biI n p.1 p.2 ≠ a) ∧ W.cell? ⟨w.heap.size, 0, none⟩ = some (.int .i64 n) ∧ W.cell? ⟨w.heap.size + 1, 0, none⟩ = some (.int .i64 a) ∧ W.cell? ⟨w.heap.size + 1 + 1, 0, none⟩ = some (.int .i64 0) ∧ W.cell? ⟨w.heap.size + 1 + 1 + 1, 0, none⟩ = some (.int .i64 0) ∧ W.cell? ⟨w.heap.size + 1 + 1 + 1 + 1, 0, none⟩ = some (.bool false) ∧ W.frozen? ⟨w.heap.size + 1 + 1, 0, none⟩ = false ∧ W.frozen? ⟨w.heap.size + 1 + 1 + 1, 0, none⟩ = false ∧ W.frozen? ⟨w.heap.size + 1 + 1 + 1 + 1, 0, none⟩ = false) ∧ Below w.heap.size w W)
    (fun c pre W => (c = .ret ∧ ∃ x y, (x, y) ∈ pre ∧ biI n x y = a ∧ W.cell? ⟨w.heap.size + 1 + 1, 0, none⟩ = some (.int .i64 x) ∧ W.cell? ⟨w.heap.size + 1 + 1 + 1, 0, none⟩ = some (.int .i64 y) ∧ W.cell? ⟨w.heap.size + 1 + 1 + 1 + 1, 0, none⟩ = some (.bool true)) ∧ Below w.heap.size w W)
    (OwnFrom.and (Own.from (fun s A B row hs hg hr => by
      obtain ⟨hp, e0, e1, e2, e3, e4, g2, g3, g4⟩ := hs
      exact ⟨hp, cell_kept e0 hg hr, cell_kept e1 hg hr, cell_kept e2 hg hr, cell_kept e3 hg hr, cell_kept e4 hg hr, (frozen_kept e2 hg hr).trans g2, (frozen_kept e3 hg hr).trans g3, (frozen_kept e4 hg hr).trans g4⟩) _) (ownFrom_below (Nat.le_refl _) (by simp; try omega)))
    (fun c => OwnFrom.and (Own.from (fun s A B row hs hg hr => by
      obtain ⟨hc, x, y, hm, hb, e2, e3, e4⟩ := hs
      exact ⟨hc, x, y, hm, hb, cell_kept e2 hg hr, cell_kept e3 hg hr, cell_kept e4 hg hr⟩) _) (ownFrom_below (Nat.le_refl _) (by simp; try omega)))
    ⟨⟨by simp, (cell_alloc1 _ (cell_alloc1 _ (cell_alloc1 _ (cell_alloc1 _ (cell_alloc1 _ c0.1))))), (cell_alloc1 _ (cell_alloc1 _ (cell_alloc1 _ (cell_alloc1 _ c1.1)))), (cell_alloc1 _ (cell_alloc1 _ (cell_alloc1 _ c2.1))), (cell_alloc1 _ (cell_alloc1 _ c3.1)), (cell_alloc1 _ c4.1), (frozen_alloc1 _ (cell_alloc1 _ (cell_alloc1 _ c2.1)) (frozen_alloc1 _ (cell_alloc1 _ c2.1) (frozen_alloc1 _ c2.1 c2.2))), (frozen_alloc1 _ (cell_alloc1 _ c3.1) (frozen_alloc1 _ c3.1 c3.2)), (frozen_alloc1 _ c4.1 c4.2)⟩, hB0⟩
    (fun x => { tmps := #[.int .i64 n, .int .i64 a, .pointer (some ⟨w.heap.size, 0, none⟩), .pointer (some ⟨w.heap.size + 1, 0, none⟩), .pointer (some ⟨w.heap.size + 1 + 1, 0, none⟩), .pointer (some ⟨w.heap.size + 1 + 1 + 1, 0, none⟩), .pointer (some ⟨w.heap.size + 1 + 1 + 1 + 1, 0, none⟩), .int .i64 x.1, .int .i64 x.2, .int .i64 n, .func (.func 25) #[] #[.pointer (some ⟨w.heap.size + 1 + 1 + 1 + 1 + 1, 0, none⟩)], .int .i64 x.1, .int .i64 x.2, undef, undef, undef, undef, undef, undef, undef, undef], defers := [] }) ?assign ?body ?done ?stop
  case assign =>
    intro l x W K hK
    gi_wp2
    exact hK
  case body =>
    rintro l pre x W ⟨⟨hp, e0, e1, e2, e3, e4, g2, g3, g4⟩, hB⟩ _
    have HP := Lib.hid hp
    clear hp c0 c1 c2 c3 c4 c5
    have hmx : Try.prog.follows .mixedOrders = true := by kernel_rfl
    have hd : 1 ≤ 6 - 1 - 1 := by omega
    have f10 : Fence.wide.fn 10 := trivial
    by_cases hx : biI n x.1 x.2 = a
    · have hx' : (biI n x.1 x.2 == a) = true := by simpa using hx
      have HX := Lib.hid hx
      clear hx
      gi_wp2
      gi_region_with_o (gi_at_call 10; refine (CallsIn.inRound l (callsIn_wide.2 (baseIndex_any _ _ _ _))).mono ?_; rintro e w' ⟨rfl, rfl⟩)
      all_goals gi_wp2
      all_goals (try go_bits)
      all_goals have hs3 := set3 (W := W) (b := w.heap.size + 1 + 1) (c := w.heap.size + 1 + 1 + 1) (d := w.heap.size + 1 + 1 + 1 + 1) (by omega) (by omega) (by omega) (x := .int .i64 x.1) (y := .int .i64 x.2) (z := .bool true) e2 e3 e4
      all_goals refine ⟨?_, ⟨rfl, x.1, x.2, by simp, HX.out, hs3.1, hs3.2.1, hs3.2.2⟩, ?_⟩
      all_goals first | exact (((KeepsOthers.setCell _ _ _).trans (KeepsOthers.setCell _ _ _)).trans (KeepsOthers.setCell _ _ _)).trans (KeepsOthers.drew _) | (repeat (first | exact hB | refine Below.drew ?_ | (refine Below.setCell ?_ (by simp <;> omega) _)))
    · have hx' : (biI n x.1 x.2 == a) = false := by simpa using hx
      have HX := Lib.hid hx
      clear hx
      gi_wp2
      gi_region_with_o (gi_at_call 10; refine (CallsIn.inRound l (callsIn_wide.2 (baseIndex_any _ _ _ _))).mono ?_; rintro e w' ⟨rfl, rfl⟩)
      all_goals gi_wp2
      all_goals (try go_bits)
      all_goals refine ⟨?_, ?_, ⟨fun p hm => (List.mem_append.1 hm).elim (HP.out p) (fun h => by simp at h; subst h; exact HX.out), e0, e1, e2, e3, e4, g2, g3, g4⟩, ?_⟩
      all_goals first | exact KeepsOthers.drew _ | (repeat (first | exact hB | exact Below.refl _ _ | refine Below.drew ?_))
  case done =>
    rintro D xs W hD hS ⟨⟨hp, e0, e1, e2, e3, e4, g2, g3, g4⟩, hB⟩ hK
    have hs3 := set3 (W := W) (b := w.heap.size + 1 + 1) (c := w.heap.size + 1 + 1 + 1) (d := w.heap.size + 1 + 1 + 1 + 1) (by omega) (by omega) (by omega) (x := .int .i64 0) (y := .int .i64 0) (z := .bool false) e2 e3 e4
    obtain ⟨q2, q3, q4⟩ := hs3
    have hK' := ((KeepsOthers.setCell W ⟨w.heap.size + 1 + 1, 0, none⟩ (.int .i64 0)).trans ((KeepsOthers.setCell _ ⟨w.heap.size + 1 + 1 + 1, 0, none⟩ (.int .i64 0)).trans (KeepsOthers.setCell _ ⟨w.heap.size + 1 + 1 + 1 + 1, 0, none⟩ (.bool false)))).same D _ hK rfl
    have Q := Lib.hid (And.intro q2 (And.intro q3 q4))
    have QK := Lib.hid hK'
    clear q2 q3 q4 hK'
    gi_wp2
    have hK' := QK.out
    obtain ⟨q2, q3, q4⟩ := Q.out
    refine ⟨by simp, .inl ⟨_, _, rfl, run_takeDeferred hK', ?_⟩⟩
    have k2 := cell_kept q2 (grownBy_putObj' _ D (.deferred none)) (fun r e => by cases e; exact ⟨_, hK', rfl⟩)
    have k3 := cell_kept q3 (grownBy_putObj' _ D (.deferred none)) (fun r e => by cases e; exact ⟨_, hK', rfl⟩)
    have k4 := cell_kept q4 (grownBy_putObj' _ D (.deferred none)) (fun r e => by cases e; exact ⟨_, hK', rfl⟩)
    refine ⟨.tuple #[.int .i64 0, .int .i64 0, .bool false], ?_, .inr ⟨fun x y h => hp _ (hS.1 x y h), rfl⟩, (((hB.setCell (p := ⟨w.heap.size + 1 + 1, 0, none⟩) (by simp; omega) _).setCell (p := ⟨w.heap.size + 1 + 1 + 1, 0, none⟩) (by simp; omega) _).setCell (p := ⟨w.heap.size + 1 + 1 + 1 + 1, 0, none⟩) (by simp; omega) _).trans (belowK_b (w := w) (Nat.le_refl _) _ D _ _ (by simp at hD; omega) hK' rfl rfl)⟩
    simp [results, Try.f16, go_sem, k2, k3, k4]
  case stop =>
    rintro D c pre W hD hS ⟨⟨rfl, x, y, hm, hb, e2, e3, e4⟩, hB⟩ hK
    gi_wp2
    refine ⟨by simp, .inl ⟨_, _, rfl, run_takeDeferred hK, ?_⟩⟩
    have k2 := cell_kept e2 (grownBy_putObj' _ D (.deferred none)) (fun r e => by cases e; exact ⟨_, hK, rfl⟩)
    have k3 := cell_kept e3 (grownBy_putObj' _ D (.deferred none)) (fun r e => by cases e; exact ⟨_, hK, rfl⟩)
    have k4 := cell_kept e4 (grownBy_putObj' _ D (.deferred none)) (fun r e => by cases e; exact ⟨_, hK, rfl⟩)
    refine ⟨.tuple #[.int .i64 x, .int .i64 y, .bool true], ?_, .inl ⟨x, y, hS _ hm, hb, rfl⟩, hB.trans (belowK_b (w := w) (Nat.le_refl _) W D _ _ (by simp at hD; omega) hK rfl rfl)⟩
    simp [results, Try.f16, go_sem, k2, k3, k4]
theorem basePair_any (n a : Int) (w : World) : Calls Try.prog 16 #[.int .i64 n, .int .i64 a] w fun e w' => BPost n a e ∧ Below w.heap.size w w' :=
  callsIn_wide.1 (basePair_in n a w)
theorem BPost.yes {n a x y : Int} {e : Ending} (h : BPost n a e) (hp : Pr n x y) (hb : biI n x y = a) : e = .returned (.tuple #[.int .i64 x, .int .i64 y, .bool true]) := by
  rcases h with ⟨u, v, k, kb, rfl⟩ | ⟨h, _⟩
  · obtain ⟨rfl, rfl⟩ := bi_one k hp (kb.trans hb.symm); rfl
  · exact absurd hb (h x y hp)
theorem BPost.no {n a : Int} {e : Ending} (h : BPost n a e) (hn : ∀ x y, Pr n x y → biI n x y ≠ a) : e = .returned (.tuple #[.int .i64 0, .int .i64 0, .bool false]) := by
  rcases h with ⟨u, v, k, kb, rfl⟩ | ⟨_, h⟩
  · exact absurd kb (hn u v k)
  · exact h
theorem basePair_yes (n a x y : Int) (w : World) (hp : Pr n x y) (hb : biI n x y = a) : Calls Try.prog 16 #[.int .i64 n, .int .i64 a] w fun e w' => e = .returned (.tuple #[.int .i64 x, .int .i64 y, .bool true]) ∧ Below w.heap.size w w' :=
  (basePair_any n a w).mono fun _ _ ⟨h, hb'⟩ => ⟨h.yes hp hb, hb'⟩
theorem basePair_no (n a : Int) (w : World) (hn : ∀ x y, Pr n x y → biI n x y ≠ a) : Calls Try.prog 16 #[.int .i64 n, .int .i64 a] w fun e w' => e = .returned (.tuple #[.int .i64 0, .int .i64 0, .bool false]) ∧ Below w.heap.size w w' :=
  (basePair_any n a w).mono fun _ _ ⟨h, hb'⟩ => ⟨h.no hn, hb'⟩
end Go.Proofs.Yteaieeibkgbhbaa
