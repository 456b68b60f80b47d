/- Lists of places that the drawer owns. -/
import Derived.Test.YtbpbadmgmlfdhaaAo
import Derived.Test.YtbpbadmgmlfdhaaDr
import Derived.Test.YtbpbadmgmlfdhaaDl
import Derived.Laws.OwnMore
import Derived.OwnWalk
import Derived.Maps.AppendAt
import Derived.Outline
namespace Go.Proofs.Ytbpbadmgmlfdhaa
open Go.RowKit

/-- The cells of a list of places. -/
def flatA : List (Int × Int) → List Value
  | [] => []
  | p :: r => .int .i64 p.1 :: .int .i64 p.2 :: flatA r
theorem flatA_length (xs : List (Int × Int)) : (flatA xs).length = xs.length * 2 := by
  induction xs with
  | nil => rfl
  | cons p r ih => simp [flatA, ih]; omega
theorem flatA_append (xs ys : List (Int × Int)) : flatA (xs ++ ys) = flatA xs ++ flatA ys := by
  induction xs with
  | nil => rfl
  | cons p r ih => simp [flatA, ih]
theorem flatA_at (xs : List (Int × Int)) (i : Nat) (h : i < xs.length) : (flatA xs)[i * 2]? = some (.int .i64 (xs.getD i (0, 0)).1) ∧ (flatA xs)[i * 2 + 1]? = some (.int .i64 (xs.getD i (0, 0)).2) := by
  induction xs generalizing i with
  | nil => exact absurd h (Nat.not_lt_zero i)
  | cons p r ih =>
    cases i with
    | zero => exact ⟨rfl, rfl⟩
    | succ i =>
      have := ih i (by simpa using h)
      have e : (i + 1) * 2 = i * 2 + 2 := by omega
      rw [e]
      exact ⟨by simpa [flatA] using this.1, by simpa [flatA] using this.2⟩
theorem ants_of_own {w : World} {base : Nat} {v : Value} {n : Nat} {xs : List (Int × Int)} (h : w.ownsRow base 30 2 v n (flatA xs)) (hl : xs.length = n) :
    ∃ a c, v = .slice a n c ∧ n ≤ c ∧ c ≤ maxLen ∧ Ants w a n (fun i => (xs.getD i (0, 0)).1) (fun i => (xs.getD i (0, 0)).2) := by
  rcases h.2 with ⟨rfl, hn0⟩ | ⟨g, cap, cur, rfl, hg, hh, hnc, hm, _⟩
  · exact ⟨none, 0, by rw [hn0], by omega, by unfold maxLen; omega, .inl hn0⟩
  · refine ⟨_, cap, rfl, hnc, hm, .inr ⟨g, 0, rfl, (h.lt g rfl).2, fun i hi => ?_⟩⟩
    obtain ⟨h1, h2⟩ := flatA_at xs i (by omega)
    rw [Nat.zero_add]
    exact ⟨(h.cellAt (i * 2) (by omega)).trans h1, (h.cellAt (i * 2 + 1) (by omega)).trans h2⟩
theorem grown_of_below {w w' : World} (h : Below w.heap.size w w') (row : Option Nat) : w.grownBy w' row := ⟨h.os, h.tape, h.output, h.size, fun k hk _ => h.block k hk⟩
theorem own_below {w w' : World} {base : Nat} {e : TypeId} {size : Nat} {v : Value} {n : Nat} {cs : List Value} (h : w.ownsRow base e size v n cs) (hb : Below w.heap.size w w') : w'.ownsRow base e size v n cs :=
  h.kept (grown_of_below hb none) (by cases v.ownBlock <;> simp)
theorem St.below {B b p : Nat} {w0 w w' : World} (h : St B w0 b p w) (hb : Below w.heap.size w w') : St B w0 b p w' := by
  have hl := h.lt
  obtain ⟨h1, h2, q, hq, hr⟩ := h
  exact ⟨h1.trans (hb.mono (by omega)), h2, q, hq, hr.keep fun k hk => hb.block k (by omega)⟩
theorem Lst.below {B b p : Nat} {w0 w w' : World} {e : TypeId} {size : Nat} {v : Value} {n : Nat} {cs : List Value} (h : Lst B w0 b p e size v n cs w) (hb : Below w.heap.size w w') : Lst B w0 b p e size v n cs w' := ⟨h.1.below hb, own_below h.2 hb⟩
/-- Some truth value; the memory below is as it was. -/
def SomeBool (w : World) (e : Ending) (w' : World) : Prop := ∃ v : Bool, e = .returned (.bool v) ∧ Below w.heap.size w w'
set_option maxHeartbeats 1000000 in
theorem has_some (a : Option Addr) (n c : Nat) (X Y : Nat → Int) (x y : Int) (w : World) (h : Ants w a n X Y) (hn : n ≤ 1048576) :
    Calls Try.prog 28 #[.slice a n c, .agg #[.int .i64 x, .int .i64 y]] w (SomeBool w) := by
  have H := Lib.hid (h.keep (kept_alloc (kept_refl w) (.cells #[.int .i64 x, .int .i64 y] 30)))
  clear h
  go_enter Try.func28, Try.ntmps28
  go_wp2
  go_loopw [5] (fun i wr => ∃ k : Nat, k ≤ n ∧ i = .int .i64 k ∧ ∃ m, wr = (w.alloc (.cells #[.int .i64 x, .int .i64 y] 30)).drewN m) (fun i _ => n - (intOf i).toNat)
  case atStart => exact ⟨0, Nat.zero_le _, rfl, 0, rfl⟩
  case round =>
    obtain ⟨k, hk, rfl, m, rfl⟩ := hrel
    by_cases hlt : k < n
    · obtain ⟨b1, o1, rfl, hb1, c1, c2⟩ := H.out.at hlt
      have e1 : (0 : Int) ≤ (k : Int) := by omega
      have e2 : (k : Int) < (n : Int) := by omega
      clear H
      by_cases hx : x = X k
      · have q0 : (x == X k) = true := by simpa using hx
        have q0' : (X k == x) = true := by simpa using hx.symm
        by_cases hy : y = Y k
        · have q1 : (y == Y k) = true := by simpa using hy
          have q1' : (Y k == y) = true := by simpa using hy.symm
          clear hx hy
          go_wp2
          go_quiet (fail)
          go_wp2
          go_ret
          exact ⟨true, rfl, below_drewN (kept_trans (kept_alloc (kept_refl _) _) (drewN_below m)) _⟩
        · have q1 : (y == Y k) = false := by simpa using hy
          have q1' : (Y k == y) = false := by simpa using fun e => hy (Eq.symm e)
          clear hx hy
          go_wp2
          go_quiet (fail)
          go_wp2
          go_roundw
          case rel => exact ⟨k + 1, by omega, by go_num, _, rfl⟩
          case measure => simp [intOf]; omega
      · have q0 : (x == X k) = false := by simpa using hx
        have q0' : (X k == x) = false := by simpa using fun e => hx (Eq.symm e)
        clear hx
        go_wp2
        go_quiet (fail)
        go_wp2
        go_roundw
        case rel => exact ⟨k + 1, by omega, by go_num, _, rfl⟩
        case measure => simp [intOf]; omega
    · clear H
      go_wp2
      go_ret
      exact ⟨false, rfl, kept_trans (kept_alloc (kept_refl _) _) (drewN_below m)⟩
end Go.Proofs.Ytbpbadmgmlfdhaa
