/- Contracts of the drawers of numbers of antennas. -/
import Derived.Test.YteaieeibkgbhbaaDr
import Derived.Test.YteaieeibkgbhbaaBs
namespace Go.Proofs.Yteaieeibkgbhbaa
open Go.RowKit
set_option maxHeartbeats 400000 in
theorem drawBaseMany_any {a : Option Addr} {len cap : Nat} {w : World} (h : IsCode w a len cap) :
    Calls Try.prog 11 #[.slice a len cap] w fun e w' => ∃ v : Int, (0 ≤ v ∧ v < 10) ∧ e = .returned (.int .i64 v) ∧ Below w.heap.size w w' := by
  have H := Lib.hid h; clear h
  go_enter Try.func11, Try.ntmps11
  go_wp2_with (first | (go_at_call 22; refine l6Open_St H.out ?_; intro b w' hst) | (go_at_call 23; refine (pick_st (by first | assumption | exact St.alloc (by assumption) _) (by omega) (by omega)).mono ?_; rintro e w' ⟨v, ⟨hv0, hv1⟩, rfl, hst⟩))
  all_goals go_ret
  all_goals exact ⟨_, ⟨by omega, by omega⟩, rfl, And.left (by assumption)⟩
theorem lit2v (v a b : Int) (h0 : 0 ≤ v) (h1 : v < 2) : ∃ x : Int, (x = a ∨ x = b) ∧ (#[Value.int .i64 a, Value.int .i64 b] : Array Value)[v.toNat]? = some (.int .i64 x) ∧ ∀ h : v.toNat < [Value.int .i64 a, Value.int .i64 b].length, [Value.int .i64 a, Value.int .i64 b][v.toNat]'h = .int .i64 x := by
  rcases (by omega : v = 0 ∨ v = 1) with rfl | rfl
  · exact ⟨a, .inl rfl, rfl, fun _ => rfl⟩
  · exact ⟨b, .inr rfl, rfl, fun _ => rfl⟩
set_option maxHeartbeats 2000000 in
theorem drawBaseIndex_any {a : Option Addr} {len cap : Nat} {w : World} (h : IsCode w a len cap) :
    Calls Try.prog 14 #[.slice a len cap] w fun e w' => ∃ n i j : Int, (1 ≤ n ∧ n ≤ 8 ∧ -1 ≤ i ∧ i ≤ 8 ∧ 0 ≤ j ∧ j ≤ 7) ∧ e = .returned (.tuple #[.int .i64 n, .int .i64 i, .int .i64 j]) ∧ Below w.heap.size w w' := by
  have H := Lib.hid h; clear h
  go_enter Try.func14, Try.ntmps14
  go_wp2_with fail
  refine l6Open_St H.out ?_
  intro b w1 hst
  go_wp2_with fail
  refine (pick_st hst (by omega) (by omega)).mono ?_
  rintro e w2 ⟨v, ⟨v0, v1⟩, rfl, hst2⟩
  clear hst H
  go_wp2_with fail
  refine (pick_st hst2 (by omega) (by omega)).mono ?_
  rintro e w3 ⟨i, ⟨i0, i1⟩, rfl, hst3⟩
  clear hst2
  go_wp2_with fail
  refine (pick_st hst3 (by omega) (by omega)).mono ?_
  rintro e w4 ⟨k, ⟨k0, k1⟩, rfl, hst4⟩
  clear hst3
  have m0 := Int.emod_nonneg (i + 1 + k) (show (2 + v) ≠ 0 by omega)
  have m1 := Int.emod_lt_of_pos (i + 1 + k) (show 0 < 2 + v by omega)
  go_wp2_with (first | (go_at_call 23; refine (pick_lit (by assumption) _ (by omega) (by omega)).mono ?_; rintro e w' ⟨v, ⟨hv0, hv1⟩, rfl, hst, hh⟩; have hc0 := cell_at hh 0; have hc1 := cell_at hh 1; clear hh; simp at hc0 hc1; rcases (by omega : v = 0 ∨ v = 1) with rfl | rfl; all_goals (try (exfalso; omega))) | (go_at_call 23; refine (pick_st (by first | assumption | exact St.alloc (by assumption) _) (by omega) (by omega)).mono ?_; rintro e w' ⟨v, ⟨hv0, hv1⟩, rfl, hst⟩))
  all_goals go_ret3
  all_goals refine ⟨_, _, _, ⟨?_, ?_, ?_, ?_, ?_, ?_⟩, rfl, ?_⟩
  all_goals first | omega | exact And.left (by assumption)
set_option maxHeartbeats 2000000 in
theorem drawBasePair_any {a : Option Addr} {len cap : Nat} {w : World} (h : IsCode w a len cap) :
    Calls Try.prog 17 #[.slice a len cap] w fun e w' => ∃ n k : Int, (1 ≤ n ∧ n ≤ 8 ∧ -1 ≤ k ∧ k ≤ 21) ∧ e = .returned (.tuple #[.int .i64 n, .int .i64 k]) ∧ Below w.heap.size w w' := by
  have H := Lib.hid h; clear h
  go_enter Try.func17, Try.ntmps17
  go_wp2_with fail
  refine l6Open_St H.out ?_
  intro b w1 hst
  go_wp2_with fail
  refine (pick_st hst (by omega) (by omega)).mono ?_
  rintro e w2 ⟨v, ⟨v0, v1⟩, rfl, hst2⟩
  clear hst H
  obtain ⟨b0, b1⟩ := bm_pos (2 + v) (by omega)
  go_wp2_with fail
  refine (pick_st hst2 (by omega) (by omega)).mono ?_
  rintro e w3 ⟨i, ⟨i0, i1⟩, rfl, hst3⟩
  clear hst2
  rcases (by omega : i = 0 ∨ i = 1 ∨ 2 ≤ i) with rfl | rfl | hi
  · go_wp2_with fail
    go_region_with (first | (go_at_call 13; refine (sBaseMany_any _ _).mono ?_; rintro e w' ⟨rfl, rfl⟩) | (go_at_call 23; refine (pick_litd (by assumption) _ (by omega) (by omega)).mono ?_; rintro e w' ⟨u, ⟨u0, u1⟩, rfl, hst, hh⟩; obtain ⟨x, hx0, hax, hay⟩ := lit2v u (-1) (bmI (2 + v)) u0 u1; have hcx := (cell_at hh u.toNat).trans hax; clear hh) | (go_at_call 23; refine (pick_st (by first | assumption | exact St.drew (by assumption)) (by omega) (by omega)).mono ?_; rintro e w' ⟨u, ⟨u0, u1⟩, rfl, hst⟩; obtain ⟨x, hx0, hax, hay⟩ := lit2v u (-1) (bmI (2 + v)) u0 u1))
    all_goals go_wp2
    all_goals go_ret2
    all_goals refine ⟨_, _, ⟨?_, ?_, ?_, ?_⟩, rfl, ?_⟩
    all_goals first | omega | exact And.left (by assumption) | exact And.left (St.alloc (by assumption) _)
  · go_wp2_with (first | (go_at_call 23; refine (pick_lit (by assumption) _ (by omega) (by omega)).mono ?_; rintro e w' ⟨v, ⟨hv0, hv1⟩, rfl, hst, hh⟩; have hc0 := cell_at hh 0; have hc1 := cell_at hh 1; clear hh; simp at hc0 hc1; rcases (by omega : v = 0 ∨ v = 1) with rfl | rfl; all_goals (try (exfalso; omega))) | (go_at_call 23; refine (pick_st (by first | assumption | exact St.alloc (by assumption) _) (by omega) (by omega)).mono ?_; rintro e w' ⟨v, ⟨hv0, hv1⟩, rfl, hst⟩))
    all_goals go_ret2
    all_goals refine ⟨_, _, ⟨?_, ?_, ?_, ?_⟩, rfl, ?_⟩
    all_goals first | omega | exact And.left (by assumption)
  · have q0 : (i == 0) = false := by simp; omega
    have q1 : (i == 1) = false := by simp; omega
    go_wp2_with (first | (go_at_call 13; refine (sBaseMany_any _ _).mono ?_; rintro e w' ⟨rfl, rfl⟩) | (go_at_call 23; refine (pick_st hst3 (by omega) ⟨b0, by omega⟩).mono ?_; rintro e w' ⟨u, ⟨u0, u1⟩, rfl, hst⟩))
    go_ret2
    exact ⟨_, _, ⟨by omega, by omega, by omega, by omega⟩, rfl, And.left (by assumption)⟩
end Go.Proofs.Yteaieeibkgbhbaa
