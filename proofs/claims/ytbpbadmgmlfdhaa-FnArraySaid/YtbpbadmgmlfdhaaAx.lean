/- The contract of the drawer of an array. -/
import Derived.Test.YtbpbadmgmlfdhaaAw
import Derived.Outline
namespace Go.Proofs.Ytbpbadmgmlfdhaa
open Go.RowKit
/-- A drawn list of places. -/
def DrawsAnts (w : World) (e : Ending) (w' : World) : Prop := ∃ a n c X Y, e = .returned (.slice a n c) ∧ n ≤ 11 ∧ n ≤ c ∧ c ≤ maxLen ∧ Ants w' a n X Y ∧ Below w.heap.size w w'
theorem draws_ants {b p n : Nat} {w0 w : World} {v : Value} {xs : List (Int × Int)} (h : Lst w0.heap.size w0 b p 30 2 v n (flatA xs) w) (hl : xs.length = n) (hn : n ≤ 11) : DrawsAnts w0 (.returned v) w := by
  obtain ⟨a, c, rfl, h1, h2, hI⟩ := ants_of_own h.2 hl
  exact ⟨a, n, c, _, _, rfl, hn, h1, h2, hI, h.1.1⟩
set_option maxRecDepth 100000 in
set_option maxHeartbeats 1000000 in
theorem drawArrayValid_any {a : Option Addr} {len cap : Nat} {w : World} (h : IsCode w a len cap) :
    Calls Try.prog 15 #[.slice a len cap] w (DrawsAnts w) := by
  have H := Lib.hid h; clear h
  obtain ⟨i0, hi, hz0, hz1, hz2⟩ := infoA_parts
  go_enter Try.func15, Try.ntmps15
  go_wp2_with fail
  refine l6Open_St H.out ?_
  intro b w1 hst
  clear H
  go_wp2_with fail
  refine (arr_draw hst (by omega)).mono ?_
  clear hst
  rintro x w2 ⟨v, n, xs, rfl, hl, hn, hL⟩
  have HL := Lib.hid hL; clear hL
  go_wp2_with fail
  refine (pick_l HL.out (by omega) (by omega)).mono ?_
  clear HL
  rintro x w4 ⟨u, ⟨u0, u1⟩, rfl, hL⟩
  have HL := Lib.hid hL; clear hL
  by_cases hu : u = 0
  · subst hu
    go_wp2_with fail
    go_loopw [4, 5] (fun v i wr => ∃ (k : Nat) (ys : List (Int × Int)), k ≤ 4 ∧ i = .int .i64 k ∧ ys.length ≤ 7 + k ∧ Lst w.heap.size w b 1000 30 2 v ys.length (flatA ys) wr) (fun _ i _ => 4 - (intOf i).toNat)
    case atStart => exact ⟨0, xs, by omega, rfl, by omega, by rw [hl]; exact HL.out.mono (by omega)⟩
    case round =>
      obtain ⟨k, ys, hk, rfl, hys, hL⟩ := hrel
      clear HL
      have HL := Lib.hid hL; clear hL
      by_cases hlt : k < 4
      · obtain ⟨a', c', hv, hc1, hc2, hI⟩ := ants_of_own HL.out.2 rfl
        subst hv
        clear hI
        go_wp2_with (at_builtin; refine wpList_append_own _ rfl _ _ 25 rfl (b + 1) 30 i0 (.agg #[.int .i64 0, .int .i64 0]) 2 16 Try.underlying25 hi hz0 hz1 hz2 rfl (by decide) _ ys.length _ rfl (HL.out.alloc _).2 ⟨wr.heap.size, 0, none⟩ 1 1 [.int .i64 (100 + k), .int .i64 (-1000)] rfl rfl (two_new _ _ _ _) (by intro u hu; simp at hu; rcases hu with rfl | rfl <;> rfl) (by unfold maxLen; omega) (by omega) (by have := HL.out.1.lt; simp; omega) ?_; intro v' w7 hown hgrow _)
        have HL3 := Lib.hid ((HL.out.alloc _).appended hown hgrow)
        clear hown hgrow HL
        go_wp2
        go_roundw
        case rel => exact ⟨k + 1, ys ++ [((100 + k : Int), (-1000 : Int))], by omega, by go_num, by simp; omega, by rw [flatA_append, List.length_append]; exact HL3.out⟩
        case measure => simp [intOf]; omega
      · go_wp2_with fail
        go_ret
        exact draws_ants HL.out rfl (by omega)
  · have r0 : (u == 0) = false := by simp [hu]
    go_wp2_with fail
    go_ret
    exact draws_ants HL.out hl (by omega)
end Go.Proofs.Ytbpbadmgmlfdhaa
