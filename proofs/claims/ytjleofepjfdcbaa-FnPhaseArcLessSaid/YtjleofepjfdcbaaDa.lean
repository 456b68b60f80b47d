/- The contract of the drawer of phases of an arc. -/
import Derived.Test.YtjleofepjfdcbaaDl
import Derived.Outline
namespace Go.Proofs.Ytjleofepjfdcbaa
open Go.RowKit
theorem draws_setj {b p : Nat} {w w' : World} {g cap n m j : Nat} {xs : List Int} {lo hi : Int} (hl : Lst w.heap.size w b p 3 1 (.slice (some ⟨g, 0, none⟩) n cap) n (xs.map (Value.int .i64)) w') (hn : n ≤ m) (hx : ∀ x ∈ xs, lo ≤ x ∧ x ≤ hi) (x : Int) (hb : lo ≤ x ∧ x ≤ hi) (h0 : lo ≤ 0 ∧ 0 ≤ hi) :
    DrawsInts lo hi m w (.returned (.slice (some ⟨g, 0, none⟩) n cap)) (w'.setCell ⟨g, j, none⟩ (.int .i64 x)) := by
  have hst := hl.2.stored j (.int .i64 x)
  rw [← List.map_set] at hst
  exact draws_of (hl.appended hst.1 hst.2) hn (mem_set hx hb) h0
set_option maxRecDepth 100000 in
set_option maxHeartbeats 4000000 in
theorem drawPhaseArc_any {a : Option Addr} {len cap : Nat} {w : World} (h : IsCode w a len cap) :
    Calls Try.prog 15 #[.slice a len cap] w (DrawsInts 0 360 7 w) := by
  have H := Lib.hid h; clear h
  obtain ⟨i0, hi, hz0, hz1, hz2⟩ := info_parts info3
  go_enter Try.func15, Try.ntmps15
  go_wp2_with fail
  refine l6Open_St H.out ?_
  intro b w1 hst
  clear H
  go_wp2_with fail
  have hL := Lib.hid (Lst.begin_ (e := 3) (size := 1) hst #[] rfl)
  refine (pick_l hL.out (by omega) (by omega)).mono ?_
  clear hL hst
  rintro x w2 ⟨N, ⟨N0, N1⟩, rfl, hL⟩
  have HL := Lib.hid hL; clear hL
  go_wp2_with fail
  refine (phase_l HL.out (by omega)).mono ?_
  clear HL
  rintro x w3 ⟨f, ⟨f0, f1⟩, rfl, hL⟩
  have HL := Lib.hid hL; clear hL
  go_wp2_with fail
  go_loopw [4, 7] (fun v i wr => ∃ (k : Nat) (xs : List Int), (k : Int) ≤ N ∧ i = .int .i64 k ∧ xs.length = k ∧ (∀ x ∈ xs, 0 ≤ x ∧ x ≤ 360) ∧ Lst w.heap.size w b (4 + 4 * k) 3 1 v k (xs.map (Value.int .i64)) wr) (fun _ i _ => N.toNat - (intOf i).toNat)
  case atStart => exact ⟨0, [], by omega, rfl, rfl, by simp, HL.out.mono (by omega)⟩
  case round =>
    obtain ⟨k, xs, hk, rfl, hxs, hxb, hL⟩ := hrel
    clear HL
    have HL := Lib.hid hL; clear hL
    have HX := Lib.hid hxb; clear hxb
    have HXS := Lib.hid hxs; clear hxs
    by_cases hlt : (k : Int) < N
    · go_wp2_with fail
      refine (pick_l HL.out (by omega) (by omega)).mono ?_
      clear HL
      rintro x w4 ⟨m, ⟨m0, m1⟩, rfl, hL⟩
      have HL := Lib.hid hL; clear hL
      by_cases hm : m = 0
      · subst hm
        go_wp2_with fail
        refine (pick_l HL.out (by omega) (by omega)).mono ?_
        clear HL
        rintro x w5 ⟨u, ⟨u0, u1⟩, rfl, hL⟩
        have HL := Lib.hid hL; clear hL
        have hbl := HL.out.1.lt
        obtain ⟨t, ht⟩ : ∃ t : Int, t = (f + u) % 360 := ⟨_, rfl⟩
        have t0 : 0 ≤ t := by omega
        have t1 : t < 360 := by omega
        have HP : Hid (Calls Try.prog 26 #[.int .i64 (f + u)] w5 fun e w' => e = .returned (.int .i64 t) ∧ w5 = w') := Lib.hid (by rw [ht]; exact sPhaseOf_any _ _)
        clear ht
        go_wp2_with fail
        refine HP.out.mono ?_
        rintro x w' ⟨rfl, rfl⟩
        clear HP
        go_wp2_with (at_builtin; refine wpList_append_own _ rfl _ _ 22 rfl (b + 1) 3 i0 (.int .i64 0) 1 8 Try.underlying22 hi hz0 hz1 hz2 rfl (by decide) _ k _ rfl (HL.out.alloc _).2 ⟨w5.heap.size, 0, none⟩ 1 1 [.int .i64 t] rfl rfl (cell_one_new _ _ _) (by intro u hu; simp at hu; subst hu; rfl) (by unfold maxLen; omega) (by omega) (by simp; omega) ?_; intro v' w6 hown hgrow _)
        have HL3 := Lib.hid ((HL.out.alloc _).appended hown hgrow)
        clear hown hgrow HL
        go_wp2
        go_roundw
        case rel => exact ⟨k + 1, xs ++ [t], by omega, by go_num, by simp [HXS.out], mem_snoc HX.out ⟨by omega, by omega⟩, by rw [List.map_append]; exact HL3.out.mono (by omega)⟩
        case measure => simp [intOf]; omega
      · have hm' : (m == 0) = false := by simp [hm]
        go_wp2_with fail
        refine (phase_l HL.out (by omega)).mono ?_
        clear HL
        rintro x w5 ⟨t, ⟨t0, t1⟩, rfl, hL⟩
        have HL := Lib.hid hL; clear hL
        have hbl := HL.out.1.lt
        go_wp2_with (at_builtin; refine wpList_append_own _ rfl _ _ 22 rfl (b + 1) 3 i0 (.int .i64 0) 1 8 Try.underlying22 hi hz0 hz1 hz2 rfl (by decide) _ k _ rfl (HL.out.alloc _).2 ⟨w5.heap.size, 0, none⟩ 1 1 [.int .i64 t] rfl rfl (cell_one_new _ _ _) (by intro u hu; simp at hu; subst hu; rfl) (by unfold maxLen; omega) (by omega) (by simp; omega) ?_; intro v' w6 hown hgrow _)
        have HL3 := Lib.hid ((HL.out.alloc _).appended hown hgrow)
        clear hown hgrow HL
        go_wp2
        go_roundw
        case rel => exact ⟨k + 1, xs ++ [t], by omega, by go_num, by simp [HXS.out], mem_snoc HX.out ⟨by omega, by omega⟩, by rw [List.map_append]; exact HL3.out.mono (by omega)⟩
        case measure => simp [intOf]; omega
    · obtain rfl : N = (k : Int) := by omega
      by_cases hk0 : 0 < k
      · have hN' : decide ((0 : Int) < (k : Int)) = true := by simp; omega
        go_wp2_with fail
        refine (pick_l HL.out (by omega) (by omega)).mono ?_
        clear HL
        rintro x w4 ⟨m, ⟨m0, m1⟩, rfl, hL⟩
        rcases hL.2.2 with ⟨_, hk0⟩ | ⟨gb, cap', cur, rfl, hgb, _⟩
        · omega
        by_cases hm : m = 0
        · subst hm
          obtain ⟨j, rfl⟩ : ∃ j, k = j + 1 := ⟨k - 1, by omega⟩
          have hcc := hL.2.cellAt j (by omega)
          have hff := hL.2.frozenAt j
          have hx0 : (xs.map (Value.int .i64))[j]? = some (.int .i64 (xs.getD j 0)) := by
            have hl := HXS.out
            simp [List.getElem?_map, List.getElem?_eq_getElem (by omega : j < xs.length), List.getD_eq_getElem?_getD]
          rw [hx0] at hcc
          have HL2 := Lib.hid hL
          have e1 : ((j + 1 : Nat) : Int) - 1 = (j : Int) := by omega
          clear hL hx0
          go_wp2_with fail
          go_ret
          exact draws_setj HL2.out (by omega) HX.out _ ⟨by omega, by omega⟩ ⟨by omega, by omega⟩
        · have HL2 := Lib.hid hL; clear hL
          have hm' : (m == 0) = false := by simp [hm]
          go_wp2_with fail
          go_ret
          exact draws_of HL2.out (by omega) HX.out ⟨by omega, by omega⟩
      · have hN' : decide ((0 : Int) < (k : Int)) = false := by simp; omega
        go_wp2_with fail
        go_ret
        exact draws_of HL.out (by omega) HX.out ⟨by omega, by omega⟩
end Go.Proofs.Ytjleofepjfdcbaa
