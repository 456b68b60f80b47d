/- Contracts of the drawers of arrays. -/
import Derived.Test.YtbpbadmgmlfdhaaAv
import Derived.Test.YtbpbadmgmlfdhaaDl
import Derived.Deep.AppendLies
import Derived.Outline
namespace Go.Proofs.Ytbpbadmgmlfdhaa
open Go.RowKit
theorem infoA : (Try.prog.info? 30).map (fun i => (i.zero, i.size, i.bytes)) = some (some (.agg #[.int .i64 0, .int .i64 0]), 2, 16) := by kernel_rfl
theorem two_new (w : World) (x y : Value) (t : TypeId) : ∀ j u, [x, y][j]? = some u → (w.alloc (.cells #[x, y] t)).cell? ((⟨w.heap.size, 0, none⟩ : Addr).add j) = some u := by
  intro j u hj
  match j, hj with
  | 0, hj => simp at hj; subst hj; simp [Addr.add]
  | 1, hj => simp at hj; subst hj; simp [Addr.add]
  | j + 2, hj => simp at hj
theorem infoA_parts : ∃ i : TypeInfo, Try.prog.info? 30 = some i ∧ i.zero = some (.agg #[.int .i64 0, .int .i64 0]) ∧ i.size = 2 ∧ i.bytes = 16 := by
  have h := infoA
  cases hi : Try.prog.info? 30 with
  | none => rw [hi] at h; simp at h
  | some i => rw [hi] at h; simp at h; exact ⟨i, rfl, h.1, h.2.1, h.2.2⟩
theorem own_lit {w : World} {B : Nat} (ys : List (Int × Int)) (c : Array Value) (n : Nat) (hc : c.toList = flatA ys) (hn : ys.length = n) (hB : B ≤ w.heap.size) (hm : n ≤ 100) : (w.alloc (.cells c 30)).ownsRow B 30 2 (.slice (some ⟨w.heap.size, 0, none⟩) n n) n (flatA ys) := by
  subst hn
  have hl := flatA_length ys
  have hs : c.size = ys.length * 2 := by rw [← hl, ← hc]; simp
  refine ⟨hl, .inr ⟨w.heap.size, ys.length, c, rfl, hB, heap_alloc_new w _, Nat.le_refl _, by unfold maxLen; omega, hs, ?_⟩⟩
  rw [← hc, ← hs]
  exact List.take_of_length_le (by simp)
theorem lst_set {B b p g cap n j : Nat} {w0 w : World} {xs : List (Int × Int)} (h : Lst B w0 b p 30 2 (.slice (some ⟨g, 0, none⟩) n cap) n (flatA xs) w) (hl : xs.length = n) (hn : 0 < n) (hj : j < 2) (A : Int) :
    ∃ ys : List (Int × Int), ys.length = n ∧ Lst B w0 b p 30 2 (.slice (some ⟨g, 0, none⟩) n cap) n (flatA ys) (w.setCell ⟨g, j, none⟩ (.int .i64 A)) := by
  have hst := h.2.stored j (.int .i64 A)
  have h' := h.appended hst.1 hst.2
  cases xs with
  | nil => simp at hl; omega
  | cons q r =>
    rcases (by omega : j = 0 ∨ j = 1) with rfl | rfl
    · exact ⟨(A, q.2) :: r, hl, h'⟩
    · exact ⟨(q.1, A) :: r, hl, h'⟩
theorem lst_set2 {B b p g cap n : Nat} {w0 w : World} {xs : List (Int × Int)} (h : Lst B w0 b p 30 2 (.slice (some ⟨g, 0, none⟩) n cap) n (flatA xs) w) (hl : xs.length = n) (hn : 0 < n) (A D : Int) :
    ∃ ys : List (Int × Int), ys.length = n ∧ Lst B w0 b p 30 2 (.slice (some ⟨g, 0, none⟩) n cap) n (flatA ys) ((w.setCell ⟨g, 0, none⟩ (.int .i64 A)).setCell ⟨g, 1, none⟩ (.int .i64 D)) := by
  obtain ⟨ys, hy, h1⟩ := lst_set h hl hn (show 0 < 2 by omega) A
  exact lst_set h1 hy hn (by omega) D
theorem lst_one {B b p g cap n : Nat} {w0 w : World} {xs : List (Int × Int)} (h : Lst B w0 b p 30 2 (.slice (some ⟨g, 0, none⟩) n cap) n (flatA xs) w) (hl : xs.length = n) (hn : 0 < n) :
    ∃ ys : List (Int × Int), ys.length = 1 ∧ Lst B w0 b p 30 2 (.slice (some ⟨g, 0, none⟩) 1 cap) 1 (flatA ys) w := by
  cases xs with
  | nil => simp at hl; omega
  | cons q r =>
    obtain ⟨hst, h1, h2⟩ := h
    rcases h2 with ⟨he, _⟩ | ⟨g', cap', cur, he, hb, hh, hnc, hcm, hcs, ht⟩
    · cases he
    · cases he
      refine ⟨[q], rfl, hst, rfl, .inr ⟨g, cap, cur, rfl, hb, hh, by omega, hcm, hcs, ?_⟩⟩
      have e : List.take (1 * 2) cur.toList = List.take 2 (List.take (n * 2) cur.toList) := by rw [List.take_take]; congr 1; omega
      rw [e, ht]
      rfl
theorem lst_fin {B b p p' n : Nat} {w0 W : World} {v : Value} {e : Ending} (he : e = .returned v) (h : ∃ ys : List (Int × Int), ys.length = n ∧ Lst B w0 b p 30 2 v n (flatA ys) W) (hn : n ≤ 7) (hp : p ≤ p') :
    ∃ v n xs, e = .returned v ∧ xs.length = n ∧ n ≤ 7 ∧ Lst B w0 b p' 30 2 v n (flatA xs) W := by
  obtain ⟨ys, hy, h1⟩ := h
  exact ⟨v, n, ys, he, hy, hn, h1.mono hp⟩
set_option maxRecDepth 100000 in
set_option maxHeartbeats 1000000 in
theorem arr_draw {B : Nat} {w0 w : World} {b p : Nat} (hst : St B w0 b p w) (hp : p ≤ 1000) :
    Calls Try.prog 24 #[.pointer (some ⟨b, 0, none⟩)] w fun e w' => ∃ v n xs, e = .returned v ∧ xs.length = n ∧ n ≤ 7 ∧ Lst B w0 b (p + 100) 30 2 v n (flatA xs) w' := by
  obtain ⟨i0, hi, hz0, hz1, hz2⟩ := infoA_parts
  go_enter Try.func24, Try.ntmps24
  go_wp2_with fail
  have hL := Lib.hid (Lst.begin_ (e := 30) (size := 2) hst #[] rfl)
  refine (pick_l hL.out (by omega) (by omega)).mono ?_
  clear hL hst
  rintro x w2 ⟨N, ⟨N0, N1⟩, rfl, hL⟩
  have HL := Lib.hid hL; clear hL
  go_wp2_with fail
  refine (pick_ll HL.out _ (by omega) (by omega)).mono ?_
  clear HL
  rintro x w3 ⟨u, ⟨u0, u1⟩, rfl, hL, hh⟩
  have HL := Lib.hid hL; clear hL
  obtain ⟨um, rfl⟩ : ∃ m : Nat, u = m := ⟨u.toNat, by omega⟩
  have hc : ∃ t : Int, (0 ≤ t ∧ t ≤ 7) ∧ w3.cell? ⟨w2.heap.size, um, none⟩ = some (.int .i64 t) := by
    have hc0 := cell_at hh 0; have hc1 := cell_at hh 1; have hc2 := cell_at hh 2
    rcases (by omega : um = 0 ∨ um = 1 ∨ um = 2) with rfl | rfl | rfl
    · exact ⟨1, by omega, by simpa using hc0⟩
    · exact ⟨1, by omega, by simpa using hc1⟩
    · exact ⟨7, by omega, by simpa using hc2⟩
  obtain ⟨t, ⟨t0, t1⟩, hc⟩ := hc
  clear hh
  go_wp2_with fail
  go_loopw [3, 6] (fun v i wr => ∃ (k : Nat) (xs : List (Int × Int)), (k : Int) ≤ 2 + N ∧ i = .int .i64 k ∧ xs.length ≤ k ∧ Lst B w0 b (p + 2 + 2 * k) 30 2 v xs.length (flatA xs) wr) (fun _ i _ => (2 + N).toNat - (intOf i).toNat)
  case atStart => exact ⟨0, [], by omega, rfl, by simp, HL.out.mono (by omega)⟩
  case round =>
    obtain ⟨k, xs, hk, rfl, hxs, hL⟩ := hrel
    clear HL hc
    have HL := Lib.hid hL; clear hL
    by_cases hlt : (k : Int) < 2 + N
    · go_wp2_with fail
      refine (pick_l HL.out (by omega) (by omega)).mono ?_
      clear HL
      rintro x w4 ⟨u, ⟨u0, u1⟩, rfl, hL⟩
      have HL := Lib.hid hL; clear hL
      go_wp2_with fail
      refine (pick_l HL.out (by omega) (by omega)).mono ?_
      clear HL
      rintro x w5 ⟨q, ⟨q0, q1⟩, rfl, hL⟩
      have HL := Lib.hid hL; clear hL
      go_wp2_with fail
      obtain ⟨A, hA⟩ : ∃ A : Int, A = wrap64 (t * (u - 2)) := ⟨_, rfl⟩
      obtain ⟨D, hD⟩ : ∃ D : Int, D = wrap64 (t * (q - 1)) := ⟨_, rfl⟩
      rw [← hA, ← hD]
      clear hA hD
      obtain ⟨a', c', hv, hc1, hc2, hI⟩ := ants_of_own HL.out.2 rfl
      subst hv
      refine (has_some _ _ _ _ _ _ _ _ (hI.keep (kept_alloc (kept_refl _) _)) (by omega)).mono ?_
      clear hI
      rintro x w6 ⟨f, rfl, hb⟩
      have HL2 := Lib.hid (Lst.below (HL.out.alloc _) hb)
      have cA : w6.cell? ⟨w5.heap.size, 0, none⟩ = some (.int .i64 A) := (hb.cell (by simp)).trans (by simp)
      have cD : w6.cell? ⟨w5.heap.size, 1, none⟩ = some (.int .i64 D) := (hb.cell (by simp)).trans (by simp)
      clear HL hb
      cases f
      · go_wp2_with (at_builtin; refine wpList_append_own _ rfl _ _ 25 rfl (b + 1) 30 i0 (.agg #[.int .i64 0, .int .i64 0]) 2 16 Try.underlying25 hi hz0 hz1 hz2 rfl (by decide) _ xs.length _ rfl (HL2.out.alloc _).2 ⟨w6.heap.size, 0, none⟩ 1 1 [.int .i64 A, .int .i64 D] rfl rfl (two_new _ _ _ _) (by intro u hu; simp at hu; rcases hu with rfl | rfl <;> rfl) (by unfold maxLen; omega) (by omega) (by have := HL2.out.1.lt; simp; omega) ?_; intro v' w7 hown hgrow _)
        have HL3 := Lib.hid ((HL2.out.alloc _).appended hown hgrow)
        clear hown hgrow HL2
        go_wp2
        go_roundw
        case rel => exact ⟨k + 1, xs ++ [(A, D)], by omega, by go_num, by simp; omega, by rw [flatA_append, List.length_append]; exact HL3.out.mono (by omega)⟩
        case measure => simp [intOf]; omega
      · go_wp2_with fail
        go_roundw
        case rel => exact ⟨k + 1, xs, by omega, by go_num, by omega, HL2.out.mono (by omega)⟩
        case measure => simp [intOf]; omega
    · obtain ⟨a', c', hv, hc1, hc2, _⟩ := ants_of_own HL.out.2 rfl
      subst hv
      by_cases h2 : xs.length < 2
      · have q1 : decide ((xs.length : Int) < 2) = true := by simp; omega
        go_wp2_with fail
        refine (pick_l HL.out (by omega) (by omega)).mono ?_
        clear HL
        rintro x w4 ⟨u, ⟨u0, u1⟩, rfl, hL⟩
        have HL := Lib.hid hL; clear hL
        go_wp2_with fail
        refine (pick_l HL.out (by omega) (by omega)).mono ?_
        clear HL
        rintro x w5 ⟨q, ⟨q0, q1⟩, rfl, hL⟩
        have HL := Lib.hid hL; clear hL
        go_wp2_with fail
        have HL' : Hid (Lst B w0 b (p + 2 + 2 * k + 1 + 1) 30 2 (.slice (some ⟨w5.heap.size, 0, none⟩) 3 3) 3 (flatA [(0, 0), (1 + u, q), (5, 1)]) (w5.alloc (.cells #[.int .i64 0, .int .i64 0, .int .i64 (1 + u), .int .i64 q, .int .i64 5, .int .i64 1] 30))) := Lib.hid ⟨HL.out.1.alloc _, own_lit _ _ _ rfl rfl (by have := HL.out.1.lt; omega) (by omega)⟩
        clear HL
        have HL := HL'
        clear HL'
        obtain ⟨ys, hys⟩ : ∃ ys : List (Int × Int), ys = [(0, 0), (1 + u, q), (5, 1)] := ⟨_, rfl⟩
        have hyl : ys.length = 3 := by rw [hys]; rfl
        rw [← hys] at HL
        clear hys
        refine (pick_l HL.out (by omega) (by omega)).mono ?_
        clear HL
        rintro x w4 ⟨u, ⟨u0, u1⟩, rfl, hL⟩
        obtain ⟨g, cap, hg, _, hgl⟩ := World.ownsRow.form hL.2 (by omega)
        cases hg
        have HL := Lib.hid hL
        have f0 := hL.2.frozenAt 0
        have f1 := hL.2.frozenAt 1
        obtain ⟨p0, p1⟩ := flatA_at ys 0 (by omega)
        obtain ⟨p2, p3⟩ := flatA_at ys 1 (by omega)
        have d0 := (hL.2.cellAt 0 (by omega)).trans p0
        have d1 := (hL.2.cellAt 1 (by omega)).trans p1
        have d2 := (hL.2.cellAt 2 (by omega)).trans p2
        have d3 := (hL.2.cellAt 3 (by omega)).trans p3
        clear hL p0 p1 p2 p3
        by_cases hu0 : u = 0
        · subst hu0
          go_wp2_with fail
          go_ret
          exact lst_fin rfl (lst_set2 HL.out hyl (by omega) _ _) (by omega) (by omega)
        · have r0 : (u == 0) = false := by simp [hu0]
          by_cases hu1 : u = 1
          · subst hu1
            go_wp2_with fail
            go_ret
            exact lst_fin rfl (lst_set HL.out hyl (by omega) (by omega) _) (by omega) (by omega)
          · have r1 : (u == 1) = false := by simp [hu1]
            by_cases hu2 : u = 2
            · subst hu2
              go_wp2_with fail
              go_ret
              exact lst_fin rfl (lst_one HL.out hyl (by omega)) (by omega) (by omega)
            · have r2 : (u == 2) = false := by simp [hu2]
              go_wp2_with fail
              go_ret
              exact ⟨_, _, ys, rfl, hyl, by omega, HL.out.mono (by omega)⟩
      · have q1 : decide ((xs.length : Int) < 2) = false := by simp; omega
        have HX : Hid (xs.length ≤ k) := Lib.hid hxs
        go_wp2_with fail
        refine (pick_l HL.out (by omega) (by omega)).mono ?_
        clear HL
        rintro x w4 ⟨u, ⟨u0, u1⟩, rfl, hL⟩
        obtain ⟨g, cap, hg, _, hgl⟩ := World.ownsRow.form hL.2 (by omega)
        cases hg
        have HL := Lib.hid hL
        have f0 := hL.2.frozenAt 0
        have f1 := hL.2.frozenAt 1
        obtain ⟨p0, p1⟩ := flatA_at xs 0 (by omega)
        obtain ⟨p2, p3⟩ := flatA_at xs 1 (by omega)
        have d0 := (hL.2.cellAt 0 (by omega)).trans p0
        have d1 := (hL.2.cellAt 1 (by omega)).trans p1
        have d2 := (hL.2.cellAt 2 (by omega)).trans p2
        have d3 := (hL.2.cellAt 3 (by omega)).trans p3
        clear hL p0 p1 p2 p3
        by_cases hu0 : u = 0
        · subst hu0
          go_wp2_with fail
          go_ret
          exact lst_fin rfl (lst_set2 HL.out rfl (by omega) _ _) (by omega) (by omega)
        · have r0 : (u == 0) = false := by simp [hu0]
          by_cases hu1 : u = 1
          · subst hu1
            go_wp2_with fail
            go_ret
            exact lst_fin rfl (lst_set HL.out rfl (by omega) (by omega) _) (by omega) (by omega)
          · have r1 : (u == 1) = false := by simp [hu1]
            by_cases hu2 : u = 2
            · subst hu2
              go_wp2_with fail
              go_ret
              exact lst_fin rfl (lst_one HL.out rfl (by omega)) (by omega) (by omega)
            · have r2 : (u == 2) = false := by simp [hu2]
              go_wp2_with fail
              go_ret
              exact ⟨_, _, xs, rfl, rfl, by omega, HL.out.mono (by omega)⟩
end Go.Proofs.Ytbpbadmgmlfdhaa
