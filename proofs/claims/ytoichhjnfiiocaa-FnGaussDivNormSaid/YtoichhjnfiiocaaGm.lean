/- Contracts of the drawers of exponents and of quotients. -/
import Derived.Test.YtoichhjnfiiocaaGd
import Derived.Test.YtoichhjnfiiocaaGh
import Derived.RegionTactic
import Derived.BigRegion
import Derived.Outline
namespace Go.Proofs.Ytoichhjnfiiocaa
open Go.RowKit
set_option maxHeartbeats 400000 in
theorem drawGaussUnit_any {a : Option Addr} {len cap : Nat} {w : World} (h : IsCode w a len cap) :
    Calls Try.prog 14 #[.slice a len cap] w fun e w' => ∃ v : Int, (-9223372036854775808 ≤ v ∧ v ≤ 9223372036854775807) ∧ e = .returned (.int .i64 v) ∧ Below w.heap.size w w' := by
  have H := Lib.hid h; clear h
  go_enter Try.func14, Try.ntmps14
  go_wp2_with (first | (go_at_call 24; refine l6Open_St H.out ?_; intro b w' hst) | (go_at_call 26; refine (pick_lit (by assumption) _ (by omega) (by omega)).mono ?_; rintro e w' ⟨v, ⟨hv0, hv1⟩, rfl, hst, hh⟩; have hc0 := cell_at hh 0; have hc1 := cell_at hh 1; have hc2 := cell_at hh 2; clear hh; simp at hc0 hc1 hc2; rcases (by omega : v = 0 ∨ v = 1 ∨ v = 2) with rfl | rfl | rfl; all_goals (try (exfalso; omega))) | (go_at_call 26; refine (pick_st (by first | assumption | exact St.alloc (by assumption) _) (by omega) (by omega)).mono ?_; rintro e w' ⟨v, ⟨hv0, hv1⟩, rfl, hst⟩))
  all_goals go_ret
  all_goals exact ⟨_, ⟨by omega, by omega⟩, rfl, And.left (by assumption)⟩
theorem St.below {B b p : Nat} {w0 w w' : World} (h : St B w0 b p w) (hb : Below w.heap.size w w') : St B w0 b p w' := by
  have hl := h.lt
  obtain ⟨h1, h2, q, hq, hr⟩ := h
  exact ⟨h1.trans (hb.mono (by omega)), h2, q, hq, hr.keep fun k hk => hb.block k (by omega)⟩
theorem sMul_some (x y u v : Int) (w : World) : Calls Try.prog 21 #[.agg #[.int .i64 x, .int .i64 y], .agg #[.int .i64 u, .int .i64 v]] w fun e w' => ∃ p q : Int, ∃ ok : Bool, (-1000000001 ≤ p ∧ p ≤ 1000000001 ∧ -1000000001 ≤ q ∧ q ≤ 1000000001) ∧ e = .returned (.tuple #[.agg #[.int .i64 p, .int .i64 q], .bool ok]) ∧ Below w.heap.size w w' := by
  by_cases h : (-1000000000 ≤ x ∧ x ≤ 1000000000 ∧ -1000000000 ≤ y ∧ y ≤ 1000000000) ∧ (-1000000000 ≤ u ∧ u ≤ 1000000000 ∧ -1000000000 ≤ v ∧ v ≤ 1000000000) ∧ (-1000000000 ≤ (x * u - y * v) ∧ (x * u - y * v) ≤ 1000000000 ∧ -1000000000 ≤ (x * v + y * u) ∧ (x * v + y * u) ≤ 1000000000)
  · exact (sMul_yes x y u v w h).mono fun _ _ ⟨a, b⟩ => ⟨_, _, true, by omega, a, b⟩
  · exact (sMul_no x y u v w h).mono fun _ _ ⟨a, b⟩ => ⟨0, 0, false, by omega, a, b⟩
set_option maxRecDepth 100000 in
set_option maxHeartbeats 4000000 in
theorem drawGaussDiv {a : Option Addr} {len cap : Nat} {w : World} (h : IsCode w a len cap) :
    Calls Try.prog 9 #[.slice a len cap] w fun e w' => ∃ x y u v : Int, ((-1000000001 ≤ x ∧ x ≤ 1000000001 ∧ -1000000001 ≤ y ∧ y ≤ 1000000001) ∧ (-1000000001 ≤ u ∧ u ≤ 1000000001 ∧ -1000000001 ≤ v ∧ v ≤ 1000000001)) ∧ e = .returned (.tuple #[.agg #[.int .i64 x, .int .i64 y], .agg #[.int .i64 u, .int .i64 v]]) ∧ Below w.heap.size w w' := by
  have H := Lib.hid ((h.alloc (.cells #[.int .i64 0, .int .i64 0] 24)).alloc (.cells #[.int .i64 0, .int .i64 0] 24)); clear h
  have hn1 := (Bx.new w (.int .i64 0) (.int .i64 0) 24).alloc (.cells #[.int .i64 0, .int .i64 0] 24)
  have hn2 := Bx.new (w.alloc (.cells #[.int .i64 0, .int .i64 0] 24)) (.int .i64 0) (.int .i64 0) 24
  have hs1 : (w.alloc (.cells #[.int .i64 0, .int .i64 0] 24)).heap.size = w.heap.size + 1 := by simp
  rw [hs1] at hn2
  have N1 := Lib.hid hn1
  have N2 := Lib.hid hn2
  clear hn1 hn2 hs1
  go_enter Try.func9, Try.ntmps9
  go_wp2_with fail
  refine l6Open_St H.out ?_
  intro b w1 hst
  have ST := Lib.hid hst
  obtain ⟨hb1, hbb, q0, hq, hrd⟩ := hst
  have hq0 : q0 = 0 := by omega
  subst hq0
  have hbb' : w.heap.size + 1 + 1 ≤ b := by simpa using hbb
  have R := Lib.hid hrd
  have K := Lib.hid (kept_trans (kept_alloc (kept_alloc (kept_refl w) _) _) hb1)
  have M1 := Lib.hid (N1.out.below hb1)
  have M2 := Lib.hid (N2.out.below hb1)
  clear hb1 hbb hrd N1 N2 H
  go_wp2_with fail
  refine (two_r R.out (by omega)).mono ?_
  rintro e w2 ⟨x, y, u, v, hv, rfl, hg⟩
  have P1 := Lib.hid (M1.out.kept hg.1 (by omega))
  have P2 := Lib.hid (M2.out.kept hg.1 (by omega))
  have ST2 := Lib.hid (hg.st ST.out)
  have K2 := Lib.hid (K.out.grown hg.1 K.out.size (by rintro k ⟨⟩; omega))
  have hsz := hg.1.size
  have HV := Lib.hid hv
  have hbl := hg.lt
  clear hg hv M1 M2 R K ST
  go_wp2_with fail
  refine (sMul_some x y u v _).mono ?_
  rintro e w3 ⟨p, q, ok, hpq, rfl, hb⟩
  have Q1 := Lib.hid (((P1.out.alloc (.cells #[.int .i64 x, .int .i64 y] 24)).alloc (.cells #[.int .i64 u, .int .i64 v] 24)).below hb)
  have Q2 := Lib.hid (((P2.out.alloc (.cells #[.int .i64 x, .int .i64 y] 24)).alloc (.cells #[.int .i64 u, .int .i64 v] 24)).below hb)
  have QA := Lib.hid (((Bx.new w2 (.int .i64 x) (.int .i64 y) 24).alloc (.cells #[.int .i64 u, .int .i64 v] 24)).below hb)
  have hqb := (Bx.new (w2.alloc (.cells #[.int .i64 x, .int .i64 y] 24)) (.int .i64 u) (.int .i64 v) 24).below hb
  have hs1 : (w2.alloc (.cells #[.int .i64 x, .int .i64 y] 24)).heap.size = w2.heap.size + 1 := by simp
  rw [hs1] at hqb
  have QB := Lib.hid hqb
  have ST3 := Lib.hid (((ST2.out.alloc (.cells #[.int .i64 x, .int .i64 y] 24)).alloc (.cells #[.int .i64 u, .int .i64 v] 24)).below hb)
  have HPQ := Lib.hid hpq
  have hsz3 := hb.size
  simp at hsz3
  clear hb hqb hs1 ST2 K2 P1 P2 hpq
  have n1 : ¬ w.heap.size = w3.heap.size := by omega
  have n2 : ¬ w.heap.size + 1 = w3.heap.size := by omega
  have n3 : ¬ w.heap.size = w2.heap.size := by omega
  have n4 : ¬ w.heap.size + 1 = w2.heap.size := by omega
  have n5 : ¬ w.heap.size = w2.heap.size + 1 := by omega
  have n6 : ¬ w.heap.size + 1 = w2.heap.size + 1 := by omega
  have m1 : ¬ w3.heap.size = w.heap.size := by omega
  have m2 : ¬ w3.heap.size = w.heap.size + 1 := by omega
  have m3 : ¬ w2.heap.size = w.heap.size := by omega
  have m4 : ¬ w2.heap.size = w.heap.size + 1 := by omega
  have m5 : ¬ w2.heap.size + 1 = w.heap.size := by omega
  have m6 : ¬ w2.heap.size + 1 = w.heap.size + 1 := by omega
  have E1 := Lib.hid (Q1.out.alloc (.cells #[.int .i64 p, .int .i64 q] 24))
  have E2 := Lib.hid (Q2.out.alloc (.cells #[.int .i64 p, .int .i64 q] 24))
  have EA := Lib.hid (QA.out.alloc (.cells #[.int .i64 p, .int .i64 q] 24))
  have EB := Lib.hid (QB.out.alloc (.cells #[.int .i64 p, .int .i64 q] 24))
  have EC := Lib.hid (Bx.new w3 (.int .i64 p) (.int .i64 q) 24)
  have ST4 := Lib.hid (ST3.out.alloc (.cells #[.int .i64 p, .int .i64 q] 24))
  clear Q1 Q2 QA QB ST3
  cases ok
  · obtain ⟨c0, c1, f0, f1⟩ := E1.out
    obtain ⟨d0, d1, g0, g1⟩ := E2.out
    obtain ⟨a0, a1, _, _⟩ := EA.out
    obtain ⟨b0, b1, _, _⟩ := EB.out
    go_wp2_with fail
    have KE := Lib.hid (kept_trans (kept_alloc (kept_alloc (kept_refl w) _) _) ST4.out.1)
    go_region
    all_goals go_wp2_with fail
    all_goals refine bodyPost_ret (v := .tuple #[.agg #[.int .i64 x, .int .i64 y], .agg #[.int .i64 u, .int .i64 v]]) ?_ rfl ⟨x, y, u, v, HV.out, rfl, ?_⟩
    all_goals first | (simp (maxDischargeDepth := 9) [results, Try.results9, go_sem, c0, c1, d0, d1]; done) | (repeat (first | exact KE.out | refine Below.drew ?_ | (refine Below.setCell ?_ ?_ _; rotate_left; (focus (simp <;> omega)))))
  · obtain ⟨hk0, hk1, q1, hq1, hr⟩ := ST4.out
    have hlt := hr.lt
    simp at hlt
    go_wp2_with fail
    refine (pick_g (Gr.start hr) (by omega) (by omega)).mono ?_
    rintro e w4 ⟨t, ⟨t0, t1⟩, rfl, hg4, hk4⟩
    have b1 : ¬ w.heap.size = b := by omega
    have b2 : ¬ w.heap.size + 1 = b := by omega
    have hk0' := kept_trans (kept_alloc (kept_alloc (kept_refl w) _) _) hk0
    have KE := Lib.hid (hk0'.grown hk4 hk0'.size (by rintro k ⟨⟩; omega))
    clear hk0'
    obtain ⟨c0, c1, f0, f1⟩ := E1.out.kept hk4 (by omega)
    obtain ⟨d0, d1, g0, g1⟩ := E2.out.kept hk4 (by omega)
    obtain ⟨a0, a1, _, _⟩ := EA.out.kept hk4 (by omega)
    obtain ⟨b0, b1, _, _⟩ := EB.out.kept hk4 (by omega)
    obtain ⟨e0, e1, _, _⟩ := EC.out.kept hk4 (by omega)
    clear hg4 hk4 hr hk0
    by_cases ht : t = 0
    · subst ht
      go_wp2_with fail
      go_region
      all_goals go_wp2_with fail
      all_goals refine bodyPost_ret (v := .tuple #[.agg #[.int .i64 x, .int .i64 y], .agg #[.int .i64 u, .int .i64 v]]) ?_ rfl ⟨x, y, u, v, HV.out, rfl, ?_⟩
      all_goals first | (simp (maxDischargeDepth := 9) [results, Try.results9, go_sem, c0, c1, d0, d1]; done) | (repeat (first | exact KE.out | refine Below.drew ?_ | (refine Below.setCell ?_ ?_ _; rotate_left; (focus (simp <;> omega)))))
    · have ht' : decide (0 < t) = true := by simp; omega
      go_wp2_with fail
      go_region
      all_goals go_wp2_with fail
      all_goals refine bodyPost_ret (v := .tuple #[.agg #[.int .i64 p, .int .i64 q], .agg #[.int .i64 u, .int .i64 v]]) ?_ rfl ⟨p, q, u, v, ⟨HPQ.out, HV.out.2⟩, rfl, ?_⟩
      all_goals first | (simp (maxDischargeDepth := 9) [results, Try.results9, go_sem, c0, c1, d0, d1]; done) | (repeat (first | exact KE.out | refine Below.drew ?_ | (refine Below.setCell ?_ ?_ _; rotate_left; (focus (simp <;> omega)))))
end Go.Proofs.Ytoichhjnfiiocaa
