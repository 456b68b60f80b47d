/- Proof that the law FnGaussConj returns true for all arguments. -/
import Derived.Test.YtjaajohklkgegaaRows
import Derived.WalkKit
import Derived.ProofKit
import Derived.OpenShut
import Derived.ShutString
import Derived.ChangeOld
import Derived.Below
import Derived.Test.YtjaajohklkgegaaGd
import Derived.Test.YtjaajohklkgegaaGi
import Derived.Test.YtjaajohklkgegaaGh
import Derived.Test.YtjaajohklkgegaaGk
import Derived.Deep.RegionHeld3
import Derived.Deep.DeepCutAuto
import Derived.Deep.RegionWith
import Derived.Deep.DrawnRows
import Derived.Outline
namespace Go.Proofs.Ytjaajohklkgegaa.fnGaussConj
open Go.ChangeShapes Go.WideShapes Go.ChangeAt Go.RowKit
set_option linter.unusedVariables false

theorem own : ownKnob Try.prog.godebug = none := by kernel_rfl
theorem laidOut : laidOutB Try.prog = true := by kernel_rfl
/-- A slice of integers that came in: nil, or a row of cap cells, the numbers zs. -/
def IsRow (k : IntKind) (w : World) (a : Option Addr) (len cap : Nat) (zs : List Int) : Prop :=
  (a = none ∧ len = 0 ∧ cap = 0 ∧ zs = []) ∨
  ∃ x, a = some x ∧ len ≤ cap ∧ cap ≤ maxLen ∧ zs.length = cap ∧ (∀ i, i < zs.length → w.cell? (x.add i) = some (.int k (zs.getD i 0))) ∧ ∀ n ∈ zs, (Lit.int k n).wf = true
attribute [local go_sem ↓] Go.wp_at_zero Go.wp_at_succ
set_option maxRecDepth 100000 in
set_option maxHeartbeats 4000000 in
theorem walk (a0 : Option Addr) (len0 cap0 : Nat) (z0 : List Int) (w : World) (w0 : IsRow .u8 w a0 len0 cap0 z0) :
    Calls Try.prog 8 #[.slice a0 len0 cap0] w fun e w' => e = .returned (.bool true) ∧ Below w.heap.size w w' := by
  have H := Lib.hid (code_of w0); clear w0
  by_cases hl : 1048576 < len0
  · go_enter Try.func8, Try.ntmps8
    go_wp2
    go_ret
    exact ⟨rfl, Below.refl _ _⟩
  go_enter Try.func8, Try.ntmps8
  go_wp2_with fail
  refine (drawGaussConj H.out).mono ?_
  rintro e w1 ⟨x, y, ⟨x0, x1, y0, y1⟩, rfl, hb⟩
  have K := Lib.hid hb
  clear hb H
  by_cases hV : (-1000000000 ≤ (x : Int) ∧ (x : Int) ≤ 1000000000 ∧ -1000000000 ≤ (y : Int) ∧ (y : Int) ≤ 1000000000)
  · go_wp2_with fail
    refine (gconj_yes x y _ hV).mono ?_
    rintro e w2 ⟨rfl, hb⟩
    have P1 : Hid (B2 w2 (w1.heap.size) (.int .i64 x) (.int .i64 y)) := by
      have h0 := (B2.new w1 (.int .i64 x) (.int .i64 y) 24).below hb
      try simp only [size_alloc1] at h0
      exact h0
    have K2 := Lib.hid (kept_trans (kept_alloc K.out _) hb)
    clear K hb
    have K := Lib.hid K2.out
    clear K2
    obtain ⟨c0, d0⟩ := P1.out
    have l0 := P1.out.lt
    go_wp2_with fail
    refine (sGconj_yes x y _ hV).mono ?_
    rintro e w3 ⟨rfl, hb⟩
    have P2 := Lib.hid ((P1.out.alloc (.cells #[.int .i64 x, .int .i64 (-y)] 24)).below hb)
    have P3 : Hid (B2 w3 (w2.heap.size) (.int .i64 x) (.int .i64 (-y))) := by
      have h0 := (B2.new w2 (.int .i64 x) (.int .i64 (-y)) 24).below hb
      try simp only [size_alloc1] at h0
      exact h0
    have K2 := Lib.hid (kept_trans (kept_alloc K.out _) hb)
    clear K hb P1
    clear c0 d0 l0
    have K := Lib.hid K2.out
    clear K2
    obtain ⟨c0, d0⟩ := P2.out
    have l0 := P2.out.lt
    obtain ⟨c1, d1⟩ := P3.out
    have l1 := P3.out.lt
    obtain ⟨h1, h2, h3, h4⟩ := hV
    go_wp2_with fail
    have hcall := gconj_yes x (-y) (w3.alloc (.cells #[.int .i64 x, .int .i64 (-y)] 24)) ⟨h1, h2, by omega, by omega⟩
    rw [Int.neg_neg] at hcall
    refine hcall.mono ?_
    clear hcall
    rintro e w4 ⟨rfl, hb⟩
    have P4 := Lib.hid ((P2.out.alloc (.cells #[.int .i64 x, .int .i64 (-y)] 24)).below hb)
    have P5 := Lib.hid ((P3.out.alloc (.cells #[.int .i64 x, .int .i64 (-y)] 24)).below hb)
    have P6 : Hid (B2 w4 (w3.heap.size) (.int .i64 x) (.int .i64 (-y))) := by
      have h0 := (B2.new w3 (.int .i64 x) (.int .i64 (-y)) 24).below hb
      try simp only [size_alloc1] at h0
      exact h0
    have K2 := Lib.hid (kept_trans (kept_alloc K.out _) hb)
    clear K hb P2 P3
    clear c0 d0 l0 c1 d1 l1
    have K := Lib.hid K2.out
    clear K2
    obtain ⟨c0, d0⟩ := P4.out
    have l0 := P4.out.lt
    obtain ⟨c1, d1⟩ := P5.out
    have l1 := P5.out.lt
    obtain ⟨c2, d2⟩ := P6.out
    have l2 := P6.out.lt
    by_cases n1 : -1000000000 ≤ 2 * x ∧ 2 * x ≤ 1000000000
    · go_wp2_with fail
      refine (addcj_yes x y _ ⟨h1, h2, h3, h4⟩ n1).mono ?_
      rintro e w5 ⟨rfl, hb⟩
      have P7 := Lib.hid ((P4.out.alloc (.cells #[.int .i64 x, .int .i64 y] 24)).below hb)
      have P8 := Lib.hid ((P5.out.alloc (.cells #[.int .i64 x, .int .i64 y] 24)).below hb)
      have P9 := Lib.hid ((P6.out.alloc (.cells #[.int .i64 x, .int .i64 y] 24)).below hb)
      have P10 : Hid (B2 w5 (w4.heap.size) (.int .i64 x) (.int .i64 y)) := by
        have h0 := (B2.new w4 (.int .i64 x) (.int .i64 y) 24).below hb
        try simp only [size_alloc1] at h0
        exact h0
      have K2 := Lib.hid (kept_trans (kept_alloc K.out _) hb)
      clear K hb P4 P5 P6
      clear c0 d0 l0 c1 d1 l1 c2 d2 l2
      have K := Lib.hid K2.out
      clear K2
      obtain ⟨c0, d0⟩ := P7.out
      have l0 := P7.out.lt
      obtain ⟨c1, d1⟩ := P8.out
      have l1 := P8.out.lt
      obtain ⟨c2, d2⟩ := P9.out
      have l2 := P9.out.lt
      obtain ⟨c3, d3⟩ := P10.out
      have l3 := P10.out.lt
      obtain ⟨m, hm⟩ : ∃ m : Int, m = x * x + y * y := ⟨_, rfl⟩
      have HM := Lib.hid hm.symm; have HN : Hid (x * x + -y * -y = m) := by have e := HM.out; rw [← neg_sq] at e; exact Lib.hid e
      clear hm
      go_wp2_with fail
      have R11 : B2 (w5.alloc (.cells #[.int .i64 (2 * x), .int .i64 0] 24)) (w1.heap.size) (.int .i64 x) (.int .i64 y) := by
        have h0 := (P7.out.alloc (.cells #[.int .i64 (2 * x), .int .i64 0] 24))
        try simp only [size_alloc1] at h0
        exact h0
      have R12 : B2 (w5.alloc (.cells #[.int .i64 (2 * x), .int .i64 0] 24)) (w2.heap.size) (.int .i64 x) (.int .i64 (-y)) := by
        have h0 := (P8.out.alloc (.cells #[.int .i64 (2 * x), .int .i64 0] 24))
        try simp only [size_alloc1] at h0
        exact h0
      have R13 : B2 (w5.alloc (.cells #[.int .i64 (2 * x), .int .i64 0] 24)) (w4.heap.size) (.int .i64 x) (.int .i64 y) := by
        have h0 := (P10.out.alloc (.cells #[.int .i64 (2 * x), .int .i64 0] 24))
        try simp only [size_alloc1] at h0
        exact h0
      have R14 : B2 (w5.alloc (.cells #[.int .i64 (2 * x), .int .i64 0] 24)) (w5.heap.size) (.int .i64 (2 * x)) (.int .i64 0) := by
        have h0 := (B2.new w5 (.int .i64 (2 * x)) (.int .i64 0) 24)
        try simp only [size_alloc1] at h0
        exact h0
      have KB := Lib.hid (kept_alloc K.out (.cells #[.int .i64 (2 * x), .int .i64 0] 24))
      have HS := Lib.hid (And.intro R11.1 (And.intro R11.2 (And.intro R12.1 (And.intro R12.2 (And.intro R13.1 (And.intro R13.2 (And.intro R14.1 (And.intro R14.2 (kept_alloc K.out (.cells #[.int .i64 (2 * x), .int .i64 0] 24))))))))))
      clear c0 d0 l0 c1 d1 l1 c2 d2 l2 c3 d3 l3
      have l0 := R11.lt
      try simp only [size_alloc1] at l0
      have l1 := R12.lt
      try simp only [size_alloc1] at l1
      have l2 := R13.lt
      try simp only [size_alloc1] at l2
      have l3 := R14.lt
      try simp only [size_alloc1] at l3
      clear R11 R12 R13 R14 K P7 P8 P9 P10
      have ew : IntKind.i64.wrap (2 * x) = 2 * x := IntWalk.i64_in _ ⟨by omega, by omega⟩
      go_region_held3 (fun W => W.cell? ⟨w1.heap.size, 0, none⟩ = some (.int .i64 x) ∧ W.cell? ⟨w1.heap.size, 1, none⟩ = some (.int .i64 y) ∧ W.cell? ⟨w2.heap.size, 0, none⟩ = some (.int .i64 x) ∧ W.cell? ⟨w2.heap.size, 1, none⟩ = some (.int .i64 (-y)) ∧ W.cell? ⟨w4.heap.size, 0, none⟩ = some (.int .i64 x) ∧ W.cell? ⟨w4.heap.size, 1, none⟩ = some (.int .i64 y) ∧ W.cell? ⟨w5.heap.size, 0, none⟩ = some (.int .i64 (2 * x)) ∧ W.cell? ⟨w5.heap.size, 1, none⟩ = some (.int .i64 0) ∧ Below w.heap.size w W) (first | assumption | (refine keep4 HS.out ?_; (repeat (first | exact kept_refl _ | refine Below.drew ?_ | refine kept_alloc ?_ _ | refine kept_trans ?_ (by assumption) | (refine Below.setCell ?_ ?_ _; rotate_left; (focus (simp <;> omega))))); done)) (first | (go_at_call 12; refine (gauss_ex _ _ _).mono ?_; rintro e w' ⟨rfl, rfl⟩) | (go_at_call 18; first | ((with_reducible refine (norm_eq x (-y) m _ ⟨h1, h2, by omega, by omega⟩ HN.out).mono ?_); rintro e w' ⟨rfl, HB⟩; obtain ⟨hc, hf⟩ := bcell HB; have q := HB.size; try simp at q) | ((with_reducible refine (norm_eq x y m _ ⟨h1, h2, h3, h4⟩ HM.out).mono ?_); rintro e w' ⟨rfl, HB⟩; obtain ⟨hc, hf⟩ := bcell HB; have q := HB.size; try simp at q)))
      all_goals go_wp2_with fail
      all_goals go_ret
      all_goals refine ⟨rfl, ?_⟩
      all_goals first | assumption | (repeat (first | exact KB.out | refine Below.drew ?_ | refine kept_alloc ?_ _ | refine kept_trans ?_ (by assumption)))
    · have N1 := Lib.hid n1; clear n1
      go_wp2_with fail
      refine (addcj_no x y _ N1.out).mono ?_
      rintro e w5 ⟨rfl, hb⟩
      have P7 := Lib.hid ((P4.out.alloc (.cells #[.int .i64 x, .int .i64 y] 24)).below hb)
      have P8 := Lib.hid ((P5.out.alloc (.cells #[.int .i64 x, .int .i64 y] 24)).below hb)
      have P9 := Lib.hid ((P6.out.alloc (.cells #[.int .i64 x, .int .i64 y] 24)).below hb)
      have P10 : Hid (B2 w5 (w4.heap.size) (.int .i64 x) (.int .i64 y)) := by
        have h0 := (B2.new w4 (.int .i64 x) (.int .i64 y) 24).below hb
        try simp only [size_alloc1] at h0
        exact h0
      have K2 := Lib.hid (kept_trans (kept_alloc K.out _) hb)
      clear K hb P4 P5 P6
      clear c0 d0 l0 c1 d1 l1 c2 d2 l2
      have K := Lib.hid K2.out
      clear K2
      obtain ⟨c0, d0⟩ := P7.out
      have l0 := P7.out.lt
      obtain ⟨c1, d1⟩ := P8.out
      have l1 := P8.out.lt
      obtain ⟨c2, d2⟩ := P9.out
      have l2 := P9.out.lt
      obtain ⟨c3, d3⟩ := P10.out
      have l3 := P10.out.lt
      obtain ⟨m, hm⟩ : ∃ m : Int, m = x * x + y * y := ⟨_, rfl⟩
      have HM := Lib.hid hm.symm; have HN : Hid (x * x + -y * -y = m) := by have e := HM.out; rw [← neg_sq] at e; exact Lib.hid e
      clear hm
      go_wp2_with fail
      have R11 : B2 (w5.alloc (.cells #[.int .i64 0, .int .i64 0] 24)) (w1.heap.size) (.int .i64 x) (.int .i64 y) := by
        have h0 := (P7.out.alloc (.cells #[.int .i64 0, .int .i64 0] 24))
        try simp only [size_alloc1] at h0
        exact h0
      have R12 : B2 (w5.alloc (.cells #[.int .i64 0, .int .i64 0] 24)) (w2.heap.size) (.int .i64 x) (.int .i64 (-y)) := by
        have h0 := (P8.out.alloc (.cells #[.int .i64 0, .int .i64 0] 24))
        try simp only [size_alloc1] at h0
        exact h0
      have R13 : B2 (w5.alloc (.cells #[.int .i64 0, .int .i64 0] 24)) (w4.heap.size) (.int .i64 x) (.int .i64 y) := by
        have h0 := (P10.out.alloc (.cells #[.int .i64 0, .int .i64 0] 24))
        try simp only [size_alloc1] at h0
        exact h0
      have R14 : B2 (w5.alloc (.cells #[.int .i64 0, .int .i64 0] 24)) (w5.heap.size) (.int .i64 0) (.int .i64 0) := by
        have h0 := (B2.new w5 (.int .i64 0) (.int .i64 0) 24)
        try simp only [size_alloc1] at h0
        exact h0
      have KB := Lib.hid (kept_alloc K.out (.cells #[.int .i64 0, .int .i64 0] 24))
      have HS := Lib.hid (And.intro R11.1 (And.intro R11.2 (And.intro R12.1 (And.intro R12.2 (And.intro R13.1 (And.intro R13.2 (And.intro R14.1 (And.intro R14.2 (kept_alloc K.out (.cells #[.int .i64 0, .int .i64 0] 24))))))))))
      clear c0 d0 l0 c1 d1 l1 c2 d2 l2 c3 d3 l3
      have l0 := R11.lt
      try simp only [size_alloc1] at l0
      have l1 := R12.lt
      try simp only [size_alloc1] at l1
      have l2 := R13.lt
      try simp only [size_alloc1] at l2
      have l3 := R14.lt
      try simp only [size_alloc1] at l3
      clear R11 R12 R13 R14 K P7 P8 P9 P10
      refine region_quiet_c (fun W => W.cell? ⟨w1.heap.size, 0, none⟩ = some (.int .i64 x) ∧ W.cell? ⟨w1.heap.size, 1, none⟩ = some (.int .i64 y) ∧ W.cell? ⟨w2.heap.size, 0, none⟩ = some (.int .i64 x) ∧ W.cell? ⟨w2.heap.size, 1, none⟩ = some (.int .i64 (-y)) ∧ W.cell? ⟨w4.heap.size, 0, none⟩ = some (.int .i64 x) ∧ W.cell? ⟨w4.heap.size, 1, none⟩ = some (.int .i64 y) ∧ W.cell? ⟨w5.heap.size, 0, none⟩ = some (.int .i64 0) ∧ W.cell? ⟨w5.heap.size, 1, none⟩ = some (.int .i64 0) ∧ Below w.heap.size w W) (by kernel_rfl) (by kernel_rfl) ?_ ?_
      · (refine keep4 HS.out ?_; refine Below.drew ?_; exact kept_refl _)
      repeat (first | go_big_quiet_skip | (go_big_quiet_want; go_big_quiet_op; go_big_quiet_on) | (go_big_quiet_want; (refine quiet_val (.agg #[.int .i64 x, .int .i64 y]) (fun W hW => ?_) ?_); (focus (obtain ⟨cc0, dd0, cc1, dd1, cc2, dd2, cc3, dd3, hbel⟩ := hW; go_simp; done)); simp only [Act.put, List.setIfInBounds_toArray, List.set_cons_zero, List.set_cons_succ]; go_big_quiet_on) | (go_big_quiet_want; (refine quiet_val (.agg #[.int .i64 x, .int .i64 (-y)]) (fun W hW => ?_) ?_); (focus (obtain ⟨cc0, dd0, cc1, dd1, cc2, dd2, cc3, dd3, hbel⟩ := hW; go_simp; done)); simp only [Act.put, List.setIfInBounds_toArray, List.set_cons_zero, List.set_cons_succ]; go_big_quiet_on) | (go_big_quiet_want; (refine quiet_val (.agg #[.int .i64 x, .int .i64 y]) (fun W hW => ?_) ?_); (focus (obtain ⟨cc0, dd0, cc1, dd1, cc2, dd2, cc3, dd3, hbel⟩ := hW; go_simp; done)); simp only [Act.put, List.setIfInBounds_toArray, List.set_cons_zero, List.set_cons_succ]; go_big_quiet_on) | (go_big_quiet_want; (refine quiet_val (.agg #[.int .i64 0, .int .i64 0]) (fun W hW => ?_) ?_); (focus (obtain ⟨cc0, dd0, cc1, dd1, cc2, dd2, cc3, dd3, hbel⟩ := hW; go_simp; done)); simp only [Act.put, List.setIfInBounds_toArray, List.set_cons_zero, List.set_cons_succ]; go_big_quiet_on) | (go_big_quiet_want; (refine quiet_val (.bool true) (fun W hW => ?_) ?_); (focus (obtain ⟨cc0, dd0, cc1, dd1, cc2, dd2, cc3, dd3, hbel⟩ := hW; go_simp; done)); simp only [Act.put, List.setIfInBounds_toArray, List.set_cons_zero, List.set_cons_succ]; go_big_quiet_on) | (go_big_quiet_want; (refine quiet_val (.bool false) (fun W hW => ?_) ?_); (focus (obtain ⟨cc0, dd0, cc1, dd1, cc2, dd2, cc3, dd3, hbel⟩ := hW; go_simp; done)); simp only [Act.put, List.setIfInBounds_toArray, List.set_cons_zero, List.set_cons_succ]; go_big_quiet_on) | (go_big_quiet_want; (refine quiet_val (.int .i64 m) (fun W hW => ?_) ?_); (focus (go_simp; with_reducible refine (norm_eq x (-y) m _ ⟨h1, h2, by omega, by omega⟩ HN.out).mono ?_; rintro e w' ⟨rfl, hb⟩; exact ⟨rfl, keep4 hW hb⟩)); simp only [Act.put, List.setIfInBounds_toArray, List.set_cons_zero, List.set_cons_succ]; go_big_quiet_on) | (go_big_quiet_want; (refine quiet_val (.int .i64 m) (fun W hW => ?_) ?_); (focus (go_simp; with_reducible refine (norm_eq x y m _ ⟨h1, h2, h3, h4⟩ HM.out).mono ?_; rintro e w' ⟨rfl, hb⟩; exact ⟨rfl, keep4 hW hb⟩)); simp only [Act.put, List.setIfInBounds_toArray, List.set_cons_zero, List.set_cons_succ]; go_big_quiet_on))
      refine wpQuiet_nil ?_
      intro W hW
      obtain ⟨cc0, dd0, cc1, dd1, cc2, dd2, cc3, dd3, hbel⟩ := hW
      go_wp2_with fail
      go_ret
      exact ⟨rfl, hbel⟩
  · have QV := Lib.hid hV; clear hV
    go_wp2_with fail
    refine (gconj_no x y _ (by have := QV.out; omega)).mono ?_
    rintro e w2 ⟨rfl, hb⟩
    have P1 : Hid (B2 w2 (w1.heap.size) (.int .i64 x) (.int .i64 y)) := by
      have h0 := (B2.new w1 (.int .i64 x) (.int .i64 y) 24).below hb
      try simp only [size_alloc1] at h0
      exact h0
    have K2 := Lib.hid (kept_trans (kept_alloc K.out _) hb)
    clear K hb
    have K := Lib.hid K2.out
    clear K2
    obtain ⟨c0, d0⟩ := P1.out
    have l0 := P1.out.lt
    go_wp2_with fail
    refine (sGconj_no x y _ (by have := QV.out; omega)).mono ?_
    rintro e w3 ⟨rfl, hb⟩
    have P2 := Lib.hid ((P1.out.alloc (.cells #[.int .i64 0, .int .i64 0] 24)).below hb)
    have P3 : Hid (B2 w3 (w2.heap.size) (.int .i64 0) (.int .i64 0)) := by
      have h0 := (B2.new w2 (.int .i64 0) (.int .i64 0) 24).below hb
      try simp only [size_alloc1] at h0
      exact h0
    have K2 := Lib.hid (kept_trans (kept_alloc K.out _) hb)
    clear K hb P1
    clear c0 d0 l0
    have K := Lib.hid K2.out
    clear K2
    obtain ⟨c0, d0⟩ := P2.out
    have l0 := P2.out.lt
    obtain ⟨c1, d1⟩ := P3.out
    have l1 := P3.out.lt
    go_wp2_with fail
    go_ret
    exact ⟨rfl, kept_alloc (K.out) _⟩

set_option maxRecDepth 100000 in
theorem lifted (os : Os) (started : os.Started) (H : Type) (enc : TypeId × Value → H) :
    ReturnsInHanded {} Try.checked os 8 .any (Rows.fnGaussConjSpec.pre6 enc Try.prog Try.f8 Rows.fnGaussConjRow.domain false) (Rows.fnGaussConjSpec.post enc Try.prog Try.f8 false true false false) := by
  refine returnsInHanded_of_change (C := Try.checked) own started (by kernel_rfl) Try.func8
    (ChangeSpec.witness6 (enc := enc) (C := Try.checked) false ⟨#[], #[.slice none 0 0], []⟩ 8 (by kernel_rfl) (by kernel_rfl) (by kernel_rfl) (by kernel_rfl)) ?_
  intro W base args ds gs before hval0 hW hcnd _
  have hval : ∀ (j : Nat) t v, Try.f8.params[j]? = some t → args[j]? = some v → Value.okWide Try.prog W .any base t v := hval0
  have hW' := hW
  obtain ⟨p, q, hA0, hV, rfl, hfz, hnd⟩ := hW
  have hA : DataW.TrodAll enc Try.prog W 0 (fun _ => true) true Try.f8.params.toList args.toList ds p := hA0
  rw [Try.params8] at hA hval
  obtain ⟨v0, vs0, d0, ds0, p0, q0, hargs, rfl, rfl, h0, r0⟩ := trodAll_cons hA
  obtain ⟨rfl, rfl, rfl⟩ := trodAll_nil r0
  obtain rfl : args = #[v0] := by cases args; simp_all
  obtain ⟨rfl, rfl⟩ := trodVars_none hV
  obtain ⟨a0, len0, cap0, rfl⟩ := okWide_slice Try.underlying22 (hval 0 22 v0 rfl rfl)
  have k0 := h0
  have lt0 : ∀ x ∈ p0, x.block < W.heap.size := by obtain ⟨m, hm⟩ := k0; exact DataW.trod_lt m _ _ _ hm
  obtain ⟨z0, w0⟩ : ∃ zs, IsRow .u8 W a0 len0 cap0 zs := by
    obtain ⟨fuel, hf⟩ := h0
    rcases open_ints Try.underlying22 Try.underlying5 (by kernel_rfl) hf with ⟨hcs, _⟩ | ⟨x, l, c, zs, hcs, _, hl, hm, hz, _, hcell, hwz⟩
    · simp [Value.cells] at hcs
      obtain ⟨rfl, rfl, rfl⟩ := hcs
      exact ⟨[], .inl ⟨rfl, rfl, rfl, rfl⟩⟩
    · simp [Value.cells] at hcs
      obtain ⟨rfl, rfl, rfl⟩ := hcs
      exact ⟨zs, .inr ⟨_, rfl, hl, hm, by simpa using hz, hcell, hwz⟩⟩
  clear hA0 hval0
  refine (walk a0 len0 cap0 z0 W w0).mono fun e W' ⟨he, bel⟩ => ?_
  subst he
  exact ⟨_, rfl, _, _, _, [], _, [], hW', trodAll_mk1 (shut_bool Try.underlying4 _), (trodAll_cons_mk (Below.trod laidOut (by kernel_rfl) (of_decide_eq_true (by kernel_rfl)) k0 bel lt0) trodAll_mk0), rfl, bel.frame _, fun h => by cases h⟩

theorem over : Rows.fnGaussConjRow.holds Try.pinned (OpenSpec.ofChange Rows.fnGaussConjSpec) :=
  OpenClaim.holds_of_wide 8 Try.f8 rfl rfl rfl rfl rfl rfl rfl ⟨rfl, rfl, rfl, rfl, rfl⟩ rfl rfl rfl rfl rfl (by kernel_rfl) Try.func8 (by kernel_rfl)
    (of_decide_eq_true (by kernel_rfl)) (by unfold Func.isWrapper; first | (rw [if_pos (by decide +kernel)]; kernel_rfl) | (rw [if_neg (by decide +kernel)]; exact ⟨rfl, rfl⟩))
    (fun os started H enc _ => lifted os started H enc)

/-- The statement. -/
theorem proved : Rows.FnGaussConjSaid := over
#print axioms proved
end Go.Proofs.Ytjaajohklkgegaa.fnGaussConj
