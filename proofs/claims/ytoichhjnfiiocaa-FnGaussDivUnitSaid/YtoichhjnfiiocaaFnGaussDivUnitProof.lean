/- Proof that the law FnGaussDivUnit returns true for all arguments. -/
import Derived.Test.YtoichhjnfiiocaaRows
import Derived.WalkKit
import Derived.ProofKit
import Derived.OpenShut
import Derived.ShutString
import Derived.ChangeOld
import Derived.Below
import Derived.Test.YtoichhjnfiiocaaGm
import Derived.Test.YtoichhjnfiiocaaGl
import Derived.Test.YtoichhjnfiiocaaGi
import Derived.Test.YtoichhjnfiiocaaGh
import Derived.Test.YtoichhjnfiiocaaGk
import Derived.Deep.RegionHeld3
import Derived.Deep.DeepCutAuto
import Derived.Deep.RegionWith
import Derived.Outline
namespace Go.Proofs.Ytoichhjnfiiocaa.fnGaussDivUnit
open Go.ChangeShapes Go.WideShapes Go.ChangeAt Go.RowKit
set_option linter.unusedVariables false

theorem own : ownKnob Try.prog.godebug = none := by kernel_rfl
theorem laidOut : laidOutB Try.prog = true := by kernel_rfl
/-- A slice of integers that came in: nil, or a row of cap cells, the numbers zs. -/
def IsRow (k : IntKind) (w : World) (a : Option Addr) (len cap : Nat) (zs : List Int) : Prop :=
  (a = none ∧ len = 0 ∧ cap = 0 ∧ zs = []) ∨
  ∃ x, a = some x ∧ len ≤ cap ∧ cap ≤ maxLen ∧ zs.length = cap ∧ (∀ i, i < zs.length → w.cell? (x.add i) = some (.int k (zs.getD i 0))) ∧ ∀ n ∈ zs, (Lit.int k n).wf = true
set_option maxRecDepth 100000 in
set_option maxHeartbeats 4000000 in
theorem walk (a0 : Option Addr) (len0 cap0 : Nat) (z0 : List Int) (a1 : Option Addr) (len1 cap1 : Nat) (z1 : List Int) (w : World) (w0 : IsRow .u8 w a0 len0 cap0 z0) (w1 : IsRow .u8 w a1 len1 cap1 z1) :
    Calls Try.prog 7 #[.slice a0 len0 cap0, .slice a1 len1 cap1] w fun e w' => e = .returned (.bool true) ∧ Below w.heap.size w w' := by
  have H := Lib.hid (code_of w0); clear w0
  clear w1
  by_cases hl0 : 1048576 < len0
  · go_enter Try.func7, Try.ntmps7
    go_wp2
    go_ret
    exact ⟨rfl, Below.refl _ _⟩
  by_cases hl1 : 1048576 < len1
  · go_enter Try.func7, Try.ntmps7
    go_wp2
    go_ret
    exact ⟨rfl, Below.refl _ _⟩
  go_enter Try.func7, Try.ntmps7
  go_wp2_with fail
  refine (drawGaussConj H.out).mono ?_
  rintro e w1 ⟨x, y, ⟨x0, x1, y0, y1⟩, rfl, hb⟩
  have K := Lib.hid hb
  clear hb H
  by_cases hV : (-1000000000 ≤ (x : Int) ∧ (x : Int) ≤ 1000000000 ∧ -1000000000 ≤ (y : Int) ∧ (y : Int) ≤ 1000000000)
  · go_wp2_with fail
    refine (gconj_yes x y _ hV).mono ?_
    rintro e w2 ⟨rfl, hb⟩
    have P1 : Hid (B2 w2 (w1.heap.size) (.int .i64 x) (.int .i64 y)) := by
      have h0 := (B2.new w1 (.int .i64 x) (.int .i64 y) 24).below hb
      try simp only [size_alloc1] at h0
      exact h0
    have K2 := Lib.hid (kept_trans (kept_alloc K.out _) hb)
    clear K hb
    have K := Lib.hid K2.out
    clear K2
    obtain ⟨c0, d0⟩ := P1.out
    have l0 := P1.out.lt
    go_wp2_with fail
    refine (sGconj_yes x y _ hV).mono ?_
    rintro e w3 ⟨rfl, hb⟩
    have P2 := Lib.hid ((P1.out.alloc (.cells #[.int .i64 x, .int .i64 (-y)] 24)).below hb)
    have P3 : Hid (B2 w3 (w2.heap.size) (.int .i64 x) (.int .i64 (-y))) := by
      have h0 := (B2.new w2 (.int .i64 x) (.int .i64 (-y)) 24).below hb
      try simp only [size_alloc1] at h0
      exact h0
    have K2 := Lib.hid (kept_trans (kept_alloc K.out _) hb)
    clear K hb P1
    clear c0 d0 l0
    have K := Lib.hid K2.out
    clear K2
    obtain ⟨c0, d0⟩ := P2.out
    have l0 := P2.out.lt
    obtain ⟨c1, d1⟩ := P3.out
    have l1 := P3.out.lt
    obtain ⟨h1, h2, h3, h4⟩ := hV
    obtain ⟨r, hr⟩ : ∃ r, uR ((len1 : Int) % 8) = r := ⟨_, rfl⟩
    obtain ⟨s, hs⟩ : ∃ s, uI ((len1 : Int) % 8) = s := ⟨_, rfl⟩
    have hu := u_is ((len1 : Int) % 8)
    have hn1 := u_neg ((len1 : Int) % 8) (-((len1 : Int) % 8)) (.inl rfl)
    have hn2 := u_neg ((len1 : Int) % 8) (0 - (len1 : Int) % 8) (.inr rfl)
    rw [hr, hs] at hu hn1 hn2
    have HU := Lib.hid (And.intro hr hs); have HN1 := Lib.hid hn1; have HN2 := Lib.hid hn2; clear hr hs hn1 hn2
    obtain ⟨p, hp⟩ : ∃ p, x * r + y * s = p := ⟨_, rfl⟩
    obtain ⟨q, hq⟩ : ∃ q, y * r - x * s = q := ⟨_, rfl⟩
    have hb : -1000000000 ≤ p ∧ p ≤ 1000000000 ∧ -1000000000 ≤ q ∧ q ≤ 1000000000 ∧ (p * r - q * s = x ∧ p * s + q * r = y) ∧ (x * r - y * -s = p ∧ x * -s + y * r = q) ∧ ¬ (r = 0 ∧ s = 0) ∧ (-1 ≤ r ∧ r ≤ 1 ∧ -1 ≤ s ∧ s ≤ 1) := by
      rcases hu with ⟨rfl, rfl⟩ | ⟨rfl, rfl⟩ | ⟨rfl, rfl⟩ | ⟨rfl, rfl⟩ <;> omega
    obtain ⟨p0, p1, q0, q1, hd, hm, hne, r0, r1, s0, s1⟩ := hb
    have HD := Lib.hid hd; have HM := Lib.hid hm; have HE := Lib.hid hne; clear hd hm hne hp hq hu
    go_wp2_with fail
    have R4 : B2 (w3.alloc (.cells #[.int .i64 x, .int .i64 (-y)] 24)) (w1.heap.size) (.int .i64 x) (.int .i64 y) := by
      have h0 := (P2.out.alloc (.cells #[.int .i64 x, .int .i64 (-y)] 24))
      try simp only [size_alloc1] at h0
      exact h0
    have R5 : B2 (w3.alloc (.cells #[.int .i64 x, .int .i64 (-y)] 24)) (w2.heap.size) (.int .i64 x) (.int .i64 (-y)) := by
      have h0 := (P3.out.alloc (.cells #[.int .i64 x, .int .i64 (-y)] 24))
      try simp only [size_alloc1] at h0
      exact h0
    have KB := Lib.hid (kept_alloc K.out (.cells #[.int .i64 x, .int .i64 (-y)] 24))
    have HS := Lib.hid (And.intro R4.1 (And.intro R4.2 (And.intro R5.1 (And.intro R5.2 (kept_alloc K.out (.cells #[.int .i64 x, .int .i64 (-y)] 24))))))
    clear c0 d0 l0 c1 d1 l1
    have l0 := R4.lt
    try simp only [size_alloc1] at l0
    have l1 := R5.lt
    try simp only [size_alloc1] at l1
    clear R4 R5 K P2 P3
    go_cut [11, 12] (fun s11 s12 W => ∃ g : Nat, s11 = .pointer (some ⟨g, 0, none⟩) ∧ s12 = .bool true ∧ B2 W g (.int .i64 p) (.int .i64 q) ∧ W.cell? ⟨w1.heap.size, 0, none⟩ = some (.int .i64 x) ∧ W.cell? ⟨w1.heap.size, 1, none⟩ = some (.int .i64 y) ∧ W.cell? ⟨w2.heap.size, 0, none⟩ = some (.int .i64 x) ∧ W.cell? ⟨w2.heap.size, 1, none⟩ = some (.int .i64 (-y)) ∧ Below w.heap.size w W)
    case first =>
      go_region_held3 (fun W => W.cell? ⟨w1.heap.size, 0, none⟩ = some (.int .i64 x) ∧ W.cell? ⟨w1.heap.size, 1, none⟩ = some (.int .i64 y) ∧ W.cell? ⟨w2.heap.size, 0, none⟩ = some (.int .i64 x) ∧ W.cell? ⟨w2.heap.size, 1, none⟩ = some (.int .i64 (-y)) ∧ Below w.heap.size w W) (first | assumption | (refine keep2 HS.out ?_; (repeat (first | exact kept_refl _ | refine Below.drew ?_ | refine kept_alloc ?_ _ | refine kept_trans ?_ (by assumption) | (refine Below.setCell ?_ ?_ _; rotate_left; (focus (simp <;> omega))))); done)) (first | (go_at_call 15; first | ((with_reducible refine (unit_ex _ r s _ ?_).mono ?_); (focus (exact HU.out)); rintro e w' ⟨rfl, rfl⟩)) | (go_at_call 10; refine (div_eq x y r s p q _ ⟨⟨h1, h2, h3, h4⟩, ⟨by omega, by omega, by omega, by omega⟩, p0, p1, q0, q1⟩ HD.out HE.out).mono ?_; rintro e w' ⟨rfl, HB⟩; obtain ⟨hc, hf⟩ := bcell HB; have q := HB.size; try simp at q))
      all_goals (go_wp2_with fail; go_meet)
      all_goals refine ⟨_, rfl, rfl, ?_, ?_⟩
      all_goals first | assumption | ((with_reducible refine B2.set (x := .int .i64 0) (y := .int .i64 0) ?_); (repeat (first | assumption | ((with_reducible refine B2.at ?_); (simp; done)) | (with_reducible refine B2.drew ?_) | (with_reducible refine B2.below ?_ HB) | (with_reducible refine B2.alloc ?_ _))); done) | ((with_reducible refine B2.at ?_); (simp; done))
    case rest =>
      obtain ⟨g6, rfl, rfl, g0, c0, d0, c1, d1, hb⟩ := hcut
      obtain ⟨w4, rfl⟩ : ∃ wo : World, wo = wc := ⟨_, rfl⟩
      have K := Lib.hid hb
      have P7 : Hid (B2 w4 (w1.heap.size) (.int .i64 x) (.int .i64 y)) := Lib.hid ⟨c0, d0⟩
      have P8 : Hid (B2 w4 (w2.heap.size) (.int .i64 x) (.int .i64 (-y))) := Lib.hid ⟨c1, d1⟩
      have P9 : Hid (B2 w4 g6 (.int .i64 p) (.int .i64 q)) := Lib.hid g0
      clear hb HS KB g0 c0 d0 c1 d1 l0 l1
      obtain ⟨c0, d0⟩ := P7.out
      have l0 := P7.out.lt
      obtain ⟨c1, d1⟩ := P8.out
      have l1 := P8.out.lt
      obtain ⟨c2, d2⟩ := P9.out
      have l2 := P9.out.lt
      go_wp2_with fail
      have R10 : B2 w4 (w1.heap.size) (.int .i64 x) (.int .i64 y) := by
        have h0 := P7.out
        try simp only [size_alloc1] at h0
        exact h0
      have R11 : B2 w4 (w2.heap.size) (.int .i64 x) (.int .i64 (-y)) := by
        have h0 := P8.out
        try simp only [size_alloc1] at h0
        exact h0
      have R12 : B2 w4 (g6) (.int .i64 p) (.int .i64 q) := by
        have h0 := P9.out
        try simp only [size_alloc1] at h0
        exact h0
      have KB := Lib.hid K.out
      have HS := Lib.hid (And.intro R10.1 (And.intro R10.2 (And.intro R11.1 (And.intro R11.2 (And.intro R12.1 (And.intro R12.2 K.out))))))
      clear c0 d0 l0 c1 d1 l1 c2 d2 l2
      have l0 := R10.lt
      try simp only [size_alloc1] at l0
      have l1 := R11.lt
      try simp only [size_alloc1] at l1
      have l2 := R12.lt
      try simp only [size_alloc1] at l2
      clear R10 R11 R12 K P7 P8 P9
      go_cut [13, 14] (fun s13 s14 W => ∃ g : Nat, s13 = .pointer (some ⟨g, 0, none⟩) ∧ s14 = .bool true ∧ B2 W g (.int .i64 p) (.int .i64 q) ∧ W.cell? ⟨w1.heap.size, 0, none⟩ = some (.int .i64 x) ∧ W.cell? ⟨w1.heap.size, 1, none⟩ = some (.int .i64 y) ∧ W.cell? ⟨w2.heap.size, 0, none⟩ = some (.int .i64 x) ∧ W.cell? ⟨w2.heap.size, 1, none⟩ = some (.int .i64 (-y)) ∧ W.cell? ⟨g6, 0, none⟩ = some (.int .i64 p) ∧ W.cell? ⟨g6, 1, none⟩ = some (.int .i64 q) ∧ Below w.heap.size w W)
      case first =>
        have e8 : (0 : Int) ≤ (len1 : Int) % 8 := by omega
        have e9 : (len1 : Int) % 8 < 8 := by omega
        have e1 : IntKind.i64.wrap (-((len1 : Int) % 8)) = -((len1 : Int) % 8) := IntWalk.i64_in _ ⟨by omega, by omega⟩
        have e2 : IntKind.i64.wrap (0 - (len1 : Int) % 8) = -((len1 : Int) % 8) := by rw [IntWalk.i64_in _ ⟨by omega, by omega⟩]; omega
        go_region_held3 (fun W => W.cell? ⟨w1.heap.size, 0, none⟩ = some (.int .i64 x) ∧ W.cell? ⟨w1.heap.size, 1, none⟩ = some (.int .i64 y) ∧ W.cell? ⟨w2.heap.size, 0, none⟩ = some (.int .i64 x) ∧ W.cell? ⟨w2.heap.size, 1, none⟩ = some (.int .i64 (-y)) ∧ W.cell? ⟨g6, 0, none⟩ = some (.int .i64 p) ∧ W.cell? ⟨g6, 1, none⟩ = some (.int .i64 q) ∧ Below w.heap.size w W) (first | assumption | (refine keep3 HS.out ?_; (repeat (first | exact kept_refl _ | refine Below.drew ?_ | refine kept_alloc ?_ _ | refine kept_trans ?_ (by assumption) | (refine Below.setCell ?_ ?_ _; rotate_left; (focus (simp <;> omega))))); done)) (first | (go_at_call 15; first | ((with_reducible refine (unit_ex _ r (-s) _ ?_).mono ?_); (focus (exact HN1.out)); rintro e w' ⟨rfl, rfl⟩) | ((with_reducible refine (unit_ex _ r (-s) _ ?_).mono ?_); (focus (exact HN2.out)); rintro e w' ⟨rfl, rfl⟩)) | (go_at_call 12; refine (mul_eq x y r (-s) p q _ ⟨⟨h1, h2, h3, h4⟩, ⟨by omega, by omega, by omega, by omega⟩, p0, p1, q0, q1⟩ HM.out).mono ?_; rintro e w' ⟨rfl, HB⟩; obtain ⟨hc, hf⟩ := bcell HB; have q := HB.size; try simp at q))
        all_goals (go_wp2_with fail; go_meet)
        all_goals refine ⟨_, rfl, rfl, ?_, ?_⟩
        all_goals first | assumption | ((with_reducible refine B2.set (x := .int .i64 0) (y := .int .i64 0) ?_); (repeat (first | assumption | ((with_reducible refine B2.at ?_); (simp; done)) | (with_reducible refine B2.drew ?_) | (with_reducible refine B2.below ?_ HB) | (with_reducible refine B2.alloc ?_ _))); done) | ((with_reducible refine B2.at ?_); (simp; done))
      case rest =>
        obtain ⟨g13, rfl, rfl, g0, c0, d0, c1, d1, c2, d2, hb⟩ := hcut
        obtain ⟨w5, rfl⟩ : ∃ wo : World, wo = wc := ⟨_, rfl⟩
        have K := Lib.hid hb
        have P14 : Hid (B2 w5 (w1.heap.size) (.int .i64 x) (.int .i64 y)) := Lib.hid ⟨c0, d0⟩
        have P15 : Hid (B2 w5 (w2.heap.size) (.int .i64 x) (.int .i64 (-y))) := Lib.hid ⟨c1, d1⟩
        have P16 : Hid (B2 w5 (g6) (.int .i64 p) (.int .i64 q)) := Lib.hid ⟨c2, d2⟩
        have P17 : Hid (B2 w5 g13 (.int .i64 p) (.int .i64 q)) := Lib.hid g0
        clear hb HS KB g0 c0 d0 c1 d1 c2 d2 l0 l1 l2
        obtain ⟨c0, d0⟩ := P14.out
        have l0 := P14.out.lt
        obtain ⟨c1, d1⟩ := P15.out
        have l1 := P15.out.lt
        obtain ⟨c2, d2⟩ := P16.out
        have l2 := P16.out.lt
        obtain ⟨c3, d3⟩ := P17.out
        have l3 := P17.out.lt
        go_wp2_with fail
        go_ret
        exact ⟨rfl, K.out⟩
  · have QV := Lib.hid hV; clear hV
    go_wp2_with fail
    refine (gconj_no x y _ (by have := QV.out; omega)).mono ?_
    rintro e w2 ⟨rfl, hb⟩
    have P1 : Hid (B2 w2 (w1.heap.size) (.int .i64 x) (.int .i64 y)) := by
      have h0 := (B2.new w1 (.int .i64 x) (.int .i64 y) 24).below hb
      try simp only [size_alloc1] at h0
      exact h0
    have K2 := Lib.hid (kept_trans (kept_alloc K.out _) hb)
    clear K hb
    have K := Lib.hid K2.out
    clear K2
    obtain ⟨c0, d0⟩ := P1.out
    have l0 := P1.out.lt
    go_wp2_with fail
    refine (sGconj_no x y _ (by have := QV.out; omega)).mono ?_
    rintro e w3 ⟨rfl, hb⟩
    have P2 := Lib.hid ((P1.out.alloc (.cells #[.int .i64 0, .int .i64 0] 24)).below hb)
    have P3 : Hid (B2 w3 (w2.heap.size) (.int .i64 0) (.int .i64 0)) := by
      have h0 := (B2.new w2 (.int .i64 0) (.int .i64 0) 24).below hb
      try simp only [size_alloc1] at h0
      exact h0
    have K2 := Lib.hid (kept_trans (kept_alloc K.out _) hb)
    clear K hb P1
    clear c0 d0 l0
    have K := Lib.hid K2.out
    clear K2
    obtain ⟨c0, d0⟩ := P2.out
    have l0 := P2.out.lt
    obtain ⟨c1, d1⟩ := P3.out
    have l1 := P3.out.lt
    go_wp2_with fail
    go_ret
    exact ⟨rfl, kept_alloc (K.out) _⟩

set_option maxRecDepth 100000 in
theorem lifted (os : Os) (started : os.Started) (H : Type) (enc : TypeId × Value → H) :
    ReturnsInHanded {} Try.checked os 7 .any (Rows.fnGaussDivUnitSpec.pre6 enc Try.prog Try.f7 Rows.fnGaussDivUnitRow.domain false) (Rows.fnGaussDivUnitSpec.post enc Try.prog Try.f7 false true false false) := by
  refine returnsInHanded_of_change (C := Try.checked) own started (by kernel_rfl) Try.func7
    (ChangeSpec.witness6 (enc := enc) (C := Try.checked) false ⟨#[], #[.slice none 0 0, .slice none 0 0], []⟩ 8 (by kernel_rfl) (by kernel_rfl) (by kernel_rfl) (by kernel_rfl)) ?_
  intro W base args ds gs before hval0 hW hcnd _
  have hval : ∀ (j : Nat) t v, Try.f7.params[j]? = some t → args[j]? = some v → Value.okWide Try.prog W .any base t v := hval0
  have hW' := hW
  obtain ⟨p, q, hA0, hV, rfl, hfz, hnd⟩ := hW
  have hA : DataW.TrodAll enc Try.prog W 0 (fun _ => true) true Try.f7.params.toList args.toList ds p := hA0
  rw [Try.params7] at hA hval
  obtain ⟨v0, vs0, d0, ds0, p0, q0, hargs, rfl, rfl, h0, r0⟩ := trodAll_cons hA
  obtain ⟨v1, vs1, d1, ds1, p1, q1, rfl, rfl, rfl, h1, r1⟩ := trodAll_cons r0
  obtain ⟨rfl, rfl, rfl⟩ := trodAll_nil r1
  obtain rfl : args = #[v0, v1] := by cases args; simp_all
  obtain ⟨rfl, rfl⟩ := trodVars_none hV
  obtain ⟨a0, len0, cap0, rfl⟩ := okWide_slice Try.underlying22 (hval 0 22 v0 rfl rfl)
  have k0 := h0
  have lt0 : ∀ x ∈ p0, x.block < W.heap.size := by obtain ⟨m, hm⟩ := k0; exact DataW.trod_lt m _ _ _ hm
  obtain ⟨z0, w0⟩ : ∃ zs, IsRow .u8 W a0 len0 cap0 zs := by
    obtain ⟨fuel, hf⟩ := h0
    rcases open_ints Try.underlying22 Try.underlying5 (by kernel_rfl) hf with ⟨hcs, _⟩ | ⟨x, l, c, zs, hcs, _, hl, hm, hz, _, hcell, hwz⟩
    · simp [Value.cells] at hcs
      obtain ⟨rfl, rfl, rfl⟩ := hcs
      exact ⟨[], .inl ⟨rfl, rfl, rfl, rfl⟩⟩
    · simp [Value.cells] at hcs
      obtain ⟨rfl, rfl, rfl⟩ := hcs
      exact ⟨zs, .inr ⟨_, rfl, hl, hm, by simpa using hz, hcell, hwz⟩⟩
  obtain ⟨a1, len1, cap1, rfl⟩ := okWide_slice Try.underlying22 (hval 1 22 v1 rfl rfl)
  have k1 := h1
  have lt1 : ∀ x ∈ p1, x.block < W.heap.size := by obtain ⟨m, hm⟩ := k1; exact DataW.trod_lt m _ _ _ hm
  obtain ⟨z1, w1⟩ : ∃ zs, IsRow .u8 W a1 len1 cap1 zs := by
    obtain ⟨fuel, hf⟩ := h1
    rcases open_ints Try.underlying22 Try.underlying5 (by kernel_rfl) hf with ⟨hcs, _⟩ | ⟨x, l, c, zs, hcs, _, hl, hm, hz, _, hcell, hwz⟩
    · simp [Value.cells] at hcs
      obtain ⟨rfl, rfl, rfl⟩ := hcs
      exact ⟨[], .inl ⟨rfl, rfl, rfl, rfl⟩⟩
    · simp [Value.cells] at hcs
      obtain ⟨rfl, rfl, rfl⟩ := hcs
      exact ⟨zs, .inr ⟨_, rfl, hl, hm, by simpa using hz, hcell, hwz⟩⟩
  clear hA0 hval0
  refine (walk a0 len0 cap0 z0 a1 len1 cap1 z1 W w0 w1).mono fun e W' ⟨he, bel⟩ => ?_
  subst he
  exact ⟨_, rfl, _, _, _, [], _, [], hW', trodAll_mk1 (shut_bool Try.underlying4 _), (trodAll_cons_mk (Below.trod laidOut (by kernel_rfl) (of_decide_eq_true (by kernel_rfl)) k0 bel lt0) (trodAll_cons_mk (Below.trod laidOut (by kernel_rfl) (of_decide_eq_true (by kernel_rfl)) k1 bel lt1) trodAll_mk0)), rfl, bel.frame _, fun h => by cases h⟩

theorem over : Rows.fnGaussDivUnitRow.holds Try.pinned (OpenSpec.ofChange Rows.fnGaussDivUnitSpec) :=
  OpenClaim.holds_of_wide 7 Try.f7 rfl rfl rfl rfl rfl rfl rfl ⟨rfl, rfl, rfl, rfl, rfl⟩ rfl rfl rfl rfl rfl (by kernel_rfl) Try.func7 (by kernel_rfl)
    (of_decide_eq_true (by kernel_rfl)) (by unfold Func.isWrapper; first | (rw [if_pos (by decide +kernel)]; kernel_rfl) | (rw [if_neg (by decide +kernel)]; exact ⟨rfl, rfl⟩))
    (fun os started H enc _ => lifted os started H enc)

/-- The statement. -/
theorem proved : Rows.FnGaussDivUnitSaid := over
#print axioms proved
end Go.Proofs.Ytoichhjnfiiocaa.fnGaussDivUnit
