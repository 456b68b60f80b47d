/- Proof that the law FnGaussUnitSum returns true for all arguments. -/
import Derived.Test.YtoichhjnfiiocaaRows
import Derived.WalkKit
import Derived.ProofKit
import Derived.OpenShut
import Derived.ShutString
import Derived.ChangeOld
import Derived.Below
import Derived.Test.YtoichhjnfiiocaaGm
import Derived.Test.YtoichhjnfiiocaaGl
import Derived.Test.YtoichhjnfiiocaaGi
import Derived.Test.YtoichhjnfiiocaaGh
import Derived.Test.YtoichhjnfiiocaaGk
import Derived.Deep.RegionHeld3
import Derived.Deep.DeepCutAuto
import Derived.Deep.RegionWith
import Derived.Outline
namespace Go.Proofs.Ytoichhjnfiiocaa.fnGaussUnitSum
open Go.ChangeShapes Go.WideShapes Go.ChangeAt Go.RowKit
set_option linter.unusedVariables false

theorem own : ownKnob Try.prog.godebug = none := by kernel_rfl
theorem laidOut : laidOutB Try.prog = true := by kernel_rfl
/-- A slice of integers that came in: nil, or a row of cap cells, the numbers zs. -/
def IsRow (k : IntKind) (w : World) (a : Option Addr) (len cap : Nat) (zs : List Int) : Prop :=
  (a = none ∧ len = 0 ∧ cap = 0 ∧ zs = []) ∨
  ∃ x, a = some x ∧ len ≤ cap ∧ cap ≤ maxLen ∧ zs.length = cap ∧ (∀ i, i < zs.length → w.cell? (x.add i) = some (.int k (zs.getD i 0))) ∧ ∀ n ∈ zs, (Lit.int k n).wf = true
set_option maxRecDepth 100000 in
set_option maxHeartbeats 4000000 in
theorem walk (a0 : Option Addr) (len0 cap0 : Nat) (z0 : List Int) (a1 : Option Addr) (len1 cap1 : Nat) (z1 : List Int) (w : World) (w0 : IsRow .u8 w a0 len0 cap0 z0) (w1 : IsRow .u8 w a1 len1 cap1 z1) :
    Calls Try.prog 5 #[.slice a0 len0 cap0, .slice a1 len1 cap1] w fun e w' => e = .returned (.bool true) ∧ Below w.heap.size w w' := by
  have H := Lib.hid (code_of w0); clear w0
  clear w1
  by_cases hl0 : 1048576 < len0
  · go_enter Try.func5, Try.ntmps5
    go_wp2
    go_ret
    exact ⟨rfl, Below.refl _ _⟩
  by_cases hl1 : 1048576 < len1
  · go_enter Try.func5, Try.ntmps5
    go_wp2
    go_ret
    exact ⟨rfl, Below.refl _ _⟩
  go_enter Try.func5, Try.ntmps5
  go_wp2_with fail
  refine (drawGaussUnit_any H.out).mono ?_
  rintro e w1 ⟨k, ⟨k0, k1⟩, rfl, hb⟩
  have K := Lib.hid hb
  clear hb H
  obtain ⟨r, hr⟩ : ∃ r, uR k = r := ⟨_, rfl⟩
  obtain ⟨s, hs⟩ : ∃ s, uI k = s := ⟨_, rfl⟩
  obtain ⟨g, hg⟩ : ∃ g, uR ((len1 : Int) % 100) = g := ⟨_, rfl⟩
  obtain ⟨h, hh⟩ : ∃ h, uI ((len1 : Int) % 100) = h := ⟨_, rfl⟩
  have hu := u_is k
  have hv := u_is ((len1 : Int) % 100)
  have ha := u_add k ((len1 : Int) % 100)
  have hn1 := u_neg ((len1 : Int) % 100) (-((len1 : Int) % 100)) (.inl rfl)
  have hn2 := u_neg ((len1 : Int) % 100) (0 - (len1 : Int) % 100) (.inr rfl)
  rw [hr, hs, hg, hh] at ha
  rw [hg, hh] at hn1 hn2 hv
  rw [hr, hs] at hu
  obtain ⟨p, hp⟩ : ∃ p, r * g - s * h = p := ⟨_, rfl⟩
  obtain ⟨q, hq⟩ : ∃ q, r * h + s * g = q := ⟨_, rfl⟩
  rw [hp, hq] at ha
  have hb : (-1 ≤ r ∧ r ≤ 1 ∧ -1 ≤ s ∧ s ≤ 1) ∧ (-1 ≤ g ∧ g ≤ 1 ∧ -1 ≤ h ∧ h ≤ 1) ∧ (-1 ≤ p ∧ p ≤ 1 ∧ -1 ≤ q ∧ q ≤ 1) := by rcases hu with ⟨rfl, rfl⟩ | ⟨rfl, rfl⟩ | ⟨rfl, rfl⟩ | ⟨rfl, rfl⟩ <;> rcases hv with ⟨rfl, rfl⟩ | ⟨rfl, rfl⟩ | ⟨rfl, rfl⟩ | ⟨rfl, rfl⟩ <;> omega
  obtain ⟨⟨r0, r1, s0, s1⟩, ⟨g0, g1, g2, g3⟩, p0, p1, q0, q1⟩ := hb
  have HU := Lib.hid (And.intro hr hs); have HG := Lib.hid (And.intro hg hh); have HM := Lib.hid (And.intro hp hq); have HA := Lib.hid ha; have HN1 := Lib.hid hn1; have HN2 := Lib.hid hn2
  clear hr hs hg hh hu hv ha hn1 hn2 hp hq
  go_wp2_with fail
  refine (unit_b k r s _ HU.out).mono ?_
  rintro e w2 ⟨rfl, hb⟩
  have K2 := Lib.hid (kept_trans K.out hb)
  clear K hb
  have K := Lib.hid K2.out
  clear K2
  go_wp2_with fail
  refine (sUnit_b k r s _ HU.out).mono ?_
  rintro e w3 ⟨rfl, hb⟩
  have P1 : Hid (B2 w3 (w2.heap.size) (.int .i64 r) (.int .i64 s)) := by
    have h0 := (B2.new w2 (.int .i64 r) (.int .i64 s) 24).below hb
    try simp only [size_alloc1] at h0
    exact h0
  have K2 := Lib.hid (kept_trans (kept_alloc K.out _) hb)
  clear K hb
  have K := Lib.hid K2.out
  clear K2
  obtain ⟨c0, d0⟩ := P1.out
  have l0 := P1.out.lt
  go_wp2_with fail
  have R2 : B2 (w3.alloc (.cells #[.int .i64 r, .int .i64 s] 24)) (w2.heap.size) (.int .i64 r) (.int .i64 s) := by
    have h0 := (P1.out.alloc (.cells #[.int .i64 r, .int .i64 s] 24))
    try simp only [size_alloc1] at h0
    exact h0
  have R3 : B2 (w3.alloc (.cells #[.int .i64 r, .int .i64 s] 24)) (w3.heap.size) (.int .i64 r) (.int .i64 s) := by
    have h0 := (B2.new w3 (.int .i64 r) (.int .i64 s) 24)
    try simp only [size_alloc1] at h0
    exact h0
  have KB := Lib.hid (kept_alloc K.out (.cells #[.int .i64 r, .int .i64 s] 24))
  have HS := Lib.hid (And.intro R2.1 (And.intro R2.2 (And.intro R3.1 (And.intro R3.2 (kept_alloc K.out (.cells #[.int .i64 r, .int .i64 s] 24))))))
  clear c0 d0 l0
  have l0 := R2.lt
  try simp only [size_alloc1] at l0
  have l1 := R3.lt
  try simp only [size_alloc1] at l1
  clear R2 R3 K P1
  go_cut [9, 10] (fun s9 s10 W => ∃ g : Nat, s9 = .pointer (some ⟨g, 0, none⟩) ∧ s10 = .bool true ∧ B2 W g (.int .i64 p) (.int .i64 q) ∧ W.cell? ⟨w2.heap.size, 0, none⟩ = some (.int .i64 r) ∧ W.cell? ⟨w2.heap.size, 1, none⟩ = some (.int .i64 s) ∧ W.cell? ⟨w3.heap.size, 0, none⟩ = some (.int .i64 r) ∧ W.cell? ⟨w3.heap.size, 1, none⟩ = some (.int .i64 s) ∧ Below w.heap.size w W)
  case first =>
    go_region_held3 (fun W => W.cell? ⟨w2.heap.size, 0, none⟩ = some (.int .i64 r) ∧ W.cell? ⟨w2.heap.size, 1, none⟩ = some (.int .i64 s) ∧ W.cell? ⟨w3.heap.size, 0, none⟩ = some (.int .i64 r) ∧ W.cell? ⟨w3.heap.size, 1, none⟩ = some (.int .i64 s) ∧ Below w.heap.size w W) (first | assumption | (refine keep2 HS.out ?_; (repeat (first | exact kept_refl _ | refine Below.drew ?_ | refine kept_alloc ?_ _ | refine kept_trans ?_ (by assumption) | (refine Below.setCell ?_ ?_ _; rotate_left; (focus (simp <;> omega))))); done)) (first | (go_at_call 15; first | ((with_reducible refine (unit_ex _ g h _ ?_).mono ?_); (focus (exact HG.out)); rintro e w' ⟨rfl, rfl⟩)) | (go_at_call 12; refine (mul_eq r s g h p q _ ⟨⟨by omega, by omega, by omega, by omega⟩, ⟨by omega, by omega, by omega, by omega⟩, by omega, by omega, by omega, by omega⟩ HM.out).mono ?_; rintro e w' ⟨rfl, HB⟩; obtain ⟨hc, hf⟩ := bcell HB; have q := HB.size; try simp at q))
    all_goals (go_wp2_with fail; go_meet)
    all_goals refine ⟨_, rfl, rfl, ?_, ?_⟩
    all_goals first | assumption | ((with_reducible refine B2.set (x := .int .i64 0) (y := .int .i64 0) ?_); (repeat (first | assumption | ((with_reducible refine B2.at ?_); (simp; done)) | (with_reducible refine B2.drew ?_) | (with_reducible refine B2.below ?_ HB) | (with_reducible refine B2.alloc ?_ _))); done) | ((with_reducible refine B2.at ?_); (simp; done))
  case rest =>
    obtain ⟨g4, rfl, rfl, g0, c0, d0, c1, d1, hb⟩ := hcut
    obtain ⟨w4, rfl⟩ : ∃ wo : World, wo = wc := ⟨_, rfl⟩
    have K := Lib.hid hb
    have P5 : Hid (B2 w4 (w2.heap.size) (.int .i64 r) (.int .i64 s)) := Lib.hid ⟨c0, d0⟩
    have P6 : Hid (B2 w4 (w3.heap.size) (.int .i64 r) (.int .i64 s)) := Lib.hid ⟨c1, d1⟩
    have P7 : Hid (B2 w4 g4 (.int .i64 p) (.int .i64 q)) := Lib.hid g0
    clear hb HS KB g0 c0 d0 c1 d1 l0 l1
    obtain ⟨c0, d0⟩ := P5.out
    have l0 := P5.out.lt
    obtain ⟨c1, d1⟩ := P6.out
    have l1 := P6.out.lt
    obtain ⟨c2, d2⟩ := P7.out
    have l2 := P7.out.lt
    go_wp2_with fail
    refine (unit_b _ g h _ HG.out).mono ?_
    rintro e w5 ⟨rfl, hb⟩
    have P8 := Lib.hid (P5.out.below hb)
    have P9 := Lib.hid (P6.out.below hb)
    have P10 := Lib.hid (P7.out.below hb)
    have K2 := Lib.hid (kept_trans K.out hb)
    clear K hb P5 P6 P7
    clear c0 d0 l0 c1 d1 l1 c2 d2 l2
    have K := Lib.hid K2.out
    clear K2
    obtain ⟨c0, d0⟩ := P8.out
    have l0 := P8.out.lt
    obtain ⟨c1, d1⟩ := P9.out
    have l1 := P9.out.lt
    obtain ⟨c2, d2⟩ := P10.out
    have l2 := P10.out.lt
    go_wp2_with fail
    refine (gconj_yes g h _ ⟨by omega, by omega, by omega, by omega⟩).mono ?_
    rintro e w6 ⟨rfl, hb⟩
    have P11 := Lib.hid (P8.out.below hb)
    have P12 := Lib.hid (P9.out.below hb)
    have P13 := Lib.hid (P10.out.below hb)
    have K2 := Lib.hid (kept_trans K.out hb)
    clear K hb P8 P9 P10
    clear c0 d0 l0 c1 d1 l1 c2 d2 l2
    have K := Lib.hid K2.out
    clear K2
    obtain ⟨c0, d0⟩ := P11.out
    have l0 := P11.out.lt
    obtain ⟨c1, d1⟩ := P12.out
    have l1 := P12.out.lt
    obtain ⟨c2, d2⟩ := P13.out
    have l2 := P13.out.lt
    go_wp2_with fail
    have R14 : B2 (w6.alloc (.cells #[.int .i64 g, .int .i64 (-h)] 24)) (g4) (.int .i64 p) (.int .i64 q) := by
      have h0 := (P13.out.alloc (.cells #[.int .i64 g, .int .i64 (-h)] 24))
      try simp only [size_alloc1] at h0
      exact h0
    have R15 : B2 (w6.alloc (.cells #[.int .i64 g, .int .i64 (-h)] 24)) (w6.heap.size) (.int .i64 g) (.int .i64 (-h)) := by
      have h0 := (B2.new w6 (.int .i64 g) (.int .i64 (-h)) 24)
      try simp only [size_alloc1] at h0
      exact h0
    have KB := Lib.hid (kept_alloc K.out (.cells #[.int .i64 g, .int .i64 (-h)] 24))
    have HS := Lib.hid (And.intro R14.1 (And.intro R14.2 (And.intro R15.1 (And.intro R15.2 (kept_alloc K.out (.cells #[.int .i64 g, .int .i64 (-h)] 24))))))
    clear c0 d0 l0 c1 d1 l1 c2 d2 l2
    have l0 := R14.lt
    try simp only [size_alloc1] at l0
    have l1 := R15.lt
    try simp only [size_alloc1] at l1
    clear R14 R15 K P11 P12 P13
    have m0 := Int.emod_nonneg k (show (4 : Int) ≠ 0 by omega)
    have m1 := Int.emod_lt_of_pos k (show (0 : Int) < 4 by omega)
    have e0 : IntKind.i64.wrap (k % 4 + (len1 : Int) % 100) = k % 4 + (len1 : Int) % 100 := IntWalk.i64_in _ ⟨by omega, by omega⟩
    have e1 : IntKind.i64.wrap (-((len1 : Int) % 100)) = -((len1 : Int) % 100) := IntWalk.i64_in _ ⟨by omega, by omega⟩
    have e2 : IntKind.i64.wrap (0 - (len1 : Int) % 100) = -((len1 : Int) % 100) := by rw [IntWalk.i64_in _ ⟨by omega, by omega⟩]; omega
    go_region_held3 (fun W => W.cell? ⟨g4, 0, none⟩ = some (.int .i64 p) ∧ W.cell? ⟨g4, 1, none⟩ = some (.int .i64 q) ∧ W.cell? ⟨w6.heap.size, 0, none⟩ = some (.int .i64 g) ∧ W.cell? ⟨w6.heap.size, 1, none⟩ = some (.int .i64 (-h)) ∧ Below w.heap.size w W) (first | assumption | (refine keep2 HS.out ?_; (repeat (first | exact kept_refl _ | refine Below.drew ?_ | refine kept_alloc ?_ _ | refine kept_trans ?_ (by assumption) | (refine Below.setCell ?_ ?_ _; rotate_left; (focus (simp <;> omega))))); done)) (first | (go_at_call 15; first | ((with_reducible refine (unit_ex _ p q _ ?_).mono ?_); (focus (exact HA.out)); rintro e w' ⟨rfl, rfl⟩) | ((with_reducible refine (unit_ex _ g (-h) _ ?_).mono ?_); (focus (exact HN1.out)); rintro e w' ⟨rfl, rfl⟩) | ((with_reducible refine (unit_ex _ g (-h) _ ?_).mono ?_); (focus (exact HN2.out)); rintro e w' ⟨rfl, rfl⟩)) | (go_at_call 19; refine (rest4 _ _).mono ?_; rintro e w' ⟨rfl, rfl⟩))
    all_goals go_wp2_with fail
    all_goals go_ret
    all_goals refine ⟨rfl, ?_⟩
    all_goals first | assumption | (repeat (first | exact KB.out | refine Below.drew ?_ | refine kept_alloc ?_ _ | refine kept_trans ?_ (by assumption)))

set_option maxRecDepth 100000 in
theorem lifted (os : Os) (started : os.Started) (H : Type) (enc : TypeId × Value → H) :
    ReturnsInHanded {} Try.checked os 5 .any (Rows.fnGaussUnitSumSpec.pre6 enc Try.prog Try.f5 Rows.fnGaussUnitSumRow.domain false) (Rows.fnGaussUnitSumSpec.post enc Try.prog Try.f5 false true false false) := by
  refine returnsInHanded_of_change (C := Try.checked) own started (by kernel_rfl) Try.func5
    (ChangeSpec.witness6 (enc := enc) (C := Try.checked) false ⟨#[], #[.slice none 0 0, .slice none 0 0], []⟩ 8 (by kernel_rfl) (by kernel_rfl) (by kernel_rfl) (by kernel_rfl)) ?_
  intro W base args ds gs before hval0 hW hcnd _
  have hval : ∀ (j : Nat) t v, Try.f5.params[j]? = some t → args[j]? = some v → Value.okWide Try.prog W .any base t v := hval0
  have hW' := hW
  obtain ⟨p, q, hA0, hV, rfl, hfz, hnd⟩ := hW
  have hA : DataW.TrodAll enc Try.prog W 0 (fun _ => true) true Try.f5.params.toList args.toList ds p := hA0
  rw [Try.params5] at hA hval
  obtain ⟨v0, vs0, d0, ds0, p0, q0, hargs, rfl, rfl, h0, r0⟩ := trodAll_cons hA
  obtain ⟨v1, vs1, d1, ds1, p1, q1, rfl, rfl, rfl, h1, r1⟩ := trodAll_cons r0
  obtain ⟨rfl, rfl, rfl⟩ := trodAll_nil r1
  obtain rfl : args = #[v0, v1] := by cases args; simp_all
  obtain ⟨rfl, rfl⟩ := trodVars_none hV
  obtain ⟨a0, len0, cap0, rfl⟩ := okWide_slice Try.underlying22 (hval 0 22 v0 rfl rfl)
  have k0 := h0
  have lt0 : ∀ x ∈ p0, x.block < W.heap.size := by obtain ⟨m, hm⟩ := k0; exact DataW.trod_lt m _ _ _ hm
  obtain ⟨z0, w0⟩ : ∃ zs, IsRow .u8 W a0 len0 cap0 zs := by
    obtain ⟨fuel, hf⟩ := h0
    rcases open_ints Try.underlying22 Try.underlying5 (by kernel_rfl) hf with ⟨hcs, _⟩ | ⟨x, l, c, zs, hcs, _, hl, hm, hz, _, hcell, hwz⟩
    · simp [Value.cells] at hcs
      obtain ⟨rfl, rfl, rfl⟩ := hcs
      exact ⟨[], .inl ⟨rfl, rfl, rfl, rfl⟩⟩
    · simp [Value.cells] at hcs
      obtain ⟨rfl, rfl, rfl⟩ := hcs
      exact ⟨zs, .inr ⟨_, rfl, hl, hm, by simpa using hz, hcell, hwz⟩⟩
  obtain ⟨a1, len1, cap1, rfl⟩ := okWide_slice Try.underlying22 (hval 1 22 v1 rfl rfl)
  have k1 := h1
  have lt1 : ∀ x ∈ p1, x.block < W.heap.size := by obtain ⟨m, hm⟩ := k1; exact DataW.trod_lt m _ _ _ hm
  obtain ⟨z1, w1⟩ : ∃ zs, IsRow .u8 W a1 len1 cap1 zs := by
    obtain ⟨fuel, hf⟩ := h1
    rcases open_ints Try.underlying22 Try.underlying5 (by kernel_rfl) hf with ⟨hcs, _⟩ | ⟨x, l, c, zs, hcs, _, hl, hm, hz, _, hcell, hwz⟩
    · simp [Value.cells] at hcs
      obtain ⟨rfl, rfl, rfl⟩ := hcs
      exact ⟨[], .inl ⟨rfl, rfl, rfl, rfl⟩⟩
    · simp [Value.cells] at hcs
      obtain ⟨rfl, rfl, rfl⟩ := hcs
      exact ⟨zs, .inr ⟨_, rfl, hl, hm, by simpa using hz, hcell, hwz⟩⟩
  clear hA0 hval0
  refine (walk a0 len0 cap0 z0 a1 len1 cap1 z1 W w0 w1).mono fun e W' ⟨he, bel⟩ => ?_
  subst he
  exact ⟨_, rfl, _, _, _, [], _, [], hW', trodAll_mk1 (shut_bool Try.underlying4 _), (trodAll_cons_mk (Below.trod laidOut (by kernel_rfl) (of_decide_eq_true (by kernel_rfl)) k0 bel lt0) (trodAll_cons_mk (Below.trod laidOut (by kernel_rfl) (of_decide_eq_true (by kernel_rfl)) k1 bel lt1) trodAll_mk0)), rfl, bel.frame _, fun h => by cases h⟩

theorem over : Rows.fnGaussUnitSumRow.holds Try.pinned (OpenSpec.ofChange Rows.fnGaussUnitSumSpec) :=
  OpenClaim.holds_of_wide 5 Try.f5 rfl rfl rfl rfl rfl rfl rfl ⟨rfl, rfl, rfl, rfl, rfl⟩ rfl rfl rfl rfl rfl (by kernel_rfl) Try.func5 (by kernel_rfl)
    (of_decide_eq_true (by kernel_rfl)) (by unfold Func.isWrapper; first | (rw [if_pos (by decide +kernel)]; kernel_rfl) | (rw [if_neg (by decide +kernel)]; exact ⟨rfl, rfl⟩))
    (fun os started H enc _ => lifted os started H enc)

/-- The statement. -/
theorem proved : Rows.FnGaussUnitSumSaid := over
#print axioms proved
end Go.Proofs.Ytoichhjnfiiocaa.fnGaussUnitSum
