/- Proof that the law FnGaussUnit returns true for all arguments. -/
import Derived.Test.YtoichhjnfiiocaaRows
import Derived.WalkKit
import Derived.ProofKit
import Derived.OpenShut
import Derived.ShutString
import Derived.ChangeOld
import Derived.Below
import Derived.Test.YtoichhjnfiiocaaGm
import Derived.Test.YtoichhjnfiiocaaGl
import Derived.Test.YtoichhjnfiiocaaGi
import Derived.Test.YtoichhjnfiiocaaGh
import Derived.Test.YtoichhjnfiiocaaGk
import Derived.Deep.RegionHeld3
import Derived.Deep.DeepCutAuto
import Derived.Deep.RegionWith
import Derived.Outline
namespace Go.Proofs.Ytoichhjnfiiocaa.fnGaussUnit
open Go.ChangeShapes Go.WideShapes Go.ChangeAt Go.RowKit
set_option linter.unusedVariables false

theorem own : ownKnob Try.prog.godebug = none := by kernel_rfl
theorem laidOut : laidOutB Try.prog = true := by kernel_rfl
/-- A slice of integers that came in: nil, or a row of cap cells, the numbers zs. -/
def IsRow (k : IntKind) (w : World) (a : Option Addr) (len cap : Nat) (zs : List Int) : Prop :=
  (a = none ∧ len = 0 ∧ cap = 0 ∧ zs = []) ∨
  ∃ x, a = some x ∧ len ≤ cap ∧ cap ≤ maxLen ∧ zs.length = cap ∧ (∀ i, i < zs.length → w.cell? (x.add i) = some (.int k (zs.getD i 0))) ∧ ∀ n ∈ zs, (Lit.int k n).wf = true
set_option maxRecDepth 100000 in
set_option maxHeartbeats 4000000 in
theorem walk (a0 : Option Addr) (len0 cap0 : Nat) (z0 : List Int) (w : World) (w0 : IsRow .u8 w a0 len0 cap0 z0) :
    Calls Try.prog 4 #[.slice a0 len0 cap0] w fun e w' => e = .returned (.bool true) ∧ Below w.heap.size w w' := by
  have H := Lib.hid (code_of w0); clear w0
  by_cases hl0 : 1048576 < len0
  · go_enter Try.func4, Try.ntmps4
    go_wp2
    go_ret
    exact ⟨rfl, Below.refl _ _⟩
  go_enter Try.func4, Try.ntmps4
  go_wp2_with fail
  refine (drawGaussUnit_any H.out).mono ?_
  rintro e w1 ⟨k, ⟨k0, k1⟩, rfl, hb⟩
  have K := Lib.hid hb
  clear hb H
  obtain ⟨r, hr⟩ : ∃ r, uR k = r := ⟨_, rfl⟩
  obtain ⟨s, hs⟩ : ∃ s, uI k = s := ⟨_, rfl⟩
  have hu := u_is k
  rw [hr, hs] at hu
  have hb : (-1 ≤ r ∧ r ≤ 1 ∧ -1 ≤ s ∧ s ≤ 1) ∧ r * r + s * s = 1 := by rcases hu with ⟨rfl, rfl⟩ | ⟨rfl, rfl⟩ | ⟨rfl, rfl⟩ | ⟨rfl, rfl⟩ <;> omega
  obtain ⟨⟨r0, r1, s0, s1⟩, hn⟩ := hb
  have HU := Lib.hid (And.intro hr hs); have HN := Lib.hid hn; clear hn hu
  go_wp2_with fail
  refine (unit_b k r s _ HU.out).mono ?_
  rintro e w2 ⟨rfl, hb⟩
  have K2 := Lib.hid (kept_trans K.out hb)
  clear K hb
  have K := Lib.hid K2.out
  clear K2
  go_wp2_with fail
  refine (sUnit_b k r s _ HU.out).mono ?_
  rintro e w3 ⟨rfl, hb⟩
  have P1 : Hid (B2 w3 (w2.heap.size) (.int .i64 r) (.int .i64 s)) := by
    have h0 := (B2.new w2 (.int .i64 r) (.int .i64 s) 24).below hb
    try simp only [size_alloc1] at h0
    exact h0
  have K2 := Lib.hid (kept_trans (kept_alloc K.out _) hb)
  clear K hb
  have K := Lib.hid K2.out
  clear K2
  obtain ⟨c0, d0⟩ := P1.out
  have l0 := P1.out.lt
  by_cases hk : 0 < k
  · have hf := u_eq (k - 4) k (by omega)
    have hx := u_next (k - 1) k (by omega)
    rw [hr, hs] at hf hx
    have HF := Lib.hid hf; have HX : Hid (uR (k - 1) = s ∧ uI (k - 1) = -r) := Lib.hid ⟨hx.2.symm, by omega⟩
    have HM : Hid (s * 0 - -r * 1 = r ∧ s * 1 + -r * 0 = s) := Lib.hid (by omega)
    have HY : Hid (uR (k - 1 + 1) = r ∧ uI (k - 1 + 1) = s) := Lib.hid (by rw [show k - 1 + 1 = k by omega]; exact HU.out)
    clear hf hx hr hs
    go_wp2_with fail
    refine (unit_b (k - 1) s (-r) _ HX.out).mono ?_
    rintro e w4 ⟨rfl, hb⟩
    have P2 := Lib.hid ((P1.out.alloc (.cells #[.int .i64 r, .int .i64 s] 24)).below hb)
    have P3 : Hid (B2 w4 (w3.heap.size) (.int .i64 r) (.int .i64 s)) := by
      have h0 := (B2.new w3 (.int .i64 r) (.int .i64 s) 24).below hb
      try simp only [size_alloc1] at h0
      exact h0
    have K2 := Lib.hid (kept_trans (kept_alloc K.out _) hb)
    clear K hb P1
    clear c0 d0 l0
    have K := Lib.hid K2.out
    clear K2
    obtain ⟨c0, d0⟩ := P2.out
    have l0 := P2.out.lt
    obtain ⟨c1, d1⟩ := P3.out
    have l1 := P3.out.lt
    go_wp2_with fail
    refine (gauss_any 0 1 _).mono ?_
    rintro e w5 ⟨rfl, hb⟩
    have P4 := Lib.hid (P2.out.below hb)
    have P5 := Lib.hid (P3.out.below hb)
    have K2 := Lib.hid (kept_trans K.out hb)
    clear K hb P2 P3
    clear c0 d0 l0 c1 d1 l1
    have K := Lib.hid K2.out
    clear K2
    obtain ⟨c0, d0⟩ := P4.out
    have l0 := P4.out.lt
    obtain ⟨c1, d1⟩ := P5.out
    have l1 := P5.out.lt
    go_wp2_with fail
    refine (mul_eq s (-r) 0 1 r s _ ⟨⟨by omega, by omega, by omega, by omega⟩, by omega, by omega⟩ HM.out).mono ?_
    rintro e w6 ⟨rfl, hb⟩
    have P6 := Lib.hid (P4.out.below hb)
    have P7 := Lib.hid (P5.out.below hb)
    have K2 := Lib.hid (kept_trans K.out hb)
    clear K hb P4 P5
    clear c0 d0 l0 c1 d1 l1
    have K := Lib.hid K2.out
    clear K2
    obtain ⟨c0, d0⟩ := P6.out
    have l0 := P6.out.lt
    obtain ⟨c1, d1⟩ := P7.out
    have l1 := P7.out.lt
    go_wp2_with fail
    have R8 : B2 (w6.alloc (.cells #[.int .i64 r, .int .i64 s] 24)) (w2.heap.size) (.int .i64 r) (.int .i64 s) := by
      have h0 := (P6.out.alloc (.cells #[.int .i64 r, .int .i64 s] 24))
      try simp only [size_alloc1] at h0
      exact h0
    have R9 : B2 (w6.alloc (.cells #[.int .i64 r, .int .i64 s] 24)) (w6.heap.size) (.int .i64 r) (.int .i64 s) := by
      have h0 := (B2.new w6 (.int .i64 r) (.int .i64 s) 24)
      try simp only [size_alloc1] at h0
      exact h0
    have KB := Lib.hid (kept_alloc K.out (.cells #[.int .i64 r, .int .i64 s] 24))
    have HS := Lib.hid (And.intro R8.1 (And.intro R8.2 (And.intro R9.1 (And.intro R9.2 (kept_alloc K.out (.cells #[.int .i64 r, .int .i64 s] 24))))))
    clear c0 d0 l0 c1 d1 l1
    have l0 := R8.lt
    try simp only [size_alloc1] at l0
    have l1 := R9.lt
    try simp only [size_alloc1] at l1
    clear R8 R9 K P6 P7
    have e0 : IntKind.i64.wrap (k - 1 + 1) = k := by rw [IntWalk.i64_in _ ⟨by omega, by omega⟩]; omega
    have e1 : IntKind.i64.wrap k = k := IntWalk.i64_in _ ⟨by omega, by omega⟩
    go_region_held3 (fun W => W.cell? ⟨w2.heap.size, 0, none⟩ = some (.int .i64 r) ∧ W.cell? ⟨w2.heap.size, 1, none⟩ = some (.int .i64 s) ∧ W.cell? ⟨w6.heap.size, 0, none⟩ = some (.int .i64 r) ∧ W.cell? ⟨w6.heap.size, 1, none⟩ = some (.int .i64 s) ∧ Below w.heap.size w W) (first | assumption | (refine keep2 HS.out ?_; (repeat (first | exact kept_refl _ | refine Below.drew ?_ | refine kept_alloc ?_ _ | refine kept_trans ?_ (by assumption) | (refine Below.setCell ?_ ?_ _; rotate_left; (focus (simp <;> omega))))); done)) (first | (go_at_call 15; first | ((with_reducible refine (unit_ex _ r s _ ?_).mono ?_); (focus (exact HF.out)); rintro e w' ⟨rfl, rfl⟩) | ((with_reducible refine (unit_ex _ r s _ ?_).mono ?_); (focus (exact HU.out)); rintro e w' ⟨rfl, rfl⟩) | ((with_reducible refine (unit_ex _ r s _ ?_).mono ?_); (focus (exact HY.out)); rintro e w' ⟨rfl, rfl⟩)) | (go_at_call 17; first | ((with_reducible refine (norm_eq r s 1 _ ⟨by omega, by omega, by omega, by omega⟩ HN.out).mono ?_); rintro e w' ⟨rfl, HB⟩; obtain ⟨hc, hf⟩ := bcell HB; have q := HB.size; try simp at q)))
    all_goals go_wp2_with fail
    all_goals go_ret
    all_goals refine ⟨rfl, ?_⟩
    all_goals first | assumption | (repeat (first | exact KB.out | refine Below.drew ?_ | refine kept_alloc ?_ _ | refine kept_trans ?_ (by assumption)))
  · have hk' : decide (0 < k) = false := by simp; omega
    have hk2 : k ≤ 0 := by omega
    have hf := u_eq (k + 4) k (by omega)
    have hx := u_next k (k + 1) (by omega)
    rw [hr, hs] at hf hx
    have HF := Lib.hid hf; have HX := Lib.hid hx
    have HM : Hid (r * 0 - s * 1 = -s ∧ r * 1 + s * 0 = r) := Lib.hid (by omega)
    clear hf hx hr hs hk
    go_wp2_with fail
    refine (unit_b k r s _ HU.out).mono ?_
    rintro e w4 ⟨rfl, hb⟩
    have P2 := Lib.hid ((P1.out.alloc (.cells #[.int .i64 r, .int .i64 s] 24)).below hb)
    have P3 : Hid (B2 w4 (w3.heap.size) (.int .i64 r) (.int .i64 s)) := by
      have h0 := (B2.new w3 (.int .i64 r) (.int .i64 s) 24).below hb
      try simp only [size_alloc1] at h0
      exact h0
    have K2 := Lib.hid (kept_trans (kept_alloc K.out _) hb)
    clear K hb P1
    clear c0 d0 l0
    have K := Lib.hid K2.out
    clear K2
    obtain ⟨c0, d0⟩ := P2.out
    have l0 := P2.out.lt
    obtain ⟨c1, d1⟩ := P3.out
    have l1 := P3.out.lt
    go_wp2_with fail
    refine (gauss_any 0 1 _).mono ?_
    rintro e w5 ⟨rfl, hb⟩
    have P4 := Lib.hid (P2.out.below hb)
    have P5 := Lib.hid (P3.out.below hb)
    have K2 := Lib.hid (kept_trans K.out hb)
    clear K hb P2 P3
    clear c0 d0 l0 c1 d1 l1
    have K := Lib.hid K2.out
    clear K2
    obtain ⟨c0, d0⟩ := P4.out
    have l0 := P4.out.lt
    obtain ⟨c1, d1⟩ := P5.out
    have l1 := P5.out.lt
    go_wp2_with fail
    refine (mul_eq r s 0 1 (-s) r _ ⟨⟨by omega, by omega, by omega, by omega⟩, by omega, by omega⟩ HM.out).mono ?_
    rintro e w6 ⟨rfl, hb⟩
    have P6 := Lib.hid (P4.out.below hb)
    have P7 := Lib.hid (P5.out.below hb)
    have K2 := Lib.hid (kept_trans K.out hb)
    clear K hb P4 P5
    clear c0 d0 l0 c1 d1 l1
    have K := Lib.hid K2.out
    clear K2
    obtain ⟨c0, d0⟩ := P6.out
    have l0 := P6.out.lt
    obtain ⟨c1, d1⟩ := P7.out
    have l1 := P7.out.lt
    go_wp2_with fail
    have R8 : B2 (w6.alloc (.cells #[.int .i64 (-s), .int .i64 r] 24)) (w2.heap.size) (.int .i64 r) (.int .i64 s) := by
      have h0 := (P6.out.alloc (.cells #[.int .i64 (-s), .int .i64 r] 24))
      try simp only [size_alloc1] at h0
      exact h0
    have R9 : B2 (w6.alloc (.cells #[.int .i64 (-s), .int .i64 r] 24)) (w6.heap.size) (.int .i64 (-s)) (.int .i64 r) := by
      have h0 := (B2.new w6 (.int .i64 (-s)) (.int .i64 r) 24)
      try simp only [size_alloc1] at h0
      exact h0
    have KB := Lib.hid (kept_alloc K.out (.cells #[.int .i64 (-s), .int .i64 r] 24))
    have HS := Lib.hid (And.intro R8.1 (And.intro R8.2 (And.intro R9.1 (And.intro R9.2 (kept_alloc K.out (.cells #[.int .i64 (-s), .int .i64 r] 24))))))
    clear c0 d0 l0 c1 d1 l1
    have l0 := R8.lt
    try simp only [size_alloc1] at l0
    have l1 := R9.lt
    try simp only [size_alloc1] at l1
    clear R8 R9 K P6 P7
    have e0 : IntKind.i64.wrap (k + 1) = k + 1 := IntWalk.i64_in _ ⟨by omega, by omega⟩
    go_region_held3 (fun W => W.cell? ⟨w2.heap.size, 0, none⟩ = some (.int .i64 r) ∧ W.cell? ⟨w2.heap.size, 1, none⟩ = some (.int .i64 s) ∧ W.cell? ⟨w6.heap.size, 0, none⟩ = some (.int .i64 (-s)) ∧ W.cell? ⟨w6.heap.size, 1, none⟩ = some (.int .i64 r) ∧ Below w.heap.size w W) (first | assumption | (refine keep2 HS.out ?_; (repeat (first | exact kept_refl _ | refine Below.drew ?_ | refine kept_alloc ?_ _ | refine kept_trans ?_ (by assumption) | (refine Below.setCell ?_ ?_ _; rotate_left; (focus (simp <;> omega))))); done)) (first | (go_at_call 15; first | ((with_reducible refine (unit_ex _ r s _ ?_).mono ?_); (focus (exact HF.out)); rintro e w' ⟨rfl, rfl⟩) | ((with_reducible refine (unit_ex _ (-s) r _ ?_).mono ?_); (focus (exact HX.out)); rintro e w' ⟨rfl, rfl⟩)) | (go_at_call 17; first | ((with_reducible refine (norm_eq r s 1 _ ⟨by omega, by omega, by omega, by omega⟩ HN.out).mono ?_); rintro e w' ⟨rfl, HB⟩; obtain ⟨hc, hf⟩ := bcell HB; have q := HB.size; try simp at q)))
    all_goals go_wp2_with fail
    all_goals go_ret
    all_goals refine ⟨rfl, ?_⟩
    all_goals first | assumption | (repeat (first | exact KB.out | refine Below.drew ?_ | refine kept_alloc ?_ _ | refine kept_trans ?_ (by assumption)))

set_option maxRecDepth 100000 in
theorem lifted (os : Os) (started : os.Started) (H : Type) (enc : TypeId × Value → H) :
    ReturnsInHanded {} Try.checked os 4 .any (Rows.fnGaussUnitSpec.pre6 enc Try.prog Try.f4 Rows.fnGaussUnitRow.domain false) (Rows.fnGaussUnitSpec.post enc Try.prog Try.f4 false true false false) := by
  refine returnsInHanded_of_change (C := Try.checked) own started (by kernel_rfl) Try.func4
    (ChangeSpec.witness6 (enc := enc) (C := Try.checked) false ⟨#[], #[.slice none 0 0], []⟩ 8 (by kernel_rfl) (by kernel_rfl) (by kernel_rfl) (by kernel_rfl)) ?_
  intro W base args ds gs before hval0 hW hcnd _
  have hval : ∀ (j : Nat) t v, Try.f4.params[j]? = some t → args[j]? = some v → Value.okWide Try.prog W .any base t v := hval0
  have hW' := hW
  obtain ⟨p, q, hA0, hV, rfl, hfz, hnd⟩ := hW
  have hA : DataW.TrodAll enc Try.prog W 0 (fun _ => true) true Try.f4.params.toList args.toList ds p := hA0
  rw [Try.params4] at hA hval
  obtain ⟨v0, vs0, d0, ds0, p0, q0, hargs, rfl, rfl, h0, r0⟩ := trodAll_cons hA
  obtain ⟨rfl, rfl, rfl⟩ := trodAll_nil r0
  obtain rfl : args = #[v0] := by cases args; simp_all
  obtain ⟨rfl, rfl⟩ := trodVars_none hV
  obtain ⟨a0, len0, cap0, rfl⟩ := okWide_slice Try.underlying22 (hval 0 22 v0 rfl rfl)
  have k0 := h0
  have lt0 : ∀ x ∈ p0, x.block < W.heap.size := by obtain ⟨m, hm⟩ := k0; exact DataW.trod_lt m _ _ _ hm
  obtain ⟨z0, w0⟩ : ∃ zs, IsRow .u8 W a0 len0 cap0 zs := by
    obtain ⟨fuel, hf⟩ := h0
    rcases open_ints Try.underlying22 Try.underlying5 (by kernel_rfl) hf with ⟨hcs, _⟩ | ⟨x, l, c, zs, hcs, _, hl, hm, hz, _, hcell, hwz⟩
    · simp [Value.cells] at hcs
      obtain ⟨rfl, rfl, rfl⟩ := hcs
      exact ⟨[], .inl ⟨rfl, rfl, rfl, rfl⟩⟩
    · simp [Value.cells] at hcs
      obtain ⟨rfl, rfl, rfl⟩ := hcs
      exact ⟨zs, .inr ⟨_, rfl, hl, hm, by simpa using hz, hcell, hwz⟩⟩
  clear hA0 hval0
  refine (walk a0 len0 cap0 z0 W w0).mono fun e W' ⟨he, bel⟩ => ?_
  subst he
  exact ⟨_, rfl, _, _, _, [], _, [], hW', trodAll_mk1 (shut_bool Try.underlying4 _), (trodAll_cons_mk (Below.trod laidOut (by kernel_rfl) (of_decide_eq_true (by kernel_rfl)) k0 bel lt0) trodAll_mk0), rfl, bel.frame _, fun h => by cases h⟩

theorem over : Rows.fnGaussUnitRow.holds Try.pinned (OpenSpec.ofChange Rows.fnGaussUnitSpec) :=
  OpenClaim.holds_of_wide 4 Try.f4 rfl rfl rfl rfl rfl rfl rfl ⟨rfl, rfl, rfl, rfl, rfl⟩ rfl rfl rfl rfl rfl (by kernel_rfl) Try.func4 (by kernel_rfl)
    (of_decide_eq_true (by kernel_rfl)) (by unfold Func.isWrapper; first | (rw [if_pos (by decide +kernel)]; kernel_rfl) | (rw [if_neg (by decide +kernel)]; exact ⟨rfl, rfl⟩))
    (fun os started H enc _ => lifted os started H enc)

/-- The statement. -/
theorem proved : Rows.FnGaussUnitSaid := over
#print axioms proved
end Go.Proofs.Ytoichhjnfiiocaa.fnGaussUnit
