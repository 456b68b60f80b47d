/- Proof that the law FnPhaseArcPair returns true for all arguments. -/
import Derived.Test.YtjleofepjfdcbaaRows
import Derived.WalkKit
import Derived.ProofKit
import Derived.OpenShut
import Derived.ShutString
import Derived.ChangeOld
import Derived.Below
import Derived.Test.YtjleofepjfdcbaaAt
import Derived.Test.YtjleofepjfdcbaaDa
import Derived.Deep.QuietTactic
import Derived.BigQuiet
import Derived.IntWalk
import Derived.Outline
namespace Go.Proofs.Ytjleofepjfdcbaa.fnPhaseArcPair
open Go.ChangeShapes Go.WideShapes Go.ChangeAt Go.RowKit
set_option linter.unusedVariables false

theorem own : ownKnob Try.prog.godebug = none := by kernel_rfl
theorem laidOut : laidOutB Try.prog = true := by kernel_rfl
/-- A slice of integers that came in: nil, or a row of cap cells, the numbers zs. -/
def IsRow (k : IntKind) (w : World) (a : Option Addr) (len cap : Nat) (zs : List Int) : Prop :=
  (a = none ∧ len = 0 ∧ cap = 0 ∧ zs = []) ∨
  ∃ x, a = some x ∧ len ≤ cap ∧ cap ≤ maxLen ∧ zs.length = cap ∧ (∀ i, i < zs.length → w.cell? (x.add i) = some (.int k (zs.getD i 0))) ∧ ∀ n ∈ zs, (Lit.int k n).wf = true
theorem bool_eq {a b : Bool} (h : a = b) : Value.bool a = .bool b := by rw [h]
set_option maxRecDepth 100000 in
set_option maxHeartbeats 4000000 in
theorem walk (a0 : Option Addr) (len0 cap0 : Nat) (z0 : List Int) (w : World) (w0 : IsRow .u8 w a0 len0 cap0 z0) :
    Calls Try.prog 4 #[.slice a0 len0 cap0] w fun e w' => e = .returned (.bool true) ∧ Below w.heap.size w w' := by
  have H := Lib.hid (code_of w0); clear w0
  by_cases hl0 : 1048576 < len0
  · go_enter Try.func4, Try.ntmps4
    go_wp2
    go_ret
    exact ⟨rfl, Below.refl _ _⟩
  go_enter Try.func4, Try.ntmps4
  go_wp2_with fail
  refine (drawPhaseNear_any H.out).mono ?_
  rintro e w1 ⟨u, v, ⟨u0, u1⟩, ⟨v0, v1⟩, rfl, hbel⟩
  have hc := near_cases u v
  obtain ⟨o, ho⟩ : ∃ o : Int, o = nearI u v := ⟨_, rfl⟩
  have C1 : Hid (∀ w, Calls Try.prog 13 #[.int .i64 u, .int .i64 v] w fun e w' => e = .returned (.int .i64 o) ∧ w = w') := Lib.hid fun w => by rw [ho]; exact near_any u v w
  have C2 : Hid (∀ w, Calls Try.prog 14 #[.int .i64 u, .int .i64 v] w fun e w' => e = .returned (.int .i64 o) ∧ w = w') := Lib.hid fun w => by rw [ho]; exact sNear_any u v w
  by_cases hg : 0 ≤ u ∧ u < 360 ∧ 0 ≤ v ∧ v < 360
  · have o0 : 0 ≤ o := by omega
    obtain ⟨g0, g1, g2, g3⟩ := hg
    have hz2 : Phs (fun i => if i = 0 then u else v) 2 := fun i hi => by dsimp only; split <;> omega
    have hz3 : Phs (fun i => if i = 1 then u else v) 3 := fun i hi => by dsimp only; split <;> omega
    obtain ⟨F, L, hF⟩ := arc_ex (fun i => if i = 0 then u else v) 2
    obtain ⟨F', L', hF'⟩ := arc_ex (fun i => if i = 1 then u else v) 3
    have e1 : L = o := by rw [ho]; exact hF.pair hz2 (fun i hi => by split <;> simp) (i := 0) (j := 1) (by omega) (by omega) rfl rfl
    have e2 : L' = o := by rw [ho]; exact hF'.pair hz3 (fun i hi => by split <;> simp) (i := 1) (j := 0) (by omega) (by omega) rfl rfl
    subst e1
    subst e2
    have HF := Lib.hid hF; have HF' := Lib.hid hF'; have HZ2 := Lib.hid hz2; have HZ3 := Lib.hid hz3
    clear hF hF' hz2 hz3 ho hc
    go_wp2_with fail
    refine (C1.out _).mono ?_
    rintro e w' ⟨rfl, rfl⟩
    go_wp2_with fail
    refine (C2.out _).mono ?_
    rintro e w' ⟨rfl, rfl⟩
    go_wp2_with fail
    have hI := Ints.two w1 u v
    refine (arc_yes _ 2 2 _ F L' _ hI ⟨by omega, by omega⟩ HZ2.out HF.out).mono ?_
    clear hI
    rintro e w' ⟨rfl, rfl⟩
    go_wp2_with fail
    have hI := Ints.three (w1.alloc (.cells #[.int .i64 u, .int .i64 v] 3)) u v (w1.heap.size + 1) (by simp)
    refine (arc_yes _ 3 3 _ F' L' _ hI ⟨by omega, by omega⟩ HZ3.out HF'.out).mono ?_
    clear hI
    rintro e w' ⟨rfl, rfl⟩
    go_wp2_with fail
    go_ret
    exact ⟨rfl, kept_alloc (kept_alloc hbel _) _⟩
  · have e : o = -1 := by omega
    clear ho hc hg
    subst e
    go_wp2_with fail
    refine (C1.out _).mono ?_
    rintro e w' ⟨rfl, rfl⟩
    go_wp2_with fail
    refine (C2.out _).mono ?_
    rintro e w' ⟨rfl, rfl⟩
    go_wp2_with fail
    go_ret
    exact ⟨rfl, hbel⟩

set_option maxRecDepth 100000 in
theorem lifted (os : Os) (started : os.Started) (H : Type) (enc : TypeId × Value → H) :
    ReturnsInHanded {} Try.checked os 4 .any (Rows.fnPhaseArcPairSpec.pre6 enc Try.prog Try.f4 Rows.fnPhaseArcPairRow.domain false) (Rows.fnPhaseArcPairSpec.post enc Try.prog Try.f4 false true false false) := by
  refine returnsInHanded_of_change (C := Try.checked) own started (by kernel_rfl) Try.func4
    (ChangeSpec.witness6 (enc := enc) (C := Try.checked) false ⟨#[], #[.slice none 0 0], []⟩ 8 (by kernel_rfl) (by kernel_rfl) (by kernel_rfl) (by kernel_rfl)) ?_
  intro W base args ds gs before hval0 hW hcnd _
  have hval : ∀ (j : Nat) t v, Try.f4.params[j]? = some t → args[j]? = some v → Value.okWide Try.prog W .any base t v := hval0
  have hW' := hW
  obtain ⟨p, q, hA0, hV, rfl, hfz, hnd⟩ := hW
  have hA : DataW.TrodAll enc Try.prog W 0 (fun _ => true) true Try.f4.params.toList args.toList ds p := hA0
  rw [Try.params4] at hA hval
  obtain ⟨v0, vs0, d0, ds0, p0, q0, hargs, rfl, rfl, h0, r0⟩ := trodAll_cons hA
  obtain ⟨rfl, rfl, rfl⟩ := trodAll_nil r0
  obtain rfl : args = #[v0] := by cases args; simp_all
  obtain ⟨rfl, rfl⟩ := trodVars_none hV
  obtain ⟨a0, len0, cap0, rfl⟩ := okWide_slice Try.underlying28 (hval 0 28 v0 rfl rfl)
  have k0 := h0
  have lt0 : ∀ x ∈ p0, x.block < W.heap.size := by obtain ⟨m, hm⟩ := k0; exact DataW.trod_lt m _ _ _ hm
  obtain ⟨z0, w0⟩ : ∃ zs, IsRow .u8 W a0 len0 cap0 zs := by
    obtain ⟨fuel, hf⟩ := h0
    rcases open_ints Try.underlying28 Try.underlying5 (by kernel_rfl) hf with ⟨hcs, _⟩ | ⟨x, l, c, zs, hcs, _, hl, hm, hz, _, hcell, hwz⟩
    · simp [Value.cells] at hcs
      obtain ⟨rfl, rfl, rfl⟩ := hcs
      exact ⟨[], .inl ⟨rfl, rfl, rfl, rfl⟩⟩
    · simp [Value.cells] at hcs
      obtain ⟨rfl, rfl, rfl⟩ := hcs
      exact ⟨zs, .inr ⟨_, rfl, hl, hm, by simpa using hz, hcell, hwz⟩⟩
  clear hA0 hval0
  refine (walk a0 len0 cap0 z0 W w0).mono fun e W' ⟨he, bel⟩ => ?_
  subst he
  exact ⟨_, rfl, _, _, _, [], _, [], hW', trodAll_mk1 (shut_bool Try.underlying4 _), (trodAll_cons_mk (Below.trod laidOut (by kernel_rfl) (of_decide_eq_true (by kernel_rfl)) k0 bel lt0) trodAll_mk0), rfl, bel.frame _, fun h => by cases h⟩

theorem over : Rows.fnPhaseArcPairRow.holds Try.pinned (OpenSpec.ofChange Rows.fnPhaseArcPairSpec) :=
  OpenClaim.holds_of_wide 4 Try.f4 rfl rfl rfl rfl rfl rfl rfl ⟨rfl, rfl, rfl, rfl, rfl⟩ rfl rfl rfl rfl rfl (by kernel_rfl) Try.func4 (by kernel_rfl)
    (of_decide_eq_true (by kernel_rfl)) (by unfold Func.isWrapper; first | (rw [if_pos (by decide +kernel)]; kernel_rfl) | (rw [if_neg (by decide +kernel)]; exact ⟨rfl, rfl⟩))
    (fun os started H enc _ => lifted os started H enc)

/-- The statement. -/
theorem proved : Rows.FnPhaseArcPairSaid := over
#print axioms proved
end Go.Proofs.Ytjleofepjfdcbaa.fnPhaseArcPair
