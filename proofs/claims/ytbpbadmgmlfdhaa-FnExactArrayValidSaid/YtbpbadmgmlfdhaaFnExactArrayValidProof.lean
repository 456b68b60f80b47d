/- Proof that the law FnExactArrayValid returns true for all arguments. -/
import Derived.Test.YtbpbadmgmlfdhaaRows
import Derived.WalkKit
import Derived.ProofKit
import Derived.OpenShut
import Derived.ShutString
import Derived.ChangeOld
import Derived.Below
import Derived.Deep.Slices
import Derived.Deep.Fields
import Derived.ChangeSame
import Derived.Test.YtbpbadmgmlfdhaaAq
namespace Go.Proofs.Ytbpbadmgmlfdhaa.fnExactArrayValid
open Go.ChangeShapes Go.WideShapes Go.ChangeAt Go.RowKit Go.Deep
set_option linter.unusedVariables false

theorem own : ownKnob Try.prog.godebug = none := by kernel_rfl
theorem laidOut : laidOutB Try.prog = true := by kernel_rfl
set_option maxHeartbeats 1000000 in
theorem walk (a0 : Option Addr) (len0 cap0 : Nat) (z0 : Nat → Int × Int) (w : World) (w0 : IsPairs w a0 len0 cap0 z0) :
    Calls Try.prog 3 #[.slice a0 len0 cap0] w fun e w' => e = .returned (.bool true) ∧ Below w.heap.size w w' := by
  obtain ⟨hA, hlc, hcm⟩ := w0.ants
  have HI := Lib.hid hA
  clear hA w0
  have hm63 : len0 ≤ 9223372036854775807 := by unfold maxLen at hcm; omega
  by_cases hl : 1048576 < len0
  · go_enter Try.func3, Try.ntmps3
    go_wp2_with (go_at_call 7; refine (szAntS_any _ _ _ _ (by omega)).mono ?_; rintro e w' ⟨rfl, rfl⟩; rw [if_neg (by omega)])
    go_ret
    exact ⟨rfl, Below.refl _ _⟩
  by_cases hg : Arr (fun i => (z0 i).1) (fun i => (z0 i).2) len0
  · have HG := Lib.hid hg
    clear hg
    go_enter Try.func3, Try.ntmps3
    go_wp2_with (go_at_call 7; refine (szAntS_any _ _ _ _ (by omega)).mono ?_; rintro e w' ⟨rfl, rfl⟩; rw [if_pos (by omega)])
    refine (toAntS_any a0 len0 cap0 _ _ w HI.out (by omega)).mono ?_
    rintro e w1 ⟨B1, rfl, hB1, hi1, hb1⟩
    have I1 := Lib.hid hi1; clear hi1
    go_wp2_with fail
    refine (sArr_yes _ len0 len0 _ _ w1 I1.out HG.out).mono ?_
    rintro e w2 ⟨rfl, hb2⟩
    have K2 := Lib.hid (kept_trans hb1 hb2)
    clear I1 hb1 hb2
    go_wp2_with fail
    refine (toAntS_any a0 len0 cap0 _ _ w2 (HI.out.keep K2.out) (by omega)).mono ?_
    rintro e w3 ⟨B2, rfl, hB2, hi2, hb3⟩
    have I2 := Lib.hid hi2; clear hi2
    have K3 := Lib.hid (kept_trans K2.out hb3)
    clear hb3
    go_wp2_with fail
    refine (arr_yes _ len0 len0 _ _ w3 I2.out (Nat.le_refl _) (by unfold maxLen; omega) HG.out).mono ?_
    rintro e w4 ⟨rfl, hb4⟩
    have I3 := Lib.hid (I2.out.keep hb4)
    have K4 := Lib.hid (kept_trans K3.out hb4)
    clear hb4 I2
    go_wp2_with fail
    refine (toAntS_any a0 len0 cap0 _ _ w4 (HI.out.keep K4.out) (by omega)).mono ?_
    rintro e w5 ⟨B3, rfl, hB3, hi3, hb5⟩
    have I5 := Lib.hid hi3; clear hi3
    have K5 := Lib.hid (kept_trans K4.out hb5)
    have I4 := Lib.hid (I3.out.keep hb5)
    clear hb5
    go_wp2_with fail
    refine (eqAntS_same _ _ len0 len0 len0 _ _ w5 I4.out I5.out (by omega)).mono ?_
    rintro e w6 ⟨rfl, hb6⟩
    have K6 := Lib.hid (kept_trans K5.out hb6)
    clear hb6
    go_wp2_with fail
    go_ret
    exact ⟨rfl, K6.out⟩
  · have HG := Lib.hid hg
    clear hg
    go_enter Try.func3, Try.ntmps3
    go_wp2_with (go_at_call 7; refine (szAntS_any _ _ _ _ (by omega)).mono ?_; rintro e w' ⟨rfl, rfl⟩; rw [if_pos (by omega)])
    refine (toAntS_any a0 len0 cap0 _ _ w HI.out (by omega)).mono ?_
    rintro e w1 ⟨B1, rfl, hB1, hi1, hb1⟩
    have I1 := Lib.hid hi1; clear hi1
    go_wp2_with fail
    refine (sArr_no _ len0 len0 _ _ w1 I1.out (by omega) HG.out).mono ?_
    rintro e w2 ⟨rfl, hb2⟩
    have K2 := Lib.hid (kept_trans hb1 hb2)
    clear I1 hb1 hb2
    go_wp2_with fail
    refine (toAntS_any a0 len0 cap0 _ _ w2 (HI.out.keep K2.out) (by omega)).mono ?_
    rintro e w3 ⟨B2, rfl, hB2, hi2, hb3⟩
    have I2 := Lib.hid hi2; clear hi2
    have K3 := Lib.hid (kept_trans K2.out hb3)
    clear hb3
    go_wp2_with fail
    refine (arr_no _ len0 len0 _ _ w3 I2.out (Nat.le_refl _) (by unfold maxLen; omega) HG.out).mono ?_
    rintro e w4 ⟨rfl, hb4⟩
    have I3 := Lib.hid (I2.out.keep hb4)
    have K4 := Lib.hid (kept_trans K3.out hb4)
    clear hb4 I2
    go_wp2_with fail
    refine (toAntS_any a0 len0 cap0 _ _ w4 (HI.out.keep K4.out) (by omega)).mono ?_
    rintro e w5 ⟨B3, rfl, hB3, hi3, hb5⟩
    have I5 := Lib.hid hi3; clear hi3
    have K5 := Lib.hid (kept_trans K4.out hb5)
    have I4 := Lib.hid (I3.out.keep hb5)
    clear hb5
    go_wp2_with fail
    refine (eqAntS_same _ _ len0 len0 len0 _ _ w5 I4.out I5.out (by omega)).mono ?_
    rintro e w6 ⟨rfl, hb6⟩
    have K6 := Lib.hid (kept_trans K5.out hb6)
    clear hb6
    go_wp2_with fail
    go_ret
    exact ⟨rfl, K6.out⟩

set_option maxRecDepth 100000 in
theorem lifted (os : Os) (started : os.Started) (H : Type) (enc : TypeId × Value → H) :
    ReturnsInHanded {} Try.checked os 3 .any (Rows.fnExactArrayValidSpec.pre6 enc Try.prog Try.f3 Rows.fnExactArrayValidRow.domain false) (Rows.fnExactArrayValidSpec.post enc Try.prog Try.f3 false true false false) := by
  refine returnsInHanded_of_change (C := Try.checked) own started (by kernel_rfl) Try.func3
    (ChangeSpec.witness6 (enc := enc) (C := Try.checked) false ⟨#[], #[.slice none 0 0], []⟩ 8 (by kernel_rfl) (by kernel_rfl) (by kernel_rfl) (by kernel_rfl)) ?_
  intro W base args ds gs before hval0 hW hcnd _
  have hval : ∀ (j : Nat) t v, Try.f3.params[j]? = some t → args[j]? = some v → Value.okWide Try.prog W .any base t v := hval0
  have hW' := hW
  obtain ⟨p, q, hA0, hV, rfl, hfz, hnd⟩ := hW
  have hA : DataW.TrodAll enc Try.prog W 0 (fun _ => true) true Try.f3.params.toList args.toList ds p := hA0
  rw [Try.params3] at hA hval
  obtain ⟨v0, vs0, d0, ds0, p0, q0, hargs, rfl, rfl, h0, r0⟩ := trodAll_cons hA
  obtain ⟨rfl, rfl, rfl⟩ := trodAll_nil r0
  obtain rfl : args = #[v0] := by cases args; simp_all
  obtain ⟨rfl, rfl⟩ := trodVars_none hV
  obtain ⟨a0, len0, cap0, rfl⟩ := okWide_slice Try.underlying22 (hval 0 22 v0 rfl rfl)
  have k0 := h0
  have lt0 : ∀ x ∈ p0, x.block < W.heap.size := by obtain ⟨m, hm⟩ := k0; exact DataW.trod_lt m _ _ _ hm
  obtain ⟨z0, w0⟩ : ∃ zs, IsPairs W a0 len0 cap0 zs := by
    obtain ⟨fuel, hf⟩ := h0
    exact pairs_open Try.underlying22 Try.underlying42 (by kernel_rfl) rfl rfl (by kernel_rfl) (by kernel_rfl) Try.underlying3 Try.underlying3 hf (by simp [Value.cells])
  clear hA0 hval0
  refine (walk a0 len0 cap0 z0 W w0).mono fun e W' ⟨he, bel⟩ => ?_
  subst he
  exact ⟨_, rfl, _, _, _, [], _, [], hW', trodAll_mk1 (shut_bool Try.underlying4 _), (trodAll_cons_mk (Below.trod laidOut (by kernel_rfl) (of_decide_eq_true (by kernel_rfl)) k0 bel lt0) trodAll_mk0), rfl, bel.frame _, fun h => by cases h⟩

theorem over : Rows.fnExactArrayValidRow.holds Try.pinned (OpenSpec.ofChange Rows.fnExactArrayValidSpec) :=
  OpenClaim.holds_of_wide 3 Try.f3 rfl rfl rfl rfl rfl rfl rfl ⟨rfl, rfl, rfl, rfl, rfl⟩ rfl rfl rfl rfl rfl (by kernel_rfl) Try.func3 (by kernel_rfl)
    (of_decide_eq_true (by kernel_rfl)) (by unfold Func.isWrapper; first | (rw [if_pos (by decide +kernel)]; kernel_rfl) | (rw [if_neg (by decide +kernel)]; exact ⟨rfl, rfl⟩))
    (fun os started H enc _ => lifted os started H enc)

/-- The statement. -/
theorem proved : Rows.FnExactArrayValidSaid := over
#print axioms proved
end Go.Proofs.Ytbpbadmgmlfdhaa.fnExactArrayValid
