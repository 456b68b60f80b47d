/- Proof that the law FnExactGaussUnit returns true for all arguments. -/
import Derived.Test.YteacchihcinkaaaRows
import Derived.WalkKit
import Derived.ProofKit
import Derived.OpenShut
import Derived.ShutString
import Derived.ChangeOld
import Derived.Below
import Derived.Test.YteacchihcinkaaaGh
import Derived.Test.YteacchihcinkaaaGu
import Derived.Deep.DeepCutAuto
namespace Go.Proofs.Yteacchihcinkaaa.fnExactGaussUnit
open Go.ChangeShapes Go.WideShapes Go.ChangeAt Go.RowKit
set_option linter.unusedVariables false

theorem own : ownKnob Try.prog.godebug = none := by kernel_rfl
theorem laidOut : laidOutB Try.prog = true := by kernel_rfl
set_option maxHeartbeats 1000000 in
theorem walk (a0 : Int) (w : World) (w0 : (Lit.int .i64 a0).wf = true) :
    Calls Try.prog 4 #[.int .i64 a0] w fun e w' => e = .returned (.bool true) ∧ Below w.heap.size w w' := by
  go_enter Try.func4, Try.ntmps4
  go_upto_region 1 with fail
  go_cut [3] (fun s5 wx => ∃ g : Nat, s5 = .pointer (some ⟨g, 0, none⟩) ∧ wx.cell? ⟨g, 0, none⟩ = some (.int .i64 (uR a0)) ∧ wx.cell? ⟨g, 1, none⟩ = some (.int .i64 (uI a0)) ∧ Below w.heap.size w wx)
  case first =>
    go_wp2_with (first | (go_at_call 10; refine (sUnit_any _ _).mono ?_; rintro e w' ⟨rfl, hb⟩; (first | (have hb1 := kept_trans HB hb; clear HB hb hc hf hz; have HB := hb1; clear hb1) | (have HB := hb; clear hb)); obtain ⟨hc, hf⟩ := bcell HB; have hz := HB.size; try simp at hz))
    go_meet
    exact ⟨_, rfl, by simp, by simp, kept_alloc HB _⟩
  case rest =>
    obtain ⟨g, rfl, g0, g1, bel⟩ := hcut
    go_upto_region 2 with fail
    go_cut [4] (fun s7 wx => ∃ k : Nat, s7 = .pointer (some ⟨k, 0, none⟩) ∧ wx.cell? ⟨k, 0, none⟩ = some (.int .i64 (uR a0)) ∧ wx.cell? ⟨k, 1, none⟩ = some (.int .i64 (uI a0)) ∧ wx.cell? ⟨g, 0, none⟩ = some (.int .i64 (uR a0)) ∧ wx.cell? ⟨g, 1, none⟩ = some (.int .i64 (uI a0)) ∧ Below w.heap.size w wx)
    case first =>
      have HS := Lib.hid (And.intro g0 (And.intro g1 bel))
      go_wp2_with (first | (go_at_call 11; refine (unit_any _ _).mono ?_; rintro e w' ⟨rfl, hb⟩; (first | (have hb1 := kept_trans HB hb; clear HB hb hc hf hz; have HB := hb1; clear hb1) | (have HB := hb; clear hb)); obtain ⟨hc, hf⟩ := bcell HB; have hz := HB.size; try simp at hz))
      go_meet
      obtain ⟨k1, k2, k3⟩ := keep1 HS.out (kept_alloc HB _)
      exact ⟨_, rfl, by simp, by simp, k1, k2, k3⟩
    case rest =>
      obtain ⟨k, rfl, k0, k1, e0, e1, bel'⟩ := hcut
      clear g0 g1 bel
      go_wp2_with (first | (go_at_call 12; refine (eqGauss_same _ _ _).mono ?_; rintro e w' ⟨rfl, hb⟩; (first | (have hb1 := kept_trans HB hb; clear HB hb hc hf hz; have HB := hb1; clear hb1) | (have HB := hb; clear hb)); obtain ⟨hc, hf⟩ := bcell HB; have hz := HB.size; try simp at hz))
      go_ret
      exact ⟨rfl, kept_trans bel' HB⟩

set_option maxRecDepth 100000 in
theorem lifted (os : Os) (started : os.Started) (H : Type) (enc : TypeId × Value → H) :
    ReturnsInHanded {} Try.checked os 4 .any (Rows.fnExactGaussUnitSpec.pre6 enc Try.prog Try.f4 Rows.fnExactGaussUnitRow.domain false) (Rows.fnExactGaussUnitSpec.post enc Try.prog Try.f4 false true false false) := by
  refine returnsInHanded_of_change (C := Try.checked) own started (by kernel_rfl) Try.func4
    (ChangeSpec.witness6 (enc := enc) (C := Try.checked) false ⟨#[], #[.int .i64 0], []⟩ 8 (by kernel_rfl) (by kernel_rfl) (by kernel_rfl) (by kernel_rfl)) ?_
  intro W base args ds gs before hval0 hW hcnd _
  have hval : ∀ (j : Nat) t v, Try.f4.params[j]? = some t → args[j]? = some v → Value.okWide Try.prog W .any base t v := hval0
  have hW' := hW
  obtain ⟨p, q, hA0, hV, rfl, hfz, hnd⟩ := hW
  have hA : DataW.TrodAll enc Try.prog W 0 (fun _ => true) true Try.f4.params.toList args.toList ds p := hA0
  rw [Try.params4] at hA hval
  obtain ⟨v0, vs0, d0, ds0, p0, q0, hargs, rfl, rfl, h0, r0⟩ := trodAll_cons hA
  obtain ⟨rfl, rfl, rfl⟩ := trodAll_nil r0
  obtain rfl : args = #[v0] := by cases args; simp_all
  obtain ⟨rfl, rfl⟩ := trodVars_none hV
  obtain ⟨a0, rfl, rfl, rfl, w0⟩ := open_int Try.underlying3 (hval 0 3 v0 rfl rfl) h0
  clear hA0 hval0
  refine (walk a0 W w0).mono fun e W' ⟨he, bel⟩ => ?_
  subst he
  exact ⟨_, rfl, _, _, _, [], _, [], hW', trodAll_mk1 (shut_bool Try.underlying4 _), (trodAll_cons_mk (shut_int Try.underlying3 w0) trodAll_mk0), rfl, bel.frame _, fun h => by cases h⟩

theorem over : Rows.fnExactGaussUnitRow.holds Try.pinned (OpenSpec.ofChange Rows.fnExactGaussUnitSpec) :=
  OpenClaim.holds_of_wide 4 Try.f4 rfl rfl rfl rfl rfl rfl rfl ⟨rfl, rfl, rfl, rfl, rfl⟩ rfl rfl rfl rfl rfl (by kernel_rfl) Try.func4 (by kernel_rfl)
    (of_decide_eq_true (by kernel_rfl)) (by unfold Func.isWrapper; first | (rw [if_pos (by decide +kernel)]; kernel_rfl) | (rw [if_neg (by decide +kernel)]; exact ⟨rfl, rfl⟩))
    (fun os started H enc _ => lifted os started H enc)

/-- The statement. -/
theorem proved : Rows.FnExactGaussUnitSaid := over
#print axioms proved
end Go.Proofs.Yteacchihcinkaaa.fnExactGaussUnit
