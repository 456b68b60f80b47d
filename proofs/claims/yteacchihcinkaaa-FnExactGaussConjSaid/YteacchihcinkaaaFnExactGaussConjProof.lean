/- Proof that the law FnExactGaussConj returns true for all arguments. -/
import Derived.Test.YteacchihcinkaaaRows
import Derived.WalkKit
import Derived.ProofKit
import Derived.OpenShut
import Derived.ShutString
import Derived.ChangeOld
import Derived.Below
import Derived.Lib.SmallJoins
import Derived.Test.YteacchihcinkaaaGh
import Derived.Deep.DeepCutAuto
namespace Go.Proofs.Yteacchihcinkaaa.fnExactGaussConj
open Go.ChangeShapes Go.WideShapes Go.ChangeAt Go.RowKit Go.Joins
set_option linter.unusedVariables false

theorem own : ownKnob Try.prog.godebug = none := by kernel_rfl
theorem laidOut : laidOutB Try.prog = true := by kernel_rfl
set_option maxHeartbeats 1000000 in
theorem walk (x0 y0 : Int) (w : World) (wx0 : (Lit.int .i64 x0).wf = true) (wy0 : (Lit.int .i64 y0).wf = true) :
    Calls Try.prog 5 #[.agg #[.int .i64 x0, .int .i64 y0]] w fun e w' => e = .returned (.bool true) ∧ Below w.heap.size w w' := by
  go_enter Try.func5, Try.ntmps5
  go_upto_region 1 with fail
  go_cut [3, 4] (fun s5 s6 wx => ∃ g : Nat, s5 = .pointer (some ⟨g, 0, none⟩) ∧ s6 = .bool (conB x0 y0) ∧ wx.cell? ⟨g, 0, none⟩ = some (.int .i64 (conR x0 y0)) ∧ wx.cell? ⟨g, 1, none⟩ = some (.int .i64 (conI x0 y0)) ∧ wx.cell? ⟨w.heap.size, 0, none⟩ = some (.int .i64 x0) ∧ wx.cell? ⟨w.heap.size, 1, none⟩ = some (.int .i64 y0) ∧ Below w.heap.size w wx)
  case first =>
    go_wp2_with (first | (go_at_call 14; refine (toGauss_any _ _ _).mono ?_; rintro e w' ⟨rfl, hb⟩; (first | (have hb1 := kept_trans HB hb; clear HB hb hc hf hz; have HB := hb1; clear hb1) | (have HB := hb; clear hb)); obtain ⟨hc, hf⟩ := bcell HB; have hz := HB.size; try simp at hz) | (go_at_call 13; refine (sGconj_any _ _ _).mono ?_; rintro e w' ⟨rfl, hb⟩; (first | (have hb1 := kept_trans HB hb; clear HB hb hc hf hz; have HB := hb1; clear hb1) | (have HB := hb; clear hb)); obtain ⟨hc, hf⟩ := bcell HB; have hz := HB.size; try simp at hz))
    go_meet
    obtain ⟨k1, k2, k3⟩ := keep1 (w := w) (b0 := w.heap.size) (x0 := .int .i64 x0) (y0 := .int .i64 y0) ⟨by simp, by simp, kept_alloc (kept_refl _) _⟩ (kept_alloc HB _)
    exact ⟨_, rfl, rfl, by simp, by simp, k1, k2, k3⟩
  case rest =>
    obtain ⟨g, rfl, rfl, g0, g1, c0, c1, bel⟩ := hcut
    go_upto_region 2 with fail
    go_cut [5, 6] (fun s7 s8 wx => ∃ k : Nat, s7 = .pointer (some ⟨k, 0, none⟩) ∧ s8 = .bool (conB x0 y0) ∧ wx.cell? ⟨k, 0, none⟩ = some (.int .i64 (conR x0 y0)) ∧ wx.cell? ⟨k, 1, none⟩ = some (.int .i64 (conI x0 y0)) ∧ wx.cell? ⟨g, 0, none⟩ = some (.int .i64 (conR x0 y0)) ∧ wx.cell? ⟨g, 1, none⟩ = some (.int .i64 (conI x0 y0)) ∧ Below w.heap.size w wx)
    case first =>
      have HS := Lib.hid (And.intro g0 (And.intro g1 bel))
      go_wp2_with (first | (go_at_call 14; refine (toGauss_any _ _ _).mono ?_; rintro e w' ⟨rfl, hb⟩; (first | (have hb1 := kept_trans HB hb; clear HB hb hc hf hz; have HB := hb1; clear hb1) | (have HB := hb; clear hb)); obtain ⟨hc, hf⟩ := bcell HB; have hz := HB.size; try simp at hz) | (go_at_call 15; refine (gconj_any _ _ _).mono ?_; rintro e w' ⟨rfl, hb⟩; (first | (have hb1 := kept_trans HB hb; clear HB hb hc hf hz; have HB := hb1; clear hb1) | (have HB := hb; clear hb)); obtain ⟨hc, hf⟩ := bcell HB; have hz := HB.size; try simp at hz))
      go_meet
      obtain ⟨k1, k2, k3⟩ := keep1 HS.out (kept_alloc HB _)
      exact ⟨_, rfl, rfl, by simp, by simp, k1, k2, k3⟩
    case rest =>
      obtain ⟨k, rfl, rfl, k0, k1, e0, e1, bel'⟩ := hcut
      clear g0 g1 c0 c1 bel
      go_wp2_with (first | (go_at_call 12; refine (eqGauss_same _ _ _).mono ?_; rintro e w' ⟨rfl, hb⟩; (first | (have hb1 := kept_trans HB hb; clear HB hb hc hf hz; have HB := hb1; clear hb1) | (have HB := hb; clear hb)); obtain ⟨hc, hf⟩ := bcell HB; have hz := HB.size; try simp at hz))
      go_ret
      exact ⟨rfl, kept_trans bel' HB⟩

set_option maxRecDepth 100000 in
theorem lifted (os : Os) (started : os.Started) (H : Type) (enc : TypeId × Value → H) :
    ReturnsInHanded {} Try.checked os 5 .any (Rows.fnExactGaussConjSpec.pre6 enc Try.prog Try.f5 Rows.fnExactGaussConjRow.domain false) (Rows.fnExactGaussConjSpec.post enc Try.prog Try.f5 false true false false) := by
  refine returnsInHanded_of_change (C := Try.checked) own started (by kernel_rfl) Try.func5
    (ChangeSpec.witness6 (enc := enc) (C := Try.checked) false ⟨#[], #[.agg #[.int .i64 0, .int .i64 0]], []⟩ 8 (by kernel_rfl) (by kernel_rfl) (by kernel_rfl) (by kernel_rfl)) ?_
  intro W base args ds gs before hval0 hW hcnd _
  have hval : ∀ (j : Nat) t v, Try.f5.params[j]? = some t → args[j]? = some v → Value.okWide Try.prog W .any base t v := hval0
  have hW' := hW
  obtain ⟨p, q, hA0, hV, rfl, hfz, hnd⟩ := hW
  have hA : DataW.TrodAll enc Try.prog W 0 (fun _ => true) true Try.f5.params.toList args.toList ds p := hA0
  rw [Try.params5] at hA hval
  obtain ⟨v0, vs0, d0, ds0, p0, q0, hargs, rfl, rfl, h0, r0⟩ := trodAll_cons hA
  obtain ⟨rfl, rfl, rfl⟩ := trodAll_nil r0
  obtain rfl : args = #[v0] := by cases args; simp_all
  obtain ⟨rfl, rfl⟩ := trodVars_none hV
  have k0 := h0
  have lt0 : ∀ x ∈ p0, x.block < W.heap.size := by obtain ⟨m, hm⟩ := k0; exact DataW.trod_lt m _ _ _ hm
  obtain ⟨c0, c0', u0, u0', m0, rfl, rfl, rfl, hu0, hu0'⟩ := open_agg2 Try.underlying28 (by kernel_rfl) (by kernel_rfl) (hval 0 28 v0 rfl rfl) h0
  obtain ⟨x0, e0, rfl, wx0⟩ := DataW.trod_int Try.underlying3 hu0
  obtain ⟨y0, e0', rfl, wy0⟩ := DataW.trod_int Try.underlying3 hu0'
  simp at e0 e0'
  subst e0 e0'
  clear hA0 hval0
  refine (walk x0 y0 W wx0 wy0).mono fun e W' ⟨he, bel⟩ => ?_
  subst he
  exact ⟨_, rfl, _, _, _, [], _, [], hW', trodAll_mk1 (shut_bool Try.underlying4 _), (trodAll_cons_mk (Below.trod laidOut (by kernel_rfl) (of_decide_eq_true (by kernel_rfl)) k0 bel lt0) trodAll_mk0), rfl, bel.frame _, fun h => by cases h⟩

theorem over : Rows.fnExactGaussConjRow.holds Try.pinned (OpenSpec.ofChange Rows.fnExactGaussConjSpec) :=
  OpenClaim.holds_of_wide 5 Try.f5 rfl rfl rfl rfl rfl rfl rfl ⟨rfl, rfl, rfl, rfl, rfl⟩ rfl rfl rfl rfl rfl (by kernel_rfl) Try.func5 (by kernel_rfl)
    (of_decide_eq_true (by kernel_rfl)) (by unfold Func.isWrapper; first | (rw [if_pos (by decide +kernel)]; kernel_rfl) | (rw [if_neg (by decide +kernel)]; exact ⟨rfl, rfl⟩))
    (fun os started H enc _ => lifted os started H enc)

/-- The statement. -/
theorem proved : Rows.FnExactGaussConjSaid := over
#print axioms proved
end Go.Proofs.Yteacchihcinkaaa.fnExactGaussConj
