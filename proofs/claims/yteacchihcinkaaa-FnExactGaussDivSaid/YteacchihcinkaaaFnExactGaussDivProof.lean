/- Proof that the law FnExactGaussDiv returns true for all arguments. -/
import Derived.Test.YteacchihcinkaaaRows
import Derived.WalkKit
import Derived.ProofKit
import Derived.OpenShut
import Derived.ShutString
import Derived.ChangeOld
import Derived.Below
import Derived.Lib.SmallJoins
import Derived.Test.YteacchihcinkaaaGw
import Derived.Deep.RegionHeld3
import Derived.Deep.DeepCutAuto
namespace Go.Proofs.Yteacchihcinkaaa.fnExactGaussDiv
open Go.ChangeShapes Go.WideShapes Go.ChangeAt Go.RowKit Go.Joins
set_option linter.unusedVariables false

theorem own : ownKnob Try.prog.godebug = none := by kernel_rfl
theorem laidOut : laidOutB Try.prog = true := by kernel_rfl
set_option maxHeartbeats 2000000 in
theorem walk (x0 y0 : Int) (x1 y1 : Int) (w : World) (wx0 : (Lit.int .i64 x0).wf = true) (wy0 : (Lit.int .i64 y0).wf = true) (wx1 : (Lit.int .i64 x1).wf = true) (wy1 : (Lit.int .i64 y1).wf = true) :
    Calls Try.prog 9 #[.agg #[.int .i64 x0, .int .i64 y0], .agg #[.int .i64 x1, .int .i64 y1]] w fun e w' => e = .returned (.bool true) ∧ Below w.heap.size w w' := by
  go_enter Try.func9, Try.ntmps9
  go_upto_region 1 with fail
  go_cut [5, 6] (fun s5 s6 wx => ∃ g : Nat, s5 = .pointer (some ⟨g, 0, none⟩) ∧ s6 = .bool (divB x0 y0 x1 y1) ∧ wx.cell? ⟨g, 0, none⟩ = some (.int .i64 (divR x0 y0 x1 y1)) ∧ wx.cell? ⟨g, 1, none⟩ = some (.int .i64 (divI x0 y0 x1 y1)) ∧ wx.cell? ⟨w.heap.size, 0, none⟩ = some (.int .i64 x0) ∧ wx.cell? ⟨w.heap.size, 1, none⟩ = some (.int .i64 y0) ∧ wx.cell? ⟨w.heap.size + 1, 0, none⟩ = some (.int .i64 x1) ∧ wx.cell? ⟨w.heap.size + 1, 1, none⟩ = some (.int .i64 y1) ∧ Below w.heap.size w wx)
  case first =>
    go_region_held3 (fun w' => w'.cell? ⟨w.heap.size, 0, none⟩ = some (.int .i64 x0) ∧ w'.cell? ⟨w.heap.size, 1, none⟩ = some (.int .i64 y0) ∧ w'.cell? ⟨w.heap.size + 1, 0, none⟩ = some (.int .i64 x1) ∧ w'.cell? ⟨w.heap.size + 1, 1, none⟩ = some (.int .i64 y1) ∧ Below w.heap.size w w') (first | assumption | (refine keep2 (begin2 w _ _ _ _ 28 28) ?_; (repeat (first | exact kept_refl _ | refine Below.drew ?_ | refine kept_alloc ?_ _ | refine kept_trans ?_ HB | (refine Below.setCell ?_ ?_ _; rotate_left; (focus (simp <;> omega))))); done)) (first | (go_at_call 14; refine (toGauss_ex _ _ _).mono ?_; rintro e w' ⟨rfl, rfl⟩) | (go_at_call 22; refine (sDiv_any _ _ _ _ _).mono ?_; rintro e w' ⟨rfl, HB⟩; obtain ⟨hc, hf⟩ := bcell HB; have q := HB.size; simp at q))
    all_goals (go_wp2_with fail; go_meet)
    all_goals refine ⟨_, rfl, rfl, ?_, ?_, ?_⟩
    all_goals first | assumption | (refine (set_two (u := .int .i64 0) (v := .int .i64 0) hc ?_ ?_ ?_).1 <;> first | (simp (maxDischargeDepth := 12) [go_sem]; done) | (simp; omega)) | (refine (set_two (u := .int .i64 0) (v := .int .i64 0) hc ?_ ?_ ?_).2 <;> first | (simp (maxDischargeDepth := 12) [go_sem]; done) | (simp; omega)) | (simp (maxDischargeDepth := 9); done)
  case rest =>
    obtain ⟨g, rfl, rfl, g0, g1, c0, c1, c2, c3, bel⟩ := hcut
    have HS := Lib.hid (And.intro g0 (And.intro g1 (And.intro c0 (And.intro c1 (And.intro c2 (And.intro c3 bel))))))
    go_upto_region 2 with fail
    go_cut [7, 8] (fun s7 s8 wx => ∃ k : Nat, s7 = .pointer (some ⟨k, 0, none⟩) ∧ s8 = .bool (divB x0 y0 x1 y1) ∧ wx.cell? ⟨k, 0, none⟩ = some (.int .i64 (divR x0 y0 x1 y1)) ∧ wx.cell? ⟨k, 1, none⟩ = some (.int .i64 (divI x0 y0 x1 y1)) ∧ wx.cell? ⟨g, 0, none⟩ = some (.int .i64 (divR x0 y0 x1 y1)) ∧ wx.cell? ⟨g, 1, none⟩ = some (.int .i64 (divI x0 y0 x1 y1)) ∧ wx.cell? ⟨w.heap.size, 0, none⟩ = some (.int .i64 x0) ∧ wx.cell? ⟨w.heap.size, 1, none⟩ = some (.int .i64 y0) ∧ wx.cell? ⟨w.heap.size + 1, 0, none⟩ = some (.int .i64 x1) ∧ wx.cell? ⟨w.heap.size + 1, 1, none⟩ = some (.int .i64 y1) ∧ Below w.heap.size w wx)
    case first =>
      go_region_held3 (fun wx => wx.cell? ⟨g, 0, none⟩ = some (.int .i64 (divR x0 y0 x1 y1)) ∧ wx.cell? ⟨g, 1, none⟩ = some (.int .i64 (divI x0 y0 x1 y1)) ∧ wx.cell? ⟨w.heap.size, 0, none⟩ = some (.int .i64 x0) ∧ wx.cell? ⟨w.heap.size, 1, none⟩ = some (.int .i64 y0) ∧ wx.cell? ⟨w.heap.size + 1, 0, none⟩ = some (.int .i64 x1) ∧ wx.cell? ⟨w.heap.size + 1, 1, none⟩ = some (.int .i64 y1) ∧ Below w.heap.size w wx) (first | assumption | (refine keep3 HS.out ?_; (repeat (first | exact kept_refl _ | refine Below.drew ?_ | refine kept_alloc ?_ _ | refine kept_trans ?_ HB | (refine Below.setCell ?_ ?_ _; rotate_left; (focus (simp <;> omega))))); done)) (first | (go_at_call 14; refine (toGauss_ex _ _ _).mono ?_; rintro e w' ⟨rfl, rfl⟩) | (go_at_call 23; refine (div_any _ _ _ _ _).mono ?_; rintro e w' ⟨rfl, HB⟩; obtain ⟨hc, hf⟩ := bcell HB; have q := HB.size; simp at q))
      all_goals (go_wp2_with fail; go_meet)
      all_goals refine ⟨_, rfl, rfl, ?_, ?_, ?_⟩
      all_goals first | assumption | (refine (set_two (u := .int .i64 0) (v := .int .i64 0) hc ?_ ?_ ?_).1 <;> first | (simp (maxDischargeDepth := 12) [go_sem]; done) | (simp; omega)) | (refine (set_two (u := .int .i64 0) (v := .int .i64 0) hc ?_ ?_ ?_).2 <;> first | (simp (maxDischargeDepth := 12) [go_sem]; done) | (simp; omega)) | (simp (maxDischargeDepth := 9); done)
    case rest =>
      obtain ⟨k, rfl, rfl, k0, k1, e0, e1, _, _, _, _, bel'⟩ := hcut
      clear HS g0 g1 c0 c1 c2 c3 bel
      have HB := bel'
      go_wp2_with (first | (go_at_call 12; refine (eqGauss_same _ _ _).mono ?_; rintro e w' ⟨rfl, hb⟩; (first | (have hb1 := kept_trans HB hb; clear HB hb hc hf hz; have HB := hb1; clear hb1) | (have HB := hb; clear hb)); obtain ⟨hc, hf⟩ := bcell HB; have hz := HB.size; try simp at hz))
      go_ret
      exact ⟨rfl, kept_trans bel' (by assumption)⟩

set_option maxRecDepth 100000 in
theorem lifted (os : Os) (started : os.Started) (H : Type) (enc : TypeId × Value → H) :
    ReturnsInHanded {} Try.checked os 9 .any (Rows.fnExactGaussDivSpec.pre6 enc Try.prog Try.f9 Rows.fnExactGaussDivRow.domain false) (Rows.fnExactGaussDivSpec.post enc Try.prog Try.f9 false true false false) := by
  refine returnsInHanded_of_change (C := Try.checked) own started (by kernel_rfl) Try.func9
    (ChangeSpec.witness6 (enc := enc) (C := Try.checked) false ⟨#[], #[.agg #[.int .i64 0, .int .i64 0], .agg #[.int .i64 0, .int .i64 0]], []⟩ 8 (by kernel_rfl) (by kernel_rfl) (by kernel_rfl) (by kernel_rfl)) ?_
  intro W base args ds gs before hval0 hW hcnd _
  have hval : ∀ (j : Nat) t v, Try.f9.params[j]? = some t → args[j]? = some v → Value.okWide Try.prog W .any base t v := hval0
  have hW' := hW
  obtain ⟨p, q, hA0, hV, rfl, hfz, hnd⟩ := hW
  have hA : DataW.TrodAll enc Try.prog W 0 (fun _ => true) true Try.f9.params.toList args.toList ds p := hA0
  rw [Try.params9] at hA hval
  obtain ⟨v0, vs0, d0, ds0, p0, q0, hargs, rfl, rfl, h0, r0⟩ := trodAll_cons hA
  obtain ⟨v1, vs1, d1, ds1, p1, q1, rfl, rfl, rfl, h1, r1⟩ := trodAll_cons r0
  obtain ⟨rfl, rfl, rfl⟩ := trodAll_nil r1
  obtain rfl : args = #[v0, v1] := by cases args; simp_all
  obtain ⟨rfl, rfl⟩ := trodVars_none hV
  have k0 := h0
  have lt0 : ∀ x ∈ p0, x.block < W.heap.size := by obtain ⟨m, hm⟩ := k0; exact DataW.trod_lt m _ _ _ hm
  obtain ⟨c0, c0', u0, u0', m0, rfl, rfl, rfl, hu0, hu0'⟩ := open_agg2 Try.underlying28 (by kernel_rfl) (by kernel_rfl) (hval 0 28 v0 rfl rfl) h0
  obtain ⟨x0, e0, rfl, wx0⟩ := DataW.trod_int Try.underlying3 hu0
  obtain ⟨y0, e0', rfl, wy0⟩ := DataW.trod_int Try.underlying3 hu0'
  simp at e0 e0'
  subst e0 e0'
  have k1 := h1
  have lt1 : ∀ x ∈ p1, x.block < W.heap.size := by obtain ⟨m, hm⟩ := k1; exact DataW.trod_lt m _ _ _ hm
  obtain ⟨c1, c1', u1, u1', m1, rfl, rfl, rfl, hu1, hu1'⟩ := open_agg2 Try.underlying28 (by kernel_rfl) (by kernel_rfl) (hval 1 28 v1 rfl rfl) h1
  obtain ⟨x1, e1, rfl, wx1⟩ := DataW.trod_int Try.underlying3 hu1
  obtain ⟨y1, e1', rfl, wy1⟩ := DataW.trod_int Try.underlying3 hu1'
  simp at e1 e1'
  subst e1 e1'
  clear hA0 hval0
  refine (walk x0 y0 x1 y1 W wx0 wy0 wx1 wy1).mono fun e W' ⟨he, bel⟩ => ?_
  subst he
  exact ⟨_, rfl, _, _, _, [], _, [], hW', trodAll_mk1 (shut_bool Try.underlying4 _), (trodAll_cons_mk (Below.trod laidOut (by kernel_rfl) (of_decide_eq_true (by kernel_rfl)) k0 bel lt0) (trodAll_cons_mk (Below.trod laidOut (by kernel_rfl) (of_decide_eq_true (by kernel_rfl)) k1 bel lt1) trodAll_mk0)), rfl, bel.frame _, fun h => by cases h⟩

theorem over : Rows.fnExactGaussDivRow.holds Try.pinned (OpenSpec.ofChange Rows.fnExactGaussDivSpec) :=
  OpenClaim.holds_of_wide 9 Try.f9 rfl rfl rfl rfl rfl rfl rfl ⟨rfl, rfl, rfl, rfl, rfl⟩ rfl rfl rfl rfl rfl (by kernel_rfl) Try.func9 (by kernel_rfl)
    (of_decide_eq_true (by kernel_rfl)) (by unfold Func.isWrapper; first | (rw [if_pos (by decide +kernel)]; kernel_rfl) | (rw [if_neg (by decide +kernel)]; exact ⟨rfl, rfl⟩))
    (fun os started H enc _ => lifted os started H enc)

/-- The statement. -/
theorem proved : Rows.FnExactGaussDivSaid := over
#print axioms proved
end Go.Proofs.Yteacchihcinkaaa.fnExactGaussDiv
