/- Proof that the law FnExactBaseVector returns true for all arguments. -/
import Derived.Test.YtbpbadmgmlfdhaaRows
import Derived.WalkKit
import Derived.ProofKit
import Derived.OpenShut
import Derived.ShutString
import Derived.ChangeOld
import Derived.Below
import Derived.Deep.Slices
import Derived.Deep.Fields
import Derived.ChangeSame
import Derived.Test.YtbpbadmgmlfdhaaAq
import Derived.Test.YtbpbadmgmlfdhaaBw
namespace Go.Proofs.Ytbpbadmgmlfdhaa.fnExactBaseVector
open Go.ChangeShapes Go.WideShapes Go.ChangeAt Go.RowKit Go.Deep
set_option linter.unusedVariables false

theorem own : ownKnob Try.prog.godebug = none := by kernel_rfl
theorem laidOut : laidOutB Try.prog = true := by kernel_rfl
set_option maxHeartbeats 2000000 in
theorem walk (a0 : Option Addr) (len0 cap0 : Nat) (z0 : Nat → Int × Int) (a1 : Int) (a2 : Int) (w : World) (w0 : IsPairs w a0 len0 cap0 z0) (w1 : (Lit.int .i64 a1).wf = true) (w2 : (Lit.int .i64 a2).wf = true) :
    Calls Try.prog 4 #[.slice a0 len0 cap0, .int .i64 a1, .int .i64 a2] w fun e w' => e = .returned (.bool true) ∧ Below w.heap.size w w' := by
  obtain ⟨hA, hlc, hcm⟩ := w0.ants
  have HI := Lib.hid hA
  clear hA w0
  have hm63 : len0 ≤ 9223372036854775807 := by unfold maxLen at hcm; omega
  by_cases hl : 1048576 < len0
  · go_enter Try.func4, Try.ntmps4
    go_wp2_with (go_at_call 7; refine (szAntS_any _ _ _ _ (by omega)).mono ?_; rintro e w' ⟨rfl, rfl⟩; rw [if_neg (by omega)])
    go_ret
    exact ⟨rfl, Below.refl _ _⟩
  by_cases hg : Arr (fun i => (z0 i).1) (fun i => (z0 i).2) len0 ∧ (0 ≤ a1 ∧ a1 < len0) ∧ (0 ≤ a2 ∧ a2 < len0)
  · obtain ⟨hg, ⟨i0, i1⟩, ⟨j0, j1⟩⟩ := hg
    have HG := Lib.hid hg
    clear hg
    obtain ⟨i, rfl⟩ : ∃ i : Nat, a1 = (i : Int) := ⟨a1.toNat, by omega⟩
    obtain ⟨j, rfl⟩ : ∃ j : Nat, a2 = (j : Int) := ⟨a2.toNat, by omega⟩
    obtain ⟨p, hp⟩ : ∃ p : Int, p = (z0 j).1 - (z0 i).1 := ⟨_, rfl⟩
    obtain ⟨q, hq⟩ : ∃ q : Int, q = (z0 j).2 - (z0 i).2 := ⟨_, rfl⟩
    have C1 : Hid (∀ (b : Option Addr) (w : World), Ants w b len0 (fun i => (z0 i).1) (fun i => (z0 i).2) → Calls Try.prog 12 #[.slice b len0 len0, .int .i64 i, .int .i64 j] w fun e w' => e = .returned (.tuple #[.agg #[.int .i64 p, .int .i64 q], .bool true]) ∧ Below w.heap.size w w') := Lib.hid fun b w h => by
      rw [hp, hq]; exact sBv_yes b len0 len0 _ _ i j w h (Nat.le_refl _) (by unfold maxLen; omega) HG.out (by omega) (by omega)
    have C2 : Hid (∀ (b : Option Addr) (w : World), Ants w b len0 (fun i => (z0 i).1) (fun i => (z0 i).2) → Calls Try.prog 13 #[.slice b len0 len0, .int .i64 i, .int .i64 j] w fun e w' => e = .returned (.tuple #[.agg #[.int .i64 p, .int .i64 q], .bool true]) ∧ Below w.heap.size w w') := Lib.hid fun b w h => by
      rw [hp, hq]; exact bv_yes b len0 len0 _ _ i j w h (Nat.le_refl _) (by unfold maxLen; omega) HG.out (by omega) (by omega)
    clear hp hq
    go_enter Try.func4, Try.ntmps4
    go_wp2_with (go_at_call 7; refine (szAntS_any _ _ _ _ (by omega)).mono ?_; rintro e w' ⟨rfl, rfl⟩; rw [if_pos (by omega)])
    refine (toAntS_any a0 len0 cap0 _ _ w HI.out (by omega)).mono ?_
    rintro e w1 ⟨B1, rfl, hB1, hi1, hb1⟩
    have I1 := Lib.hid hi1; clear hi1
    go_wp2_with fail
    refine (C1.out _ w1 I1.out).mono ?_
    rintro e w2 ⟨rfl, hb2⟩
    have K2 := Lib.hid (kept_alloc (kept_trans hb1 hb2) (.cells #[.int .i64 p, .int .i64 q] 30))
    clear I1 hb1 hb2
    go_wp2_with fail
    refine (toAntS_any a0 len0 cap0 _ _ _ (HI.out.keep K2.out) (by omega)).mono ?_
    rintro e w3 ⟨B2, rfl, hB2, hi2, hb3⟩
    have I2 := Lib.hid hi2; clear hi2
    have hx0 : w3.cell? ⟨w2.heap.size, 0, none⟩ = some (.int .i64 p) := (hb3.cell (p := ⟨w2.heap.size, 0, none⟩) (by simp)).trans (by simp)
    have hx1 : w3.cell? ⟨w2.heap.size, 1, none⟩ = some (.int .i64 q) := (hb3.cell (p := ⟨w2.heap.size, 1, none⟩) (by simp)).trans (by simp)
    have hlt := World.block_lt_of_cell? w3 _ hx0
    have K3 := Lib.hid (kept_trans K2.out hb3)
    have HX := Lib.hid (And.intro hx0 hx1)
    clear hb3 hx0 hx1
    go_wp2_with fail
    refine (C2.out _ w3 I2.out).mono ?_
    rintro e w4 ⟨rfl, hb4⟩
    have c0 := (hb4.cell (p := ⟨w2.heap.size, 0, none⟩) hlt).trans HX.out.1
    have c1 := (hb4.cell (p := ⟨w2.heap.size, 1, none⟩) hlt).trans HX.out.2
    have hlt4 := World.block_lt_of_cell? w4 _ c0
    have I3 := Lib.hid ((I2.out.keep hb4).keep (kept_alloc (kept_refl w4) (.cells #[.int .i64 p, .int .i64 q] 30)))
    have K4 := Lib.hid (kept_alloc (kept_trans K3.out hb4) (.cells #[.int .i64 p, .int .i64 q] 30))
    clear hb4 I2
    go_wp2_with fail
    refine (eqAnt_same p q _).mono ?_
    rintro e w5 ⟨rfl, hb5⟩
    have K5 := Lib.hid (kept_trans K4.out hb5)
    have I4 := Lib.hid (I3.out.keep hb5)
    clear hb5 c0 c1
    go_wp2_with fail
    refine (toAntS_any a0 len0 cap0 _ _ w5 (HI.out.keep K5.out) (by omega)).mono ?_
    rintro e w6 ⟨B3, rfl, hB3, hi3, hb6⟩
    have I6 := Lib.hid hi3; clear hi3
    have K6 := Lib.hid (kept_trans K5.out hb6)
    have I5 := Lib.hid (I4.out.keep hb6)
    clear hb6
    go_wp2_with fail
    refine (eqAntS_same _ _ len0 len0 len0 _ _ w6 I5.out I6.out (by omega)).mono ?_
    rintro e w7 ⟨rfl, hb7⟩
    have K7 := Lib.hid (kept_trans K6.out hb7)
    clear hb7
    go_wp2_with fail
    go_ret
    exact ⟨rfl, K7.out⟩
  · have HG := Lib.hid hg
    clear hg
    go_enter Try.func4, Try.ntmps4
    go_wp2_with (go_at_call 7; refine (szAntS_any _ _ _ _ (by omega)).mono ?_; rintro e w' ⟨rfl, rfl⟩; rw [if_pos (by omega)])
    refine (toAntS_any a0 len0 cap0 _ _ w HI.out (by omega)).mono ?_
    rintro e w1 ⟨B1, rfl, hB1, hi1, hb1⟩
    have I1 := Lib.hid hi1; clear hi1
    go_wp2_with fail
    refine (sBv_no _ len0 len0 _ _ a1 a2 w1 I1.out (Nat.le_refl _) (by unfold maxLen; omega) (by omega) HG.out).mono ?_
    rintro e w2 ⟨rfl, hb2⟩
    have K2 := Lib.hid (kept_alloc (kept_trans hb1 hb2) (.cells #[.int .i64 0, .int .i64 0] 30))
    clear I1 hb1 hb2
    go_wp2_with fail
    refine (toAntS_any a0 len0 cap0 _ _ _ (HI.out.keep K2.out) (by omega)).mono ?_
    rintro e w3 ⟨B2, rfl, hB2, hi2, hb3⟩
    have I2 := Lib.hid hi2; clear hi2
    have hx0 : w3.cell? ⟨w2.heap.size, 0, none⟩ = some (.int .i64 0) := (hb3.cell (p := ⟨w2.heap.size, 0, none⟩) (by simp)).trans (by simp)
    have hx1 : w3.cell? ⟨w2.heap.size, 1, none⟩ = some (.int .i64 0) := (hb3.cell (p := ⟨w2.heap.size, 1, none⟩) (by simp)).trans (by simp)
    have hlt := World.block_lt_of_cell? w3 _ hx0
    have K3 := Lib.hid (kept_trans K2.out hb3)
    have HX := Lib.hid (And.intro hx0 hx1)
    clear hb3 hx0 hx1
    go_wp2_with fail
    refine (bv_no _ len0 len0 _ _ a1 a2 w3 I2.out (Nat.le_refl _) (by unfold maxLen; omega) (by omega) HG.out).mono ?_
    rintro e w4 ⟨rfl, hb4⟩
    have c0 := (hb4.cell (p := ⟨w2.heap.size, 0, none⟩) hlt).trans HX.out.1
    have c1 := (hb4.cell (p := ⟨w2.heap.size, 1, none⟩) hlt).trans HX.out.2
    have hlt4 := World.block_lt_of_cell? w4 _ c0
    have I3 := Lib.hid ((I2.out.keep hb4).keep (kept_alloc (kept_refl w4) (.cells #[.int .i64 0, .int .i64 0] 30)))
    have K4 := Lib.hid (kept_alloc (kept_trans K3.out hb4) (.cells #[.int .i64 0, .int .i64 0] 30))
    clear hb4 I2
    go_wp2_with fail
    refine (eqAnt_same 0 0 _).mono ?_
    rintro e w5 ⟨rfl, hb5⟩
    have K5 := Lib.hid (kept_trans K4.out hb5)
    have I4 := Lib.hid (I3.out.keep hb5)
    clear hb5 c0 c1
    go_wp2_with fail
    refine (toAntS_any a0 len0 cap0 _ _ w5 (HI.out.keep K5.out) (by omega)).mono ?_
    rintro e w6 ⟨B3, rfl, hB3, hi3, hb6⟩
    have I6 := Lib.hid hi3; clear hi3
    have K6 := Lib.hid (kept_trans K5.out hb6)
    have I5 := Lib.hid (I4.out.keep hb6)
    clear hb6
    go_wp2_with fail
    refine (eqAntS_same _ _ len0 len0 len0 _ _ w6 I5.out I6.out (by omega)).mono ?_
    rintro e w7 ⟨rfl, hb7⟩
    have K7 := Lib.hid (kept_trans K6.out hb7)
    clear hb7
    go_wp2_with fail
    go_ret
    exact ⟨rfl, K7.out⟩

set_option maxRecDepth 100000 in
theorem lifted (os : Os) (started : os.Started) (H : Type) (enc : TypeId × Value → H) :
    ReturnsInHanded {} Try.checked os 4 .any (Rows.fnExactBaseVectorSpec.pre6 enc Try.prog Try.f4 Rows.fnExactBaseVectorRow.domain false) (Rows.fnExactBaseVectorSpec.post enc Try.prog Try.f4 false true false false) := by
  refine returnsInHanded_of_change (C := Try.checked) own started (by kernel_rfl) Try.func4
    (ChangeSpec.witness6 (enc := enc) (C := Try.checked) false ⟨#[], #[.slice none 0 0, .int .i64 0, .int .i64 0], []⟩ 8 (by kernel_rfl) (by kernel_rfl) (by kernel_rfl) (by kernel_rfl)) ?_
  intro W base args ds gs before hval0 hW hcnd _
  have hval : ∀ (j : Nat) t v, Try.f4.params[j]? = some t → args[j]? = some v → Value.okWide Try.prog W .any base t v := hval0
  have hW' := hW
  obtain ⟨p, q, hA0, hV, rfl, hfz, hnd⟩ := hW
  have hA : DataW.TrodAll enc Try.prog W 0 (fun _ => true) true Try.f4.params.toList args.toList ds p := hA0
  rw [Try.params4] at hA hval
  obtain ⟨v0, vs0, d0, ds0, p0, q0, hargs, rfl, rfl, h0, r0⟩ := trodAll_cons hA
  obtain ⟨v1, vs1, d1, ds1, p1, q1, rfl, rfl, rfl, h1, r1⟩ := trodAll_cons r0
  obtain ⟨v2, vs2, d2, ds2, p2, q2, rfl, rfl, rfl, h2, r2⟩ := trodAll_cons r1
  obtain ⟨rfl, rfl, rfl⟩ := trodAll_nil r2
  obtain rfl : args = #[v0, v1, v2] := by cases args; simp_all
  obtain ⟨rfl, rfl⟩ := trodVars_none hV
  obtain ⟨a0, len0, cap0, rfl⟩ := okWide_slice Try.underlying22 (hval 0 22 v0 rfl rfl)
  have k0 := h0
  have lt0 : ∀ x ∈ p0, x.block < W.heap.size := by obtain ⟨m, hm⟩ := k0; exact DataW.trod_lt m _ _ _ hm
  obtain ⟨z0, w0⟩ : ∃ zs, IsPairs W a0 len0 cap0 zs := by
    obtain ⟨fuel, hf⟩ := h0
    exact pairs_open Try.underlying22 Try.underlying42 (by kernel_rfl) rfl rfl (by kernel_rfl) (by kernel_rfl) Try.underlying3 Try.underlying3 hf (by simp [Value.cells])
  obtain ⟨a1, rfl, rfl, rfl, w1⟩ := open_int Try.underlying3 (hval 1 3 v1 rfl rfl) h1
  obtain ⟨a2, rfl, rfl, rfl, w2⟩ := open_int Try.underlying3 (hval 2 3 v2 rfl rfl) h2
  clear hA0 hval0
  refine (walk a0 len0 cap0 z0 a1 a2 W w0 w1 w2).mono fun e W' ⟨he, bel⟩ => ?_
  subst he
  exact ⟨_, rfl, _, _, _, [], _, [], hW', trodAll_mk1 (shut_bool Try.underlying4 _), (trodAll_cons_mk (Below.trod laidOut (by kernel_rfl) (of_decide_eq_true (by kernel_rfl)) k0 bel lt0) (trodAll_cons_mk (shut_int Try.underlying3 w1) (trodAll_cons_mk (shut_int Try.underlying3 w2) trodAll_mk0))), rfl, bel.frame _, fun h => by cases h⟩

theorem over : Rows.fnExactBaseVectorRow.holds Try.pinned (OpenSpec.ofChange Rows.fnExactBaseVectorSpec) :=
  OpenClaim.holds_of_wide 4 Try.f4 rfl rfl rfl rfl rfl rfl rfl ⟨rfl, rfl, rfl, rfl, rfl⟩ rfl rfl rfl rfl rfl (by kernel_rfl) Try.func4 (by kernel_rfl)
    (of_decide_eq_true (by kernel_rfl)) (by unfold Func.isWrapper; first | (rw [if_pos (by decide +kernel)]; kernel_rfl) | (rw [if_neg (by decide +kernel)]; exact ⟨rfl, rfl⟩))
    (fun os started H enc _ => lifted os started H enc)

/-- The statement. -/
theorem proved : Rows.FnExactBaseVectorSaid := over
#print axioms proved
end Go.Proofs.Ytbpbadmgmlfdhaa.fnExactBaseVector
