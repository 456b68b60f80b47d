/- Proof that the law FnExactPhaseArc returns true for all arguments. -/
import Derived.Test.YtjleofepjfdcbaaRows
import Derived.WalkKit
import Derived.ProofKit
import Derived.OpenShut
import Derived.ShutString
import Derived.ChangeOld
import Derived.Below
import Derived.Test.YtjleofepjfdcbaaAt
namespace Go.Proofs.Ytjleofepjfdcbaa.fnExactPhaseArc
open Go.ChangeShapes Go.WideShapes Go.ChangeAt Go.RowKit
set_option linter.unusedVariables false

theorem own : ownKnob Try.prog.godebug = none := by kernel_rfl
theorem laidOut : laidOutB Try.prog = true := by kernel_rfl
/-- A slice of integers that came in: nil, or a row of cap cells, the numbers zs. -/
def IsRow (k : IntKind) (w : World) (a : Option Addr) (len cap : Nat) (zs : List Int) : Prop :=
  (a = none ∧ len = 0 ∧ cap = 0 ∧ zs = []) ∨
  ∃ x, a = some x ∧ len ≤ cap ∧ cap ≤ maxLen ∧ zs.length = cap ∧ (∀ i, i < zs.length → w.cell? (x.add i) = some (.int k (zs.getD i 0))) ∧ ∀ n ∈ zs, (Lit.int k n).wf = true
set_option maxHeartbeats 1000000 in
theorem walk (a0 : Option Addr) (len0 cap0 : Nat) (z0 : List Int) (w : World) (w0 : IsRow .i64 w a0 len0 cap0 z0) :
    Calls Try.prog 3 #[.slice a0 len0 cap0] w fun e w' => e = .returned (.bool true) ∧ Below w.heap.size w w' := by
  have HI : Hid (Ints w a0 len0 (fun i => z0.getD i 0)) := by
    rcases w0 with ⟨_, rfl, _⟩ | ⟨x, rfl, hl, hm, hz, hc, hw⟩
    · exact .inl rfl
    · by_cases h0 : len0 = 0
      · exact .inl h0
      · have hs := World.cell?_spot (hc 0 (by omega))
        obtain ⟨cb, off, sp⟩ := x
        simp [Addr.add] at hs
        subst hs
        have c0 := hc 0 (by omega)
        refine .inr ⟨cb, off, rfl, ?_, fun i hi => ?_⟩
        · simp [Addr.add] at c0; exact World.block_lt_of_cell? w _ c0
        · have hci := hc i (by omega)
          by_cases hi0 : i = 0
          · subst hi0; simpa [Addr.add] using hci
          · simpa [Addr.add, hi0] using hci
  clear w0
  by_cases hl : 1048576 < len0
  · go_enter Try.func3, Try.ntmps3
    go_wp2
    go_ret
    exact ⟨rfl, Below.refl _ _⟩
  by_cases hg : (1 ≤ len0 ∧ len0 ≤ 100) ∧ Phs (fun i => z0.getD i 0) len0
  · obtain ⟨⟨hn0, hn1⟩, hp⟩ := hg
    obtain ⟨F, L, hF⟩ := arc_ex (fun i => z0.getD i 0) len0
    have HF := Lib.hid hF; have HP := Lib.hid hp; clear hF hp
    go_enter Try.func3, Try.ntmps3
    go_wp2_with fail
    refine (toIntS_any a0 len0 cap0 _ w HI.out (by omega)).mono ?_
    rintro e w1 ⟨B1, rfl, hB1, hi1, hb1⟩
    have I1 := Lib.hid hi1; clear hi1
    go_wp2_with fail
    refine (sArc_yes _ len0 len0 _ F L w1 I1.out ⟨hn0, hn1⟩ HP.out HF.out).mono ?_
    rintro e w2 ⟨rfl, rfl⟩
    go_wp2_with fail
    refine (toIntS_any a0 len0 cap0 _ w1 (HI.out.keep hb1) (by omega)).mono ?_
    rintro e w2 ⟨B2, rfl, hB2, hi2, hb2⟩
    have I2 := Lib.hid hi2; clear hi2
    have K2 := Lib.hid (kept_trans hb1 hb2)
    go_wp2_with fail
    refine (arc_yes _ len0 len0 _ F L w2 I2.out ⟨hn0, hn1⟩ HP.out HF.out).mono ?_
    rintro e w3 ⟨rfl, rfl⟩
    go_wp2_with fail
    refine (toIntS_any a0 len0 cap0 _ w2 (HI.out.keep K2.out) (by omega)).mono ?_
    rintro e w3 ⟨B3, rfl, hB3, hi3, hb3⟩
    have I3 := Lib.hid hi3; clear hi3
    have K3 := Lib.hid (kept_trans K2.out hb3)
    go_wp2_with fail
    refine (eqIntS_same _ _ len0 len0 len0 _ w3 (I2.out.keep hb3) I3.out (by omega)).mono ?_
    rintro e w4 ⟨rfl, m, rfl⟩
    go_wp2_with fail
    go_ret
    exact ⟨rfl, below_drewN K3.out m⟩
  · have HG : Hid (len0 = 0 ∨ 100 < len0 ∨ ¬ Phs (fun i => z0.getD i 0) len0) := Lib.hid (by
      by_cases h1 : len0 = 0
      · exact .inl h1
      · by_cases h2 : 100 < len0
        · exact .inr (.inl h2)
        · exact .inr (.inr fun h => hg ⟨⟨by omega, by omega⟩, h⟩))
    clear hg
    go_enter Try.func3, Try.ntmps3
    go_wp2_with fail
    refine (toIntS_any a0 len0 cap0 _ w HI.out (by omega)).mono ?_
    rintro e w1 ⟨B1, rfl, hB1, hi1, hb1⟩
    have I1 := Lib.hid hi1; clear hi1
    go_wp2_with fail
    refine (sArc_no _ len0 len0 _ w1 I1.out (by omega) HG.out).mono ?_
    rintro e w2 ⟨rfl, rfl⟩
    go_wp2_with fail
    refine (toIntS_any a0 len0 cap0 _ w1 (HI.out.keep hb1) (by omega)).mono ?_
    rintro e w2 ⟨B2, rfl, hB2, hi2, hb2⟩
    have I2 := Lib.hid hi2; clear hi2
    have K2 := Lib.hid (kept_trans hb1 hb2)
    go_wp2_with fail
    refine (arc_no _ len0 len0 _ w2 I2.out (by omega) HG.out).mono ?_
    rintro e w3 ⟨rfl, rfl⟩
    go_wp2_with fail
    refine (toIntS_any a0 len0 cap0 _ w2 (HI.out.keep K2.out) (by omega)).mono ?_
    rintro e w3 ⟨B3, rfl, hB3, hi3, hb3⟩
    have I3 := Lib.hid hi3; clear hi3
    have K3 := Lib.hid (kept_trans K2.out hb3)
    go_wp2_with fail
    refine (eqIntS_same _ _ len0 len0 len0 _ w3 (I2.out.keep hb3) I3.out (by omega)).mono ?_
    rintro e w4 ⟨rfl, m, rfl⟩
    go_wp2_with fail
    go_ret
    exact ⟨rfl, below_drewN K3.out m⟩

set_option maxRecDepth 100000 in
theorem lifted (os : Os) (started : os.Started) (H : Type) (enc : TypeId × Value → H) :
    ReturnsInHanded {} Try.checked os 3 .any (Rows.fnExactPhaseArcSpec.pre6 enc Try.prog Try.f3 Rows.fnExactPhaseArcRow.domain false) (Rows.fnExactPhaseArcSpec.post enc Try.prog Try.f3 false true false false) := by
  refine returnsInHanded_of_change (C := Try.checked) own started (by kernel_rfl) Try.func3
    (ChangeSpec.witness6 (enc := enc) (C := Try.checked) false ⟨#[], #[.slice none 0 0], []⟩ 8 (by kernel_rfl) (by kernel_rfl) (by kernel_rfl) (by kernel_rfl)) ?_
  intro W base args ds gs before hval0 hW hcnd _
  have hval : ∀ (j : Nat) t v, Try.f3.params[j]? = some t → args[j]? = some v → Value.okWide Try.prog W .any base t v := hval0
  have hW' := hW
  obtain ⟨p, q, hA0, hV, rfl, hfz, hnd⟩ := hW
  have hA : DataW.TrodAll enc Try.prog W 0 (fun _ => true) true Try.f3.params.toList args.toList ds p := hA0
  rw [Try.params3] at hA hval
  obtain ⟨v0, vs0, d0, ds0, p0, q0, hargs, rfl, rfl, h0, r0⟩ := trodAll_cons hA
  obtain ⟨rfl, rfl, rfl⟩ := trodAll_nil r0
  obtain rfl : args = #[v0] := by cases args; simp_all
  obtain ⟨rfl, rfl⟩ := trodVars_none hV
  obtain ⟨a0, len0, cap0, rfl⟩ := okWide_slice Try.underlying22 (hval 0 22 v0 rfl rfl)
  have k0 := h0
  have lt0 : ∀ x ∈ p0, x.block < W.heap.size := by obtain ⟨m, hm⟩ := k0; exact DataW.trod_lt m _ _ _ hm
  obtain ⟨z0, w0⟩ : ∃ zs, IsRow .i64 W a0 len0 cap0 zs := by
    obtain ⟨fuel, hf⟩ := h0
    rcases open_ints Try.underlying22 Try.underlying3 (by kernel_rfl) hf with ⟨hcs, _⟩ | ⟨x, l, c, zs, hcs, _, hl, hm, hz, _, hcell, hwz⟩
    · simp [Value.cells] at hcs
      obtain ⟨rfl, rfl, rfl⟩ := hcs
      exact ⟨[], .inl ⟨rfl, rfl, rfl, rfl⟩⟩
    · simp [Value.cells] at hcs
      obtain ⟨rfl, rfl, rfl⟩ := hcs
      exact ⟨zs, .inr ⟨_, rfl, hl, hm, by simpa using hz, hcell, hwz⟩⟩
  clear hA0 hval0
  refine (walk a0 len0 cap0 z0 W w0).mono fun e W' ⟨he, bel⟩ => ?_
  subst he
  exact ⟨_, rfl, _, _, _, [], _, [], hW', trodAll_mk1 (shut_bool Try.underlying4 _), (trodAll_cons_mk (Below.trod laidOut (by kernel_rfl) (of_decide_eq_true (by kernel_rfl)) k0 bel lt0) trodAll_mk0), rfl, bel.frame _, fun h => by cases h⟩

theorem over : Rows.fnExactPhaseArcRow.holds Try.pinned (OpenSpec.ofChange Rows.fnExactPhaseArcSpec) :=
  OpenClaim.holds_of_wide 3 Try.f3 rfl rfl rfl rfl rfl rfl rfl ⟨rfl, rfl, rfl, rfl, rfl⟩ rfl rfl rfl rfl rfl (by kernel_rfl) Try.func3 (by kernel_rfl)
    (of_decide_eq_true (by kernel_rfl)) (by unfold Func.isWrapper; first | (rw [if_pos (by decide +kernel)]; kernel_rfl) | (rw [if_neg (by decide +kernel)]; exact ⟨rfl, rfl⟩))
    (fun os started H enc _ => lifted os started H enc)

/-- The statement. -/
theorem proved : Rows.FnExactPhaseArcSaid := over
#print axioms proved
end Go.Proofs.Ytjleofepjfdcbaa.fnExactPhaseArc
