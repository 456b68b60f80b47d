/- Proof that the law FnPhaseArcLess returns true for all arguments. -/
import Derived.Test.YtjleofepjfdcbaaRows
import Derived.WalkKit
import Derived.ProofKit
import Derived.OpenShut
import Derived.ShutString
import Derived.ChangeOld
import Derived.Below
import Derived.Test.YtjleofepjfdcbaaAt
import Derived.Test.YtjleofepjfdcbaaDa
import Derived.Test.YtjleofepjfdcbaaAu
import Derived.Deep.QuietTactic
import Derived.Deep.AppendLies
import Derived.Deep.RegionLaw
import Derived.Deep.RegionHeld3
import Derived.BigQuiet
import Derived.IntWalk
import Derived.Outline
namespace Go.Proofs.Ytjleofepjfdcbaa.fnPhaseArcLess
open Go.ChangeShapes Go.WideShapes Go.ChangeAt Go.RowKit
set_option linter.unusedVariables false

theorem own : ownKnob Try.prog.godebug = none := by kernel_rfl
theorem laidOut : laidOutB Try.prog = true := by kernel_rfl
/-- A slice of integers that came in: nil, or a row of cap cells, the numbers zs. -/
def IsRow (k : IntKind) (w : World) (a : Option Addr) (len cap : Nat) (zs : List Int) : Prop :=
  (a = none ∧ len = 0 ∧ cap = 0 ∧ zs = []) ∨
  ∃ x, a = some x ∧ len ≤ cap ∧ cap ≤ maxLen ∧ zs.length = cap ∧ (∀ i, i < zs.length → w.cell? (x.add i) = some (.int k (zs.getD i 0))) ∧ ∀ n ∈ zs, (Lit.int k n).wf = true
set_option maxRecDepth 100000 in
set_option maxHeartbeats 4000000 in
theorem walk (a0 : Option Addr) (len0 cap0 : Nat) (z0 : List Int) (w : World) (w0 : IsRow .u8 w a0 len0 cap0 z0) :
    Calls Try.prog 6 #[.slice a0 len0 cap0] w fun e w' => e = .returned (.bool true) ∧ Below w.heap.size w w' := by
  have H := Lib.hid (code_of w0); clear w0
  by_cases hl0 : 1048576 < len0
  · go_enter Try.func6, Try.ntmps6
    go_wp2
    go_ret
    exact ⟨rfl, Below.refl _ _⟩
  obtain ⟨i0, hi0, hz0, hz1, hz2⟩ := info_parts info3
  go_enter Try.func6, Try.ntmps6
  go_wp2_with fail
  refine (drawPhaseArc_any H.out).mono ?_
  rintro e w1 ⟨a, n, c, z, rfl, hn, hnc, hi, hzb, hbel⟩
  have HI := Lib.hid hi; clear hi
  have HZB := Lib.hid hzb; clear hzb
  by_cases hg : 1 ≤ n ∧ Phs z n
  · obtain ⟨hn0, hp⟩ := hg
    obtain ⟨F, L, hF⟩ := arc_ex z n
    obtain ⟨F0, F1, L0, L1⟩ := hF.bd
    have HF := Lib.hid hF; have HP := Lib.hid hp; clear hF hp
    go_wp2_with fail
    refine (arc_yes _ n c z F L w1 HI.out ⟨hn0, by omega⟩ HP.out HF.out).mono ?_
    rintro e w' ⟨rfl, rfl⟩
    go_wp2_with fail
    refine (sArc_yes _ n c z F L w1 HI.out ⟨hn0, by omega⟩ HP.out HF.out).mono ?_
    rintro e w' ⟨rfl, rfl⟩
    obtain ⟨m, rfl⟩ : ∃ m, n = m + 1 := ⟨n - 1, by omega⟩
    obtain ⟨b1, o1, rfl, c1⟩ := HI.out.at (show 0 < m + 1 by omega)
    have e1 : ((m + 1 : Nat) : Int) - 1 = (m : Int) := by omega
    have hlt1 : b1 < w1.heap.size := ints_block HI.out (by omega)
    simp only [Nat.add_zero] at c1
    have HF2 := Lib.hid (again_arc HF.out (by omega)); have HP2 := Lib.hid (again_phs HP.out (by omega))
    by_cases hm : m = 0
    · subst hm
      go_wp2_with fail
      refine (arc_no _ 0 _ z w1 (.inl rfl) (by omega) (.inl rfl)).mono ?_
      rintro e w' ⟨rfl, rfl⟩
      go_wp2_with fail
      go_cut [13, 14, 15] (fun s13 s14 s15 wx => s13 = .int .i64 F ∧ s14 = .int .i64 L ∧ s15 = .bool true ∧ Below w1.heap.size w1 wx)
      case first =>
        go_region_law (first | (refine step_app hi0 hz0 hz1 hz2 rfl (.tmp 74) (.tmp 75) rfl w1 ?_ (.slice (some ⟨_, 0, none⟩) 0 0) 0 [] rfl ?_ b1 o1 _ c z rfl ?_ (by omega) (by omega) ?_; (focus ((repeat (first | assumption | exact kept_refl _ | refine Below.drew ?_ | refine kept_alloc ?_ _)); done)); (focus ((repeat (first | assumption | (refine own_made ?_ ?_ <;> (focus (simp <;> omega))) | refine World.ownsRow.drew ?_ | refine World.ownsRow.alloc ?_ _)); done)); (focus (refine ints_cells (HI.out.keep ?_); (repeat (first | assumption | exact kept_refl _ | refine Below.drew ?_ | refine kept_alloc ?_ _)); done)); intro g1 cap1 w5 hown1 hb1 hgrow1 hfar1; simp only [Nat.zero_add] at hown1; have c5 : w5.cell? ⟨b1, o1, none⟩ = some (.int .i64 (z 0)) := (hb1.cell hlt1).trans c1; have l5 := hb1.size) | ((first | refine step_app hi0 hz0 hz1 hz2 rfl (.tmp 76) (.tmp 80) rfl w1 ?_ _ _ _ rfl hown1 _ 0 1 1 (fun _ => z 0) rfl ?_ (by omega) (by omega) ?_ | refine step_app hi0 hz0 hz1 hz2 rfl (.tmp 76) (.tmp 80) rfl w1 ?_ _ _ _ rfl (hown1.alloc _) _ 0 1 1 (fun _ => z 0) rfl ?_ (by omega) (by omega) ?_); (focus ((repeat (first | assumption | exact kept_refl _ | refine Below.drew ?_ | refine kept_alloc ?_ _)); done)); (focus (intro j hj; obtain rfl : j = 0 := (by omega); (first | exact one_cell _ (by simp) | (refine (World.cell?_of_block (hfar1 _ ?_ ?_ ?_)).trans ?_; (focus (simp)); (focus (simp <;> omega)); (focus (simp [Value.ownBlock])); first | exact one_cell _ (by simp) | (simp (maxDischargeDepth := 12) [go_sem]; done))); done)); intro g2 cap2 w6 hown2 hb2 hgrow2 hfar2; have hI6 := again_ints hown2) | (go_simp; go_at_call 10; refine (arc_yes _ _ _ _ F L _ hI6 ⟨by omega, by omega⟩ HP2.out HF2.out).mono ?_; rintro e w' ⟨rfl, rfl⟩; clear hI6 hown2 hgrow2 hfar2 hown1 hgrow1 hfar1 hb1 c5 l5))
        all_goals go_wp2_with fail
        all_goals (simp only [Act.put, List.setIfInBounds_toArray, List.set_cons_zero, List.set_cons_succ, List.getElem_toArray, List.getElem_cons_zero, List.getElem_cons_succ])
        all_goals go_meet
        all_goals exact ⟨rfl, rfl, rfl, hb2⟩
      case rest =>
        obtain ⟨rfl, rfl, rfl, bel⟩ := hcut
        go_wp2_with fail
        go_ret
        exact ⟨rfl, kept_trans hbel bel⟩
    · obtain ⟨F', L', hF'⟩ := arc_ex z m
      obtain ⟨f0, f1, l0, l1⟩ := hF'.bd
      have hle := HF.out.less hF' (by omega)
      have HF3 := Lib.hid hF'; clear hF'
      have HP3 : Hid (Phs z m) := Lib.hid fun i hi => HP.out i (by omega)
      go_wp2_with fail
      refine (arc_yes _ m _ z F' L' w1 (HI.out.take (by omega)) ⟨by omega, by omega⟩ HP3.out HF3.out).mono ?_
      rintro e w' ⟨rfl, rfl⟩
      go_wp2_with fail
      go_cut [13, 14, 15] (fun s13 s14 s15 wx => s13 = .int .i64 F ∧ s14 = .int .i64 L ∧ s15 = .bool true ∧ Below w1.heap.size w1 wx)
      case first =>
        go_region_law (first | (refine step_app hi0 hz0 hz1 hz2 rfl (.tmp 74) (.tmp 75) rfl w1 ?_ (.slice (some ⟨_, 0, none⟩) 0 0) 0 [] rfl ?_ b1 o1 _ c z rfl ?_ (by omega) (by omega) ?_; (focus ((repeat (first | assumption | exact kept_refl _ | refine Below.drew ?_ | refine kept_alloc ?_ _)); done)); (focus ((repeat (first | assumption | (refine own_made ?_ ?_ <;> (focus (simp <;> omega))) | refine World.ownsRow.drew ?_ | refine World.ownsRow.alloc ?_ _)); done)); (focus (refine ints_cells (HI.out.keep ?_); (repeat (first | assumption | exact kept_refl _ | refine Below.drew ?_ | refine kept_alloc ?_ _)); done)); intro g1 cap1 w5 hown1 hb1 hgrow1 hfar1; simp only [Nat.zero_add] at hown1; have c5 : w5.cell? ⟨b1, o1, none⟩ = some (.int .i64 (z 0)) := (hb1.cell hlt1).trans c1; have l5 := hb1.size) | ((first | refine step_app hi0 hz0 hz1 hz2 rfl (.tmp 76) (.tmp 80) rfl w1 ?_ _ _ _ rfl hown1 _ 0 1 1 (fun _ => z 0) rfl ?_ (by omega) (by omega) ?_ | refine step_app hi0 hz0 hz1 hz2 rfl (.tmp 76) (.tmp 80) rfl w1 ?_ _ _ _ rfl (hown1.alloc _) _ 0 1 1 (fun _ => z 0) rfl ?_ (by omega) (by omega) ?_); (focus ((repeat (first | assumption | exact kept_refl _ | refine Below.drew ?_ | refine kept_alloc ?_ _)); done)); (focus (intro j hj; obtain rfl : j = 0 := (by omega); (first | exact one_cell _ (by simp) | (refine (World.cell?_of_block (hfar1 _ ?_ ?_ ?_)).trans ?_; (focus (simp)); (focus (simp <;> omega)); (focus (simp [Value.ownBlock])); first | exact one_cell _ (by simp) | (simp (maxDischargeDepth := 12) [go_sem]; done))); done)); intro g2 cap2 w6 hown2 hb2 hgrow2 hfar2; have hI6 := again_ints hown2) | (go_simp; go_at_call 10; refine (arc_yes _ _ _ _ F L _ hI6 ⟨by omega, by omega⟩ HP2.out HF2.out).mono ?_; rintro e w' ⟨rfl, rfl⟩; clear hI6 hown2 hgrow2 hfar2 hown1 hgrow1 hfar1 hb1 c5 l5))
        all_goals go_wp2_with fail
        all_goals (simp only [Act.put, List.setIfInBounds_toArray, List.set_cons_zero, List.set_cons_succ, List.getElem_toArray, List.getElem_cons_zero, List.getElem_cons_succ])
        all_goals go_meet
        all_goals exact ⟨rfl, rfl, rfl, hb2⟩
      case rest =>
        obtain ⟨rfl, rfl, rfl, bel⟩ := hcut
        go_wp2_with fail
        go_ret
        exact ⟨rfl, kept_trans hbel bel⟩
  · have HG : Hid (n = 0 ∨ 100 < n ∨ ¬ Phs z n) := Lib.hid (by
      by_cases h1 : n = 0
      · exact .inl h1
      · exact .inr (.inr fun h => hg ⟨by omega, h⟩))
    clear hg
    go_wp2_with fail
    refine (arc_no _ n c z w1 HI.out (by omega) HG.out).mono ?_
    rintro e w' ⟨rfl, rfl⟩
    go_wp2_with fail
    refine (sArc_no _ n c z w1 HI.out (by omega) HG.out).mono ?_
    rintro e w' ⟨rfl, rfl⟩
    go_wp2_with fail
    go_ret
    exact ⟨rfl, hbel⟩

set_option maxRecDepth 100000 in
theorem lifted (os : Os) (started : os.Started) (H : Type) (enc : TypeId × Value → H) :
    ReturnsInHanded {} Try.checked os 6 .any (Rows.fnPhaseArcLessSpec.pre6 enc Try.prog Try.f6 Rows.fnPhaseArcLessRow.domain false) (Rows.fnPhaseArcLessSpec.post enc Try.prog Try.f6 false true false false) := by
  refine returnsInHanded_of_change (C := Try.checked) own started (by kernel_rfl) Try.func6
    (ChangeSpec.witness6 (enc := enc) (C := Try.checked) false ⟨#[], #[.slice none 0 0], []⟩ 8 (by kernel_rfl) (by kernel_rfl) (by kernel_rfl) (by kernel_rfl)) ?_
  intro W base args ds gs before hval0 hW hcnd _
  have hval : ∀ (j : Nat) t v, Try.f6.params[j]? = some t → args[j]? = some v → Value.okWide Try.prog W .any base t v := hval0
  have hW' := hW
  obtain ⟨p, q, hA0, hV, rfl, hfz, hnd⟩ := hW
  have hA : DataW.TrodAll enc Try.prog W 0 (fun _ => true) true Try.f6.params.toList args.toList ds p := hA0
  rw [Try.params6] at hA hval
  obtain ⟨v0, vs0, d0, ds0, p0, q0, hargs, rfl, rfl, h0, r0⟩ := trodAll_cons hA
  obtain ⟨rfl, rfl, rfl⟩ := trodAll_nil r0
  obtain rfl : args = #[v0] := by cases args; simp_all
  obtain ⟨rfl, rfl⟩ := trodVars_none hV
  obtain ⟨a0, len0, cap0, rfl⟩ := okWide_slice Try.underlying28 (hval 0 28 v0 rfl rfl)
  have k0 := h0
  have lt0 : ∀ x ∈ p0, x.block < W.heap.size := by obtain ⟨m, hm⟩ := k0; exact DataW.trod_lt m _ _ _ hm
  obtain ⟨z0, w0⟩ : ∃ zs, IsRow .u8 W a0 len0 cap0 zs := by
    obtain ⟨fuel, hf⟩ := h0
    rcases open_ints Try.underlying28 Try.underlying5 (by kernel_rfl) hf with ⟨hcs, _⟩ | ⟨x, l, c, zs, hcs, _, hl, hm, hz, _, hcell, hwz⟩
    · simp [Value.cells] at hcs
      obtain ⟨rfl, rfl, rfl⟩ := hcs
      exact ⟨[], .inl ⟨rfl, rfl, rfl, rfl⟩⟩
    · simp [Value.cells] at hcs
      obtain ⟨rfl, rfl, rfl⟩ := hcs
      exact ⟨zs, .inr ⟨_, rfl, hl, hm, by simpa using hz, hcell, hwz⟩⟩
  clear hA0 hval0
  refine (walk a0 len0 cap0 z0 W w0).mono fun e W' ⟨he, bel⟩ => ?_
  subst he
  exact ⟨_, rfl, _, _, _, [], _, [], hW', trodAll_mk1 (shut_bool Try.underlying4 _), (trodAll_cons_mk (Below.trod laidOut (by kernel_rfl) (of_decide_eq_true (by kernel_rfl)) k0 bel lt0) trodAll_mk0), rfl, bel.frame _, fun h => by cases h⟩

theorem over : Rows.fnPhaseArcLessRow.holds Try.pinned (OpenSpec.ofChange Rows.fnPhaseArcLessSpec) :=
  OpenClaim.holds_of_wide 6 Try.f6 rfl rfl rfl rfl rfl rfl rfl ⟨rfl, rfl, rfl, rfl, rfl⟩ rfl rfl rfl rfl rfl (by kernel_rfl) Try.func6 (by kernel_rfl)
    (of_decide_eq_true (by kernel_rfl)) (by unfold Func.isWrapper; first | (rw [if_pos (by decide +kernel)]; kernel_rfl) | (rw [if_neg (by decide +kernel)]; exact ⟨rfl, rfl⟩))
    (fun os started H enc _ => lifted os started H enc)

/-- The statement. -/
theorem proved : Rows.FnPhaseArcLessSaid := over
#print axioms proved
end Go.Proofs.Ytjleofepjfdcbaa.fnPhaseArcLess
