/- Proof that the law FnPhaseArc returns true for all arguments. -/
import Derived.Test.YtjleofepjfdcbaaRows
import Derived.WalkKit
import Derived.ProofKit
import Derived.OpenShut
import Derived.ShutString
import Derived.ChangeOld
import Derived.Below
import Derived.Test.YtjleofepjfdcbaaAt
import Derived.Test.YtjleofepjfdcbaaDa
import Derived.Deep.QuietTactic
import Derived.BigQuiet
import Derived.IntWalk
import Derived.Outline
namespace Go.Proofs.Ytjleofepjfdcbaa.fnPhaseArc
open Go.ChangeShapes Go.WideShapes Go.ChangeAt Go.RowKit
set_option linter.unusedVariables false

theorem own : ownKnob Try.prog.godebug = none := by kernel_rfl
theorem laidOut : laidOutB Try.prog = true := by kernel_rfl
/-- A slice of integers that came in: nil, or a row of cap cells, the numbers zs. -/
def IsRow (k : IntKind) (w : World) (a : Option Addr) (len cap : Nat) (zs : List Int) : Prop :=
  (a = none ∧ len = 0 ∧ cap = 0 ∧ zs = []) ∨
  ∃ x, a = some x ∧ len ≤ cap ∧ cap ≤ maxLen ∧ zs.length = cap ∧ (∀ i, i < zs.length → w.cell? (x.add i) = some (.int k (zs.getD i 0))) ∧ ∀ n ∈ zs, (Lit.int k n).wf = true
theorem bool_eq {a b : Bool} (h : a = b) : Value.bool a = .bool b := by rw [h]
set_option maxRecDepth 100000 in
set_option maxHeartbeats 4000000 in
theorem walk (a0 : Option Addr) (len0 cap0 : Nat) (z0 : List Int) (w : World) (w0 : IsRow .u8 w a0 len0 cap0 z0) :
    Calls Try.prog 5 #[.slice a0 len0 cap0] w fun e w' => e = .returned (.bool true) ∧ Below w.heap.size w w' := by
  have H := Lib.hid (code_of w0); clear w0
  by_cases hl0 : 1048576 < len0
  · go_enter Try.func5, Try.ntmps5
    go_wp2
    go_ret
    exact ⟨rfl, Below.refl _ _⟩
  go_enter Try.func5, Try.ntmps5
  go_wp2_with fail
  refine (drawPhaseArc_any H.out).mono ?_
  rintro e w1 ⟨a, n, c, z, rfl, hn, hnc, hi, hzb, hbel⟩
  have HI := Lib.hid hi; clear hi
  have HZB := Lib.hid hzb; clear hzb
  by_cases hg : 1 ≤ n ∧ Phs z n
  · obtain ⟨hn0, hp⟩ := hg
    obtain ⟨F, L, hF⟩ := arc_ex z n
    obtain ⟨F0, F1, L0, L1⟩ := hF.bd
    have HF := Lib.hid hF; have HP := Lib.hid hp; clear hF hp
    go_wp2_with fail
    refine (arc_yes _ n c z F L w1 HI.out ⟨hn0, by omega⟩ HP.out HF.out).mono ?_
    rintro e w' ⟨rfl, rfl⟩
    go_wp2_with fail
    refine (sArc_yes _ n c z F L w1 HI.out ⟨hn0, by omega⟩ HP.out HF.out).mono ?_
    rintro e w' ⟨rfl, rfl⟩
    have H1 := Lib.hid (HF.out.first (by omega) HP.out)
    have H2 := Lib.hid (HF.out.last (by omega))
    go_wp2_with fail
    go_loop [10, 11, 12] (fun f l i => ∃ k : Nat, k ≤ n ∧ i = .int .i64 k ∧ f = .bool (hitB z F 0 k) ∧ l = .bool (hitB z F L k)) (fun _ _ i => n - (intOf i).toNat)
    case atStart => exact ⟨0, by omega, rfl, rfl, rfl⟩
    case round =>
      obtain ⟨k, hk, rfl, rfl, rfl⟩ := hrel
      by_cases hkn : k < n
      · obtain ⟨b1, o1, rfl, c1⟩ := HI.out.at hkn
        obtain ⟨z0, z1⟩ := HP.out k hkn
        have hin := HF.out.inside hkn
        have d0 : 0 ≤ (z k - F) % 360 := by omega
        have d1 : (z k - F) % 360 < 360 := by omega
        have q0 : decide (L < (z k - F) % 360) = false := by simp; omega
        have n1 : hitB z F 0 (k + 1) = (hitB z F 0 k || decide ((z k - F) % 360 = 0)) := rfl
        have n2 : hitB z F L (k + 1) = (hitB z F L k || decide ((z k - F) % 360 = L)) := rfl
        have N1 := Lib.hid n1; have N2 := Lib.hid n2
        clear HI n1 n2
        obtain ⟨d, hd⟩ : ∃ d : Int, d = (z k - F) % 360 := ⟨_, rfl⟩
        have HC : Hid (∀ w, Calls Try.prog 16 #[.int .i64 (z k - F)] w fun e w' => e = .returned (.int .i64 d) ∧ w = w') := Lib.hid fun w => by rw [hd]; exact phaseOf_any _ w
        rw [← hd] at q0 d0 d1
        have HDD := Lib.hid hd
        clear hd hin
        obtain ⟨f, hf⟩ : ∃ f, f = hitB z F 0 k := ⟨_, rfl⟩
        obtain ⟨l, hl⟩ : ∃ l, l = hitB z F L k := ⟨_, rfl⟩
        have HFF := Lib.hid hf; have HLL := Lib.hid hl
        rw [← hf, ← hl]
        clear hf hl
        by_cases e0 : d = 0
        all_goals
          by_cases e1 : d = L
          all_goals
            have p0 : (d == 0) = decide (d = 0) := by by_cases h : d = 0 <;> simp [h]
            have p1 : (d == L) = decide (d = L) := by by_cases h : d = L <;> simp [h]
            simp only [e0, e1, decide_true, decide_false] at p0 p1
            have HE := Lib.hid (And.intro e0 e1)
            clear e0 e1
            cases f <;> cases l
            all_goals
              go_wp2_with (go_at_call 16; refine (HC.out _).mono ?_; rintro e w' ⟨rfl, rfl⟩)
              go_round
              case rel => exact ⟨k + 1, by omega, by go_num, bool_eq (by rw [N1.out, ← HFF.out, ← HDD.out]; simp [HE.out.1]), bool_eq (by rw [N2.out, ← HLL.out, ← HDD.out]; simp [HE.out.2])⟩
              case measure => simp [intOf]; omega
      · have e : k = n := by omega
        subst e
        have h1 := H1.out
        have h2 := H2.out
        clear HI
        go_wp2
        go_ret
        exact ⟨ret_true (by simp), hbel⟩
  · have HG : Hid (n = 0 ∨ 100 < n ∨ ¬ Phs z n) := Lib.hid (by
      by_cases h1 : n = 0
      · exact .inl h1
      · exact .inr (.inr fun h => hg ⟨by omega, h⟩))
    clear hg
    go_wp2_with fail
    refine (arc_no _ n c z w1 HI.out (by omega) HG.out).mono ?_
    rintro e w' ⟨rfl, rfl⟩
    go_wp2_with fail
    refine (sArc_no _ n c z w1 HI.out (by omega) HG.out).mono ?_
    rintro e w' ⟨rfl, rfl⟩
    go_wp2_with fail
    go_ret
    exact ⟨rfl, hbel⟩

set_option maxRecDepth 100000 in
theorem lifted (os : Os) (started : os.Started) (H : Type) (enc : TypeId × Value → H) :
    ReturnsInHanded {} Try.checked os 5 .any (Rows.fnPhaseArcSpec.pre6 enc Try.prog Try.f5 Rows.fnPhaseArcRow.domain false) (Rows.fnPhaseArcSpec.post enc Try.prog Try.f5 false true false false) := by
  refine returnsInHanded_of_change (C := Try.checked) own started (by kernel_rfl) Try.func5
    (ChangeSpec.witness6 (enc := enc) (C := Try.checked) false ⟨#[], #[.slice none 0 0], []⟩ 8 (by kernel_rfl) (by kernel_rfl) (by kernel_rfl) (by kernel_rfl)) ?_
  intro W base args ds gs before hval0 hW hcnd _
  have hval : ∀ (j : Nat) t v, Try.f5.params[j]? = some t → args[j]? = some v → Value.okWide Try.prog W .any base t v := hval0
  have hW' := hW
  obtain ⟨p, q, hA0, hV, rfl, hfz, hnd⟩ := hW
  have hA : DataW.TrodAll enc Try.prog W 0 (fun _ => true) true Try.f5.params.toList args.toList ds p := hA0
  rw [Try.params5] at hA hval
  obtain ⟨v0, vs0, d0, ds0, p0, q0, hargs, rfl, rfl, h0, r0⟩ := trodAll_cons hA
  obtain ⟨rfl, rfl, rfl⟩ := trodAll_nil r0
  obtain rfl : args = #[v0] := by cases args; simp_all
  obtain ⟨rfl, rfl⟩ := trodVars_none hV
  obtain ⟨a0, len0, cap0, rfl⟩ := okWide_slice Try.underlying28 (hval 0 28 v0 rfl rfl)
  have k0 := h0
  have lt0 : ∀ x ∈ p0, x.block < W.heap.size := by obtain ⟨m, hm⟩ := k0; exact DataW.trod_lt m _ _ _ hm
  obtain ⟨z0, w0⟩ : ∃ zs, IsRow .u8 W a0 len0 cap0 zs := by
    obtain ⟨fuel, hf⟩ := h0
    rcases open_ints Try.underlying28 Try.underlying5 (by kernel_rfl) hf with ⟨hcs, _⟩ | ⟨x, l, c, zs, hcs, _, hl, hm, hz, _, hcell, hwz⟩
    · simp [Value.cells] at hcs
      obtain ⟨rfl, rfl, rfl⟩ := hcs
      exact ⟨[], .inl ⟨rfl, rfl, rfl, rfl⟩⟩
    · simp [Value.cells] at hcs
      obtain ⟨rfl, rfl, rfl⟩ := hcs
      exact ⟨zs, .inr ⟨_, rfl, hl, hm, by simpa using hz, hcell, hwz⟩⟩
  clear hA0 hval0
  refine (walk a0 len0 cap0 z0 W w0).mono fun e W' ⟨he, bel⟩ => ?_
  subst he
  exact ⟨_, rfl, _, _, _, [], _, [], hW', trodAll_mk1 (shut_bool Try.underlying4 _), (trodAll_cons_mk (Below.trod laidOut (by kernel_rfl) (of_decide_eq_true (by kernel_rfl)) k0 bel lt0) trodAll_mk0), rfl, bel.frame _, fun h => by cases h⟩

theorem over : Rows.fnPhaseArcRow.holds Try.pinned (OpenSpec.ofChange Rows.fnPhaseArcSpec) :=
  OpenClaim.holds_of_wide 5 Try.f5 rfl rfl rfl rfl rfl rfl rfl ⟨rfl, rfl, rfl, rfl, rfl⟩ rfl rfl rfl rfl rfl (by kernel_rfl) Try.func5 (by kernel_rfl)
    (of_decide_eq_true (by kernel_rfl)) (by unfold Func.isWrapper; first | (rw [if_pos (by decide +kernel)]; kernel_rfl) | (rw [if_neg (by decide +kernel)]; exact ⟨rfl, rfl⟩))
    (fun os started H enc _ => lifted os started H enc)

/-- The statement. -/
theorem proved : Rows.FnPhaseArcSaid := over
#print axioms proved
end Go.Proofs.Ytjleofepjfdcbaa.fnPhaseArc
