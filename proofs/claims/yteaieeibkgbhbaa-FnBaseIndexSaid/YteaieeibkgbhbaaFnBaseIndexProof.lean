/- Proof that the law FnBaseIndex returns true for all arguments. -/
import Derived.Test.YteaieeibkgbhbaaRows
import Derived.WalkKit
import Derived.ProofKit
import Derived.OpenShut
import Derived.ShutString
import Derived.ChangeOld
import Derived.Below
import Derived.Test.YteaieeibkgbhbaaBq
import Derived.Test.YteaieeibkgbhbaaDb
namespace Go.Proofs.Yteaieeibkgbhbaa.fnBaseIndex
open Go.ChangeShapes Go.WideShapes Go.ChangeAt Go.RowKit
set_option linter.unusedVariables false

theorem own : ownKnob Try.prog.godebug = none := by kernel_rfl
theorem laidOut : laidOutB Try.prog = true := by kernel_rfl
/-- A slice of integers that came in: nil, or a row of cap cells, the numbers zs. -/
def IsRow (k : IntKind) (w : World) (a : Option Addr) (len cap : Nat) (zs : List Int) : Prop :=
  (a = none ∧ len = 0 ∧ cap = 0 ∧ zs = []) ∨
  ∃ x, a = some x ∧ len ≤ cap ∧ cap ≤ maxLen ∧ zs.length = cap ∧ (∀ i, i < zs.length → w.cell? (x.add i) = some (.int k (zs.getD i 0))) ∧ ∀ n ∈ zs, (Lit.int k n).wf = true
set_option maxRecDepth 100000 in
set_option maxHeartbeats 2000000 in
theorem walk (a0 : Option Addr) (len0 cap0 : Nat) (z0 : List Int) (w : World) (w0 : IsRow .u8 w a0 len0 cap0 z0) :
    Calls Try.prog 7 #[.slice a0 len0 cap0] w fun e w' => e = .returned (.bool true) ∧ Below w.heap.size w w' := by
  have H := Lib.hid (code_of w0); clear w0
  by_cases hl : 1048576 < len0
  · go_enter Try.func7, Try.ntmps7
    go_wp2
    go_ret
    exact ⟨rfl, Below.refl _ _⟩
  go_enter Try.func7, Try.ntmps7
  go_wp2_with fail
  refine (drawBaseIndex_any H.out).mono ?_
  rintro e w1 ⟨n, i, j, ⟨n0, n1, i0, i1, j0, j1⟩, rfl, hbel⟩
  obtain ⟨o, ho⟩ : ∃ o : Int, o = biI n i j := ⟨_, rfl⟩
  have C1 : Hid (∀ w, Calls Try.prog 10 #[.int .i64 n, .int .i64 i, .int .i64 j] w fun e w' => e = .returned (.int .i64 o) ∧ w = w') := Lib.hid fun w => by rw [ho]; exact baseIndex_any n i j w
  have C2 : Hid (∀ w, Calls Try.prog 9 #[.int .i64 n, .int .i64 i, .int .i64 j] w fun e w' => e = .returned (.int .i64 o) ∧ w = w') := Lib.hid fun w => by rw [ho]; exact sBaseIndex_any n i j w
  by_cases hv : bV n i j
  · have hp : (i < j ∧ Pr n i j) ∨ (j < i ∧ Pr n j i) := by
      obtain ⟨h1, h2, h3, h4⟩ := hv
      rcases Int.lt_trichotomy i j with h | h | h
      · exact .inl ⟨h, h1, h2.1, h, h3.2⟩
      · exact absurd h h4
      · exact .inr ⟨h, h1, h3.1, h, h2.2⟩
    clear hv
    rcases hp with ⟨hij, hp⟩ | ⟨hij, hp⟩
    · obtain ⟨⟨f0, f1, f2⟩, _, _, _⟩ := bi_facts hp
      have hs := bi_sym hp
      rw [← ho] at f0 f1 hs
      have C3 : Hid (∀ w, Calls Try.prog 16 #[.int .i64 n, .int .i64 o] w fun e w' => e = .returned (.tuple #[.int .i64 i, .int .i64 j, .bool true]) ∧ Below w.heap.size w w') := Lib.hid fun w => basePair_yes n o i j w hp ho.symm
      have C4 : Hid (∀ w, Calls Try.prog 10 #[.int .i64 n, .int .i64 j, .int .i64 i] w fun e w' => e = .returned (.int .i64 o) ∧ w = w') := Lib.hid fun w => by rw [← hs]; exact baseIndex_any _ _ _ w
      have C5 : Hid (∀ w, Calls Try.prog 12 #[.int .i64 n] w fun e w' => e = .returned (.int .i64 (bmI n)) ∧ w = w') := Lib.hid fun w => baseMany_any _ w
      have q0 : decide (o < bmI n) = true := by simp; omega
      clear hs ho hp
      go_wp2_with fail
      refine (C1.out _).mono ?_
      rintro e w' ⟨rfl, rfl⟩
      go_wp2_with fail
      refine (C2.out _).mono ?_
      rintro e w' ⟨rfl, rfl⟩
      go_wp2_with fail
      refine (C3.out _).mono ?_
      rintro e w2 ⟨rfl, hb⟩
      have hbel2 := kept_trans hbel hb
      clear hb hbel
      go_wp2_with (first | (go_at_call 10; refine (C4.out _).mono ?_; rintro e w' ⟨rfl, rfl⟩) | (go_at_call 12; refine (C5.out _).mono ?_; rintro e w' ⟨rfl, rfl⟩))
      all_goals go_ret
      all_goals refine ⟨ret_true ?_, hbel2⟩
      all_goals first | rfl | (simp; omega)
    · obtain ⟨⟨f0, f1, f2⟩, _, _, _⟩ := bi_facts hp
      have hs := bi_sym hp
      rw [← hs, ← ho] at f0 f1
      have C3 : Hid (∀ w, Calls Try.prog 16 #[.int .i64 n, .int .i64 o] w fun e w' => e = .returned (.tuple #[.int .i64 j, .int .i64 i, .bool true]) ∧ Below w.heap.size w w') := Lib.hid fun w => basePair_yes n o j i w hp (hs.symm.trans ho.symm)
      have C4 : Hid (∀ w, Calls Try.prog 10 #[.int .i64 n, .int .i64 j, .int .i64 i] w fun e w' => e = .returned (.int .i64 o) ∧ w = w') := Lib.hid fun w => by rw [ho, hs]; exact baseIndex_any _ _ _ w
      have C5 : Hid (∀ w, Calls Try.prog 12 #[.int .i64 n] w fun e w' => e = .returned (.int .i64 (bmI n)) ∧ w = w') := Lib.hid fun w => baseMany_any _ w
      have q0 : decide (o < bmI n) = true := by simp; omega
      clear hs ho hp
      go_wp2_with fail
      refine (C1.out _).mono ?_
      rintro e w' ⟨rfl, rfl⟩
      go_wp2_with fail
      refine (C2.out _).mono ?_
      rintro e w' ⟨rfl, rfl⟩
      go_wp2_with fail
      refine (C3.out _).mono ?_
      rintro e w2 ⟨rfl, hb⟩
      have hbel2 := kept_trans hbel hb
      clear hb hbel
      go_wp2_with (first | (go_at_call 10; refine (C4.out _).mono ?_; rintro e w' ⟨rfl, rfl⟩) | (go_at_call 12; refine (C5.out _).mono ?_; rintro e w' ⟨rfl, rfl⟩))
      all_goals go_ret
      all_goals refine ⟨ret_true ?_, hbel2⟩
      all_goals first | rfl | (simp; omega)
  · have hb := bi_no hv
    have ho' : o = -1 := ho.trans hb
    clear hv hb ho
    subst ho'
    go_wp2_with fail
    refine (C1.out _).mono ?_
    rintro e w' ⟨rfl, rfl⟩
    go_wp2_with fail
    refine (C2.out _).mono ?_
    rintro e w' ⟨rfl, rfl⟩
    go_wp2_with fail
    go_ret
    exact ⟨rfl, hbel⟩

set_option maxRecDepth 100000 in
theorem lifted (os : Os) (started : os.Started) (H : Type) (enc : TypeId × Value → H) :
    ReturnsInHanded {} Try.checked os 7 .any (Rows.fnBaseIndexSpec.pre6 enc Try.prog Try.f7 Rows.fnBaseIndexRow.domain false) (Rows.fnBaseIndexSpec.post enc Try.prog Try.f7 false true false false) := by
  refine returnsInHanded_of_change (C := Try.checked) own started (by kernel_rfl) Try.func7
    (ChangeSpec.witness6 (enc := enc) (C := Try.checked) false ⟨#[], #[.slice none 0 0], []⟩ 8 (by kernel_rfl) (by kernel_rfl) (by kernel_rfl) (by kernel_rfl)) ?_
  intro W base args ds gs before hval0 hW hcnd _
  have hval : ∀ (j : Nat) t v, Try.f7.params[j]? = some t → args[j]? = some v → Value.okWide Try.prog W .any base t v := hval0
  have hW' := hW
  obtain ⟨p, q, hA0, hV, rfl, hfz, hnd⟩ := hW
  have hA : DataW.TrodAll enc Try.prog W 0 (fun _ => true) true Try.f7.params.toList args.toList ds p := hA0
  rw [Try.params7] at hA hval
  obtain ⟨v0, vs0, d0, ds0, p0, q0, hargs, rfl, rfl, h0, r0⟩ := trodAll_cons hA
  obtain ⟨rfl, rfl, rfl⟩ := trodAll_nil r0
  obtain rfl : args = #[v0] := by cases args; simp_all
  obtain ⟨rfl, rfl⟩ := trodVars_none hV
  obtain ⟨a0, len0, cap0, rfl⟩ := okWide_slice Try.underlying24 (hval 0 24 v0 rfl rfl)
  have k0 := h0
  have lt0 : ∀ x ∈ p0, x.block < W.heap.size := by obtain ⟨m, hm⟩ := k0; exact DataW.trod_lt m _ _ _ hm
  obtain ⟨z0, w0⟩ : ∃ zs, IsRow .u8 W a0 len0 cap0 zs := by
    obtain ⟨fuel, hf⟩ := h0
    rcases open_ints Try.underlying24 Try.underlying5 (by kernel_rfl) hf with ⟨hcs, _⟩ | ⟨x, l, c, zs, hcs, _, hl, hm, hz, _, hcell, hwz⟩
    · simp [Value.cells] at hcs
      obtain ⟨rfl, rfl, rfl⟩ := hcs
      exact ⟨[], .inl ⟨rfl, rfl, rfl, rfl⟩⟩
    · simp [Value.cells] at hcs
      obtain ⟨rfl, rfl, rfl⟩ := hcs
      exact ⟨zs, .inr ⟨_, rfl, hl, hm, by simpa using hz, hcell, hwz⟩⟩
  clear hA0 hval0
  refine (walk a0 len0 cap0 z0 W w0).mono fun e W' ⟨he, bel⟩ => ?_
  subst he
  exact ⟨_, rfl, _, _, _, [], _, [], hW', trodAll_mk1 (shut_bool Try.underlying4 _), (trodAll_cons_mk (Below.trod laidOut (by kernel_rfl) (of_decide_eq_true (by kernel_rfl)) k0 bel lt0) trodAll_mk0), rfl, bel.frame _, fun h => by cases h⟩

theorem over : Rows.fnBaseIndexRow.holds Try.pinned (OpenSpec.ofChange Rows.fnBaseIndexSpec) :=
  OpenClaim.holds_of_wide 7 Try.f7 rfl rfl rfl rfl rfl rfl rfl ⟨rfl, rfl, rfl, rfl, rfl⟩ rfl rfl rfl rfl rfl (by kernel_rfl) Try.func7 (by kernel_rfl)
    (of_decide_eq_true (by kernel_rfl)) (by unfold Func.isWrapper; first | (rw [if_pos (by decide +kernel)]; kernel_rfl) | (rw [if_neg (by decide +kernel)]; exact ⟨rfl, rfl⟩))
    (fun os started H enc _ => lifted os started H enc)

/-- The statement. -/
theorem proved : Rows.FnBaseIndexSaid := over
#print axioms proved
end Go.Proofs.Yteaieeibkgbhbaa.fnBaseIndex
