/- Proof that the law FnBasePair returns true for all arguments. -/
import Derived.Test.YteaieeibkgbhbaaRows
import Derived.WalkKit
import Derived.ProofKit
import Derived.OpenShut
import Derived.ShutString
import Derived.ChangeOld
import Derived.Below
import Derived.Test.YteaieeibkgbhbaaBq
import Derived.Test.YteaieeibkgbhbaaDb
namespace Go.Proofs.Yteaieeibkgbhbaa.fnBasePair
open Go.ChangeShapes Go.WideShapes Go.ChangeAt Go.RowKit
set_option linter.unusedVariables false

theorem own : ownKnob Try.prog.godebug = none := by kernel_rfl
theorem laidOut : laidOutB Try.prog = true := by kernel_rfl
/-- A slice of integers that came in: nil, or a row of cap cells, the numbers zs. -/
def IsRow (k : IntKind) (w : World) (a : Option Addr) (len cap : Nat) (zs : List Int) : Prop :=
  (a = none ∧ len = 0 ∧ cap = 0 ∧ zs = []) ∨
  ∃ x, a = some x ∧ len ≤ cap ∧ cap ≤ maxLen ∧ zs.length = cap ∧ (∀ i, i < zs.length → w.cell? (x.add i) = some (.int k (zs.getD i 0))) ∧ ∀ n ∈ zs, (Lit.int k n).wf = true
set_option maxRecDepth 100000 in
set_option maxHeartbeats 2000000 in
theorem walk (a0 : Option Addr) (len0 cap0 : Nat) (z0 : List Int) (w : World) (w0 : IsRow .u8 w a0 len0 cap0 z0) :
    Calls Try.prog 8 #[.slice a0 len0 cap0] w fun e w' => e = .returned (.bool true) ∧ Below w.heap.size w w' := by
  have H := Lib.hid (code_of w0); clear w0
  by_cases hl : 1048576 < len0
  · go_enter Try.func8, Try.ntmps8
    go_wp2
    go_ret
    exact ⟨rfl, Below.refl _ _⟩
  go_enter Try.func8, Try.ntmps8
  go_wp2_with fail
  refine (drawBasePair_any H.out).mono ?_
  rintro e w1 ⟨n, a, ⟨n0, n1, a0, a1⟩, rfl, hbel⟩
  by_cases hex : ∃ x y, Pr n x y ∧ biI n x y = a
  · obtain ⟨x, y, hp, hb⟩ := hex
    obtain ⟨⟨f0, f1, f2⟩, f3, f4, f5⟩ := bi_facts hp
    rw [hb] at f0 f1 f3 f4 f5
    have HP := Lib.hid hp
    have HB := Lib.hid hb
    obtain ⟨⟨k0, k1⟩, g0, g1, g2⟩ := hp
    clear hb
    have C5 : Hid (∀ w, Calls Try.prog 12 #[.int .i64 n] w fun e w' => e = .returned (.int .i64 (bmI n)) ∧ w = w') := Lib.hid fun w => baseMany_any _ w
    have C4 : Hid (∀ w, Calls Try.prog 10 #[.int .i64 n, .int .i64 x, .int .i64 y] w fun e w' => e = .returned (.int .i64 a) ∧ w = w') := Lib.hid fun w => by rw [← HB.out]; exact baseIndex_any _ _ _ w
    have hnx : (∃ k l : Int, Hid (Pr n k l ∧ biI n k l = a + 1) ∧ decide (a < bmI n - 1) = true ∧ ((x < k) ∨ (k = x ∧ l = y + 1))) ∨ (Hid (∀ k l, Pr n k l → biI n k l ≠ a + 1) ∧ decide (a < bmI n - 1) = false) := by
      by_cases hl : a < bmI n - 1
      · left
        by_cases hy : y < n - 1
        · exact ⟨x, y + 1, Lib.hid ⟨⟨⟨k0, k1⟩, g0, by omega, by omega⟩, f3 hy⟩, by simp; omega, .inr ⟨rfl, rfl⟩⟩
        · have hx : x < n - 2 := by
            by_cases e : x = n - 2
            · have := f5 e; omega
            · omega
          exact ⟨x + 1, x + 2, Lib.hid ⟨⟨⟨k0, k1⟩, by omega, by omega, by omega⟩, f4 (by omega) hx⟩, by simp; omega, .inl (by omega)⟩
      · right
        exact ⟨Lib.hid (bi_none (by omega)), by simp; omega⟩
    clear f3 f4 f5
    go_wp2_with fail
    refine (basePair_yes n a x y _ HP.out HB.out).mono ?_
    rintro e w2 ⟨rfl, hb⟩
    have hbel2 := kept_trans hbel hb
    clear hb hbel
    go_wp2_with fail
    refine (sBasePair_yes n a x y _ HP.out HB.out).mono ?_
    rintro e w' ⟨rfl, rfl⟩
    rcases hnx with ⟨k, l, hn, q0, hkl⟩ | ⟨hn, q0⟩
    · go_wp2_with fail
      refine (basePair_yes n (a + 1) k l _ hn.out.1 hn.out.2).mono ?_
      rintro e w3 ⟨rfl, hb⟩
      have hbel3 := kept_trans hbel2 hb
      clear hb hbel2
      rcases hkl with hkl | ⟨hk, hl⟩
      · have q1 : decide (x < k) = true := by simp; omega
        go_wp2_with (first | (go_at_call 10; refine (C4.out _).mono ?_; rintro e w' ⟨rfl, rfl⟩) | (go_at_call 12; refine (C5.out _).mono ?_; rintro e w' ⟨rfl, rfl⟩))
        all_goals go_ret
        all_goals refine ⟨ret_true ?_, hbel3⟩
        all_goals first | rfl | (simp; omega)
      · have q1 : decide (x < k) = false := by simp; omega
        have q2 : (k == x) = true := by simp; omega
        have q3 : (l == y + 1) = true := by simp; omega
        clear hk hl
        go_wp2_with (first | (go_at_call 10; refine (C4.out _).mono ?_; rintro e w' ⟨rfl, rfl⟩) | (go_at_call 12; refine (C5.out _).mono ?_; rintro e w' ⟨rfl, rfl⟩))
        all_goals go_ret
        all_goals refine ⟨ret_true ?_, hbel3⟩
        all_goals first | rfl | (simp; omega)
    · go_wp2_with fail
      refine (basePair_no n (a + 1) _ hn.out).mono ?_
      rintro e w3 ⟨rfl, hb⟩
      have hbel3 := kept_trans hbel2 hb
      clear hb hbel2
      go_wp2_with (first | (go_at_call 10; refine (C4.out _).mono ?_; rintro e w' ⟨rfl, rfl⟩) | (go_at_call 12; refine (C5.out _).mono ?_; rintro e w' ⟨rfl, rfl⟩))
      all_goals go_ret
      all_goals refine ⟨ret_true ?_, hbel3⟩
      all_goals first | rfl | (simp; omega)
  · have HN : Hid (∀ x y, Pr n x y → biI n x y ≠ a) := Lib.hid (fun x y hp hb => hex ⟨x, y, hp, hb⟩)
    clear hex
    go_wp2_with fail
    refine (basePair_no n a _ HN.out).mono ?_
    rintro e w2 ⟨rfl, hb⟩
    have hbel2 := kept_trans hbel hb
    clear hb hbel
    go_wp2_with fail
    refine (sBasePair_no n a _ HN.out).mono ?_
    rintro e w' ⟨rfl, rfl⟩
    go_wp2_with fail
    go_ret
    exact ⟨rfl, hbel2⟩

set_option maxRecDepth 100000 in
theorem lifted (os : Os) (started : os.Started) (H : Type) (enc : TypeId × Value → H) :
    ReturnsInHanded {} Try.checked os 8 .any (Rows.fnBasePairSpec.pre6 enc Try.prog Try.f8 Rows.fnBasePairRow.domain false) (Rows.fnBasePairSpec.post enc Try.prog Try.f8 false true false false) := by
  refine returnsInHanded_of_change (C := Try.checked) own started (by kernel_rfl) Try.func8
    (ChangeSpec.witness6 (enc := enc) (C := Try.checked) false ⟨#[], #[.slice none 0 0], []⟩ 8 (by kernel_rfl) (by kernel_rfl) (by kernel_rfl) (by kernel_rfl)) ?_
  intro W base args ds gs before hval0 hW hcnd _
  have hval : ∀ (j : Nat) t v, Try.f8.params[j]? = some t → args[j]? = some v → Value.okWide Try.prog W .any base t v := hval0
  have hW' := hW
  obtain ⟨p, q, hA0, hV, rfl, hfz, hnd⟩ := hW
  have hA : DataW.TrodAll enc Try.prog W 0 (fun _ => true) true Try.f8.params.toList args.toList ds p := hA0
  rw [Try.params8] at hA hval
  obtain ⟨v0, vs0, d0, ds0, p0, q0, hargs, rfl, rfl, h0, r0⟩ := trodAll_cons hA
  obtain ⟨rfl, rfl, rfl⟩ := trodAll_nil r0
  obtain rfl : args = #[v0] := by cases args; simp_all
  obtain ⟨rfl, rfl⟩ := trodVars_none hV
  obtain ⟨a0, len0, cap0, rfl⟩ := okWide_slice Try.underlying24 (hval 0 24 v0 rfl rfl)
  have k0 := h0
  have lt0 : ∀ x ∈ p0, x.block < W.heap.size := by obtain ⟨m, hm⟩ := k0; exact DataW.trod_lt m _ _ _ hm
  obtain ⟨z0, w0⟩ : ∃ zs, IsRow .u8 W a0 len0 cap0 zs := by
    obtain ⟨fuel, hf⟩ := h0
    rcases open_ints Try.underlying24 Try.underlying5 (by kernel_rfl) hf with ⟨hcs, _⟩ | ⟨x, l, c, zs, hcs, _, hl, hm, hz, _, hcell, hwz⟩
    · simp [Value.cells] at hcs
      obtain ⟨rfl, rfl, rfl⟩ := hcs
      exact ⟨[], .inl ⟨rfl, rfl, rfl, rfl⟩⟩
    · simp [Value.cells] at hcs
      obtain ⟨rfl, rfl, rfl⟩ := hcs
      exact ⟨zs, .inr ⟨_, rfl, hl, hm, by simpa using hz, hcell, hwz⟩⟩
  clear hA0 hval0
  refine (walk a0 len0 cap0 z0 W w0).mono fun e W' ⟨he, bel⟩ => ?_
  subst he
  exact ⟨_, rfl, _, _, _, [], _, [], hW', trodAll_mk1 (shut_bool Try.underlying4 _), (trodAll_cons_mk (Below.trod laidOut (by kernel_rfl) (of_decide_eq_true (by kernel_rfl)) k0 bel lt0) trodAll_mk0), rfl, bel.frame _, fun h => by cases h⟩

theorem over : Rows.fnBasePairRow.holds Try.pinned (OpenSpec.ofChange Rows.fnBasePairSpec) :=
  OpenClaim.holds_of_wide 8 Try.f8 rfl rfl rfl rfl rfl rfl rfl ⟨rfl, rfl, rfl, rfl, rfl⟩ rfl rfl rfl rfl rfl (by kernel_rfl) Try.func8 (by kernel_rfl)
    (of_decide_eq_true (by kernel_rfl)) (by unfold Func.isWrapper; first | (rw [if_pos (by decide +kernel)]; kernel_rfl) | (rw [if_neg (by decide +kernel)]; exact ⟨rfl, rfl⟩))
    (fun os started H enc _ => lifted os started H enc)

/-- The statement. -/
theorem proved : Rows.FnBasePairSaid := over
#print axioms proved
end Go.Proofs.Yteaieeibkgbhbaa.fnBasePair
