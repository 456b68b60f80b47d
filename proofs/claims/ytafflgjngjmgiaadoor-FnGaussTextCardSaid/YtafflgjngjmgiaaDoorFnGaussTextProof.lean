/- Proof that the law FnGaussText returns true for all arguments. -/
import Derived.Test.YtafflgjngjmgiaaDoorRows
import Derived.WalkKit
import Derived.ProofKit
import Derived.OpenShut
import Derived.ShutString
import Derived.ChangeOld
import Derived.Below
import Derived.Test.YtafflgjngjmgiaaDoorTie
import Derived.Test.YtafflgjngjmgiaaDoorCards
import Derived.SevenTiedAt
import Derived.LaidMore
import Derived.Handy
import Derived.Lay
import Derived.Test.YtafflgjngjmgiaaDoorTe
import Derived.Deep.QuietTactic
import Derived.Deep.RegionLaw
import Derived.BigQuiet
import Derived.IntWalk
import Derived.Outline
namespace Go.Proofs.YtafflgjngjmgiaaDoor.fnGaussText
open Go.ChangeShapes Go.WideShapes Go.ChangeAt Go.RowKit
set_option linter.unusedVariables false

theorem own : ownKnob Tryd.prog.godebug = none := by kernel_rfl
theorem laidOut : laidOutB Tryd.prog = true := by kernel_rfl
/-- A slice of integers that came in: nil, or a row of cap cells, the numbers zs. -/
def IsRow (k : IntKind) (w : World) (a : Option Addr) (len cap : Nat) (zs : List Int) : Prop :=
  (a = none ∧ len = 0 ∧ cap = 0 ∧ zs = []) ∨
  ∃ x, a = some x ∧ len ≤ cap ∧ cap ≤ maxLen ∧ zs.length = cap ∧ (∀ i, i < zs.length → w.cell? (x.add i) = some (.int k (zs.getD i 0))) ∧ ∀ n ∈ zs, (Lit.int k n).wf = true
set_option maxRecDepth 100000 in
set_option maxHeartbeats 2000000 in
theorem walk (a0 : Option Addr) (len0 cap0 : Nat) (z0 : List Int) (w : World) (w0 : IsRow .u8 w a0 len0 cap0 z0) (ht : Tab w) :
    Calls Tryd.prog 4 #[.slice a0 len0 cap0] w fun e w' => e = .returned (.bool true) ∧ Below w.heap.size w w' := by
  have H := Lib.hid (code_of w0); clear w0
  have HT := Lib.hid ht
  clear ht
  by_cases hl0 : 1048576 < len0
  · go_enter Tryd.func4, Tryd.ntmps4
    go_wp2
    go_ret
    exact ⟨rfl, Below.refl _ _⟩
  go_enter Tryd.func4, Tryd.ntmps4
  go_wp2_with fail
  refine (drawGaussText H.out).mono ?_
  rintro e w1 ⟨x, y, ⟨x0, x1, y0, y1⟩, rfl, hb⟩
  have HB2 := kept_alloc hb (.cells #[.int .i64 x, .int .i64 y] 25)
  have hB2 : B2 (w1.alloc (.cells #[.int .i64 x, .int .i64 y] 25)) w1.heap.size (.int .i64 x) (.int .i64 y) := B2.new _ _ _ _
  clear hb H
  by_cases hV : -1000000000 ≤ x ∧ x ≤ 1000000000 ∧ -1000000000 ≤ y ∧ y ≤ 1000000000
  · obtain ⟨t, tx, ty, ht, htx, hty, hx, hy, h4, h50, hlast⟩ := near_texts hV
    have HX := Lib.hid ht
    have HA := Lib.hid ht.2
    have HXX := Lib.hid htx.2
    have HXY := Lib.hid hty.2
    have n0 := text_ne h4
    have n1 := list_ne hx
    have n2 := list_ne hy
    have n3 : (4 : Int) ≤ (t.size : Int) := by omega
    have hix : ∀ W, (Instr.index 9 (.string t) (.int .i64 ((t.size : Int) - 1))).run Tryd.prog W = .ok (.int .u8 105) W := fun W => idx_last t h4 hlast W
    clear ht htx hty hx hy hV hlast
    go_wp2_with ((first | (go_at_call 9; refine (gauss_any _ _ _).mono ?_) | (go_at_call 5; refine (HX.out.1 _).mono ?_) | (go_at_call 7; (first | with_reducible refine (HA.out _ (HT.out.keep HB2)).mono ?_ | with_reducible refine (HXX.out _ (HT.out.keep HB2)).mono ?_ | with_reducible refine (HXY.out _ (HT.out.keep HB2)).mono ?_))); rintro e w' ⟨rfl, hq⟩; have q := B2.below hB2 hq; have qq := kept_trans HB2 hq; clear hB2 HB2 hq; have hB2 := q; have HB2 := qq; obtain ⟨c0, c1⟩ := q; clear qq)
    all_goals go_ret
    exact ⟨ret_true (by simp [n1, n2]), HB2⟩
  · obtain ⟨t, ht⟩ : ∃ t : ByteArray, t = ⟨#[]⟩ := ⟨_, rfl⟩
    have HX := Lib.hid (texts_no hV)
    clear hV ht t
    go_wp2_with ((first | (go_at_call 5; refine (HX.out.1 _).mono ?_) | (go_at_call 7; refine (HX.out.2 _ (HT.out.keep HB2)).mono ?_)); rintro e w' ⟨rfl, hq⟩; have q := B2.below hB2 hq; have qq := kept_trans HB2 hq; clear hB2 HB2 hq; have hB2 := q; have HB2 := qq; obtain ⟨c0, c1⟩ := q; clear qq)
    go_ret
    exact ⟨rfl, HB2⟩

set_option maxRecDepth 100000 in
theorem lifted (os : Os) (started : os.Started) (H : Type) (enc : TypeId × Value → H) :
    ReturnsInHanded {} Tryd.checked os 4 .any (fun w args => (Rows.fnGaussTextSpec.pre enc Tryd.prog Tryd.f4 [] false w args ∧ laidMetH Tryd.prog Rows.fnGaussTextRow.laid w) ∧ sizedMet enc Tryd.prog Tryd.f4 (OpenSpec.ofChange Rows.fnGaussTextSpec) false w args)
      (Rows.fnGaussTextSpec.post enc Tryd.prog Tryd.f4 false true false false) := by
  refine returnsInHanded_of_change_and (C := Tryd.checked) (X := fun w _ => laidMetH Tryd.prog Rows.fnGaussTextRow.laid w) (fun _ _ _ hh h => h.of_heap hh) own started (by kernel_rfl) Tryd.func4
    (ChangeSpec.witness_shaped (enc := enc) (C := Tryd.checked) (os := os) (X := fun w _ => laidMetH Tryd.prog Rows.fnGaussTextRow.laid w) false (World.laidAll Tryd.prog os Rows.fnGaussTextRow.laid) #[.slice none 0 0] 8 (World.laidAll_os _ _ _)
      (World.shaped_of_ZipB (by kernel_rfl) (by kernel_rfl)) (by kernel_rfl) (by kernel_rfl) (by kernel_rfl)
      (by rw [MakeChecks.laidMetH_plain _ _ _ (by kernel_rfl)]; exact laidMet_laidAll _ (by kernel_rfl) (by kernel_rfl))) ?_
  intro W base args ds gs before hval0 hW _ _ hL _
  have hval : ∀ (j : Nat) t v, Tryd.f4.params[j]? = some t → args[j]? = some v → Value.okWide Tryd.prog W .any base t v := hval0
  have hW' := hW
  obtain ⟨p, q, hA0, hV, rfl, hfz, hnd⟩ := hW
  have hA : DataW.TrodAll enc Tryd.prog W 0 (fun _ => true) true Tryd.f4.params.toList args.toList ds p := hA0
  rw [Tryd.params4] at hA hval
  obtain ⟨v0, vs0, d0, ds0, p0, q0, hargs, rfl, rfl, h0, r0⟩ := trodAll_cons hA
  obtain ⟨rfl, rfl, rfl⟩ := trodAll_nil r0
  obtain rfl : args = #[v0] := by cases args; simp_all
  obtain ⟨rfl, rfl⟩ := trodVars_none hV
  obtain ⟨a0, len0, cap0, rfl⟩ := okWide_slice Tryd.underlying28 (hval 0 28 v0 rfl rfl)
  have k0 := h0
  have lt0 : ∀ x ∈ p0, x.block < W.heap.size := by obtain ⟨m, hm⟩ := k0; exact DataW.trod_lt m _ _ _ hm
  obtain ⟨z0, w0⟩ : ∃ zs, IsRow .u8 W a0 len0 cap0 zs := by
    obtain ⟨fuel, hf⟩ := h0
    rcases open_ints Tryd.underlying28 Tryd.underlying5 (by kernel_rfl) hf with ⟨hcs, _⟩ | ⟨x, l, c, zs, hcs, _, hl, hm, hz, _, hcell, hwz⟩
    · simp [Value.cells] at hcs
      obtain ⟨rfl, rfl, rfl⟩ := hcs
      exact ⟨[], .inl ⟨rfl, rfl, rfl, rfl⟩⟩
    · simp [Value.cells] at hcs
      obtain ⟨rfl, rfl, rfl⟩ := hcs
      exact ⟨zs, .inr ⟨_, rfl, hl, hm, by simpa using hz, hcell, hwz⟩⟩
  clear hA0 hval0
  refine (walk a0 len0 cap0 z0 W w0 (tab_of_laid hL)).mono fun e W' ⟨he, bel⟩ => ?_
  subst he
  exact ⟨_, rfl, _, _, _, [], _, [], hW', trodAll_mk1 (shut_bool Tryd.underlying4 _), (trodAll_cons_mk (Below.trod laidOut (by kernel_rfl) (of_decide_eq_true (by kernel_rfl)) k0 bel lt0) trodAll_mk0), rfl, bel.frame _, fun h => by cases h⟩

theorem over : Rows.fnGaussTextRow.holds Tryd.pinned (OpenSpec.ofChange Rows.fnGaussTextSpec) :=
  OpenClaim.holds_of_wide 4 Tryd.f4 rfl rfl rfl rfl rfl rfl rfl ⟨rfl, rfl, rfl, rfl, rfl⟩ rfl rfl rfl rfl rfl (by kernel_rfl) Tryd.func4 (by kernel_rfl)
    (of_decide_eq_true (by kernel_rfl)) (by unfold Func.isWrapper; first | (rw [if_pos (by decide +kernel)]; kernel_rfl) | (rw [if_neg (by decide +kernel)]; exact ⟨rfl, rfl⟩))
    (fun os started H enc _ => lifted os started H enc)

/-- The statement. -/
theorem proved : Rows.FnGaussTextCardSaid :=
  Claim7.holds_tied_plain_at .later [] [.data, .data, .data] true (true, "3f6b81a67c25c96655c1bfbdc91430e7da9d25fc6e9385353cbc3d22c04266f7") false over (fun _ h => by cases h) (by kernel_rfl) (fun _ h => by cases h) fnGaussText_row_tie rfl ⟨rfl, rfl⟩ (by kernel_rfl) rfl
    (fun f fn hf hfn => by
      obtain rfl : f = 4 := Option.some.inj ((show Tryd.prog.funcNamed "loop.example/radiointerferometer/laws.FnGaussText" = some 4 by kernel_rfl).symm.trans hf) |>.symm
      obtain rfl : fn = Tryd.f4 := (Option.some.inj (Tryd.func4.symm.trans hfn)).symm
      exact ⟨by kernel_rfl, fun j t ht => by
        rw [Tryd.params4] at ht
        have hm : t ∈ [28] := by simpa using Array.mem_of_getElem? ht
        have hall : ([28].all fun u => !Tryd.prog.wantsStandIn u) = true := by kernel_rfl
        exact (show Tryd.prog.wantsStandIn t = false by simpa using List.all_eq_true.1 hall t hm)⟩)
    (by kernel_rfl)
#print axioms proved
end Go.Proofs.YtafflgjngjmgiaaDoor.fnGaussText
