/- Proof that the law FnArrayOrder returns true for all arguments. -/
import Derived.Test.YtbpbadmgmlfdhaaRows
import Derived.WalkKit
import Derived.ProofKit
import Derived.OpenShut
import Derived.ShutString
import Derived.ChangeOld
import Derived.Below
import Derived.Test.YtbpbadmgmlfdhaaBa
import Derived.Deep.QuietTactic
import Derived.Deep.RegionLaw
import Derived.BigQuiet
import Derived.IntWalk
import Derived.Outline
namespace Go.Proofs.Ytbpbadmgmlfdhaa.fnArrayOrder
open Go.ChangeShapes Go.WideShapes Go.ChangeAt Go.RowKit
set_option linter.unusedVariables false

theorem own : ownKnob Try.prog.godebug = none := by kernel_rfl
theorem laidOut : laidOutB Try.prog = true := by kernel_rfl
/-- A slice of integers that came in: nil, or a row of cap cells, the numbers zs. -/
def IsRow (k : IntKind) (w : World) (a : Option Addr) (len cap : Nat) (zs : List Int) : Prop :=
  (a = none ∧ len = 0 ∧ cap = 0 ∧ zs = []) ∨
  ∃ x, a = some x ∧ len ≤ cap ∧ cap ≤ maxLen ∧ zs.length = cap ∧ (∀ i, i < zs.length → w.cell? (x.add i) = some (.int k (zs.getD i 0))) ∧ ∀ n ∈ zs, (Lit.int k n).wf = true
set_option maxRecDepth 100000 in
set_option maxHeartbeats 4000000 in
theorem walk (a0 : Option Addr) (len0 cap0 : Nat) (z0 : List Int) (a1 : Option Addr) (len1 cap1 : Nat) (z1 : List Int) (w : World) (w0 : IsRow .u8 w a0 len0 cap0 z0) (w1 : IsRow .u8 w a1 len1 cap1 z1) :
    Calls Try.prog 6 #[.slice a0 len0 cap0, .slice a1 len1 cap1] w fun e w' => e = .returned (.bool true) ∧ Below w.heap.size w w' := by
  have H := Lib.hid (code_of w0); clear w0
  clear w1
  by_cases hl0 : 1048576 < len0
  · go_enter Try.func6, Try.ntmps6
    go_wp2
    go_ret
    exact ⟨rfl, Below.refl _ _⟩
  by_cases hl1 : 1048576 < len1
  · go_enter Try.func6, Try.ntmps6
    go_wp2
    go_ret
    exact ⟨rfl, Below.refl _ _⟩
  obtain ⟨i0, hi0, hz0, hz1, hz2⟩ := infoA_parts
  go_enter Try.func6, Try.ntmps6
  go_wp2_with fail
  refine (drawArrayValid_any H.out).mono ?_
  rintro e w1 ⟨a, n, c, X, Y, rfl, hn, hnc, hcm, hi, hbel⟩
  have HI := Lib.hid hi; clear hi
  by_cases hg : Arr X Y n
  · have HG := Lib.hid hg.2
    obtain ⟨⟨n0, n1⟩, _⟩ := hg
    go_wp2_with fail
    refine (arr_yes a n c X Y w1 HI.out hnc hcm ⟨⟨n0, n1⟩, HG.out⟩).mono ?_
    rintro e w2 ⟨rfl, hb2⟩
    go_wp2_with fail
    refine (sArr_yes a n c X Y w2 (HI.out.keep hb2) ⟨⟨n0, n1⟩, HG.out⟩).mono ?_
    rintro e w3 ⟨rfl, hb3⟩
    obtain ⟨b1, o1, rfl, hlt1, _⟩ := HI.out.at (show 0 < n by omega)
    have HI3 := Lib.hid ((HI.out.keep hb2).keep hb3)
    have HB3 := Lib.hid (kept_trans hbel (kept_trans hb2 hb3))
    obtain ⟨k, hk⟩ : ∃ k : Nat, k = len1 % n := ⟨_, rfl⟩
    have hkn : k < n := by rw [hk]; exact Nat.mod_lt _ (by omega)
    have e4 : (len1 : Int) % (n : Int) = (k : Int) := by rw [hk]; omega
    have E4 := Lib.hid e4
    clear hb2 hb3 hbel e4 hk
    go_wp2_with fail
    rw [E4.out]
    by_cases hk0 : k = 0
    · subst hk0
      go_region_law (first | (refine step_appA hi0 hz0 hz1 hz2 rfl (.tmp 38) (.tmp 41) rfl w3 ?_ (.slice (some ⟨_, 0, none⟩) 0 0) 0 [] rfl ?_ ⟨b1, o1, none⟩ n c (pairsA X Y n) rfl (pairsA_length _ _ _) ?_ (by omega) (by omega) ?_; (focus ((repeat (first | assumption | exact kept_refl _ | refine Below.drew ?_ | refine kept_alloc ?_ _)); done)); (focus ((repeat (first | assumption | (refine own_madeA ?_ ?_ <;> (focus (simp <;> omega))) | refine World.ownsRow.drew ?_ | refine World.ownsRow.alloc ?_ _)); done)); (focus (refine ants_news (HI3.out.keep ?_); (repeat (first | assumption | exact kept_refl _ | refine Below.drew ?_ | refine kept_alloc ?_ _)); done)); intro g1 cap1 w5 hown1 hb1 hgrow1 hfar1; simp only [Nat.zero_add, List.nil_append] at hown1; have hcap1 := (own_cap hown1).1; simp only [Nat.zero_add]) | (go_simp; go_at_call 10; refine (own_yes hown1 (pairsA_length _ _ _) (pairs_arr ⟨⟨n0, n1⟩, HG.out⟩)).mono ?_; rintro e w' ⟨rfl, hb4⟩; have hb5 := kept_trans hb1 hb4; clear hown1 hgrow1 hfar1 hb1 hb4))
      all_goals go_wp2_with fail
      all_goals (simp only [Act.put, List.setIfInBounds_toArray, List.set_cons_zero, List.set_cons_succ, List.getElem_toArray, List.getElem_cons_zero, List.getElem_cons_succ])
      all_goals go_wp2_with fail
      all_goals go_ret
      all_goals exact ⟨rfl, kept_trans HB3.out hb5⟩
    · have k0 : 0 < k := by omega
      have k1 : k ≤ n := by omega
      have k2 : ¬ c = k := by omega
      have k3 : k ≤ c := by omega
      clear hk0
      go_region_law (first | (refine step_appA hi0 hz0 hz1 hz2 rfl (.tmp 38) (.tmp 41) rfl w3 ?_ (.slice (some ⟨_, 0, none⟩) 0 0) 0 [] rfl ?_ ⟨b1, o1 + k * 2, none⟩ (n - k) _ (pairsA (fun i => X (k + i)) (fun i => Y (k + i)) (n - k)) rfl (pairsA_length _ _ _) ?_ (by omega) (by omega) ?_; (focus ((repeat (first | assumption | exact kept_refl _ | refine Below.drew ?_ | refine kept_alloc ?_ _)); done)); (focus ((repeat (first | assumption | (refine own_madeA ?_ ?_ <;> (focus (simp <;> omega))) | refine World.ownsRow.drew ?_ | refine World.ownsRow.alloc ?_ _)); done)); (focus (refine ants_news (Ants.drop (HI3.out.keep ?_)); (repeat (first | assumption | exact kept_refl _ | refine Below.drew ?_ | refine kept_alloc ?_ _)); done)); intro g1 cap1 w5 hown1 hb1 hgrow1 hfar1; simp only [Nat.zero_add, List.nil_append] at hown1; simp only [Nat.zero_add]) | (refine step_appA hi0 hz0 hz1 hz2 rfl (.tmp 42) (.tmp 45) rfl w3 ?_ _ _ _ rfl hown1 ⟨b1, o1, none⟩ k c (pairsA X Y k) rfl (pairsA_length _ _ _) ?_ (by omega) (by omega) ?_; (focus ((repeat (first | assumption | exact kept_refl _ | refine Below.drew ?_ | refine kept_alloc ?_ _)); done)); (focus (refine ants_news (Ants.take (HI3.out.keep ?_) (by omega)); (repeat (first | assumption | exact kept_refl _ | refine Below.drew ?_ | refine kept_alloc ?_ _)); done)); intro g2 cap2 w6 hown2 hb2 hgrow2 hfar2; simp only [show n - k + k = n from (by omega)] at hown2; simp only [show n - k + k = n from (by omega)]) | (go_simp; go_at_call 10; refine (own_yes hown2 (by simp [pairsA_length] <;> omega) (turn_arr ⟨⟨n0, n1⟩, HG.out⟩ hkn)).mono ?_; rintro e w' ⟨rfl, hb4⟩; have hb5 := kept_trans hb2 hb4; clear hown1 hgrow1 hfar1 hb1 hb4 hown2 hgrow2 hfar2 hb2))
      all_goals go_wp2_with fail
      all_goals (simp only [Act.put, List.setIfInBounds_toArray, List.set_cons_zero, List.set_cons_succ, List.getElem_toArray, List.getElem_cons_zero, List.getElem_cons_succ])
      all_goals go_wp2_with fail
      all_goals go_ret
      all_goals exact ⟨rfl, kept_trans HB3.out hb5⟩
  · have HG := Lib.hid hg
    clear hg
    go_wp2_with fail
    refine (arr_no a n c X Y w1 HI.out hnc hcm HG.out).mono ?_
    rintro e w2 ⟨rfl, hb2⟩
    go_wp2_with fail
    refine (sArr_no a n c X Y w2 (HI.out.keep hb2) (by omega) HG.out).mono ?_
    rintro e w3 ⟨rfl, hb3⟩
    go_wp2_with fail
    go_ret
    exact ⟨rfl, kept_trans hbel (kept_trans hb2 hb3)⟩

set_option maxRecDepth 100000 in
theorem lifted (os : Os) (started : os.Started) (H : Type) (enc : TypeId × Value → H) :
    ReturnsInHanded {} Try.checked os 6 .any (Rows.fnArrayOrderSpec.pre6 enc Try.prog Try.f6 Rows.fnArrayOrderRow.domain false) (Rows.fnArrayOrderSpec.post enc Try.prog Try.f6 false true false false) := by
  refine returnsInHanded_of_change (C := Try.checked) own started (by kernel_rfl) Try.func6
    (ChangeSpec.witness6 (enc := enc) (C := Try.checked) false ⟨#[], #[.slice none 0 0, .slice none 0 0], []⟩ 8 (by kernel_rfl) (by kernel_rfl) (by kernel_rfl) (by kernel_rfl)) ?_
  intro W base args ds gs before hval0 hW hcnd _
  have hval : ∀ (j : Nat) t v, Try.f6.params[j]? = some t → args[j]? = some v → Value.okWide Try.prog W .any base t v := hval0
  have hW' := hW
  obtain ⟨p, q, hA0, hV, rfl, hfz, hnd⟩ := hW
  have hA : DataW.TrodAll enc Try.prog W 0 (fun _ => true) true Try.f6.params.toList args.toList ds p := hA0
  rw [Try.params6] at hA hval
  obtain ⟨v0, vs0, d0, ds0, p0, q0, hargs, rfl, rfl, h0, r0⟩ := trodAll_cons hA
  obtain ⟨v1, vs1, d1, ds1, p1, q1, rfl, rfl, rfl, h1, r1⟩ := trodAll_cons r0
  obtain ⟨rfl, rfl, rfl⟩ := trodAll_nil r1
  obtain rfl : args = #[v0, v1] := by cases args; simp_all
  obtain ⟨rfl, rfl⟩ := trodVars_none hV
  obtain ⟨a0, len0, cap0, rfl⟩ := okWide_slice Try.underlying35 (hval 0 35 v0 rfl rfl)
  have k0 := h0
  have lt0 : ∀ x ∈ p0, x.block < W.heap.size := by obtain ⟨m, hm⟩ := k0; exact DataW.trod_lt m _ _ _ hm
  obtain ⟨z0, w0⟩ : ∃ zs, IsRow .u8 W a0 len0 cap0 zs := by
    obtain ⟨fuel, hf⟩ := h0
    rcases open_ints Try.underlying35 Try.underlying5 (by kernel_rfl) hf with ⟨hcs, _⟩ | ⟨x, l, c, zs, hcs, _, hl, hm, hz, _, hcell, hwz⟩
    · simp [Value.cells] at hcs
      obtain ⟨rfl, rfl, rfl⟩ := hcs
      exact ⟨[], .inl ⟨rfl, rfl, rfl, rfl⟩⟩
    · simp [Value.cells] at hcs
      obtain ⟨rfl, rfl, rfl⟩ := hcs
      exact ⟨zs, .inr ⟨_, rfl, hl, hm, by simpa using hz, hcell, hwz⟩⟩
  obtain ⟨a1, len1, cap1, rfl⟩ := okWide_slice Try.underlying35 (hval 1 35 v1 rfl rfl)
  have k1 := h1
  have lt1 : ∀ x ∈ p1, x.block < W.heap.size := by obtain ⟨m, hm⟩ := k1; exact DataW.trod_lt m _ _ _ hm
  obtain ⟨z1, w1⟩ : ∃ zs, IsRow .u8 W a1 len1 cap1 zs := by
    obtain ⟨fuel, hf⟩ := h1
    rcases open_ints Try.underlying35 Try.underlying5 (by kernel_rfl) hf with ⟨hcs, _⟩ | ⟨x, l, c, zs, hcs, _, hl, hm, hz, _, hcell, hwz⟩
    · simp [Value.cells] at hcs
      obtain ⟨rfl, rfl, rfl⟩ := hcs
      exact ⟨[], .inl ⟨rfl, rfl, rfl, rfl⟩⟩
    · simp [Value.cells] at hcs
      obtain ⟨rfl, rfl, rfl⟩ := hcs
      exact ⟨zs, .inr ⟨_, rfl, hl, hm, by simpa using hz, hcell, hwz⟩⟩
  clear hA0 hval0
  refine (walk a0 len0 cap0 z0 a1 len1 cap1 z1 W w0 w1).mono fun e W' ⟨he, bel⟩ => ?_
  subst he
  exact ⟨_, rfl, _, _, _, [], _, [], hW', trodAll_mk1 (shut_bool Try.underlying4 _), (trodAll_cons_mk (Below.trod laidOut (by kernel_rfl) (of_decide_eq_true (by kernel_rfl)) k0 bel lt0) (trodAll_cons_mk (Below.trod laidOut (by kernel_rfl) (of_decide_eq_true (by kernel_rfl)) k1 bel lt1) trodAll_mk0)), rfl, bel.frame _, fun h => by cases h⟩

theorem over : Rows.fnArrayOrderRow.holds Try.pinned (OpenSpec.ofChange Rows.fnArrayOrderSpec) :=
  OpenClaim.holds_of_wide 6 Try.f6 rfl rfl rfl rfl rfl rfl rfl ⟨rfl, rfl, rfl, rfl, rfl⟩ rfl rfl rfl rfl rfl (by kernel_rfl) Try.func6 (by kernel_rfl)
    (of_decide_eq_true (by kernel_rfl)) (by unfold Func.isWrapper; first | (rw [if_pos (by decide +kernel)]; kernel_rfl) | (rw [if_neg (by decide +kernel)]; exact ⟨rfl, rfl⟩))
    (fun os started H enc _ => lifted os started H enc)

/-- The statement. -/
theorem proved : Rows.FnArrayOrderSaid := over
#print axioms proved
end Go.Proofs.Ytbpbadmgmlfdhaa.fnArrayOrder
