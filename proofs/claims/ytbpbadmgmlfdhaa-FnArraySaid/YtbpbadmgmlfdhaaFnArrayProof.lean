/- Proof that the law FnArray returns true for all arguments. -/
import Derived.Test.YtbpbadmgmlfdhaaRows
import Derived.WalkKit
import Derived.ProofKit
import Derived.OpenShut
import Derived.ShutString
import Derived.ChangeOld
import Derived.Below
import Derived.Test.YtbpbadmgmlfdhaaBa
import Derived.Deep.QuietTactic
import Derived.Deep.RegionLaw
import Derived.BigQuiet
import Derived.IntWalk
import Derived.Outline
namespace Go.Proofs.Ytbpbadmgmlfdhaa.fnArray
open Go.ChangeShapes Go.WideShapes Go.ChangeAt Go.RowKit
set_option linter.unusedVariables false

theorem own : ownKnob Try.prog.godebug = none := by kernel_rfl
theorem laidOut : laidOutB Try.prog = true := by kernel_rfl
/-- A slice of integers that came in: nil, or a row of cap cells, the numbers zs. -/
def IsRow (k : IntKind) (w : World) (a : Option Addr) (len cap : Nat) (zs : List Int) : Prop :=
  (a = none ∧ len = 0 ∧ cap = 0 ∧ zs = []) ∨
  ∃ x, a = some x ∧ len ≤ cap ∧ cap ≤ maxLen ∧ zs.length = cap ∧ (∀ i, i < zs.length → w.cell? (x.add i) = some (.int k (zs.getD i 0))) ∧ ∀ n ∈ zs, (Lit.int k n).wf = true
set_option maxRecDepth 100000 in
set_option maxHeartbeats 16000000 in
theorem walk (a0 : Option Addr) (len0 cap0 : Nat) (z0 : List Int) (w : World) (w0 : IsRow .u8 w a0 len0 cap0 z0) :
    Calls Try.prog 5 #[.slice a0 len0 cap0] w fun e w' => e = .returned (.bool true) ∧ Below w.heap.size w w' := by
  have H := Lib.hid (code_of w0); clear w0
  by_cases hl0 : 1048576 < len0
  · go_enter Try.func5, Try.ntmps5
    go_wp2
    go_ret
    exact ⟨rfl, Below.refl _ _⟩
  obtain ⟨i0, hi0, hz0, hz1, hz2⟩ := infoA_parts
  go_enter Try.func5, Try.ntmps5
  go_wp2_with fail
  refine (drawArrayValid_any H.out).mono ?_
  rintro e w1 ⟨a, n, c, X, Y, rfl, hn, hnc, hcm, hi, hbel⟩
  have HI := Lib.hid hi; clear hi
  by_cases hg : Arr X Y n
  · have HG := Lib.hid hg
    obtain ⟨⟨n0, n1⟩, _⟩ := hg
    go_wp2_with fail
    refine (arr_yes a n c X Y w1 HI.out hnc hcm HG.out).mono ?_
    rintro e w2 ⟨rfl, hb2⟩
    go_wp2_with fail
    refine (sArr_yes a n c X Y w2 (HI.out.keep hb2) HG.out).mono ?_
    rintro e w3 ⟨rfl, hb3⟩
    obtain ⟨b1, o1, rfl, hlt1, _⟩ := HI.out.at (show 0 < n by omega)
    have HI3 := Lib.hid ((HI.out.keep hb2).keep hb3)
    have HB3 := Lib.hid (kept_trans hbel (kept_trans hb2 hb3))
    clear hb2 hb3 hbel hlt1 HI H
    go_wp2_with fail
    go_loopw [6, 7] (fun v i wr => ∃ k : Nat, k ≤ n ∧ i = .int .i64 k ∧ wr.ownsRow w3.heap.size 30 2 v k (flatA (pairsA (fun i => -X i) (fun i => -Y i) k)) ∧ Below w3.heap.size w3 wr) (fun _ i _ => n - (intOf i).toNat)
    case atStart => exact ⟨0, Nat.zero_le _, rfl, World.ownsRow_made w3 #[] 0 (Nat.le_refl _) (Nat.zero_le _) rfl, kept_alloc (kept_refl _) _⟩
    case round =>
      obtain ⟨k, hk, rfl, ho, hb⟩ := hrel
      have HO := Lib.hid ho; clear ho
      have HB := Lib.hid hb
      by_cases hlt : k < n
      · obtain ⟨b2, o2, ha, hlt2, c1, d1⟩ := (HI3.out.keep hb).at hlt
        simp only [Option.some.injEq, Addr.mk.injEq, and_true] at ha
        obtain ⟨rfl, rfl⟩ := ha
        obtain ⟨x0, x1, y0, y1⟩ := HG.out.bd hlt
        have hsz := hb.size
        have e1 : (0 : Int) ≤ (k : Int) := by omega
        have e2 : (k : Int) < (n : Int) := by omega
        have e3 : IntKind.i64.wrap (-X k) = -X k := IntWalk.i64_in _ ⟨by omega, by omega⟩
        have e4 : IntKind.i64.wrap (-Y k) = -Y k := IntWalk.i64_in _ ⟨by omega, by omega⟩
        clear hb
        go_wp2_with fail
        go_region_law (refine step_appA hi0 hz0 hz1 hz2 rfl (.tmp 35) (.tmp 49) rfl w3 ?_ _ k (pairsA (fun i => -X i) (fun i => -Y i) k) rfl ?_ ⟨_, 0, none⟩ 1 1 [(-X k, -Y k)] rfl rfl ?_ (by omega) (by omega) ?_; (focus ((repeat (first | exact HB.out | refine Below.drew ?_ | refine kept_alloc ?_ _)); done)); (focus ((repeat (first | exact HO.out | refine World.ownsRow.drew ?_ | refine World.ownsRow.alloc ?_ _)); done)); (focus (exact two_new _ _ _ _)); intro g1 cap1 w5 hown1 hb1 hgrow1 hfar1; rw [← pairsA_snoc] at hown1; have HO2 := Lib.hid hown1; have HB2 := Lib.hid hb1; clear hown1 hb1 hgrow1 hfar1)
        all_goals go_wp2_with fail
        all_goals exact ⟨⟨k + 1, by omega, by go_num, HO2.out, HB2.out⟩, by simp [intOf]; omega⟩
      · have hkn : k = n := by omega
        subst hkn
        have hox := HO.out
        obtain ⟨ax, cx, rfl, hx1, hx2, hax⟩ := ants_of_own hox (pairsA_length _ _ _)
        have HAX := Lib.hid hax
        have HIR := Lib.hid (HI3.out.keep hb)
        have HBR := Lib.hid (kept_trans HB3.out (hb.mono (Nat.le_refl _)))
        obtain ⟨m, rfl⟩ : ∃ m, k = m + 1 := ⟨k - 1, by omega⟩
        obtain ⟨b2, o2, ha, hlt2, c1, d1⟩ := HIR.out.at (show 0 < m + 1 by omega)
        simp only [Option.some.injEq, Addr.mk.injEq, and_true] at ha
        obtain ⟨rfl, rfl⟩ := ha
        simp only [Nat.zero_mul, Nat.add_zero] at c1 d1
        have e1 : ((m + 1 : Nat) : Int) - 1 = (m : Int) := by omega
        have e3 : IntKind.i64.wrap (m : Int) = (m : Int) := IntWalk.i64_in _ ⟨by omega, by omega⟩
        have mc : m ≤ c := by omega
        have H75 : Hid (∀ W, Below wr.heap.size wr W → Calls Try.prog 10 #[.slice ax (m + 1) cx] W fun e w' => e = .returned (.bool true) ∧ Below W.heap.size W w') := Lib.hid fun W hW => arr_yes _ _ _ _ _ W (HAX.out.keep hW) hx1 hx2 (pairs_arr (neg_arr HG.out))
        obtain ⟨B, hB, q2⟩ : ∃ B : Bool, (∀ W, Below wr.heap.size wr W → Calls Try.prog 10 #[.slice (some ⟨b1, o1, none⟩) m c] W fun e w' => e = .returned (.bool B) ∧ Below W.heap.size W w') ∧ decide ((2 : Int) < (m : Int) + 1) = B := by
          by_cases hm : 2 ≤ m
          · exact ⟨true, fun W hW => arr_yes _ _ _ X Y W ((HIR.out.keep hW).take (by omega)) mc hcm (less_yes HG.out hm), decide_eq_true (by omega)⟩
          · exact ⟨false, fun W hW => arr_no _ _ _ X Y W ((HIR.out.keep hW).take (by omega)) mc hcm (less_no hm), decide_eq_false (by omega)⟩
        have H57 := Lib.hid hB
        clear hB
        clear hax hox hb
        go_wp2_with fail
        go_region_law (first | (go_simp; go_at_call 10; (first | (with_reducible refine (H57.out _ (Below.drew (kept_refl _))).mono ?_; rintro e w7 ⟨rfl, hq⟩; have hb7 := kept_trans (Below.drew (kept_refl wr)) hq; have l7 := hb7.size; have c7 : w7.cell? ⟨b1, o1, none⟩ = some (.int .i64 (X 0)) := (hb7.cell hlt2).trans c1; have d7 : w7.cell? ⟨b1, o1 + 1, none⟩ = some (.int .i64 (Y 0)) := (hb7.cell hlt2).trans d1; have lt7 : b1 < w7.heap.size := (by omega); clear hq) | (with_reducible refine (own_no hown2 (by simp [pairsA_length]) (again_no (by omega))).mono ?_; rintro e w8 ⟨rfl, hq⟩; have hb8 := kept_trans hb2 hq; clear hq) | (with_reducible refine (H75.out _ hb8).mono ?_; rintro e w9 ⟨rfl, hq⟩; have hb9 := kept_trans hb8 hq; clear hq hown1 hb1 hgrow1 hfar1 hown2 hb2 hgrow2 hfar2 hb8 c5 d5 l5 lt5 c7 d7 l7 lt7 hb7))) | (refine step_appG hi0 hz0 hz1 hz2 ?_ (.tmp 62) (.tmp 63) rfl wr ?_ (.slice (some ⟨_, 0, none⟩) 0 0) 0 [] rfl ?_ ⟨b1, o1, none⟩ (m + 1) c (pairsA X Y (m + 1)) rfl (pairsA_length _ _ _) ?_ (by omega) (by omega) ?_; (focus (first | rfl | go_simp | (simp [Region.wanted, yielded]; done))); (focus (((repeat (first | with_reducible assumption | with_reducible exact kept_refl _ | with_reducible refine Below.drew ?_ | with_reducible refine kept_alloc ?_ _)); done))); (focus ((repeat (first | (with_reducible refine own_madeA ?_ ?_ <;> (focus (first | omega | (simp; done) | (simp; omega)))) | with_reducible refine World.ownsRow.drew ?_ | with_reducible refine World.ownsRow.alloc ?_ _)); done)); (focus (refine ants_news (HIR.out.keep ?_); (repeat (first | with_reducible assumption | with_reducible exact kept_refl _ | with_reducible refine Below.drew ?_ | with_reducible refine kept_alloc ?_ _)); done)); intro g1 cap1 w5 hown1 hb1 hgrow1 hfar1; simp only [Nat.zero_add, List.nil_append] at hown1; simp only [Nat.zero_add]; have c5 : w5.cell? ⟨b1, o1, none⟩ = some (.int .i64 (X 0)) := (hb1.cell hlt2).trans c1; have d5 : w5.cell? ⟨b1, o1 + 1, none⟩ = some (.int .i64 (Y 0)) := (hb1.cell hlt2).trans d1; have l5 := hb1.size; have lt5 : b1 < w5.heap.size := (by omega)) | ((first | refine step_appG hi0 hz0 hz1 hz2 ?_ (.tmp 64) (.tmp 68) rfl wr ?_ _ _ _ rfl hown1 ⟨_, 0, none⟩ 1 1 [(X 0, Y 0)] rfl rfl ?_ (by omega) (by omega) ?_ | refine step_appG hi0 hz0 hz1 hz2 ?_ (.tmp 64) (.tmp 68) rfl wr ?_ _ _ _ rfl (hown1.alloc _) ⟨_, 0, none⟩ 1 1 [(X 0, Y 0)] rfl rfl ?_ (by omega) (by omega) ?_); (focus (first | rfl | go_simp | (simp [Region.wanted, yielded]; done))); (focus (((repeat (first | with_reducible assumption | with_reducible exact kept_refl _ | with_reducible refine Below.drew ?_ | with_reducible refine kept_alloc ?_ _)); done))); (focus (first | exact two_new _ _ _ _ | (refine two_cells ?_ ?_ (hfar1 _ ?_ ?_ ?_); (focus (first | exact cell_two0 (by simp) | (simp; done) | (simp (maxDischargeDepth := 12) [go_sem]; done))); (focus (first | exact cell_two1 (by simp) | (simp; done) | (simp (maxDischargeDepth := 12) [go_sem]; done))); (focus (first | omega | (simp; done) | (simp; omega))); (focus (first | omega | (simp; done) | (simp; omega))); (focus (simp [Value.ownBlock]))))); intro g2 cap2 w6 hown2 hb2 hgrow2 hfar2))
        all_goals go_wp2_with fail
        all_goals (simp only [Act.put, List.setIfInBounds_toArray, List.set_cons_zero, List.set_cons_succ, List.getElem_toArray, List.getElem_cons_zero, List.getElem_cons_succ])
        all_goals go_wp2_with fail
        all_goals go_ret
        all_goals exact ⟨rfl, kept_trans HBR.out hb9⟩
  · have HG := Lib.hid hg
    clear hg
    go_wp2_with fail
    refine (arr_no a n c X Y w1 HI.out hnc hcm HG.out).mono ?_
    rintro e w2 ⟨rfl, hb2⟩
    go_wp2_with fail
    refine (sArr_no a n c X Y w2 (HI.out.keep hb2) (by omega) HG.out).mono ?_
    rintro e w3 ⟨rfl, hb3⟩
    go_wp2_with fail
    go_ret
    exact ⟨rfl, kept_trans hbel (kept_trans hb2 hb3)⟩

set_option maxRecDepth 100000 in
theorem lifted (os : Os) (started : os.Started) (H : Type) (enc : TypeId × Value → H) :
    ReturnsInHanded {} Try.checked os 5 .any (Rows.fnArraySpec.pre6 enc Try.prog Try.f5 Rows.fnArrayRow.domain false) (Rows.fnArraySpec.post enc Try.prog Try.f5 false true false false) := by
  refine returnsInHanded_of_change (C := Try.checked) own started (by kernel_rfl) Try.func5
    (ChangeSpec.witness6 (enc := enc) (C := Try.checked) false ⟨#[], #[.slice none 0 0], []⟩ 8 (by kernel_rfl) (by kernel_rfl) (by kernel_rfl) (by kernel_rfl)) ?_
  intro W base args ds gs before hval0 hW hcnd _
  have hval : ∀ (j : Nat) t v, Try.f5.params[j]? = some t → args[j]? = some v → Value.okWide Try.prog W .any base t v := hval0
  have hW' := hW
  obtain ⟨p, q, hA0, hV, rfl, hfz, hnd⟩ := hW
  have hA : DataW.TrodAll enc Try.prog W 0 (fun _ => true) true Try.f5.params.toList args.toList ds p := hA0
  rw [Try.params5] at hA hval
  obtain ⟨v0, vs0, d0, ds0, p0, q0, hargs, rfl, rfl, h0, r0⟩ := trodAll_cons hA
  obtain ⟨rfl, rfl, rfl⟩ := trodAll_nil r0
  obtain rfl : args = #[v0] := by cases args; simp_all
  obtain ⟨rfl, rfl⟩ := trodVars_none hV
  obtain ⟨a0, len0, cap0, rfl⟩ := okWide_slice Try.underlying35 (hval 0 35 v0 rfl rfl)
  have k0 := h0
  have lt0 : ∀ x ∈ p0, x.block < W.heap.size := by obtain ⟨m, hm⟩ := k0; exact DataW.trod_lt m _ _ _ hm
  obtain ⟨z0, w0⟩ : ∃ zs, IsRow .u8 W a0 len0 cap0 zs := by
    obtain ⟨fuel, hf⟩ := h0
    rcases open_ints Try.underlying35 Try.underlying5 (by kernel_rfl) hf with ⟨hcs, _⟩ | ⟨x, l, c, zs, hcs, _, hl, hm, hz, _, hcell, hwz⟩
    · simp [Value.cells] at hcs
      obtain ⟨rfl, rfl, rfl⟩ := hcs
      exact ⟨[], .inl ⟨rfl, rfl, rfl, rfl⟩⟩
    · simp [Value.cells] at hcs
      obtain ⟨rfl, rfl, rfl⟩ := hcs
      exact ⟨zs, .inr ⟨_, rfl, hl, hm, by simpa using hz, hcell, hwz⟩⟩
  clear hA0 hval0
  refine (walk a0 len0 cap0 z0 W w0).mono fun e W' ⟨he, bel⟩ => ?_
  subst he
  exact ⟨_, rfl, _, _, _, [], _, [], hW', trodAll_mk1 (shut_bool Try.underlying4 _), (trodAll_cons_mk (Below.trod laidOut (by kernel_rfl) (of_decide_eq_true (by kernel_rfl)) k0 bel lt0) trodAll_mk0), rfl, bel.frame _, fun h => by cases h⟩

theorem over : Rows.fnArrayRow.holds Try.pinned (OpenSpec.ofChange Rows.fnArraySpec) :=
  OpenClaim.holds_of_wide 5 Try.f5 rfl rfl rfl rfl rfl rfl rfl ⟨rfl, rfl, rfl, rfl, rfl⟩ rfl rfl rfl rfl rfl (by kernel_rfl) Try.func5 (by kernel_rfl)
    (of_decide_eq_true (by kernel_rfl)) (by unfold Func.isWrapper; first | (rw [if_pos (by decide +kernel)]; kernel_rfl) | (rw [if_neg (by decide +kernel)]; exact ⟨rfl, rfl⟩))
    (fun os started H enc _ => lifted os started H enc)

/-- The statement. -/
theorem proved : Rows.FnArraySaid := over
#print axioms proved
end Go.Proofs.Ytbpbadmgmlfdhaa.fnArray
