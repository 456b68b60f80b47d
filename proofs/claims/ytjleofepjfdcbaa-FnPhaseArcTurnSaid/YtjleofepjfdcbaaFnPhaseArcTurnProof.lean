/- Proof that the law FnPhaseArcTurn returns true for all arguments. -/
import Derived.Test.YtjleofepjfdcbaaRows
import Derived.WalkKit
import Derived.ProofKit
import Derived.OpenShut
import Derived.ShutString
import Derived.ChangeOld
import Derived.Below
import Derived.Test.YtjleofepjfdcbaaAt
import Derived.Test.YtjleofepjfdcbaaDa
import Derived.Deep.QuietTactic
import Derived.BigQuiet
import Derived.IntWalk
import Derived.Outline
namespace Go.Proofs.Ytjleofepjfdcbaa.fnPhaseArcTurn
open Go.ChangeShapes Go.WideShapes Go.ChangeAt Go.RowKit
set_option linter.unusedVariables false

theorem own : ownKnob Try.prog.godebug = none := by kernel_rfl
theorem laidOut : laidOutB Try.prog = true := by kernel_rfl
/-- A slice of integers that came in: nil, or a row of cap cells, the numbers zs. -/
def IsRow (k : IntKind) (w : World) (a : Option Addr) (len cap : Nat) (zs : List Int) : Prop :=
  (a = none ∧ len = 0 ∧ cap = 0 ∧ zs = []) ∨
  ∃ x, a = some x ∧ len ≤ cap ∧ cap ≤ maxLen ∧ zs.length = cap ∧ (∀ i, i < zs.length → w.cell? (x.add i) = some (.int k (zs.getD i 0))) ∧ ∀ n ∈ zs, (Lit.int k n).wf = true
theorem bool_eq {a b : Bool} (h : a = b) : Value.bool a = .bool b := by rw [h]
set_option maxRecDepth 100000 in
set_option maxHeartbeats 4000000 in
theorem walk (a0 : Option Addr) (len0 cap0 : Nat) (z0 : List Int) (a1 : Option Addr) (len1 cap1 : Nat) (z1 : List Int) (w : World) (w0 : IsRow .u8 w a0 len0 cap0 z0) (w1 : IsRow .u8 w a1 len1 cap1 z1) :
    Calls Try.prog 7 #[.slice a0 len0 cap0, .slice a1 len1 cap1] w fun e w' => e = .returned (.bool true) ∧ Below w.heap.size w w' := by
  have H := Lib.hid (code_of w0); clear w0
  clear w1
  by_cases hl0 : 1048576 < len0
  · go_enter Try.func7, Try.ntmps7
    go_wp2
    go_ret
    exact ⟨rfl, Below.refl _ _⟩
  by_cases hl1 : 1048576 < len1
  · go_enter Try.func7, Try.ntmps7
    go_wp2
    go_ret
    exact ⟨rfl, Below.refl _ _⟩
  obtain ⟨i0, hi0, hz0, hz1, hz2⟩ := info_parts info3
  go_enter Try.func7, Try.ntmps7
  go_wp2_with fail
  refine (drawPhaseArc_any H.out).mono ?_
  rintro e w1 ⟨a, n, c, z, rfl, hn, hnc, hi, hzb, hbel⟩
  have HI := Lib.hid hi; clear hi
  have HZB := Lib.hid hzb; clear hzb
  by_cases hg : 1 ≤ n ∧ Phs z n
  · obtain ⟨hn0, hp⟩ := hg
    obtain ⟨F, L, hF⟩ := arc_ex z n
    obtain ⟨F0, F1, L0, L1⟩ := hF.bd
    have HF := Lib.hid hF; have HP := Lib.hid hp; clear hF hp
    go_wp2_with fail
    refine (arc_yes _ n c z F L w1 HI.out ⟨hn0, by omega⟩ HP.out HF.out).mono ?_
    rintro e w' ⟨rfl, rfl⟩
    go_wp2_with fail
    refine (sArc_yes _ n c z F L w1 HI.out ⟨hn0, by omega⟩ HP.out HF.out).mono ?_
    rintro e w' ⟨rfl, rfl⟩
    go_wp2_with fail
    generalize hq : (len1 : Int) % 360 = q
    have q0 : 0 ≤ q := by omega
    have q1 : q < 360 := by omega
    clear hq
    go_loopw [13, 14] (fun v i wr => ∃ k : Nat, k ≤ n ∧ i = .int .i64 k ∧ wr.ownsRow w1.heap.size 3 1 v k ((List.range k).map fun i => Value.int .i64 ((z i + q) % 360)) ∧ Below w1.heap.size w1 wr) (fun _ i _ => n - (intOf i).toNat)
    case atStart => exact ⟨0, Nat.zero_le _, rfl, World.ownsRow_made w1 #[] 0 (Nat.le_refl _) (Nat.zero_le _) rfl, kept_alloc (kept_refl _) _⟩
    case round =>
      obtain ⟨k, hk, rfl, ho, hb⟩ := hrel
      have HO := Lib.hid ho; clear ho
      have HB := Lib.hid hb
      by_cases hlt : k < n
      · obtain ⟨b1, o1, rfl, c1⟩ := (HI.out.keep hb).at hlt
        obtain ⟨z0, z1⟩ := HP.out k hlt
        have hsz := hb.size
        clear hb
        obtain ⟨t, ht⟩ : ∃ t : Int, t = (z k + q) % 360 := ⟨_, rfl⟩
        have HC : Hid (∀ w, Calls Try.prog 16 #[.int .i64 (z k + q)] w fun e w' => e = .returned (.int .i64 t) ∧ w = w') := Lib.hid fun w => by rw [ht]; exact phaseOf_any _ w
        have HT := Lib.hid ht
        clear ht
        go_wp2_with (first | (go_at_call 16; refine (HC.out _).mono ?_; rintro e w' ⟨rfl, rfl⟩) | (at_builtin; refine wpList_append_own _ rfl _ _ 22 rfl w1.heap.size 3 i0 (.int .i64 0) 1 8 Try.underlying22 hi0 hz0 hz1 hz2 rfl (by decide) _ k _ rfl (HO.out.alloc _) ⟨wr.heap.size, 0, none⟩ 1 1 [.int .i64 t] rfl rfl (cell_one_new _ _ _) (by intro u hu; simp at hu; subst hu; rfl) (by unfold maxLen; omega) (by omega) (by simp; omega) ?_; intro v' w6 hown hgrow _))
        rw [HT.out, range_snoc (f := fun i => Value.int .i64 ((z i + q) % 360))] at hown
        have HO2 := Lib.hid hown
        have HB2 := Lib.hid ((kept_alloc HB.out _).grown hgrow (by simp; omega) (fun g hg => (HO.out.lt g hg).1))
        clear hown hgrow HO HB
        go_wp2
        go_roundw
        case rel => exact ⟨k + 1, by omega, by go_num, HO2.out, HB2.out⟩
        case measure => simp [intOf]; omega
      · have hkn : k = n := by omega
        subst hkn
        obtain ⟨a', c', rfl, hc', hI'⟩ := ints_of_own HO.out
        have HI2 := Lib.hid hI'; clear hI'
        have hp2 : Phs (fun i => (z i + q) % 360) k := fun i hi => by dsimp only; omega
        obtain ⟨F', L', hF'⟩ := arc_ex (fun i => (z i + q) % 360) k
        have e1 : L' = L := HF.out.turn hF' (fun i hi => rfl)
        subst e1
        have HF2 := Lib.hid hF'; have HP2 := Lib.hid hp2
        clear hF' hp2
        obtain ⟨s, hs⟩ : ∃ s : Nat, s = len1 / 7 := ⟨_, rfl⟩
        obtain ⟨j, hj⟩ : ∃ j : Nat, j = s % k := ⟨_, rfl⟩
        have hjk : j < k := by rw [hj]; exact Nat.mod_lt _ (by omega)
        have hnear := HF.out.near HP.out (show 0 < k by omega) hjk
        obtain ⟨b1, o1, rfl, c1⟩ := (HI.out.keep hb).at (show 0 < k by omega)
        obtain ⟨b2, o2, ha, c2⟩ := (HI.out.keep hb).at hjk
        simp only [Option.some.injEq, Addr.mk.injEq, and_true] at ha
        obtain ⟨rfl, rfl⟩ := ha
        obtain ⟨o, ho⟩ : ∃ o : Int, o = nearI (z 0) (z j) := ⟨_, rfl⟩
        rw [← ho] at hnear
        have HC : Hid (∀ w, Calls Try.prog 13 #[.int .i64 (z 0), .int .i64 (z j)] w fun e w' => e = .returned (.int .i64 o) ∧ w = w') := Lib.hid fun w => by rw [ho]; exact near_any _ _ w
        simp only [Nat.add_zero] at c1
        have e1 : (len1 : Int).tdiv 7 = (s : Int) := by rw [hs]; (first | (rw [Int.tdiv_eq_ediv_of_nonneg (by omega)]; omega) | omega)
        have e2 : (s : Int).tmod (k : Int) = (j : Int) := by rw [hj]; (first | (rw [Int.tmod_eq_emod_of_nonneg (by omega)]; omega) | omega)
        have e3 : (len1 : Int) / 7 = (s : Int) := by omega
        have e4 : (s : Int) % (k : Int) = (j : Int) := by rw [hj]; omega
        have e5 : ((k : Int) == 0) = false := by simp; omega
        have e6 : (j : Int) < (k : Int) := by omega
        have e7 : (0 : Int) ≤ (j : Int) := by omega
        have e8 : (0 : Int) < (k : Int) := by omega
        have e9 : ((j : Int)).toNat = j := by omega
        have e10 : IntKind.i64.wrap (s : Int) = (s : Int) := IntWalk.i64_in _ ⟨by omega, by omega⟩
        have E := Lib.hid (And.intro e1 (And.intro e2 (And.intro e3 (And.intro e4 (And.intro e9 e10)))))
        clear e1 e2 e3 e4 e9 e10 ho hs hj hb
        go_wp2_with fail
        refine (arc_yes _ k c' (fun i => (z i + q) % 360) F' L' wr HI2.out ⟨hn0, by omega⟩ HP2.out HF2.out).mono ?_
        rintro e w' ⟨rfl, rfl⟩
        go_wp2_with fail
        obtain ⟨e1, e2, e3, e4, e9, e10⟩ := E.out
        go_quiet ((go_at_call 13; exact Calls.quiet_of_same ((HC.out _).mono fun _ _ h => ⟨h.1, h.2.symm⟩)))
        clear e1 e2 e3 e4 e9 e10
        go_wp2
        go_ret
        exact ⟨ret_true (by simp <;> omega), below_drewN (kept_trans hbel HB.out) _⟩
  · have HG : Hid (n = 0 ∨ 100 < n ∨ ¬ Phs z n) := Lib.hid (by
      by_cases h1 : n = 0
      · exact .inl h1
      · exact .inr (.inr fun h => hg ⟨by omega, h⟩))
    clear hg
    go_wp2_with fail
    refine (arc_no _ n c z w1 HI.out (by omega) HG.out).mono ?_
    rintro e w' ⟨rfl, rfl⟩
    go_wp2_with fail
    refine (sArc_no _ n c z w1 HI.out (by omega) HG.out).mono ?_
    rintro e w' ⟨rfl, rfl⟩
    go_wp2_with fail
    go_ret
    exact ⟨rfl, hbel⟩

set_option maxRecDepth 100000 in
theorem lifted (os : Os) (started : os.Started) (H : Type) (enc : TypeId × Value → H) :
    ReturnsInHanded {} Try.checked os 7 .any (Rows.fnPhaseArcTurnSpec.pre6 enc Try.prog Try.f7 Rows.fnPhaseArcTurnRow.domain false) (Rows.fnPhaseArcTurnSpec.post enc Try.prog Try.f7 false true false false) := by
  refine returnsInHanded_of_change (C := Try.checked) own started (by kernel_rfl) Try.func7
    (ChangeSpec.witness6 (enc := enc) (C := Try.checked) false ⟨#[], #[.slice none 0 0, .slice none 0 0], []⟩ 8 (by kernel_rfl) (by kernel_rfl) (by kernel_rfl) (by kernel_rfl)) ?_
  intro W base args ds gs before hval0 hW hcnd _
  have hval : ∀ (j : Nat) t v, Try.f7.params[j]? = some t → args[j]? = some v → Value.okWide Try.prog W .any base t v := hval0
  have hW' := hW
  obtain ⟨p, q, hA0, hV, rfl, hfz, hnd⟩ := hW
  have hA : DataW.TrodAll enc Try.prog W 0 (fun _ => true) true Try.f7.params.toList args.toList ds p := hA0
  rw [Try.params7] at hA hval
  obtain ⟨v0, vs0, d0, ds0, p0, q0, hargs, rfl, rfl, h0, r0⟩ := trodAll_cons hA
  obtain ⟨v1, vs1, d1, ds1, p1, q1, rfl, rfl, rfl, h1, r1⟩ := trodAll_cons r0
  obtain ⟨rfl, rfl, rfl⟩ := trodAll_nil r1
  obtain rfl : args = #[v0, v1] := by cases args; simp_all
  obtain ⟨rfl, rfl⟩ := trodVars_none hV
  obtain ⟨a0, len0, cap0, rfl⟩ := okWide_slice Try.underlying28 (hval 0 28 v0 rfl rfl)
  have k0 := h0
  have lt0 : ∀ x ∈ p0, x.block < W.heap.size := by obtain ⟨m, hm⟩ := k0; exact DataW.trod_lt m _ _ _ hm
  obtain ⟨z0, w0⟩ : ∃ zs, IsRow .u8 W a0 len0 cap0 zs := by
    obtain ⟨fuel, hf⟩ := h0
    rcases open_ints Try.underlying28 Try.underlying5 (by kernel_rfl) hf with ⟨hcs, _⟩ | ⟨x, l, c, zs, hcs, _, hl, hm, hz, _, hcell, hwz⟩
    · simp [Value.cells] at hcs
      obtain ⟨rfl, rfl, rfl⟩ := hcs
      exact ⟨[], .inl ⟨rfl, rfl, rfl, rfl⟩⟩
    · simp [Value.cells] at hcs
      obtain ⟨rfl, rfl, rfl⟩ := hcs
      exact ⟨zs, .inr ⟨_, rfl, hl, hm, by simpa using hz, hcell, hwz⟩⟩
  obtain ⟨a1, len1, cap1, rfl⟩ := okWide_slice Try.underlying28 (hval 1 28 v1 rfl rfl)
  have k1 := h1
  have lt1 : ∀ x ∈ p1, x.block < W.heap.size := by obtain ⟨m, hm⟩ := k1; exact DataW.trod_lt m _ _ _ hm
  obtain ⟨z1, w1⟩ : ∃ zs, IsRow .u8 W a1 len1 cap1 zs := by
    obtain ⟨fuel, hf⟩ := h1
    rcases open_ints Try.underlying28 Try.underlying5 (by kernel_rfl) hf with ⟨hcs, _⟩ | ⟨x, l, c, zs, hcs, _, hl, hm, hz, _, hcell, hwz⟩
    · simp [Value.cells] at hcs
      obtain ⟨rfl, rfl, rfl⟩ := hcs
      exact ⟨[], .inl ⟨rfl, rfl, rfl, rfl⟩⟩
    · simp [Value.cells] at hcs
      obtain ⟨rfl, rfl, rfl⟩ := hcs
      exact ⟨zs, .inr ⟨_, rfl, hl, hm, by simpa using hz, hcell, hwz⟩⟩
  clear hA0 hval0
  refine (walk a0 len0 cap0 z0 a1 len1 cap1 z1 W w0 w1).mono fun e W' ⟨he, bel⟩ => ?_
  subst he
  exact ⟨_, rfl, _, _, _, [], _, [], hW', trodAll_mk1 (shut_bool Try.underlying4 _), (trodAll_cons_mk (Below.trod laidOut (by kernel_rfl) (of_decide_eq_true (by kernel_rfl)) k0 bel lt0) (trodAll_cons_mk (Below.trod laidOut (by kernel_rfl) (of_decide_eq_true (by kernel_rfl)) k1 bel lt1) trodAll_mk0)), rfl, bel.frame _, fun h => by cases h⟩

theorem over : Rows.fnPhaseArcTurnRow.holds Try.pinned (OpenSpec.ofChange Rows.fnPhaseArcTurnSpec) :=
  OpenClaim.holds_of_wide 7 Try.f7 rfl rfl rfl rfl rfl rfl rfl ⟨rfl, rfl, rfl, rfl, rfl⟩ rfl rfl rfl rfl rfl (by kernel_rfl) Try.func7 (by kernel_rfl)
    (of_decide_eq_true (by kernel_rfl)) (by unfold Func.isWrapper; first | (rw [if_pos (by decide +kernel)]; kernel_rfl) | (rw [if_neg (by decide +kernel)]; exact ⟨rfl, rfl⟩))
    (fun os started H enc _ => lifted os started H enc)

/-- The statement. -/
theorem proved : Rows.FnPhaseArcTurnSaid := over
#print axioms proved
end Go.Proofs.Ytjleofepjfdcbaa.fnPhaseArcTurn
