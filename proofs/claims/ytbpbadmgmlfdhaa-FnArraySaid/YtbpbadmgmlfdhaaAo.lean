/- Contracts of ArrayValid in the program and in the reference. -/
import Derived.Test.YtbpbadmgmlfdhaaAn
import Derived.Deep.RegionWith
import Derived.Deep.RegionHeld3
import Derived.Deep.DrawnRows
namespace Go.Proofs.Ytbpbadmgmlfdhaa
open Go.RowKit
set_option linter.unusedVariables false
attribute [local go_sem ↓] Go.wp_at_zero Go.wp_at_succ

/-- All of the first n places are in range, and no two are the same. -/
def Good (X Y : Nat → Int) (n : Nat) : Prop := ∀ i, i < n → Pl (X i) (Y i) ∧ ∀ k, k < i → ¬ (X k = X i ∧ Y k = Y i)
instance (X Y : Nat → Int) (n : Nat) : Decidable (Good X Y n) := by unfold Good; infer_instance
def Arr (X Y : Nat → Int) (n : Nat) : Prop := (2 ≤ n ∧ n ≤ 7) ∧ Good X Y n
instance (X Y : Nat → Int) (n : Nat) : Decidable (Arr X Y n) := by unfold Arr; infer_instance
theorem Good.take {X Y : Nat → Int} {n m : Nat} (h : Good X Y n) (hm : m ≤ n) : Good X Y m := fun i hi => h i (by omega)
/-- The first place that is out of range or was there before. -/
theorem Good.bad {X Y : Nat → Int} {n : Nat} (h : ¬ Good X Y n) : ∃ f, f < n ∧ Good X Y f ∧ (¬ Pl (X f) (Y f) ∨ (Pl (X f) (Y f) ∧ ¬ ∀ k, k < f → ¬ (X k = X f ∧ Y k = Y f))) := by
  induction n with
  | zero => exact absurd (fun i hi => absurd hi (Nat.not_lt_zero i)) h
  | succ n ih =>
    by_cases hn : Good X Y n
    · refine ⟨n, Nat.lt_succ_self n, hn, ?_⟩
      by_cases c : Pl (X n) (Y n)
      · refine .inr ⟨c, fun hk => h fun i hi => ?_⟩
        by_cases e : i = n
        · subst e; exact ⟨c, hk⟩
        · exact hn i (by omega)
      · exact .inl c
    · obtain ⟨f, hf, h1, h2⟩ := ih hn
      exact ⟨f, by omega, h1, h2⟩
theorem box_keep {w W w' : World} {b : Nat} {x y : Value} (h : W.cell? ⟨b, 0, none⟩ = some x ∧ W.cell? ⟨b, 1, none⟩ = some y ∧ Below w.heap.size w W) (hb : Below W.heap.size W w') : w'.cell? ⟨b, 0, none⟩ = some x ∧ w'.cell? ⟨b, 1, none⟩ = some y ∧ Below w.heap.size w w' := by
  obtain ⟨h0, k0, hbel⟩ := h
  exact ⟨(hb.cell (p := ⟨b, 0, none⟩) (show b < W.heap.size from World.block_lt_of_cell? W _ h0)).trans h0, (hb.cell (p := ⟨b, 1, none⟩) (show b < W.heap.size from World.block_lt_of_cell? W _ h0)).trans k0, kept_trans hbel hb⟩
theorem undrew {B : Nat} {a w : World} (h : Below B a.drew w) : Below B a w := ⟨h.os, h.tape, h.output, h.size, h.block⟩
set_option maxRecDepth 100000 in
set_option maxHeartbeats 4000000 in
theorem arr_loop (a : Option Addr) (n c : Nat) (X Y : Nat → Int) (w : World) (h : Ants w a n X Y) (hn : 2 ≤ n ∧ n ≤ 7) (hc : n ≤ c) (hcm : c ≤ maxLen) (B : Bool) (hB : (B = true ∧ Good X Y n) ∨ (B = false ∧ ¬ Good X Y n)) :
    Calls Try.prog 10 #[.slice a n c] w fun e w' => e = .returned (.bool B) ∧ Below w.heap.size w w' := by
  obtain ⟨n0, n1⟩ := hn
  unfold maxLen at hcm
  have H := Lib.hid h; clear h
  have q1 : decide ((n : Int) < 2) = false := by simp; omega
  have q2 : decide (7 < (n : Int)) = false := by simp; omega
  have hF : ∃ f, f ≤ n ∧ Good X Y f ∧ ((f = n ∧ B = true) ∨ (f < n ∧ B = false ∧ (¬ Pl (X f) (Y f) ∨ (Pl (X f) (Y f) ∧ ¬ ∀ k, k < f → ¬ (X k = X f ∧ Y k = Y f))))) := by
    rcases hB with ⟨hb, hg⟩ | ⟨hb, hg⟩
    · exact ⟨n, Nat.le_refl _, hg, .inl ⟨rfl, hb⟩⟩
    · obtain ⟨f, hf, h1, h2⟩ := Good.bad hg
      exact ⟨f, by omega, h1, .inr ⟨hf, hb, h2⟩⟩
  clear hB
  obtain ⟨f, hf, hg, hend⟩ := hF
  have HG := Lib.hid hg
  have HE := Lib.hid hend
  clear hg hend
  go_enter Try.func10, Try.ntmps10
  go_wp2
  go_loopw [15] (fun i wr => ∃ k : Nat, k ≤ f ∧ i = .int .i64 k ∧ Below w.heap.size w wr) (fun i _ => n - (intOf i).toNat)
  case atStart => exact ⟨0, Nat.zero_le _, rfl, kept_refl _⟩
  case round =>
    obtain ⟨k, hk, rfl, hb⟩ := hrel
    have HK := Lib.hid hb
    by_cases hlt : k < n
    · have hI := H.out.keep hb
      have HI := Lib.hid (hI.keep (kept_alloc (kept_refl wr) (.cells #[.int .i64 (X k), .int .i64 (Y k)] 30)))
      obtain ⟨b1, o1, ha, hb1, c1, c2⟩ := hI.at hlt
      have HA := Lib.hid ha
      subst ha
      clear H hI hb HA
      have e1 : (0 : Int) ≤ (k : Int) := by omega
      have e2 : (k : Int) < (n : Int) := by omega
      have e3 : (k : Int) ≤ (c : Int) := by omega
      have hS : (wr.alloc (.cells #[.int .i64 (X k), .int .i64 (Y k)] 30)).cell? ⟨wr.heap.size, 0, none⟩ = some (.int .i64 (X k)) ∧ (wr.alloc (.cells #[.int .i64 (X k), .int .i64 (Y k)] 30)).cell? ⟨wr.heap.size, 1, none⟩ = some (.int .i64 (Y k)) ∧ Below (wr.alloc (.cells #[.int .i64 (X k), .int .i64 (Y k)] 30)).heap.size (wr.alloc (.cells #[.int .i64 (X k), .int .i64 (Y k)] 30)) (wr.alloc (.cells #[.int .i64 (X k), .int .i64 (Y k)] 30)) := ⟨by simp, by simp, kept_refl _⟩
      have HS := Lib.hid hS
      clear hS
      have KW := Lib.hid (kept_alloc HK.out (.cells #[.int .i64 (X k), .int .i64 (Y k)] 30))
      by_cases hkf : k < f
      · have HP := Lib.hid (HG.out k hkf).1
        have HN := Lib.hid (HG.out k hkf).2
        go_wp2
        go_region_held3 (fun W => W.cell? ⟨wr.heap.size, 0, none⟩ = some (.int .i64 (X k)) ∧ W.cell? ⟨wr.heap.size, 1, none⟩ = some (.int .i64 (Y k)) ∧ Below (wr.alloc (.cells #[.int .i64 (X k), .int .i64 (Y k)] 30)).heap.size (wr.alloc (.cells #[.int .i64 (X k), .int .i64 (Y k)] 30)) W) (first | assumption | (refine box_keep HS.out ?_; (repeat (first | exact kept_refl _ | refine Below.drew ?_ | refine kept_alloc ?_ _ | refine kept_trans ?_ (by assumption))); done)) (first | (go_at_call 19; refine (place_yes _ _ _ HP.out).mono ?_; rintro e w' ⟨rfl, HB⟩) | (go_at_call 20; refine (contains_no _ k _ X Y _ _ _ ((HI.out.keep (undrew HB)).take (by omega)) (by omega) HN.out).mono ?_; rintro e w' ⟨rfl, HB⟩))
        all_goals go_wp2
        all_goals
          go_roundw
          case rel => exact ⟨k + 1, by omega, by go_num, (by repeat (first | exact KW.out | refine Below.drew ?_ | refine kept_trans ?_ (by assumption)))⟩
          case measure => simp [intOf]; omega
      · have hE := HE.out
        rcases hE with ⟨e, _⟩ | ⟨_, rfl, hE⟩
        · omega
        obtain rfl : k = f := by omega
        rcases hE with hp | ⟨hp, hd⟩
        · have HP := Lib.hid hp
          clear hp
          go_wp2
          first | (go_region_with (first | (go_at_call 19; refine (place_no _ _ _ HP.out).mono ?_; rintro e w' ⟨rfl, HB⟩))) | fail
          all_goals go_wp2
          all_goals go_ret
          all_goals exact ⟨rfl, kept_trans KW.out (undrew (by assumption))⟩
        · have HP := Lib.hid hp
          have HN := Lib.hid hd
          clear hp hd
          go_wp2
          go_region_held3 (fun W => W.cell? ⟨wr.heap.size, 0, none⟩ = some (.int .i64 (X k)) ∧ W.cell? ⟨wr.heap.size, 1, none⟩ = some (.int .i64 (Y k)) ∧ Below (wr.alloc (.cells #[.int .i64 (X k), .int .i64 (Y k)] 30)).heap.size (wr.alloc (.cells #[.int .i64 (X k), .int .i64 (Y k)] 30)) W) (first | assumption | (refine box_keep HS.out ?_; (repeat (first | exact kept_refl _ | refine Below.drew ?_ | refine kept_alloc ?_ _ | refine kept_trans ?_ (by assumption))); done)) (first | (go_at_call 19; refine (place_yes _ _ _ HP.out).mono ?_; rintro e w' ⟨rfl, HB⟩) | (go_at_call 20; refine (contains_yes _ k _ X Y _ _ _ ((HI.out.keep (undrew HB)).take (by omega)) (by omega) HN.out).mono ?_; rintro e w' ⟨rfl, HB⟩))
          all_goals go_wp2
          all_goals go_ret
          all_goals exact ⟨rfl, (by repeat (first | exact KW.out | refine Below.drew ?_ | refine kept_trans ?_ (by assumption)))⟩
    · have hE := HE.out
      rcases hE with ⟨_, rfl⟩ | ⟨h, _⟩
      · clear H
        go_wp2
        go_ret
        exact ⟨rfl, HK.out⟩
      · omega
theorem arr_yes (a : Option Addr) (n c : Nat) (X Y : Nat → Int) (w : World) (h : Ants w a n X Y) (hc : n ≤ c) (hcm : c ≤ maxLen) (hg : Arr X Y n) :
    Calls Try.prog 10 #[.slice a n c] w fun e w' => e = .returned (.bool true) ∧ Below w.heap.size w w' :=
  arr_loop a n c X Y w h hg.1 hc hcm true (.inl ⟨rfl, hg.2⟩)
theorem arr_no (a : Option Addr) (n c : Nat) (X Y : Nat → Int) (w : World) (h : Ants w a n X Y) (hc : n ≤ c) (hcm : c ≤ maxLen) (hg : ¬ Arr X Y n) :
    Calls Try.prog 10 #[.slice a n c] w fun e w' => e = .returned (.bool false) ∧ Below w.heap.size w w' := by
  by_cases hn : 2 ≤ n ∧ n ≤ 7
  · exact arr_loop a n c X Y w h hn hc hcm false (.inr ⟨rfl, fun h' => hg ⟨hn, h'⟩⟩)
  · clear hg h
    unfold maxLen at hcm
    by_cases h2 : n < 2
    · go_enter Try.func10, Try.ntmps10
      go_wp2
      go_ret
      exact ⟨rfl, kept_refl _⟩
    · have h7 : 7 < n := by omega
      have q1 : decide ((n : Int) < 2) = false := by simp; omega
      clear hn
      go_enter Try.func10, Try.ntmps10
      go_wp2
      go_ret
      exact ⟨rfl, kept_refl _⟩
set_option maxRecDepth 100000 in
set_option maxHeartbeats 4000000 in
theorem sArr_loop (a : Option Addr) (n c : Nat) (X Y : Nat → Int) (w : World) (h : Ants w a n X Y) (hn : n ≤ 1048576) (B : Bool) (hB : (Good X Y n ∧ B = decide (2 ≤ n ∧ n ≤ 7)) ∨ (B = false ∧ ¬ Good X Y n)) :
    Calls Try.prog 8 #[.slice a n c] w fun e w' => e = .returned (.bool B) ∧ Below w.heap.size w w' := by
  have H := Lib.hid h; clear h
  have hF : ∃ f, f ≤ n ∧ Good X Y f ∧ ((f = n ∧ B = decide (2 ≤ n ∧ n ≤ 7)) ∨ (f < n ∧ B = false ∧ (¬ Pl (X f) (Y f) ∨ (Pl (X f) (Y f) ∧ ¬ ∀ k, k < f → ¬ (X k = X f ∧ Y k = Y f))))) := by
    rcases hB with ⟨hg, hb⟩ | ⟨hb, hg⟩
    · exact ⟨n, Nat.le_refl _, hg, .inl ⟨rfl, hb⟩⟩
    · obtain ⟨f, hf, h1, h2⟩ := Good.bad hg
      exact ⟨f, by omega, h1, .inr ⟨hf, hb, h2⟩⟩
  clear hB
  obtain ⟨f, hf, hg, hend⟩ := hF
  have HG := Lib.hid hg
  have HE := Lib.hid hend
  clear hg hend
  go_enter Try.func8, Try.ntmps8
  go_wp2
  go_loopw [3] (fun i wr => ∃ k : Nat, k ≤ f ∧ i = .int .i64 k ∧ Below w.heap.size w wr) (fun i _ => n - (intOf i).toNat)
  case atStart => exact ⟨0, Nat.zero_le _, rfl, kept_refl _⟩
  case round =>
    obtain ⟨k, hk, rfl, hb⟩ := hrel
    have HK := Lib.hid hb
    by_cases hlt : k < n
    · have hI := H.out.keep hb
      have HI := Lib.hid hI
      obtain ⟨b1, o1, ha, hb1, c1, c2⟩ := hI.at hlt
      have HA := Lib.hid ha
      subst ha
      clear H hI hb HA
      by_cases hkf : k < f
      · have HP := Lib.hid (HG.out k hkf).1
        have HN := Lib.hid (HG.out k hkf).2
        obtain ⟨wo, rfl⟩ : ∃ wo : World, wo = wr := ⟨_, rfl⟩
        go_wp2_with (go_at_call 16; refine (sPlace_yes _ _ _ HP.out).mono ?_; rintro e w2 ⟨rfl, hb2⟩)
        have HI2 := Lib.hid (HI.out.keep hb2)
        have HK2 := Lib.hid (kept_trans HK.out hb2)
        have d1 := (hb2.cell (p := ⟨b1, o1 + k * 2, none⟩) hb1).trans c1
        have d2 := (hb2.cell (p := ⟨b1, o1 + k * 2 + 1, none⟩) hb1).trans c2
        clear HI HK hb2 c1 c2
        go_loopw [4] (fun j wx => ∃ m : Nat, m ≤ k ∧ j = .int .i64 m ∧ ∃ q, wx = w2.drewN q) (fun j _ => k - (intOf j).toNat)
        case atStart => exact ⟨0, Nat.zero_le _, rfl, 0, rfl⟩
        case round =>
          obtain ⟨m, hm, rfl, q, rfl⟩ := hrel
          by_cases hmk : m < k
          · obtain ⟨b2, o2, ha, hb2, e1, e2⟩ := HI2.out.at (show m < n by omega)
            simp only [Option.some.injEq, Addr.mk.injEq, and_true] at ha
            obtain ⟨rfl, rfl⟩ := ha
            have hne := HN.out m hmk
            have i1 : (0 : Int) ≤ (k : Int) := by omega
            have i2 : (k : Int) < (n : Int) := by omega
            have i3 : (0 : Int) ≤ (m : Int) := by omega
            have i4 : (m : Int) < (n : Int) := by omega
            by_cases hx : X m = X k
            · have q0 : (X m == X k) = true := by simpa using hx
              have q1 : (Y m == Y k) = false := by
                have : Y m ≠ Y k := fun e => hne ⟨hx, e⟩
                simpa using this
              clear hx hne
              go_wp2
              go_quiet (fail)
              go_wp2
              go_roundw
              case rel => exact ⟨m + 1, by omega, by go_num, _, rfl⟩
              case measure => simp [intOf]; omega
            · have q0 : (X m == X k) = false := by simpa using hx
              clear hx hne
              go_wp2
              go_quiet (fail)
              go_wp2
              go_roundw
              case rel => exact ⟨m + 1, by omega, by go_num, _, rfl⟩
              case measure => simp [intOf]; omega
          · go_wp2
            go_roundw
            case rel => exact ⟨k + 1, by omega, by go_num, below_drewN HK2.out q⟩
            case measure => simp [intOf]; omega
      · have hE := HE.out
        rcases hE with ⟨e, _⟩ | ⟨_, rfl, hE⟩
        · omega
        obtain rfl : k = f := by omega
        rcases hE with hp | ⟨hp, hd⟩
        · have HP := Lib.hid hp
          clear hp
          go_wp2_with (go_at_call 16; refine (sPlace_no _ _ _ HP.out).mono ?_; rintro e w2 ⟨rfl, hb2⟩)
          go_ret
          exact ⟨rfl, kept_trans HK.out hb2⟩
        · have HP := Lib.hid hp
          obtain ⟨g, hg, hxy, hno⟩ := first_at hd
          have HX := Lib.hid hxy
          have HN := Lib.hid hno
          clear hp hd hxy hno
          obtain ⟨wo, rfl⟩ : ∃ wo : World, wo = wr := ⟨_, rfl⟩
          go_wp2_with (go_at_call 16; refine (sPlace_yes _ _ _ HP.out).mono ?_; rintro e w2 ⟨rfl, hb2⟩)
          have HI2 := Lib.hid (HI.out.keep hb2)
          have HK2 := Lib.hid (kept_trans HK.out hb2)
          have d1 := (hb2.cell (p := ⟨b1, o1 + k * 2, none⟩) hb1).trans c1
          have d2 := (hb2.cell (p := ⟨b1, o1 + k * 2 + 1, none⟩) hb1).trans c2
          clear HI HK hb2 c1 c2
          go_loopw [4] (fun j wx => ∃ m : Nat, m ≤ g ∧ j = .int .i64 m ∧ ∃ q, wx = w2.drewN q) (fun j _ => k - (intOf j).toNat)
          case atStart => exact ⟨0, Nat.zero_le _, rfl, 0, rfl⟩
          case round =>
            obtain ⟨m, hm, rfl, q, rfl⟩ := hrel
            obtain ⟨b2, o2, ha, hb2, e1, e2⟩ := HI2.out.at (show m < n by omega)
            simp only [Option.some.injEq, Addr.mk.injEq, and_true] at ha
            obtain ⟨rfl, rfl⟩ := ha
            have i1 : (0 : Int) ≤ (k : Int) := by omega
            have i2 : (k : Int) < (n : Int) := by omega
            have i3 : (0 : Int) ≤ (m : Int) := by omega
            have i4 : (m : Int) < (n : Int) := by omega
            by_cases hmg : m < g
            · have hne := HN.out m hmg
              by_cases hx : X m = X k
              · have q0 : (X m == X k) = true := by simpa using hx
                have q1 : (Y m == Y k) = false := by
                  have : Y m ≠ Y k := fun e => hne ⟨hx, e⟩
                  simpa using this
                clear hx hne
                go_wp2
                go_quiet (fail)
                go_wp2
                go_roundw
                case rel => exact ⟨m + 1, by omega, by go_num, _, rfl⟩
                case measure => simp [intOf]; omega
              · have q0 : (X m == X k) = false := by simpa using hx
                clear hx hne
                go_wp2
                go_quiet (fail)
                go_wp2
                go_roundw
                case rel => exact ⟨m + 1, by omega, by go_num, _, rfl⟩
                case measure => simp [intOf]; omega
            · obtain rfl : m = g := by omega
              have q0 : (X m == X k) = true := by have := HX.out.1; simp [this]
              have q1 : (Y m == Y k) = true := by have := HX.out.2; simp [this]
              go_wp2
              go_quiet (fail)
              go_wp2
              go_ret
              exact ⟨rfl, below_drewN (below_drewN HK2.out q) _⟩
    · have hE := HE.out
      rcases hE with ⟨_, hBd⟩ | ⟨h, _⟩
      · clear H
        by_cases hr : 2 ≤ n ∧ n ≤ 7
        · obtain rfl : B = true := hBd.trans (decide_eq_true hr)
          clear hBd
          go_wp2_with (first | (go_at_call 17; first | (refine (l6In_yes _ _ _ _ (by omega)).mono ?_; rintro e w' ⟨rfl, rfl⟩) | (refine (l6In_no _ _ _ _ (by omega)).mono ?_; rintro e w' ⟨rfl, rfl⟩)))
          go_ret
          exact ⟨rfl, HK.out⟩
        · obtain rfl : B = false := hBd.trans (decide_eq_false hr)
          clear hBd
          go_wp2_with (first | (go_at_call 17; first | (refine (l6In_yes _ _ _ _ (by omega)).mono ?_; rintro e w' ⟨rfl, rfl⟩) | (refine (l6In_no _ _ _ _ (by omega)).mono ?_; rintro e w' ⟨rfl, rfl⟩)))
          go_ret
          exact ⟨rfl, HK.out⟩
      · omega
theorem sArr_yes (a : Option Addr) (n c : Nat) (X Y : Nat → Int) (w : World) (h : Ants w a n X Y) (hg : Arr X Y n) :
    Calls Try.prog 8 #[.slice a n c] w fun e w' => e = .returned (.bool true) ∧ Below w.heap.size w w' :=
  sArr_loop a n c X Y w h (by have := hg.1; omega) true (.inl ⟨hg.2, (decide_eq_true hg.1).symm⟩)
theorem sArr_no (a : Option Addr) (n c : Nat) (X Y : Nat → Int) (w : World) (h : Ants w a n X Y) (hn : n ≤ 1048576) (hg : ¬ Arr X Y n) :
    Calls Try.prog 8 #[.slice a n c] w fun e w' => e = .returned (.bool false) ∧ Below w.heap.size w w' := by
  by_cases hG : Good X Y n
  · exact sArr_loop a n c X Y w h hn false (.inl ⟨hG, (decide_eq_false fun h' => hg ⟨h', hG⟩).symm⟩)
  · exact sArr_loop a n c X Y w h hn false (.inr ⟨rfl, hG⟩)
end Go.Proofs.Ytbpbadmgmlfdhaa
