/- Contracts of PhaseArc in the program and in the reference. -/
import Derived.Test.YtjleofepjfdcbaaAs
import Derived.LoopTactic
import Derived.Outline
namespace Go.Proofs.Ytjleofepjfdcbaa
open Go.RowKit

theorem Phs.bad {z : Nat → Int} {n : Nat} (h : ¬ Phs z n) : ∃ f, f < n ∧ (z f < 0 ∨ 360 ≤ z f) ∧ Phs z f := by
  induction n with
  | zero => exact absurd (fun i hi => absurd hi (Nat.not_lt_zero i)) h
  | succ n ih =>
    by_cases hn : Phs z n
    · refine ⟨n, Nat.lt_succ_self n, ?_, hn⟩
      by_cases c : 0 ≤ z n ∧ z n < 360
      · exact absurd (fun i hi => by
          by_cases e : i = n
          · subst e; exact c
          · exact hn i (by omega)) h
      · omega
    · obtain ⟨f, hf, h1, h2⟩ := ih hn
      exact ⟨f, by omega, h1, h2⟩
set_option maxHeartbeats 1000000 in
theorem arePh_yes (a : Option Addr) (n c : Nat) (z : Nat → Int) (w : World) (h : Ints w a n z) (hn : n ≤ 1048576) (hz : Phs z n) :
    Calls Try.prog 19 #[.slice a n c] w fun e w' => e = .returned (.bool true) ∧ w = w' := by
  have H := Lib.hid h; clear h
  have HZ := Lib.hid hz; clear hz
  go_enter Try.func19, Try.ntmps19
  go_wp2
  go_loop [7] (fun i => ∃ k : Nat, k ≤ n ∧ i = .int .i64 k) (fun i => n - (intOf i).toNat)
  case atStart => exact ⟨0, Nat.zero_le _, rfl⟩
  case round =>
    obtain ⟨k, hk, rfl⟩ := hrel
    by_cases hlt : k < n
    · obtain ⟨b1, o1, rfl, c1⟩ := H.out.at hlt
      obtain ⟨z0, z1⟩ := HZ.out k hlt
      clear H
      go_wp2_with (first | (go_at_call 23; first | (refine (isPhase_yes _ _ (by omega)).mono ?_; rintro e w' ⟨rfl, rfl⟩) | (refine (isPhase_no _ _ (by omega)).mono ?_; rintro e w' ⟨rfl, rfl⟩)))
      go_round
      case rel => exact ⟨k + 1, by omega, by go_num⟩
      case measure => simp [intOf]; omega
    · clear H
      go_wp2
      go_ret
      exact ⟨rfl, rfl⟩
set_option maxHeartbeats 1000000 in
theorem arePh_no (a : Option Addr) (n c : Nat) (z : Nat → Int) (w : World) (h : Ints w a n z) (hn : n ≤ 1048576) (hz : ¬ Phs z n) :
    Calls Try.prog 19 #[.slice a n c] w fun e w' => e = .returned (.bool false) ∧ w = w' := by
  have H := Lib.hid h; clear h
  obtain ⟨f, hf, hbad, hz'⟩ := Phs.bad hz
  have HZ := Lib.hid hz'; clear hz hz'
  go_enter Try.func19, Try.ntmps19
  go_wp2
  go_loop [7] (fun i => ∃ k : Nat, k ≤ f ∧ i = .int .i64 k) (fun i => n - (intOf i).toNat)
  case atStart => exact ⟨0, Nat.zero_le _, rfl⟩
  case round =>
    obtain ⟨k, hk, rfl⟩ := hrel
    obtain ⟨b1, o1, rfl, c1⟩ := H.out.at (show k < n by omega)
    clear H
    by_cases hlt : k < f
    · obtain ⟨z0, z1⟩ := HZ.out k hlt
      go_wp2_with (first | (go_at_call 23; first | (refine (isPhase_yes _ _ (by omega)).mono ?_; rintro e w' ⟨rfl, rfl⟩) | (refine (isPhase_no _ _ (by omega)).mono ?_; rintro e w' ⟨rfl, rfl⟩)))
      go_round
      case rel => exact ⟨k + 1, by omega, by go_num⟩
      case measure => simp [intOf]; omega
    · have e : k = f := by omega
      subst e
      go_wp2_with (first | (go_at_call 23; first | (refine (isPhase_yes _ _ (by omega)).mono ?_; rintro e w' ⟨rfl, rfl⟩) | (refine (isPhase_no _ _ (by omega)).mono ?_; rintro e w' ⟨rfl, rfl⟩)))
      go_ret
      exact ⟨rfl, rfl⟩
theorem arc_lt {z : Nat → Int} {n : Nat} {k F L : Int} (h : ArcTo z n k F L) (hk : 0 ≤ k ∧ k ≤ 360) : -1 ≤ F ∧ F ≤ 360 ∧ 0 ≤ L ∧ L ≤ 360 := by
  rcases h with ⟨_, rfl, rfl⟩ | ⟨h1, h2, _⟩
  · omega
  · have := rch_bd z F n; omega
set_option maxRecDepth 100000 in
set_option maxHeartbeats 2000000 in
theorem arc_yes (a : Option Addr) (n c : Nat) (z : Nat → Int) (F L : Int) (w : World) (h : Ints w a n z) (hn : 1 ≤ n ∧ n ≤ 100) (hz : Phs z n) (hF : IsArc z n F L) :
    Calls Try.prog 10 #[.slice a n c] w fun e w' => e = .returned (.tuple #[.int .i64 F, .int .i64 L, .bool true]) ∧ w = w' := by
  obtain ⟨n0, n1⟩ := hn
  have H := Lib.hid h; clear h
  have HZ := Lib.hid hz; clear hz
  have HF := Lib.hid hF; clear hF
  go_enter Try.func10, Try.ntmps10
  go_wp2_with (go_at_call 19; refine (arePh_yes _ _ _ z _ H.out (by omega) HZ.out).mono ?_; rintro e w' ⟨rfl, rfl⟩)
  go_loop [24, 5, 6] (fun s f l => ∃ (k : Nat) (F L : Int), k ≤ 360 ∧ s = .int .i64 k ∧ f = .int .i64 F ∧ l = .int .i64 L ∧ ArcTo z n k F L) (fun s _ _ => 360 - (intOf s).toNat)
  case atStart => exact ⟨0, 0, 360, by omega, rfl, rfl, rfl, .inl ⟨rfl, rfl, rfl⟩⟩
  case round =>
    obtain ⟨k, F', L', hk, rfl, rfl, rfl, hA⟩ := hrel
    have HA := Lib.hid hA; clear hA
    by_cases hlt : k < 360
    · go_wp2
      go_loop [29, 8] (fun s l => ∃ m : Nat, m ≤ n ∧ s = .int .i64 m ∧ l = .int .i64 (rch z k m)) (fun s _ => n - (intOf s).toNat)
      case atStart => exact ⟨0, by omega, rfl, rfl⟩
      case round =>
        obtain ⟨m, hm, rfl, rfl⟩ := hrel
        obtain ⟨r0, r1⟩ := rch_bd z k m
        by_cases hmn : m < n
        · obtain ⟨b1, o1, rfl, c1⟩ := H.out.at hmn
          obtain ⟨z0, z1⟩ := HZ.out m hmn
          clear H
          have q0 : 0 ≤ (z m - k) % 360 := by omega
          have q1 : (z m - k) % 360 < 360 := by omega
          go_wp2_with (first | (go_at_call 16; refine (phaseOf_any _ _).mono ?_; rintro e w' ⟨rfl, rfl⟩))
          all_goals
            go_round
            case rel => exact ⟨m + 1, by omega, by go_num, by simp only [rch]; congr 1; omega⟩
            case measure => simp [intOf]; omega
        · have e : m = n := by omega
          subst e
          have HB := Lib.hid (HA.out.better (by omega : (0 : Int) ≤ (k : Int)))
          have HS := Lib.hid HA.out.same
          by_cases hl : rch z k m < L'
          · clear H
            go_wp2
            go_round
            case rel => exact ⟨k + 1, _, _, by omega, by go_num, rfl, rfl, by have h := HB.out hl; simpa using h⟩
            case measure => simp [intOf]; omega
          · have hl' : decide (rch z k m < L') = false := by simp; omega
            clear H
            go_wp2
            go_round
            case rel => exact ⟨k + 1, _, _, by omega, by go_num, rfl, rfl, by have h := HS.out (by omega); simpa using h⟩
            case measure => simp [intOf]; omega
    · have e : k = 360 := by omega
      subst e
      have HD := Lib.hid (IsArc.one HF.out (ArcTo.done HA.out))
      clear H
      go_wp2
      go_ret3
      obtain ⟨e1, e2⟩ := HD.out
      subst e1 e2
      exact ⟨rfl, rfl⟩
set_option maxHeartbeats 1000000 in
theorem arc_no (a : Option Addr) (n c : Nat) (z : Nat → Int) (w : World) (h : Ints w a n z) (hn : n ≤ 1048576) (hz : n = 0 ∨ 100 < n ∨ ¬ Phs z n) :
    Calls Try.prog 10 #[.slice a n c] w fun e w' => e = .returned (.tuple #[.int .i64 0, .int .i64 0, .bool false]) ∧ w = w' := by
  have H := Lib.hid h; clear h
  by_cases h1 : n = 0
  · clear hz
    subst h1
    go_enter Try.func10, Try.ntmps10
    go_wp2
    go_ret3
    exact ⟨rfl, rfl⟩
  · by_cases h2 : 100 < n
    · clear hz
      go_enter Try.func10, Try.ntmps10
      go_wp2
      go_ret3
      exact ⟨rfl, rfl⟩
    · have HZ : Hid (¬ Phs z n) := Lib.hid (by rcases hz with h | h | h; exact absurd h h1; exact absurd h h2; exact h)
      clear hz
      have q1 : decide (100 < (n : Int)) = false := by simp; omega
      have q2 : decide ((n : Int) < 1) = false := by simp; omega
      go_enter Try.func10, Try.ntmps10
      go_wp2_with (go_at_call 19; refine (arePh_no _ _ _ z _ H.out (by omega) HZ.out).mono ?_; rintro e w' ⟨rfl, rfl⟩)
      go_ret3
      exact ⟨rfl, rfl⟩
theorem sPhaseOf_b (n : Int) (w : World) : Calls Try.prog 26 #[.int .i64 n] w fun e w' => ∃ u : Int, 0 ≤ u ∧ u < 360 ∧ e = .returned (.int .i64 u) ∧ w = w' :=
  (sPhaseOf_any n w).mono fun _ _ ⟨h1, h2⟩ => ⟨n % 360, by omega, by omega, h1, h2⟩
set_option maxHeartbeats 1000000 in
theorem reach_yes (a : Option Addr) (n c : Nat) (z : Nat → Int) (t : Int) (w : World) (h : Ints w a n z) (hn : n ≤ 1048576) (hz : Phs z n) (ht : 0 ≤ t ∧ t < 360) :
    Calls Try.prog 18 #[.slice a n c, .int .i64 t] w fun e w' => e = .returned (.int .i64 (rch z t n)) ∧ w = w' := by
  obtain ⟨t0, t1⟩ := ht
  have H := Lib.hid h; clear h
  have HZ := Lib.hid hz; clear hz
  go_enter Try.func18, Try.ntmps18
  go_wp2
  go_loop [6, 5] (fun s l => ∃ m : Nat, m ≤ n ∧ s = .int .i64 m ∧ l = .int .i64 (rch z t m)) (fun s _ => n - (intOf s).toNat)
  case atStart => exact ⟨0, by omega, rfl, rfl⟩
  case round =>
    obtain ⟨m, hm, rfl, rfl⟩ := hrel
    obtain ⟨r0, r1⟩ := rch_bd z t m
    by_cases hmn : m < n
    · obtain ⟨b1, o1, rfl, c1⟩ := H.out.at hmn
      obtain ⟨z0, z1⟩ := HZ.out m hmn
      clear H
      have q0 : 0 ≤ (z m - t) % 360 := by omega
      have q1 : (z m - t) % 360 < 360 := by omega
      go_wp2_with (first | (go_at_call 26; refine (sPhaseOf_any _ _).mono ?_; rintro e w' ⟨rfl, rfl⟩))
      all_goals
        go_round
        case rel => exact ⟨m + 1, by omega, by go_num, by simp only [rch]; congr 1; omega⟩
        case measure => simp [intOf]; omega
    · have e : m = n := by omega
      subst e
      clear H
      go_wp2
      go_ret
      exact ⟨rfl, rfl⟩
def SomeInt (w : World) (e : Ending) (w' : World) : Prop := ∃ v : Int, (0 ≤ v ∧ v < 360) ∧ e = .returned (.int .i64 v) ∧ w = w'
set_option maxHeartbeats 1000000 in
theorem reach_some (a : Option Addr) (n c : Nat) (z : Nat → Int) (t : Int) (w : World) (h : Ints w a n z) (hn : n ≤ 1048576) :
    Calls Try.prog 18 #[.slice a n c, .int .i64 t] w (SomeInt w) := by
  have H := Lib.hid h; clear h
  go_enter Try.func18, Try.ntmps18
  go_wp2
  go_loop [6, 5] (fun s l => ∃ (m : Nat) (v : Int), m ≤ n ∧ s = .int .i64 m ∧ l = .int .i64 v ∧ 0 ≤ v ∧ v < 360) (fun s _ => n - (intOf s).toNat)
  case atStart => exact ⟨0, 0, by omega, rfl, rfl, by omega, by omega⟩
  case round =>
    obtain ⟨m, v, hm, rfl, rfl, v0, v1⟩ := hrel
    by_cases hmn : m < n
    · obtain ⟨b1, o1, rfl, c1⟩ := H.out.at hmn
      clear H
      go_wp2_with (go_at_call 26; refine (sPhaseOf_b _ _).mono ?_; rintro e w' ⟨u, u0, u1, rfl, rfl⟩)
      all_goals
        go_round
        case rel => exact ⟨m + 1, _, by omega, by go_num, rfl, by omega, by omega⟩
        case measure => simp [intOf]; omega
    · clear H
      go_wp2
      go_ret
      exact ⟨v, ⟨v0, v1⟩, rfl, rfl⟩
set_option maxRecDepth 100000 in
set_option maxHeartbeats 2000000 in
theorem sArc_yes (a : Option Addr) (n c : Nat) (z : Nat → Int) (F L : Int) (w : World) (h : Ints w a n z) (hn : 1 ≤ n ∧ n ≤ 100) (hz : Phs z n) (hF : IsArc z n F L) :
    Calls Try.prog 8 #[.slice a n c] w fun e w' => e = .returned (.tuple #[.int .i64 F, .int .i64 L, .bool true]) ∧ w = w' := by
  obtain ⟨n0, n1⟩ := hn
  have H := Lib.hid h; clear h
  have HZ := Lib.hid hz; clear hz
  have HF := Lib.hid hF; clear hF
  have q1 : decide (100 < (n : Int)) = false := by simp; omega
  have q2 : ((n : Int) == 0) = false := by simp; omega
  go_enter Try.func8, Try.ntmps8
  go_wp2
  go_loop [7, 5, 6] (fun s f l => ∃ (k : Nat) (F L : Int), k ≤ n ∧ s = .int .i64 k ∧ f = .int .i64 F ∧ l = .int .i64 L ∧ ListTo z n k F L) (fun s _ _ => n - (intOf s).toNat)
  case atStart => exact ⟨0, 0, 360, by omega, rfl, rfl, rfl, .inl ⟨rfl, rfl, rfl⟩⟩
  case round =>
    obtain ⟨k, F', L', hk, rfl, rfl, rfl, hA⟩ := hrel
    by_cases hlt : k < n
    · have HB := Lib.hid hA.better
      have HS := Lib.hid hA.same
      clear hA
      have HI := H.out
      obtain ⟨b1, o1, ha, c1⟩ := H.out.at hlt
      have HA := Lib.hid ha
      obtain ⟨z0, z1⟩ := HZ.out k hlt
      obtain ⟨r0, r1⟩ := rch_bd z (z k) n
      have HJ := Lib.hid HI
      clear HI
      subst ha
      clear HA
      by_cases hl : rch z (z k) n < L'
      · have q3 : decide (rch z (z k) n < L') = true := by simp; omega
        clear H
        go_wp2_with (first | (first | (go_at_call 17; first | (refine (l2Phase_yes _ _ (by omega)).mono ?_; rintro e w' ⟨rfl, rfl⟩) | (refine (l2Phase_no _ _ (by omega)).mono ?_; rintro e w' ⟨rfl, rfl⟩))) | (go_at_call 18; refine (reach_yes _ _ _ z _ _ HJ.out (by omega) HZ.out (by omega)).mono ?_; rintro e w' ⟨rfl, rfl⟩))
        go_round
        case rel => exact ⟨k + 1, _, _, by omega, by go_num, rfl, rfl, HB.out (.inl hl)⟩
        case measure => simp [intOf]; omega
      · by_cases hq : rch z (z k) n = L' ∧ z k < F'
        · obtain ⟨hq1, hq2⟩ := hq
          have q3 : decide (rch z (z k) n < L') = false := by simp; omega
          have q4 : (rch z (z k) n == L') = true := by simp; omega
          have HE := Lib.hid (HB.out (.inr ⟨hq1, hq2⟩))
          clear H hq1
          go_wp2_with (first | (first | (go_at_call 17; first | (refine (l2Phase_yes _ _ (by omega)).mono ?_; rintro e w' ⟨rfl, rfl⟩) | (refine (l2Phase_no _ _ (by omega)).mono ?_; rintro e w' ⟨rfl, rfl⟩))) | (go_at_call 18; refine (reach_yes _ _ _ z _ _ HJ.out (by omega) HZ.out (by omega)).mono ?_; rintro e w' ⟨rfl, rfl⟩))
          go_round
          case rel => exact ⟨k + 1, _, _, by omega, by go_num, rfl, rfl, HE.out⟩
          case measure => simp [intOf]; omega
        · have q3 : decide (rch z (z k) n < L') = false := by simp; omega
          have HE := Lib.hid (HS.out (by omega))
          clear H
          by_cases hq1 : rch z (z k) n = L'
          · have q4 : (rch z (z k) n == L') = true := by simp; omega
            have q5 : decide (z k < F') = false := by simp; omega
            clear hq hq1
            go_wp2_with (first | (first | (go_at_call 17; first | (refine (l2Phase_yes _ _ (by omega)).mono ?_; rintro e w' ⟨rfl, rfl⟩) | (refine (l2Phase_no _ _ (by omega)).mono ?_; rintro e w' ⟨rfl, rfl⟩))) | (go_at_call 18; refine (reach_yes _ _ _ z _ _ HJ.out (by omega) HZ.out (by omega)).mono ?_; rintro e w' ⟨rfl, rfl⟩))
            go_round
            case rel => exact ⟨k + 1, _, _, by omega, by go_num, rfl, rfl, HE.out⟩
            case measure => simp [intOf]; omega
          · have q4 : (rch z (z k) n == L') = false := by simp; omega
            clear hq hq1
            go_wp2_with (first | (first | (go_at_call 17; first | (refine (l2Phase_yes _ _ (by omega)).mono ?_; rintro e w' ⟨rfl, rfl⟩) | (refine (l2Phase_no _ _ (by omega)).mono ?_; rintro e w' ⟨rfl, rfl⟩))) | (go_at_call 18; refine (reach_yes _ _ _ z _ _ HJ.out (by omega) HZ.out (by omega)).mono ?_; rintro e w' ⟨rfl, rfl⟩))
            go_round
            case rel => exact ⟨k + 1, _, _, by omega, by go_num, rfl, rfl, HE.out⟩
            case measure => simp [intOf]; omega
    · have e : k = n := by omega
      subst e
      have HD := Lib.hid (IsArc.one HF.out (hA.done (by omega) HZ.out))
      clear H hA
      go_wp2
      go_ret3
      obtain ⟨e1, e2⟩ := HD.out
      subst e1 e2
      exact ⟨rfl, rfl⟩
set_option maxRecDepth 100000 in
set_option maxHeartbeats 2000000 in
theorem sArc_no (a : Option Addr) (n c : Nat) (z : Nat → Int) (w : World) (h : Ints w a n z) (hn : n ≤ 1048576) (hz : n = 0 ∨ 100 < n ∨ ¬ Phs z n) :
    Calls Try.prog 8 #[.slice a n c] w fun e w' => e = .returned (.tuple #[.int .i64 0, .int .i64 0, .bool false]) ∧ w = w' := by
  have H := Lib.hid h; clear h
  by_cases h1 : n = 0
  · clear hz
    subst h1
    go_enter Try.func8, Try.ntmps8
    go_wp2
    go_ret3
    exact ⟨rfl, rfl⟩
  · have q2 : ((n : Int) == 0) = false := by simp; omega
    by_cases h2 : 100 < n
    · clear hz
      go_enter Try.func8, Try.ntmps8
      go_wp2
      go_ret3
      exact ⟨rfl, rfl⟩
    · have HZ : ¬ Phs z n := by rcases hz with h | h | h; exact absurd h h1; exact absurd h h2; exact h
      obtain ⟨f, hf, hbad, hz'⟩ := Phs.bad HZ
      have HP := Lib.hid hz'
      clear hz HZ hz'
      have q1 : decide (100 < (n : Int)) = false := by simp; omega
      go_enter Try.func8, Try.ntmps8
      go_wp2
      go_loop [7, 5, 6] (fun s f' l => ∃ (k : Nat) (F L : Int), k ≤ f ∧ s = .int .i64 k ∧ f' = .int .i64 F ∧ l = .int .i64 L) (fun s _ _ => n - (intOf s).toNat)
      case atStart => exact ⟨0, 0, 360, by omega, rfl, rfl, rfl⟩
      case round =>
        obtain ⟨k, F', L', hk, rfl, rfl, rfl⟩ := hrel
        have HI := H.out
        obtain ⟨b1, o1, ha, c1⟩ := H.out.at (show k < n by omega)
        have HJ := Lib.hid HI
        clear HI
        subst ha
        clear H
        by_cases hlt : k < f
        · obtain ⟨z0, z1⟩ := HP.out k hlt
          go_wp2_with (first | (first | (go_at_call 17; first | (refine (l2Phase_yes _ _ (by omega)).mono ?_; rintro e w' ⟨rfl, rfl⟩) | (refine (l2Phase_no _ _ (by omega)).mono ?_; rintro e w' ⟨rfl, rfl⟩))) | (go_at_call 18; refine (reach_some _ _ _ z _ _ HJ.out (by omega)).mono ?_; rintro e w' ⟨v, ⟨v0, v1⟩, rfl, rfl⟩))
          all_goals
            go_round
            case rel => exact ⟨k + 1, _, _, by omega, by go_num, rfl, rfl⟩
            case measure => simp [intOf]; omega
        · have e : k = f := by omega
          subst e
          go_wp2_with (first | (go_at_call 17; first | (refine (l2Phase_yes _ _ (by omega)).mono ?_; rintro e w' ⟨rfl, rfl⟩) | (refine (l2Phase_no _ _ (by omega)).mono ?_; rintro e w' ⟨rfl, rfl⟩)))
          go_ret3
          exact ⟨rfl, rfl⟩
end Go.Proofs.Ytjleofepjfdcbaa
