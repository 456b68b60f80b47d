/- Contracts of places and of lists of places: copying, comparing, looking for one. -/
import Derived.Test.YtbpbadmgmlfdhaaLeaf
import Derived.Below
import Derived.Deep.OwnRows
import Derived.LoopTactic
import Derived.Deep.QuietTactic
import Derived.BigQuiet
import Derived.Outline
namespace Go.Proofs.Ytbpbadmgmlfdhaa
open Go.RowKit

/-- A slice value that leads to n places. -/
def Ants (w : World) (a : Option Addr) (n : Nat) (X Y : Nat → Int) : Prop :=
  n = 0 ∨ ∃ b off, a = some ⟨b, off, none⟩ ∧ b < w.heap.size ∧ ∀ i, i < n → w.cell? ⟨b, off + i * 2, none⟩ = some (.int .i64 (X i)) ∧ w.cell? ⟨b, off + i * 2 + 1, none⟩ = some (.int .i64 (Y i))
theorem Ants.keep {w w' : World} {a : Option Addr} {n : Nat} {X Y : Nat → Int} (h : Ants w a n X Y) (hb : Below w.heap.size w w') : Ants w' a n X Y := by
  rcases h with h | ⟨b, off, ha, hlt, hc⟩
  · exact .inl h
  · exact .inr ⟨b, off, ha, Nat.lt_of_lt_of_le hlt hb.size, fun i hi => ⟨(hb.cell (p := ⟨b, off + i * 2, none⟩) hlt).trans (hc i hi).1, (hb.cell (p := ⟨b, off + i * 2 + 1, none⟩) hlt).trans (hc i hi).2⟩⟩
theorem Ants.at {w : World} {a : Option Addr} {n : Nat} {X Y : Nat → Int} (h : Ants w a n X Y) {k : Nat} (hk : k < n) : ∃ b off, a = some ⟨b, off, none⟩ ∧ b < w.heap.size ∧ w.cell? ⟨b, off + k * 2, none⟩ = some (.int .i64 (X k)) ∧ w.cell? ⟨b, off + k * 2 + 1, none⟩ = some (.int .i64 (Y k)) := by
  rcases h with h | ⟨b, off, ha, hb, hc⟩
  · omega
  · exact ⟨b, off, ha, hb, hc k hk⟩
theorem Ants.take {w : World} {a : Option Addr} {n k : Nat} {X Y : Nat → Int} (h : Ants w a n X Y) (hk : k ≤ n) : Ants w a k X Y := by
  rcases h with h | ⟨b, off, ha, hb, hc⟩
  · exact .inl (by omega)
  · exact .inr ⟨b, off, ha, hb, fun i hi => hc i (by omega)⟩
/-- The place (x, y) is in range. -/
def Pl (x y : Int) : Prop := -1000 ≤ x ∧ x ≤ 1000 ∧ -1000 ≤ y ∧ y ≤ 1000
instance (x y : Int) : Decidable (Pl x y) := by unfold Pl; infer_instance
theorem place_yes (x y : Int) (w : World) (h : Pl x y) : Calls Try.prog 19 #[.agg #[.int .i64 x, .int .i64 y]] w fun e w' => e = .returned (.bool true) ∧ Below w.heap.size w w' := by
  obtain ⟨h1, h2, h3, h4⟩ := h
  go_enter Try.func19, Try.ntmps19
  go_wp2_with (first | (go_at_call 26; first | (refine (inRange_yes _ _ _ (by omega)).mono ?_; rintro e w' ⟨rfl, rfl⟩) | (refine (inRange_no _ _ _ (by omega)).mono ?_; rintro e w' ⟨rfl, rfl⟩)))
  go_ret
  exact ⟨rfl, kept_alloc (kept_refl _) _⟩
theorem place_no (x y : Int) (w : World) (h : ¬ Pl x y) : Calls Try.prog 19 #[.agg #[.int .i64 x, .int .i64 y]] w fun e w' => e = .returned (.bool false) ∧ Below w.heap.size w w' := by
  unfold Pl at h
  by_cases h1 : x < -1000 ∨ 1000 < x
  · go_enter Try.func19, Try.ntmps19
    go_wp2_with (first | (go_at_call 26; first | (refine (inRange_yes _ _ _ (by omega)).mono ?_; rintro e w' ⟨rfl, rfl⟩) | (refine (inRange_no _ _ _ (by omega)).mono ?_; rintro e w' ⟨rfl, rfl⟩)))
    go_ret
    exact ⟨rfl, kept_alloc (kept_refl _) _⟩
  · have h2 : y < -1000 ∨ 1000 < y := by omega
    clear h
    go_enter Try.func19, Try.ntmps19
    go_wp2_with (first | (go_at_call 26; first | (refine (inRange_yes _ _ _ (by omega)).mono ?_; rintro e w' ⟨rfl, rfl⟩) | (refine (inRange_no _ _ _ (by omega)).mono ?_; rintro e w' ⟨rfl, rfl⟩)))
    go_ret
    exact ⟨rfl, kept_alloc (kept_refl _) _⟩
theorem sPlace_yes (x y : Int) (w : World) (h : Pl x y) : Calls Try.prog 16 #[.agg #[.int .i64 x, .int .i64 y]] w fun e w' => e = .returned (.bool true) ∧ Below w.heap.size w w' := by
  obtain ⟨h1, h2, h3, h4⟩ := h
  go_enter Try.func16, Try.ntmps16
  go_wp2_with (first | (go_at_call 17; first | (refine (l6In_yes _ _ _ _ (by omega)).mono ?_; rintro e w' ⟨rfl, rfl⟩) | (refine (l6In_no _ _ _ _ (by omega)).mono ?_; rintro e w' ⟨rfl, rfl⟩)))
  go_ret
  exact ⟨rfl, kept_alloc (kept_refl _) _⟩
theorem sPlace_no (x y : Int) (w : World) (h : ¬ Pl x y) : Calls Try.prog 16 #[.agg #[.int .i64 x, .int .i64 y]] w fun e w' => e = .returned (.bool false) ∧ Below w.heap.size w w' := by
  unfold Pl at h
  by_cases h1 : x < -1000 ∨ 1000 < x
  · go_enter Try.func16, Try.ntmps16
    go_wp2_with (first | (go_at_call 17; first | (refine (l6In_yes _ _ _ _ (by omega)).mono ?_; rintro e w' ⟨rfl, rfl⟩) | (refine (l6In_no _ _ _ _ (by omega)).mono ?_; rintro e w' ⟨rfl, rfl⟩)))
    go_ret
    exact ⟨rfl, kept_alloc (kept_refl _) _⟩
  · have h2 : y < -1000 ∨ 1000 < y := by omega
    clear h
    go_enter Try.func16, Try.ntmps16
    go_wp2_with (first | (go_at_call 17; first | (refine (l6In_yes _ _ _ _ (by omega)).mono ?_; rintro e w' ⟨rfl, rfl⟩) | (refine (l6In_no _ _ _ _ (by omega)).mono ?_; rintro e w' ⟨rfl, rfl⟩)))
    go_ret
    exact ⟨rfl, kept_alloc (kept_refl _) _⟩
theorem drewN_below {B : Nat} {w : World} (m : Nat) : Below B w (w.drewN m) := ⟨rfl, rfl, rfl, Nat.le_refl _, fun _ _ => rfl⟩
/-- The first of the places that is (x, y). -/
theorem first_at {X Y : Nat → Int} {n : Nat} {x y : Int} (h : ¬ ∀ i, i < n → ¬ (X i = x ∧ Y i = y)) : ∃ f, f < n ∧ (X f = x ∧ Y f = y) ∧ ∀ i, i < f → ¬ (X i = x ∧ Y i = y) := by
  induction n with
  | zero => exact absurd (fun i hi => absurd hi (Nat.not_lt_zero i)) h
  | succ n ih =>
    by_cases hn : ∀ i, i < n → ¬ (X i = x ∧ Y i = y)
    · refine ⟨n, Nat.lt_succ_self n, ?_, hn⟩
      by_cases c : X n = x ∧ Y n = y
      · exact c
      · exact absurd (fun i hi => by
          by_cases e : i = n
          · subst e; exact c
          · exact hn i (by omega)) h
    · obtain ⟨f, hf, h1, h2⟩ := ih hn
      exact ⟨f, by omega, h1, h2⟩
set_option maxHeartbeats 1000000 in
theorem index_no (a : Option Addr) (n c : Nat) (X Y : Nat → Int) (x y : Int) (w : World) (h : Ants w a n X Y) (hn : n ≤ 1048576) (hno : ∀ i, i < n → ¬ (X i = x ∧ Y i = y)) :
    Calls Try.prog 27 #[.slice a n c, .agg #[.int .i64 x, .int .i64 y]] w fun e w' => e = .returned (.int .i64 (-1)) ∧ Below w.heap.size w w' := by
  have H := Lib.hid (h.keep (kept_alloc (kept_refl w) (.cells #[.int .i64 x, .int .i64 y] 30)))
  have HN := Lib.hid hno
  clear h hno
  go_enter Try.func27, Try.ntmps27
  go_wp2
  go_loopw [8] (fun i wr => ∃ k : Nat, k ≤ n ∧ i = .int .i64 k ∧ ∃ m, wr = (w.alloc (.cells #[.int .i64 x, .int .i64 y] 30)).drewN m) (fun i _ => n - (intOf i).toNat)
  case atStart => exact ⟨0, Nat.zero_le _, rfl, 0, rfl⟩
  case round =>
    obtain ⟨k, hk, rfl, m, rfl⟩ := hrel
    by_cases hlt : k < n
    · obtain ⟨b1, o1, rfl, hb1, c1, c2⟩ := H.out.at hlt
      have hne := HN.out k hlt
      have e1 : (0 : Int) ≤ (k : Int) := by omega
      have e2 : (k : Int) < (n : Int) := by omega
      clear H
      by_cases hx : x = X k
      · have q0 : (x == X k) = true := by simpa using hx
        have q1 : (y == Y k) = false := by
          have : y ≠ Y k := fun e => hne ⟨hx.symm, e.symm⟩
          simpa using this
        clear hx hne
        go_wp2
        go_quiet (fail)
        go_wp2
        go_roundw
        case rel => exact ⟨k + 1, by omega, by go_num, _, rfl⟩
        case measure => simp [intOf]; omega
      · have q0 : (x == X k) = false := by simpa using hx
        clear hx hne
        go_wp2
        go_quiet (fail)
        go_wp2
        go_roundw
        case rel => exact ⟨k + 1, by omega, by go_num, _, rfl⟩
        case measure => simp [intOf]; omega
    · clear H
      go_wp2
      go_ret
      exact ⟨rfl, kept_trans (kept_alloc (kept_refl _) _) (drewN_below m)⟩
set_option maxHeartbeats 1000000 in
theorem index_yes (a : Option Addr) (n c : Nat) (X Y : Nat → Int) (x y : Int) (w : World) (h : Ants w a n X Y) (hn : n ≤ 1048576) (f : Nat) (hf : f < n) (hxy : X f = x ∧ Y f = y) (hno : ∀ i, i < f → ¬ (X i = x ∧ Y i = y)) :
    Calls Try.prog 27 #[.slice a n c, .agg #[.int .i64 x, .int .i64 y]] w fun e w' => e = .returned (.int .i64 f) ∧ Below w.heap.size w w' := by
  have H := Lib.hid (h.keep (kept_alloc (kept_refl w) (.cells #[.int .i64 x, .int .i64 y] 30)))
  have HN := Lib.hid hno
  have HX := Lib.hid hxy
  clear h hno hxy
  go_enter Try.func27, Try.ntmps27
  go_wp2
  go_loopw [8] (fun i wr => ∃ k : Nat, k ≤ f ∧ i = .int .i64 k ∧ ∃ m, wr = (w.alloc (.cells #[.int .i64 x, .int .i64 y] 30)).drewN m) (fun i _ => n - (intOf i).toNat)
  case atStart => exact ⟨0, Nat.zero_le _, rfl, 0, rfl⟩
  case round =>
    obtain ⟨k, hk, rfl, m, rfl⟩ := hrel
    obtain ⟨b1, o1, rfl, hb1, c1, c2⟩ := H.out.at (show k < n by omega)
    have e1 : (0 : Int) ≤ (k : Int) := by omega
    have e2 : (k : Int) < (n : Int) := by omega
    clear H
    by_cases hlt : k < f
    · have hne := HN.out k hlt
      by_cases hx : x = X k
      · have q0 : (x == X k) = true := by simpa using hx
        have q1 : (y == Y k) = false := by
          have : y ≠ Y k := fun e => hne ⟨hx.symm, e.symm⟩
          simpa using this
        clear hx hne
        go_wp2
        go_quiet (fail)
        go_wp2
        go_roundw
        case rel => exact ⟨k + 1, by omega, by go_num, _, rfl⟩
        case measure => simp [intOf]; omega
      · have q0 : (x == X k) = false := by simpa using hx
        clear hx hne
        go_wp2
        go_quiet (fail)
        go_wp2
        go_roundw
        case rel => exact ⟨k + 1, by omega, by go_num, _, rfl⟩
        case measure => simp [intOf]; omega
    · have e : k = f := by omega
      subst e
      have q0 : (x == X k) = true := by have := HX.out.1; simp [this]
      have q1 : (y == Y k) = true := by have := HX.out.2; simp [this]
      go_wp2
      go_quiet (fail)
      go_wp2
      go_ret
      exact ⟨rfl, below_drewN (kept_trans (kept_alloc (kept_refl _) _) (drewN_below m)) _⟩
theorem contains_no (a : Option Addr) (n c : Nat) (X Y : Nat → Int) (x y : Int) (w : World) (h : Ants w a n X Y) (hn : n ≤ 1048576) (hno : ∀ i, i < n → ¬ (X i = x ∧ Y i = y)) :
    Calls Try.prog 20 #[.slice a n c, .agg #[.int .i64 x, .int .i64 y]] w fun e w' => e = .returned (.bool false) ∧ Below w.heap.size w w' := by
  have H := Lib.hid (h.keep (kept_alloc (kept_refl w) (.cells #[.int .i64 x, .int .i64 y] 30)))
  have HN := Lib.hid hno
  clear h hno
  go_enter Try.func20, Try.ntmps20
  go_wp2_with (go_at_call 27; refine (index_no a n c X Y x y _ H.out hn HN.out).mono ?_; rintro e w' ⟨rfl, hb⟩)
  go_ret
  exact ⟨rfl, kept_trans (kept_alloc (kept_refl _) _) hb⟩
theorem contains_yes (a : Option Addr) (n c : Nat) (X Y : Nat → Int) (x y : Int) (w : World) (h : Ants w a n X Y) (hn : n ≤ 1048576) (hno : ¬ ∀ i, i < n → ¬ (X i = x ∧ Y i = y)) :
    Calls Try.prog 20 #[.slice a n c, .agg #[.int .i64 x, .int .i64 y]] w fun e w' => e = .returned (.bool true) ∧ Below w.heap.size w w' := by
  have H := Lib.hid (h.keep (kept_alloc (kept_refl w) (.cells #[.int .i64 x, .int .i64 y] 30)))
  obtain ⟨f, hf, hxy, hno'⟩ := first_at hno
  have HN := Lib.hid hno'
  have HX := Lib.hid hxy
  clear h hno hno' hxy
  go_enter Try.func20, Try.ntmps20
  go_wp2_with (go_at_call 27; refine (index_yes a n c X Y x y _ H.out hn f hf HX.out HN.out).mono ?_; rintro e w' ⟨rfl, hb⟩)
  go_ret
  exact ⟨rfl, kept_trans (kept_alloc (kept_refl _) _) hb⟩
end Go.Proofs.Ytbpbadmgmlfdhaa
