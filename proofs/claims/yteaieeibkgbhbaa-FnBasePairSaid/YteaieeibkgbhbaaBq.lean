/- The contract of BasePair in the reference. -/
import Derived.Test.YteaieeibkgbhbaaBp
import Derived.LoopTactic
import Derived.Outline
namespace Go.Proofs.Yteaieeibkgbhbaa
open Go.RowKit
set_option maxRecDepth 100000 in
set_option maxHeartbeats 2000000 in
theorem sBasePair_any (n a : Int) (w : World) : Calls Try.prog 15 #[.int .i64 n, .int .i64 a] w fun e w' => BPost n a e ∧ w = w' := by
  by_cases hn : 2 ≤ n ∧ n ≤ 7
  · have hbm := bm_pos n hn
    obtain ⟨n0, n1⟩ := hn
    obtain ⟨b0, b1⟩ := hbm
    have hb0 : decide (0 < bmI n) = true := by simp; omega
    go_enter Try.func15, Try.ntmps15
    go_wp2
    go_loop [7] (fun i => ∃ k : Nat, (k : Int) ≤ n ∧ i = .int .i64 k ∧ ∀ x y, Pr n x y → x < k → biI n x y ≠ a) (fun i => n.toNat - (intOf i).toNat)
    case atStart => exact ⟨0, by omega, rfl, fun x y hp hx => by obtain ⟨_, _, _⟩ := hp; omega⟩
    case round =>
      obtain ⟨k, hk, rfl, hno⟩ := hrel
      have HN := Lib.hid hno
      clear hno
      by_cases hlt : (k : Int) < n
      · go_wp2_with (first | (go_at_call 13; refine (sBaseMany_any _ _).mono ?_; rintro e w' ⟨rfl, rfl⟩))
        go_loop [8] (fun j => ∃ m : Nat, k + 1 ≤ m ∧ (m : Int) ≤ n ∧ j = .int .i64 m ∧ ∀ x y, Pr n x y → (x < k ∨ (x = k ∧ y < m)) → biI n x y ≠ a) (fun j => n.toNat - (intOf j).toNat)
        case atStart => exact ⟨k + 1, by omega, by omega, by go_num, fun x y hp hx => HN.out x y hp (by obtain ⟨_, _, _, _⟩ := hp; omega)⟩
        case round =>
          obtain ⟨m, hm0, hm1, rfl, hno⟩ := hrel
          have HM := Lib.hid hno
          clear hno HN
          by_cases hmn : (m : Int) < n
          · by_cases hx : biI n k m = a
            · have hx' : (biI n k m == a) = true := by simpa using hx
              have HX := Lib.hid hx
              clear hx
              go_wp2_with (first | (go_at_call 9; refine (sBaseIndex_any _ _ _ _).mono ?_; rintro e w' ⟨rfl, rfl⟩))
              refine bodyPost_ret (v := .tuple #[.int .i64 (k : Int), .int .i64 (m : Int), .bool true]) (by simp [results, Try.results15, go_sem]) rfl ⟨?_, rfl⟩
              exact .inl ⟨k, m, ⟨⟨n0, n1⟩, by omega, by omega, hmn⟩, HX.out, rfl⟩
            · have hx' : (biI n k m == a) = false := by simpa using hx
              have HX := Lib.hid hx
              clear hx
              go_wp2_with (first | (go_at_call 9; refine (sBaseIndex_any _ _ _ _).mono ?_; rintro e w' ⟨rfl, rfl⟩))
              go_round
              case rel => exact ⟨m + 1, by omega, by omega, by go_num, fun x y hp hb => by
                by_cases e : x = k ∧ y = m
                · obtain ⟨rfl, rfl⟩ := e; exact HX.out
                · exact HM.out x y hp (by omega)⟩
              case measure => simp [intOf]; omega
          · go_wp2
            go_round
            case rel => exact ⟨k + 1, by omega, by go_num, fun x y hp hb => HM.out x y hp (by obtain ⟨_, _, _, _⟩ := hp; omega)⟩
            case measure => simp [intOf]; omega
      · go_wp2
        refine bodyPost_ret (v := .tuple #[.int .i64 0, .int .i64 0, .bool false]) (by simp [results, Try.results15, go_sem]) rfl ⟨?_, rfl⟩
        exact .inr ⟨fun x y hp => HN.out x y hp (by obtain ⟨_, _, _, _⟩ := hp; omega), rfl⟩
  · have HP : BPost n a (.returned (.tuple #[.int .i64 0, .int .i64 0, .bool false])) := .inr ⟨fun x y hp => absurd hp.1 hn, rfl⟩
    have HQ := Lib.hid HP
    have hz := bm_no n (by omega)
    have HZ := Lib.hid hz
    clear HP hz
    go_enter Try.func15, Try.ntmps15
    go_wp2
    go_loop [7] (fun i => i = .int .i64 0) (fun i => 0)
    case atStart => rfl
    case round =>
      subst hrel
      by_cases hlt : (0 : Int) < n
      · go_wp2_with (go_at_call 13; refine (sBm_no _ _ (by omega)).mono ?_; rintro e w' ⟨rfl, rfl⟩)
        refine bodyPost_ret (v := .tuple #[.int .i64 0, .int .i64 0, .bool false]) (by simp [results, Try.results15, go_sem]) rfl ⟨HQ.out, rfl⟩
      · go_wp2
        refine bodyPost_ret (v := .tuple #[.int .i64 0, .int .i64 0, .bool false]) (by simp [results, Try.results15, go_sem]) rfl ⟨HQ.out, rfl⟩
theorem sBasePair_yes (n a x y : Int) (w : World) (hp : Pr n x y) (hb : biI n x y = a) : Calls Try.prog 15 #[.int .i64 n, .int .i64 a] w fun e w' => e = .returned (.tuple #[.int .i64 x, .int .i64 y, .bool true]) ∧ w = w' :=
  (sBasePair_any n a w).mono fun _ _ ⟨h, hb'⟩ => ⟨h.yes hp hb, hb'⟩
theorem sBasePair_no (n a : Int) (w : World) (hn : ∀ x y, Pr n x y → biI n x y ≠ a) : Calls Try.prog 15 #[.int .i64 n, .int .i64 a] w fun e w' => e = .returned (.tuple #[.int .i64 0, .int .i64 0, .bool false]) ∧ w = w' :=
  (sBasePair_any n a w).mono fun _ _ ⟨h, hb'⟩ => ⟨h.no hn, hb'⟩
end Go.Proofs.Yteaieeibkgbhbaa
