/- Contracts of the units, in the program and in the reference. -/
import Derived.Test.YtoichhjnfiiocaaGb
import Derived.Laws.BitsAllLaws
import Derived.Laws.BitsLemmas
namespace Go.Proofs.Ytoichhjnfiiocaa
open Go.RowKit

def uR (k : Int) : Int := if k % 4 = 0 then 1 else if k % 4 = 2 then -1 else 0
def uI (k : Int) : Int := if k % 4 = 1 then 1 else if k % 4 = 3 then -1 else 0
theorem u_at (k : Int) : (k % 4 = 0 ∧ uR k = 1 ∧ uI k = 0) ∨ (k % 4 = 1 ∧ uR k = 0 ∧ uI k = 1) ∨ (k % 4 = 2 ∧ uR k = -1 ∧ uI k = 0) ∨ (k % 4 = 3 ∧ uR k = 0 ∧ uI k = -1) := by
  unfold uR uI
  rcases (by omega : k % 4 = 0 ∨ k % 4 = 1 ∨ k % 4 = 2 ∨ k % 4 = 3) with h | h | h | h <;> simp [h]

theorem and3 (k : Int) : bits .and .i64 k 3 = k % 4 := by
  have e3 : (BitVec.ofInt 64 (3 : Int)).toNat = 3 := by decide
  have h := Nat.and_two_pow_sub_one_eq_mod (BitVec.ofInt 64 k).toNat 2
  show IntKind.i64.wrap ((BitVec.ofInt 64 k &&& BitVec.ofInt 64 (3 : Int)).toNat : Int) = _
  rw [BitVec.toNat_and, e3]
  simp only [Nat.reducePow, Nat.reduceSub] at h
  rw [h, IntKind.wrap_i64, BitVec.toNat_ofInt]
  omega
theorem unit_idx0 (w : World) : (Instr.index 47 (.agg #[.int .i64 1, .int .i64 0, .int .i64 0, .int .i64 1, .int .i64 (-1), .int .i64 0, .int .i64 0, .int .i64 (-1)]) (.int .i64 0)).run Try.prog w = .ok (.agg #[.int .i64 1, .int .i64 0]) w := by kernel_rfl
theorem unit_idx1 (w : World) : (Instr.index 47 (.agg #[.int .i64 1, .int .i64 0, .int .i64 0, .int .i64 1, .int .i64 (-1), .int .i64 0, .int .i64 0, .int .i64 (-1)]) (.int .i64 1)).run Try.prog w = .ok (.agg #[.int .i64 0, .int .i64 1]) w := by kernel_rfl
theorem unit_idx2 (w : World) : (Instr.index 47 (.agg #[.int .i64 1, .int .i64 0, .int .i64 0, .int .i64 1, .int .i64 (-1), .int .i64 0, .int .i64 0, .int .i64 (-1)]) (.int .i64 2)).run Try.prog w = .ok (.agg #[.int .i64 (-1), .int .i64 0]) w := by kernel_rfl
theorem unit_idx3 (w : World) : (Instr.index 47 (.agg #[.int .i64 1, .int .i64 0, .int .i64 0, .int .i64 1, .int .i64 (-1), .int .i64 0, .int .i64 0, .int .i64 (-1)]) (.int .i64 3)).run Try.prog w = .ok (.agg #[.int .i64 0, .int .i64 (-1)]) w := by kernel_rfl
set_option maxHeartbeats 1000000 in
theorem unit_any (k : Int) (w : World) : Calls Try.prog 15 #[.int .i64 k] w fun e w' => e = .returned (.agg #[.int .i64 (uR k), .int .i64 (uI k)]) ∧ Below w.heap.size w w' := by
  have hb := and3 k
  rcases u_at k with ⟨h, e1, e2⟩ | ⟨h, e1, e2⟩ | ⟨h, e1, e2⟩ | ⟨h, e1, e2⟩
  all_goals
    rw [e1, e2]
    rw [h] at hb
    clear h e1 e2
    have i0 := unit_idx0
    have i1 := unit_idx1
    have i2 := unit_idx2
    have i3 := unit_idx3
    go_enter Try.func15, Try.ntmps15
    go_wp2
    refine bodyPost_ret (by simp (maxDischargeDepth := 9) [results, Try.results15, go_sem]) rfl ⟨rfl, (by repeat (first | exact kept_refl _ | assumption | refine kept_alloc ?_ _ | refine Below.drew ?_ | refine Below.setCell ?_ (by simp <;> omega) _ | refine kept_trans ?_ (by assumption)))⟩
theorem tmod4 (k : Int) : (k.tmod 4 < 0 ∧ k.tmod 4 + 4 = k % 4) ∨ (0 ≤ k.tmod 4 ∧ k.tmod 4 = k % 4) := by
  have h1 := Int.lt_tmod_of_pos k (b := 4) (by omega)
  have h2 := Int.tmod_lt_of_pos k (b := 4) (by omega)
  have hh := Int.tmod_eq_emod (a := k) (b := 4)
  by_cases h0 : 0 ≤ k
  · rw [if_pos (.inl h0)] at hh; omega
  · by_cases h3 : (4 : Int) ∣ k
    · rw [if_pos (.inr h3)] at hh; omega
    · rw [if_neg (by simp [h0, h3])] at hh; simp at hh; omega
set_option maxHeartbeats 400000 in
theorem l1Mod4 (n : Int) (w : World) : Calls Try.prog 34 #[.int .i64 n, .int .i64 4] w fun e w' => e = .returned (.int .i64 (n % 4)) ∧ w = w' := by
  have hb1 := Int.lt_tmod_of_pos n (b := 4) (by omega)
  have hb2 := Int.tmod_lt_of_pos n (b := 4) (by omega)
  have H1 := Lib.hid (tmod4 n)
  go_enter Try.func34, Try.ntmps34
  go_wp2
  all_goals go_ret
  all_goals refine ⟨ret_int ?_, rfl⟩
  all_goals have h := H1.out
  all_goals omega
set_option maxHeartbeats 1000000 in
theorem sUnit_any (k : Int) (w : World) : Calls Try.prog 16 #[.int .i64 k] w fun e w' => e = .returned (.agg #[.int .i64 (uR k), .int .i64 (uI k)]) ∧ Below w.heap.size w w' := by
  rcases u_at k with ⟨h, e1, e2⟩ | ⟨h, e1, e2⟩ | ⟨h, e1, e2⟩ | ⟨h, e1, e2⟩
  all_goals
    rw [e1, e2]
    clear e1 e2
    go_enter Try.func16, Try.ntmps16
    go_wp2_with (go_at_call 34; refine (l1Mod4 _ _).mono ?_; rintro e w' ⟨rfl, rfl⟩; rw [h])
    refine bodyPost_ret (by simp (maxDischargeDepth := 9) [results, Try.results16, go_sem]) rfl ⟨rfl, (by repeat (first | exact kept_refl _ | assumption | refine kept_alloc ?_ _ | refine Below.drew ?_ | refine Below.setCell ?_ (by simp <;> omega) _ | refine kept_trans ?_ (by assumption)))⟩
end Go.Proofs.Ytoichhjnfiiocaa
