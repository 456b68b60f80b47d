/- Contracts: a number in decimals, by the reference's own recursion. -/
import Derived.Test.YtafflgjngjmgiaaDoorTa
import Derived.Test.YtafflgjngjmgiaaDoorGd
import Derived.Lib.ItoaWalk
import Derived.Laws.IdiomStrings
import Derived.Deep.QuietTactic
import Derived.Deep.RegionWith
import Derived.Deep.RegionLaw
import Derived.BigQuiet
import Derived.IntWalk
import Derived.Outline
namespace Go.Proofs.YtafflgjngjmgiaaDoor
open Go.RowKit Go.Lib
theorem conv_one {W : World} {g d : Nat} {x : Int} (hd : d < 10) (hx : x = 48 + (d : Int)) (h : W.cell? ⟨g, 0, none⟩ = some (.int .u8 x)) :
    (convert 28 9 (.slice (some ⟨g, 0, none⟩) 1 1)).run Tryd.prog W = .ok (.string ⟨[UInt8.ofNat (48 + d)].toArray⟩) W := by
  refine run_convert_bytes_back (P := Tryd.prog) W 28 9 5 ⟨g, 0, none⟩ 1 [UInt8.ofNat (48 + d)] Tryd.underlying28 Tryd.underlying5 Tryd.underlying9 fun j hj => ?_
  obtain rfl : j = 0 := by simpa using hj
  have e : ((UInt8.ofNat (48 + d)).toNat : Int) = x := by
    rw [hx]
    simp [UInt8.toNat_ofNat']
    omega
  simp only [List.getElem_cons_zero, e]
  simpa [Addr.add] using h
theorem ret_str {a b : ByteArray} (h : a = b) : Ending.returned (.string a) = .returned (.string b) := by rw [h]
set_option maxRecDepth 100000 in
set_option maxHeartbeats 1000000 in
theorem dec_nat (u : Nat) : u ≤ 9223372036854775807 → ∀ w : World, Calls Tryd.prog 11 #[.int .i64 (u : Int)] w fun e w' => e = .returned (.string ⟨(decDigits u).toArray⟩) ∧ Below w.heap.size w w' := by
  induction u using Nat.strongRecOn with
  | ind u ih =>
    intro hu w
    by_cases h10 : u < 10
    · clear ih
      obtain ⟨s, hs⟩ : ∃ s : ByteArray, s = ⟨[UInt8.ofNat (48 + u)].toArray⟩ := ⟨_, rfl⟩
      have hcv : ∀ (W : World) (g : Nat), W.cell? ⟨g, 0, none⟩ = some (.int .u8 (48 + (u : Int))) → (convert 28 9 (.slice (some ⟨g, 0, none⟩) 1 1)).run Tryd.prog W = .ok (.string s) W := fun W g h => by rw [hs]; exact conv_one h10 rfl h
      have HS := Lib.hid hs
      clear hs
      go_enter Tryd.func11, Tryd.ntmps11
      go_wp2_with fail
      go_ret
      refine ⟨ret_str ?_, kept_alloc (kept_refl _) _⟩
      rw [decDigits_one h10]
      exact HS.out
    · obtain ⟨q, hq⟩ : ∃ q : Nat, q = u / 10 := ⟨_, rfl⟩
      obtain ⟨d, hd⟩ : ∃ d : Nat, d = u % 10 := ⟨_, rfl⟩
      have e0 : (u : Int) / 10 = (q : Int) := by omega
      have e1 : (u : Int).tmod 10 = (d : Int) := by rw [Int.tmod_eq_emod_of_nonneg (by omega)]; omega
      have e2 : (u : Int) % 10 = (d : Int) := by omega
      have hd9 : d < 10 := by omega
      have hqu : q < u := by omega
      have e3 : IntKind.i64.wrap (48 + (d : Int)) = 48 + (d : Int) := IntWalk.i64_in _ ⟨by omega, by omega⟩
      have e4 : IntKind.u8.wrap (48 + (d : Int)) = 48 + (d : Int) := by rw [IntKind.wrap_u8]; omega
      have e5 : IntKind.i64.wrap (q : Int) = (q : Int) := IntWalk.i64_in _ ⟨by omega, by omega⟩
      obtain ⟨s, hs⟩ : ∃ s : ByteArray, s = ⟨[UInt8.ofNat (48 + d)].toArray⟩ := ⟨_, rfl⟩
      have hcv : ∀ (W : World) (g : Nat), W.cell? ⟨g, 0, none⟩ = some (.int .u8 (48 + (d : Int))) → (convert 28 9 (.slice (some ⟨g, 0, none⟩) 1 1)).run Tryd.prog W = .ok (.string s) W := fun W g h => by rw [hs]; exact conv_one hd9 rfl h
      obtain ⟨r, hr⟩ : ∃ r : ByteArray, r = ⟨(decDigits q).toArray⟩ := ⟨_, rfl⟩
      have HC : Hid (∀ w, Calls Tryd.prog 11 #[.int .i64 (q : Int)] w fun e w' => e = .returned (.string r) ∧ Below w.heap.size w w') := Lib.hid fun w => by rw [hr]; exact ih q hqu (by omega) w
      have HE : Hid (r ++ s = ⟨(decDigits u).toArray⟩) := Lib.hid (by rw [hr, hs, bytes_append, dd_big h10, hq, hd])
      have hlen : ¬ 9223372036854775807 < r.size + s.size := by
        have h1 : r.size = (decDigits q).length := by rw [hr]; simp [ByteArray.size]
        have h2 : s.size = 1 := by rw [hs]; rfl
        have h3 := decDigits_length q
        have h4 := nDigits_le20 q (by omega)
        omega
      clear ih hs hr hq hd
      go_enter Tryd.func11, Tryd.ntmps11
      go_wp2_with fail
      go_region_law (go_simp; go_at_call 11; refine (HC.out _).mono ?_; rintro e w' ⟨rfl, hb⟩; obtain ⟨hc, hf⟩ := bcell hb; have hz := hb.size; try simp at hz)
      all_goals go_wp2_with fail
      all_goals go_ret
      all_goals refine ⟨ret_str ?_, (by repeat (first | exact kept_refl _ | assumption | refine kept_alloc ?_ _ | refine Below.drew ?_ | refine Below.setCell ?_ (by simp <;> omega) _ | refine kept_trans ?_ (by assumption)))⟩
      all_goals exact HE.out
end Go.Proofs.YtafflgjngjmgiaaDoor
