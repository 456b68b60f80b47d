/- Contracts of the reader that draws numbers from a code: l6Open and pick. What it draws is left open; that it returns, in range, is said. -/
import Derived.Test.YtbpbadmgmlfdhaaLeaf
import Derived.Below
import Derived.IntWalk
import Derived.Deep.QuietTactic
import Derived.BigQuiet
import Derived.Laws.BitsAllLaws
import Derived.Laws.AppendOwn
import Derived.Maps.AppendAt
namespace Go.Proofs.Ytbpbadmgmlfdhaa
open Go.RowKit

theorem i64_xor_nn (a b : Int) (ha : 0 ≤ a) (ha' : a ≤ 1000000000) (hb : 0 ≤ b) (hb' : b ≤ 1000000000) : 0 ≤ bits .xor .i64 a b ∧ bits .xor .i64 a b ≤ 1073741824 := by
  obtain ⟨A, rfl⟩ := Int.eq_ofNat_of_zero_le ha
  obtain ⟨B, rfl⟩ := Int.eq_ofNat_of_zero_le hb
  have hx : A ^^^ B < 2 ^ 30 := Nat.xor_lt_two_pow (by omega) (by omega)
  have e : bits .xor .i64 (A : Int) (B : Int) = ((A ^^^ B : Nat) : Int) := by
    show IntKind.i64.wrap ((BitVec.ofInt 64 (A : Int) ^^^ BitVec.ofInt 64 (B : Int)).toNat : Int) = _
    rw [BitVec.toNat_xor, ofInt_u64 A (by omega), ofInt_u64 B (by omega)]
    simp [IntKind.wrap, IntKind.bits, IntKind.signed]
    omega
  rw [e]; omega

theorem grown_setCell (w : World) (a : Addr) (u : Value) : w.grownBy (w.setCell a u) (some a.block) :=
  ⟨rfl, rfl, rfl, by simp [World.setCell], fun k _ hk => Below.heap_setCell w a u k (fun e => hk (by rw [e]))⟩
theorem grown_drew {w w' : World} {r : Option Nat} (h : w.grownBy w' r) : w.grownBy w'.drew r := ⟨h.os, h.tape, h.output, h.size, h.block⟩

/-- A reader lies at block b and has read p times. -/
def Rd (b p : Nat) (w : World) : Prop :=
  ∃ (sa : Option Addr) (len cap : Nat), w.cell? ⟨b, 0, none⟩ = some (.slice sa len cap) ∧ w.cell? ⟨b, 1, none⟩ = some (.int .i64 p) ∧ w.frozen? ⟨b, 1, none⟩ = false ∧
    len ≤ 2000 ∧ (len = 0 ∨ ∃ cb off, sa = some ⟨cb, off, none⟩ ∧ cb < b ∧ ∀ i, i < len → ∃ c : Int, 0 ≤ c ∧ c ≤ 255 ∧ w.cell? ⟨cb, off + i, none⟩ = some (.int .u8 c))

/-- What a step of a reader at block b does: it hands back a number that P knows, and the reader has read on. -/
def Picks (P : Int → Prop) (b p : Nat) (w : World) (e : Ending) (w' : World) : Prop :=
  ∃ v : Int, P v ∧ e = .returned (.int .i64 v) ∧ w.grownBy w' (some b) ∧ ∃ q, q ≤ p ∧ Rd b q w'

theorem Rd.lt {b p : Nat} {w : World} (h : Rd b p w) : b < w.heap.size := by
  obtain ⟨sa, len, cap, h0, _⟩ := h
  exact World.block_lt_of_cell? w _ h0

theorem Rd.keep {b p : Nat} {w w' : World} (h : Rd b p w) (hb : ∀ k, k ≤ b → w'.heap[k]? = w.heap[k]?) : Rd b p w' := by
  obtain ⟨sa, len, cap, h0, h1, h2, h3, h4⟩ := h
  have e := hb b (Nat.le_refl _)
  refine ⟨sa, len, cap, (World.cell?_of_block (w := w) e).trans h0, (World.cell?_of_block (w := w) e).trans h1, (World.frozen?_of_block (w := w) e).trans h2, h3, ?_⟩
  rcases h4 with h4 | ⟨cb, off, hs, hcb, hc⟩
  · exact .inl h4
  · refine .inr ⟨cb, off, hs, hcb, fun i hi => ?_⟩
    obtain ⟨c, c1, c2, c3⟩ := hc i hi
    exact ⟨c, c1, c2, (World.cell?_of_block (w := w) (hb cb (by omega))).trans c3⟩

theorem Rd.step {b p : Nat} {w : World} (h : Rd b p w) : Rd b (p + 1) (w.setCell ⟨b, 1, none⟩ (.int .i64 ((p : Int) + 1))) := by
  obtain ⟨sa, len, cap, h0, h1, h2, h3, h4⟩ := h
  refine ⟨sa, len, cap, ?_, ?_, ?_, h3, ?_⟩
  · exact (World.cell?_setCell_other _ _ _ _ (by simp)).trans h0
  · exact World.cell?_setCell_same _ _ _ h1
  · simpa using h2
  · rcases h4 with h4 | ⟨cb, off, hs, hcb, hc⟩
    · exact .inl h4
    · refine .inr ⟨cb, off, hs, hcb, fun i hi => ?_⟩
      obtain ⟨c, c1, c2, c3⟩ := hc i hi
      exact ⟨c, c1, c2, (World.cell?_of_block (w := w) (Below.heap_setCell w _ _ cb (by simp; omega))).trans c3⟩
theorem drewN_heap (w : World) (n : Nat) : (w.drewN n).heap = w.heap := by first | rfl | simp
theorem grown_drewN {w w' : World} {r : Option Nat} (n : Nat) (h : w.grownBy w' r) : w.grownBy (w'.drewN n) r := ⟨h.os, h.tape, h.output, h.size, h.block⟩
theorem Rd.drewN {b p : Nat} {w : World} (n : Nat) (h : Rd b p w) : Rd b p (w.drewN n) := h.keep fun _ _ => rfl
theorem Rd.drew {b p : Nat} {w : World} (h : Rd b p w) : Rd b p w.drew := h.keep fun _ _ => rfl

set_option maxRecDepth 100000 in
set_option maxHeartbeats 1000000 in
theorem pick_any (b p : Nat) (n : Int) (w : World) (hr : Rd b p w) (hp : p ≤ 100000) (hn : 1 ≤ n ∧ n ≤ 1000000) :
    Calls Try.prog 25 #[.pointer (some ⟨b, 0, none⟩), .int .i64 n] w (Picks (fun v => 0 ≤ v ∧ v < n) b (p + 1) w) := by
  have HR := Lib.hid hr
  obtain ⟨sa, len, cap, h0, h1, h2, h3, h4⟩ := hr
  obtain ⟨hn1, hn2⟩ := hn
  have hn0 : decide (n < 1) = false := by simp; omega
  have H4 := Lib.hid h4; clear h4
  by_cases hl : len = 0
  · subst hl
    go_enter Try.func25, Try.ntmps25
    go_wp2
    go_ret
    exact ⟨0, ⟨by omega, by omega⟩, rfl, grown_setCell _ _ _, p + 1, Nat.le_refl _, HR.out.step⟩
  · have hl0 : decide ((len : Int) = 0) = false := by simp; omega
    obtain ⟨cb, off, rfl, hcb, hcs⟩ := H4.out.resolve_left hl
    by_cases hk : p < len
    · obtain ⟨c, c1, c2, c3⟩ := hcs p hk
      have hne : cb ≠ b := by omega
      have hd := Lib.hid (Int.emod_lt_of_pos c (b := n) (by omega))
      have hd0 := Lib.hid (Int.emod_nonneg c (b := n) (by omega))
      clear H4
      go_enter Try.func25, Try.ntmps25
      go_wp2
      go_ret
      exact ⟨c % n, ⟨hd0.out, hd.out⟩, rfl, grown_setCell _ _ _, p + 1, Nat.le_refl _, HR.out.step⟩
    · have hlp : 0 < len := by omega
      obtain ⟨m, hm⟩ : ∃ m : Nat, m = p % len := ⟨_, rfl⟩
      obtain ⟨m', hm'⟩ : ∃ m : Nat, m = (p * 7 + 3) % len := ⟨_, rfl⟩
      have hml : m < len := hm ▸ Nat.mod_lt p hlp
      have hml' : m' < len := hm' ▸ Nat.mod_lt (p * 7 + 3) hlp
      obtain ⟨c, c1, c2, c3⟩ := hcs m hml
      obtain ⟨d, d1, d2, d3⟩ := hcs m' hml'
      have hne : cb ≠ b := by omega
      have hq0 : 0 ≤ (p : Int) / len := Int.ediv_nonneg (by omega) (by omega)
      have hq1 : (p : Int) / len ≤ p := Int.ediv_le_self _ (by omega)
      obtain ⟨q, hq⟩ : ∃ q : Int, q = (p : Int) / len := ⟨_, rfl⟩
      rw [← hq] at hq0 hq1
      have e1 : ((p : Int)).tmod (len : Int) = (m : Int) := by rw [hm]; rfl
      have e1' : ((p : Int)) % (len : Int) = (m : Int) := by rw [hm]; rfl
      have e2 : IntKind.i64.wrap ((p : Int) * 7) = (p : Int) * 7 := IntWalk.i64_in _ (by omega)
      have e3 : IntKind.i64.wrap ((p : Int) * 7 + 3) = (p : Int) * 7 + 3 := IntWalk.i64_in _ (by omega)
      have e4 : ((p : Int) * 7 + 3).tmod (len : Int) = (m' : Int) := by rw [hm']; rfl
      have e4' : ((p : Int) * 7 + 3) % (len : Int) = (m' : Int) := by rw [hm']; rfl
      have e5 : ((p : Int)).tdiv (len : Int) = q := by rw [hq]; rfl
      have e6 : IntKind.i64.wrap (c * 131) = c * 131 := IntWalk.i64_in _ (by omega)
      have e7 : IntKind.i64.wrap (d * 1117) = d * 1117 := IntWalk.i64_in _ (by omega)
      have e8 : IntKind.i64.wrap (c * 131 + d * 1117) = c * 131 + d * 1117 := IntWalk.i64_in _ (by omega)
      have e9 : IntKind.i64.wrap ((p : Int) * 29) = (p : Int) * 29 := IntWalk.i64_in _ (by omega)
      have e10 : IntKind.i64.wrap (c * 131 + d * 1117 + (p : Int) * 29) = c * 131 + d * 1117 + (p : Int) * 29 := IntWalk.i64_in _ (by omega)
      have e11 : IntKind.i64.wrap (q * 53) = q * 53 := IntWalk.i64_in _ (by omega)
      have e12 : IntKind.i64.wrap (c * 131 + d * 1117 + (p : Int) * 29 + q * 53) = c * 131 + d * 1117 + (p : Int) * 29 + q * 53 := IntWalk.i64_in _ (by omega)
      have f1 : (0 : Int) ≤ (m : Int) := by omega
      have f2 : (m : Int) < (len : Int) := by omega
      have f3 : ((m : Int)).toNat = m := by omega
      have f1' : (0 : Int) ≤ (m' : Int) := by omega
      have f2' : (m' : Int) < (len : Int) := by omega
      have f3' : ((m' : Int)).toNat = m' := by omega
      have hkl : decide ((p : Int) < (len : Int)) = false := by simp; omega
      have hnp : ((len : Int) == 0) = false := by simp; omega
      obtain ⟨x, hx⟩ : ∃ x : Int, x = c * 131 + d * 1117 + (p : Int) * 29 + q * 53 := ⟨_, rfl⟩
      have hx0 : 0 ≤ x := by omega
      have hx1 : x ≤ 1000000000 := by omega
      have HX := Lib.hid (i64_xor_nn x (x / 64) (by omega) (by omega) (by omega) (by omega))
      replace e1 := Lib.hid e1; replace e1' := Lib.hid e1'; replace e2 := Lib.hid e2; replace e3 := Lib.hid e3; replace e4 := Lib.hid e4; replace e4' := Lib.hid e4'; replace e5 := Lib.hid e5; replace e6 := Lib.hid e6; replace e7 := Lib.hid e7; replace e8 := Lib.hid e8; replace e9 := Lib.hid e9; replace e10 := Lib.hid e10; replace e11 := Lib.hid e11; replace e12 := Lib.hid e12
      replace hx := Lib.hid hx
      clear H4 hcs hm hm' hq
      go_enter Try.func25, Try.ntmps25
      go_wp2
      replace e1 := e1.out; replace e1' := e1'.out; replace e2 := e2.out; replace e3 := e3.out; replace e4 := e4.out; replace e4' := e4'.out; replace e5 := e5.out; replace e6 := e6.out; replace e7 := e7.out; replace e8 := e8.out; replace e9 := e9.out; replace e10 := e10.out; replace e11 := e11.out; replace e12 := e12.out
      go_quiet (fail)
      rw [← hx.out]
      clear e1 e1' e2 e3 e4 e4' e5 e6 e7 e8 e9 e10 e11 e12
      go_wp2
      go_ret
      exact ⟨(bits .xor .i64 x (x / 64)).tmod n, ⟨Int.tmod_nonneg n HX.out.1, Int.tmod_lt_of_pos _ (by omega)⟩, rfl, grown_drewN _ (grown_setCell _ _ _), p + 1, Nat.le_refl _, Rd.drewN _ HR.out.step⟩
end Go.Proofs.Ytbpbadmgmlfdhaa
