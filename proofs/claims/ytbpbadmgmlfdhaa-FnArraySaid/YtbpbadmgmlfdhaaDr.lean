/- Contracts of the drawers of phases: each returns numbers in a known range and changes no memory that was there. -/
import Derived.Test.YtbpbadmgmlfdhaaRd
import Derived.Deep.RegionWith
namespace Go.Proofs.Ytbpbadmgmlfdhaa
open Go.RowKit

/-- What a drawer knows between two steps: nothing below B has changed since w0, and its reader lies at b above B and has read at most p times. -/
def St (B : Nat) (w0 : World) (b p : Nat) (w : World) : Prop := Below B w0 w ∧ B ≤ b ∧ ∃ q, q ≤ p ∧ Rd b q w
theorem St.mono {B b p p' : Nat} {w0 w : World} (h : St B w0 b p w) (hp : p ≤ p') : St B w0 b p' w := ⟨h.1, h.2.1, by obtain ⟨q, hq, hr⟩ := h.2.2; exact ⟨q, by omega, hr⟩⟩
theorem St.lt {B b p : Nat} {w0 w : World} (h : St B w0 b p w) : b < w.heap.size := by obtain ⟨_, _, q, _, hr⟩ := h; exact hr.lt
theorem St.alloc {B b p : Nat} {w0 w : World} (h : St B w0 b p w) (o : Obj) : St B w0 b p (w.alloc o) := by
  have hl := h.lt
  obtain ⟨h1, h2, q, hq, hr⟩ := h
  exact ⟨h1.alloc (by omega) o, h2, q, hq, hr.keep fun k hk => Below.heap_alloc w o k (by omega)⟩
theorem St.drewN {B b p : Nat} {w0 w : World} (h : St B w0 b p w) (n : Nat) : St B w0 b p (w.drewN n) := by
  obtain ⟨h1, h2, q, hq, hr⟩ := h
  exact ⟨⟨h1.os, h1.tape, h1.output, h1.size, h1.block⟩, h2, q, hq, hr.drewN n⟩

theorem St.drew {B b p : Nat} {w0 w : World} (h : St B w0 b p w) : St B w0 b p w.drew := by
  obtain ⟨h1, h2, q, hq, hr⟩ := h
  exact ⟨⟨h1.os, h1.tape, h1.output, h1.size, h1.block⟩, h2, q, hq, hr.drew⟩

/-- What a step of a drawer does. -/
def Steps (P : Int → Prop) (B : Nat) (w0 : World) (b p : Nat) (e : Ending) (w' : World) : Prop :=
  ∃ v : Int, P v ∧ e = .returned (.int .i64 v) ∧ St B w0 b p w'

theorem pick_st {B : Nat} {w0 : World} {b p : Nat} {n : Int} {w : World} (hs : St B w0 b p w) (hp : p ≤ 90000) (hn : 1 ≤ n ∧ n ≤ 1000000) :
    Calls Try.prog 25 #[.pointer (some ⟨b, 0, none⟩), .int .i64 n] w (Steps (fun v => 0 ≤ v ∧ v < n) B w0 b (p + 1)) := by
  have hl := hs.lt
  obtain ⟨h1, h2, q, hq, hr⟩ := hs
  refine (pick_any b q n w hr (by omega) hn).mono ?_
  rintro e w' ⟨v, hv, rfl, hg, q', hq', hr'⟩
  exact ⟨v, hv, rfl, h1.grown hg (by omega) (by rintro k ⟨⟩; exact h2), h2, q', by omega, hr'⟩

theorem alloc_top (w : World) (o : Obj) : (w.alloc o).heap[w.heap.size]? = some o := by
  show (w.heap.push o)[w.heap.size]? = _
  simp
/-- A step next to a row that was just made: the row stays. -/
theorem pick_lit {B : Nat} {w0 : World} {b p : Nat} {n : Int} {w : World} (hs : St B w0 b p w) (o : Obj) (hp : p ≤ 90000) (hn : 1 ≤ n ∧ n ≤ 1000000) :
    Calls Try.prog 25 #[.pointer (some ⟨b, 0, none⟩), .int .i64 n] (w.alloc o) fun e w' => ∃ v : Int, (0 ≤ v ∧ v < n) ∧ e = .returned (.int .i64 v) ∧ St B w0 b (p + 1) w' ∧ w'.heap[w.heap.size]? = some o := by
  have hl := hs.lt
  have hs' := hs.alloc o
  obtain ⟨h1, h2, q, hq, hr⟩ := hs'
  refine (pick_any b q n _ hr (by omega) hn).mono ?_
  rintro e w' ⟨v, hv, rfl, hg, q', hq', hr'⟩
  have hsz : (w.alloc o).heap.size = w.heap.size + 1 := by simp
  refine ⟨v, hv, rfl, ⟨h1.grown hg (by omega) (by rintro k ⟨⟩; exact h2), h2, q', by omega, hr'⟩, ?_⟩
  rw [hg.block w.heap.size (by omega) (by simp; omega)]
  exact alloc_top w o
theorem pick_litd {B : Nat} {w0 : World} {b p : Nat} {n : Int} {w : World} (hs : St B w0 b p w) (o : Obj) (hp : p ≤ 90000) (hn : 1 ≤ n ∧ n ≤ 1000000) :
    Calls Try.prog 25 #[.pointer (some ⟨b, 0, none⟩), .int .i64 n] (w.alloc o).drew fun e w' => ∃ v : Int, (0 ≤ v ∧ v < n) ∧ e = .returned (.int .i64 v) ∧ St B w0 b (p + 1) w' ∧ w'.heap[w.heap.size]? = some o := by
  have hl := hs.lt
  have hs' := (hs.alloc o).drew
  obtain ⟨h1, h2, q, hq, hr⟩ := hs'
  refine (pick_any b q n _ hr (by omega) hn).mono ?_
  rintro e w' ⟨v, hv, rfl, hg, q', hq', hr'⟩
  have hsz : (w.alloc o).drew.heap.size = w.heap.size + 1 := by show (w.alloc o).heap.size = _; simp
  refine ⟨v, hv, rfl, ⟨h1.grown hg (by omega) (by rintro k ⟨⟩; exact h2), h2, q', by omega, hr'⟩, ?_⟩
  rw [hg.block w.heap.size (by omega) (by simp; omega)]
  exact alloc_top w o
theorem cell_at {w : World} {k : Nat} {c : Array Value} {t : TypeId} {fr : Nat × Nat} (h : w.heap[k]? = some (.cells c t fr)) (i : Nat) : w.cell? ⟨k, i, none⟩ = c[i]? := by
  simp [World.cell?, h]

/-- What is known of the code that came in. -/
def IsCode (w : World) (a : Option Addr) (len cap : Nat) : Prop :=
  len ≤ cap ∧ cap ≤ maxLen ∧ (len = 0 ∨ ∃ cb off, a = some ⟨cb, off, none⟩ ∧ cb < w.heap.size ∧ ∀ i, i < len → ∃ c : Int, 0 ≤ c ∧ c ≤ 255 ∧ w.cell? ⟨cb, off + i, none⟩ = some (.int .u8 c))

theorem code_of {w : World} {a : Option Addr} {len cap : Nat} {zs : List Int} (h : (a = none ∧ len = 0 ∧ cap = 0 ∧ zs = []) ∨
  ∃ x, a = some x ∧ len ≤ cap ∧ cap ≤ maxLen ∧ zs.length = cap ∧ (∀ i, i < zs.length → w.cell? (x.add i) = some (.int .u8 (zs.getD i 0))) ∧ ∀ n ∈ zs, (Lit.int .u8 n).wf = true) : IsCode w a len cap := by
  rcases h with ⟨rfl, rfl, rfl, rfl⟩ | ⟨x, rfl, hl, hm, hz, hc, hw⟩
  · exact ⟨Nat.le_refl _, Nat.zero_le _, .inl rfl⟩
  · refine ⟨hl, hm, ?_⟩
    by_cases h0 : len = 0
    · exact .inl h0
    · have hs := World.cell?_spot (hc 0 (by omega))
      obtain ⟨cb, off, sp⟩ := x
      simp [Addr.add] at hs
      subst hs
      have c0 := hc 0 (by omega)
      refine .inr ⟨cb, off, rfl, ?_, ?_⟩
      · simp [Addr.add] at c0; exact World.block_lt_of_cell? w _ c0
      · intro i hi
        refine ⟨zs.getD i 0, ?_, ?_, ?_⟩
        all_goals try (have hwf := hw (zs.getD i 0) (by rw [List.getD_eq_getElem?_getD, List.getElem?_eq_getElem (by omega)]; simp); simp [Lit.wf, IntKind.min, IntKind.max, IntKind.signed, IntKind.bits] at hwf; simp; omega)
        have hci := hc i (by omega)
        by_cases hi0 : i = 0
        · subst hi0; simpa [Addr.add] using hci
        · simpa [Addr.add, hi0] using hci

theorem st_open (w : World) (sa : Option Addr) (len cap : Nat) (t : TypeId) (hl : len ≤ 2000)
    (h : len = 0 ∨ ∃ cb off, sa = some ⟨cb, off, none⟩ ∧ cb < w.heap.size ∧ ∀ i, i < len → ∃ c : Int, 0 ≤ c ∧ c ≤ 255 ∧ w.cell? ⟨cb, off + i, none⟩ = some (.int .u8 c)) :
    St w.heap.size w w.heap.size 0 (w.alloc (.cells #[.slice sa len cap, .int .i64 0] t)) := by
  refine ⟨(Below.refl _ _).alloc (Nat.le_refl _) _, Nat.le_refl _, 0, Nat.le_refl _, sa, len, cap, ?_, ?_, ?_, hl, ?_⟩
  · exact (cell_at (alloc_top w _) 0).trans rfl
  · exact (cell_at (alloc_top w _) 1).trans rfl
  · have e := alloc_top w (.cells #[.slice sa len cap, .int .i64 0] t)
    simp only [World.frozen?, e]
    rfl
  · rcases h with h | ⟨cb, off, hs, hcb, hc⟩
    · exact .inl h
    · refine .inr ⟨cb, off, hs, hcb, fun i hi => ?_⟩
      obtain ⟨c, c1, c2, c3⟩ := hc i hi
      exact ⟨c, c1, c2, (World.cell?_of_block (w := w) (Below.heap_alloc w _ cb hcb)).trans c3⟩

set_option maxHeartbeats 400000 in
theorem l6Open_any (a : Option Addr) (len cap : Nat) (w : World) (h : IsCode w a len cap) :
    Calls Try.prog 23 #[.slice a len cap] w fun e w' => ∃ b, e = .returned (.pointer (some ⟨b, 0, none⟩)) ∧ St w.heap.size w b 0 w' := by
  obtain ⟨h1, h2, h3⟩ := h
  have H3 := Lib.hid h3; clear h3
  by_cases hl : 2000 < len
  · obtain ⟨cb, off, rfl, hcb, hcs⟩ := H3.out.resolve_left (by omega)
    have hcs := Lib.hid hcs
    go_enter Try.func23, Try.ntmps23
    go_wp2
    go_ret
    exact ⟨_, rfl, st_open w _ 2000 cap _ (Nat.le_refl _) (.inr ⟨cb, off, rfl, hcb, fun i hi => hcs.out i (by omega)⟩)⟩
  · go_enter Try.func23, Try.ntmps23
    go_wp2
    go_ret
    exact ⟨_, rfl, st_open w _ len cap _ (by omega) H3.out⟩

theorem l6Open_St {a : Option Addr} {len cap : Nat} {w : World} {Q : Ending → World → Prop} (h : IsCode w a len cap)
    (hq : ∀ b w', St w.heap.size w b 0 w' → Q (.returned (.pointer (some ⟨b, 0, none⟩))) w') : Calls Try.prog 23 #[.slice a len cap] w Q :=
  (l6Open_any a len cap w h).mono fun _ w' ⟨b, he, hs⟩ => he ▸ hq b w' hs



end Go.Proofs.Ytbpbadmgmlfdhaa
