/- Contracts of the quotient of Gaussian integers, in the program and in the reference. -/
import Derived.Test.YtoichhjnfiiocaaGh
import Derived.Deep.RegionHeld3
import Derived.Deep.DeepCutAuto
import Derived.Deep.RegionWith
import Derived.IntWalk
import Derived.Outline
namespace Go.Proofs.Ytoichhjnfiiocaa
open Go.RowKit

/-- The parts of a times the conjugate of b, and the norm of b. -/
def dvR (x y u v : Int) : Int := x * u + y * v
def dvI (x y u v : Int) : Int := y * u - x * v
def nm (u v : Int) : Int := u * u + v * v
theorem dv_bd (x y u v : Int) (h : (-1000000000 ≤ x ∧ x ≤ 1000000000 ∧ -1000000000 ≤ y ∧ y ≤ 1000000000) ∧ (-1000000000 ≤ u ∧ u ≤ 1000000000 ∧ -1000000000 ≤ v ∧ v ≤ 1000000000)) :
    (-2000000000000000000 ≤ dvR x y u v ∧ dvR x y u v ≤ 2000000000000000000) ∧ (-2000000000000000000 ≤ dvI x y u v ∧ dvI x y u v ≤ 2000000000000000000) := by
  obtain ⟨⟨h1, h2, h3, h4⟩, h5, h6, h7, h8⟩ := h
  have p1 := mul_bd x u ⟨h1, h2⟩ ⟨h5, h6⟩
  have p2 := mul_bd y v ⟨h3, h4⟩ ⟨h7, h8⟩
  have p3 := mul_bd y u ⟨h3, h4⟩ ⟨h5, h6⟩
  have p4 := mul_bd x v ⟨h1, h2⟩ ⟨h7, h8⟩
  unfold dvR dvI
  omega
theorem sq_nn (u : Int) : 0 ≤ u * u := by
  rcases Int.le_total 0 u with h | h
  · exact Int.mul_nonneg h h
  · have := Int.mul_nonneg (show 0 ≤ -u by omega) (show 0 ≤ -u by omega)
    rwa [Int.neg_mul_neg] at this
theorem sq_pos (u : Int) (h : u ≠ 0) : 1 ≤ u * u := by
  have h1 := sq_nn u
  have h2 : u * u ≠ 0 := fun e => h (by rcases Int.mul_eq_zero.1 e with e | e <;> exact e)
  omega
theorem nm_bd (u v : Int) (h : -1000000000 ≤ u ∧ u ≤ 1000000000 ∧ -1000000000 ≤ v ∧ v ≤ 1000000000) : 0 ≤ nm u v ∧ nm u v ≤ 2000000000000000000 := by
  obtain ⟨h5, h6, h7, h8⟩ := h
  have p1 := mul_bd u u ⟨h5, h6⟩ ⟨h5, h6⟩
  have p2 := mul_bd v v ⟨h7, h8⟩ ⟨h7, h8⟩
  have q1 := sq_nn u
  have q2 := sq_nn v
  unfold nm
  omega
theorem nm_pos (u v : Int) (h : ¬ (u = 0 ∧ v = 0)) : 1 ≤ nm u v := by
  have q1 := sq_nn u
  have q2 := sq_nn v
  unfold nm
  by_cases hu : u = 0
  · have := sq_pos v (fun e => h ⟨hu, e⟩); omega
  · have := sq_pos u hu; omega
theorem tdiv_bd (t n : Int) (h : -2000000000000000000 ≤ t ∧ t ≤ 2000000000000000000) : -2000000000000000000 ≤ t.tdiv n ∧ t.tdiv n ≤ 2000000000000000000 := by
  have h1 := Int.natAbs_tdiv_le_natAbs t n
  omega

/-- Whether b divides a; the quotient. -/
def divP (x y u v : Int) : Prop :=
  ((-1000000000 ≤ x ∧ x ≤ 1000000000 ∧ -1000000000 ≤ y ∧ y ≤ 1000000000) ∧ (-1000000000 ≤ u ∧ u ≤ 1000000000 ∧ -1000000000 ≤ v ∧ v ≤ 1000000000)) ∧ ¬ (u = 0 ∧ v = 0) ∧
    (dvR x y u v).tmod (nm u v) = 0 ∧ (dvI x y u v).tmod (nm u v) = 0 ∧ (-1000000000 ≤ (dvR x y u v).tdiv (nm u v) ∧ (dvR x y u v).tdiv (nm u v) ≤ 1000000000 ∧ -1000000000 ≤ (dvI x y u v).tdiv (nm u v) ∧ (dvI x y u v).tdiv (nm u v) ≤ 1000000000)
instance (x y u v : Int) : Decidable (divP x y u v) := by unfold divP; infer_instance

theorem valid_ex (x y : Int) (w : World) (h : -1000000000 ≤ x ∧ x ≤ 1000000000 ∧ -1000000000 ≤ y ∧ y ≤ 1000000000) :
    Calls Try.prog 27 #[.agg #[.int .i64 x, .int .i64 y]] w fun e w' => e = .returned (.bool true) ∧ w.alloc (.cells #[.int .i64 x, .int .i64 y] 24) = w' := by
  obtain ⟨h1, h2, h3, h4⟩ := h
  go_enter Try.func27, Try.ntmps27
  go_wp2_with (first | (go_at_call 36; first | (refine (inRange_yes _ _ _ (by omega)).mono ?_; rintro e w' ⟨rfl, rfl⟩) | (refine (inRange_no _ _ _ (by omega)).mono ?_; rintro e w' ⟨rfl, rfl⟩)))
  go_ret
  exact ⟨rfl, rfl⟩
theorem conj_ex (x y : Int) (w : World) (h : -2000000000 ≤ y ∧ y ≤ 2000000000) :
    Calls Try.prog 29 #[.agg #[.int .i64 x, .int .i64 y]] w fun e w' => e = .returned (.agg #[.int .i64 x, .int .i64 (-y)]) ∧ (w.alloc (.cells #[.int .i64 x, .int .i64 y] 24)).alloc (.cells #[.int .i64 x, .int .i64 (-y)] 24) = w' := by
  obtain ⟨h1, h2⟩ := h
  go_enter Try.func29, Try.ntmps29
  go_wp2
  exact bodyPost_ret (v := .agg #[.int .i64 x, .int .i64 (-y)]) (by simp [results, Try.results29, go_sem]) rfl ⟨rfl, rfl⟩
theorem times_ex (x y u v : Int) (w : World) (h : (-1000000000 ≤ x ∧ x ≤ 1000000000 ∧ -1000000000 ≤ y ∧ y ≤ 1000000000) ∧ (-1000000000 ≤ u ∧ u ≤ 1000000000 ∧ -1000000000 ≤ v ∧ v ≤ 1000000000)) :
    Calls Try.prog 28 #[.agg #[.int .i64 x, .int .i64 y], .agg #[.int .i64 u, .int .i64 (-v)]] w fun e w' => e = .returned (.agg #[.int .i64 (dvR x y u v), .int .i64 (dvI x y u v)]) ∧
      ((w.alloc (.cells #[.int .i64 x, .int .i64 y] 24)).alloc (.cells #[.int .i64 u, .int .i64 (-v)] 24)).alloc (.cells #[.int .i64 (dvR x y u v), .int .i64 (dvI x y u v)] 24) = w' := by
  obtain ⟨⟨h1, h2, h3, h4⟩, h5, h6, h7, h8⟩ := h
  obtain ⟨t, ht⟩ : ∃ t : Int, t = -v := ⟨_, rfl⟩
  have e1 : dvR x y u v = x * u - y * t := by rw [ht]; unfold dvR; rw [Int.mul_neg]; omega
  have e2 : dvI x y u v = x * t + y * u := by rw [ht]; unfold dvI; rw [Int.mul_neg]; omega
  rw [← ht, e1, e2]
  have h9 : -1000000000 ≤ t := by omega
  have h10 : t ≤ 1000000000 := by omega
  clear e1 e2 ht
  obtain ⟨p1, p2⟩ := mul_bd x u ⟨h1, h2⟩ ⟨h5, h6⟩
  obtain ⟨p3, p4⟩ := mul_bd y t ⟨h3, h4⟩ ⟨h9, h10⟩
  obtain ⟨p5, p6⟩ := mul_bd x t ⟨h1, h2⟩ ⟨h9, h10⟩
  obtain ⟨p7, p8⟩ := mul_bd y u ⟨h3, h4⟩ ⟨h5, h6⟩
  go_enter Try.func28, Try.ntmps28
  go_wp2
  exact bodyPost_ret (v := .agg #[.int .i64 (x * u - y * t), .int .i64 (x * t + y * u)]) (by simp [results, Try.results28, go_sem]) rfl ⟨rfl, rfl⟩
theorem norm_ex (x y : Int) (w : World) (h : -1000000000 ≤ x ∧ x ≤ 1000000000 ∧ -1000000000 ≤ y ∧ y ≤ 1000000000) :
    Calls Try.prog 17 #[.agg #[.int .i64 x, .int .i64 y]] w fun e w' => e = .returned (.int .i64 (nm x y)) ∧ (w.alloc (.cells #[.int .i64 x, .int .i64 y] 24)).alloc (.cells #[.int .i64 x, .int .i64 y] 24) = w' := by
  have e : nm x y = x * x + y * y := rfl
  rw [e]; clear e
  obtain ⟨h1, h2, h3, h4⟩ := h
  obtain ⟨p1, p2⟩ := mul_bd x x ⟨h1, h2⟩ ⟨h1, h2⟩
  obtain ⟨p3, p4⟩ := mul_bd y y ⟨h3, h4⟩ ⟨h3, h4⟩
  go_enter Try.func17, Try.ntmps17
  go_wp2_with (go_at_call 27; refine (valid_ex _ _ _ (by omega)).mono ?_; rintro e w' ⟨rfl, rfl⟩)
  go_ret
  exact ⟨rfl, rfl⟩

/-- What the quotient comes to. -/
def divV (x y u v : Int) : Value := if divP x y u v then .tuple #[.agg #[.int .i64 ((dvR x y u v).tdiv (nm u v)), .int .i64 ((dvI x y u v).tdiv (nm u v))], .bool true] else .tuple #[.agg #[.int .i64 0, .int .i64 0], .bool false]
theorem div_pos {x y u v : Int} (h : divP x y u v) : Ending.returned (.tuple #[.agg #[.int .i64 ((dvR x y u v).tdiv (nm u v)), .int .i64 ((dvI x y u v).tdiv (nm u v))], .bool true]) = .returned (divV x y u v) := by unfold divV; rw [if_pos h]
theorem div_neg {x y u v : Int} (h : ¬ divP x y u v) : Ending.returned (.tuple #[.agg #[.int .i64 0, .int .i64 0], .bool false]) = .returned (divV x y u v) := by unfold divV; rw [if_neg h]
/-- The world with the boxes of a, of b and of the result. -/
abbrev box3 (w : World) (x y u v : Int) : World := (((w.alloc (.cells #[.int .i64 x, .int .i64 y] 24)).alloc (.cells #[.int .i64 u, .int .i64 v] 24)).alloc (.cells #[.int .i64 0, .int .i64 0] 24))
theorem div_S {w W : World} {x y u v : Int} (h : Below (box3 w x y u v).heap.size (box3 w x y u v) W) :
    W.cell? ⟨w.heap.size, 0, none⟩ = some (.int .i64 x) ∧ W.cell? ⟨w.heap.size, 1, none⟩ = some (.int .i64 y) ∧ W.cell? ⟨w.heap.size + 1, 0, none⟩ = some (.int .i64 u) ∧ W.cell? ⟨w.heap.size + 1, 1, none⟩ = some (.int .i64 v) ∧ Below (box3 w x y u v).heap.size (box3 w x y u v) W := by
  refine ⟨?_, ?_, ?_, ?_, h⟩
  · exact (h.cell (p := ⟨w.heap.size, 0, none⟩) (by simp; omega)).trans (by go_simp)
  · exact (h.cell (p := ⟨w.heap.size, 1, none⟩) (by simp; omega)).trans (by go_simp)
  · exact (h.cell (p := ⟨w.heap.size + 1, 0, none⟩) (by simp)).trans (by go_simp)
  · exact (h.cell (p := ⟨w.heap.size + 1, 1, none⟩) (by simp)).trans (by go_simp)
theorem div_of {x y u v : Int} (hx : -1000000000 ≤ x ∧ x ≤ 1000000000 ∧ -1000000000 ≤ y ∧ y ≤ 1000000000) (hu : -1000000000 ≤ u ∧ u ≤ 1000000000 ∧ -1000000000 ≤ v ∧ v ≤ 1000000000) (hne : ¬ (u = 0 ∧ v = 0)) (e1 : (dvR x y u v).tmod (nm u v) = 0) (e2 : (dvI x y u v).tmod (nm u v) = 0)
    (hv : -1000000000 ≤ (dvR x y u v).tdiv (nm u v) ∧ (dvR x y u v).tdiv (nm u v) ≤ 1000000000 ∧ -1000000000 ≤ (dvI x y u v).tdiv (nm u v) ∧ (dvI x y u v).tdiv (nm u v) ≤ 1000000000) : divP x y u v := ⟨⟨hx, hu⟩, hne, e1, e2, hv⟩
theorem keep_store {w W : World} {g r : Nat} {a b c d : Value} (h : W.cell? ⟨g, 0, none⟩ = some a ∧ W.cell? ⟨g, 1, none⟩ = some b ∧ Below w.heap.size w W) (hg : g ≠ r) (hr : w.heap.size ≤ r) :
    ((W.setCell ⟨r, 0, none⟩ c).setCell ⟨r, 1, none⟩ d).cell? ⟨g, 0, none⟩ = some a ∧ ((W.setCell ⟨r, 0, none⟩ c).setCell ⟨r, 1, none⟩ d).cell? ⟨g, 1, none⟩ = some b ∧ Below w.heap.size w ((W.setCell ⟨r, 0, none⟩ c).setCell ⟨r, 1, none⟩ d) := by
  obtain ⟨h1, h2, h3⟩ := h
  refine ⟨?_, ?_, (h3.setCell hr _).setCell hr _⟩
  · exact (World.cell?_setCell_other _ _ _ _ (fun e => by injection e with e1 e2; omega)).trans ((World.cell?_setCell_other _ _ _ _ (fun e => by injection e with e1 e2; omega)).trans h1)
  · exact (World.cell?_setCell_other _ _ _ _ (fun e => by injection e with e1 e2; omega)).trans ((World.cell?_setCell_other _ _ _ _ (fun e => by injection e with e1 e2; omega)).trans h2)
set_option maxRecDepth 100000 in
set_option maxHeartbeats 2000000 in
/-- The quotient's middle: behind the tests, the division is tried. -/
theorem div_mid (x y u v : Int) (w : World) (hx : -1000000000 ≤ x ∧ x ≤ 1000000000 ∧ -1000000000 ≤ y ∧ y ≤ 1000000000) (hu : -1000000000 ≤ u ∧ u ≤ 1000000000 ∧ -1000000000 ≤ v ∧ v ≤ 1000000000) (hne : ¬ (u = 0 ∧ v = 0)) :
    Calls Try.prog 10 #[.agg #[.int .i64 x, .int .i64 y], .agg #[.int .i64 u, .int .i64 v]] w fun e w' => e = .returned (divV x y u v) ∧ Below w.heap.size w w' := by
  have hn1 := nm_pos u v hne
  have hn2 := (nm_bd u v hu).2
  obtain ⟨⟨t1, t2⟩, t3, t4⟩ := dv_bd x y u v ⟨hx, hu⟩
  have HNE := Lib.hid hne
  rcases (by omega : u ≠ 0 ∨ (u = 0 ∧ v ≠ 0)) with h0 | ⟨rfl, h0⟩
  · clear hne
    go_enter Try.func10, Try.ntmps10
    go_upto_region 3 with (first | (go_at_call 27; first | (refine (valid_yes _ _ _ (by omega)).mono ?_; rintro e w' ⟨rfl, hb⟩; (first | (have hb1 := kept_trans HB hb; clear HB hb hc hf hz; have HB := hb1; clear hb1) | (have HB := hb; clear hb)); obtain ⟨hc, hf⟩ := bcell HB; have hz := HB.size; try simp at hz) | (refine (valid_no _ _ _ (by omega)).mono ?_; rintro e w' ⟨rfl, hb⟩; (first | (have hb1 := kept_trans HB hb; clear HB hb hc hf hz; have HB := hb1; clear hb1) | (have HB := hb; clear hb)); obtain ⟨hc, hf⟩ := bcell HB; have hz := HB.size; try simp at hz)))
    have HW := Lib.hid HB; clear HB hc hf hz
    go_cut [6, 7] (fun s6 s7 wx => ∃ g : Nat, s6 = .pointer (some ⟨g, 0, none⟩) ∧ s7 = .int .i64 (nm u v) ∧ wx.cell? ⟨g, 0, none⟩ = some (.int .i64 (dvR x y u v)) ∧ wx.cell? ⟨g, 1, none⟩ = some (.int .i64 (dvI x y u v)) ∧ (box3 w x y u v).heap.size ≤ g ∧ Below (box3 w x y u v).heap.size (box3 w x y u v) wx)
    case first =>
      have hS := div_S HW.out
      go_region_held3 (fun W => W.cell? ⟨w.heap.size, 0, none⟩ = some (.int .i64 x) ∧ W.cell? ⟨w.heap.size, 1, none⟩ = some (.int .i64 y) ∧ W.cell? ⟨w.heap.size + 1, 0, none⟩ = some (.int .i64 u) ∧ W.cell? ⟨w.heap.size + 1, 1, none⟩ = some (.int .i64 v) ∧ Below (box3 w x y u v).heap.size (box3 w x y u v) W) (first | assumption | (refine div_S ?_; (repeat (first | exact HW.out | refine Below.drew ?_ | refine kept_alloc ?_ _ | (refine Below.setCell ?_ ?_ _; rotate_left; (focus (simp <;> omega))))); done)) (first | (go_at_call 29; refine (conj_ex _ _ _ (by omega)).mono ?_; rintro e w' ⟨rfl, rfl⟩) | (go_at_call 28; refine (times_ex _ _ _ _ _ ⟨by omega, by omega⟩).mono ?_; rintro e w' ⟨rfl, rfl⟩) | (go_at_call 17; refine (norm_ex _ _ _ (by omega)).mono ?_; rintro e w' ⟨rfl, rfl⟩))
      all_goals (go_wp2_with fail; go_meet)
      all_goals have hzw := HW.out.size
      all_goals refine ⟨_, rfl, rfl, ?_, ?_, ?_, ?_⟩
      all_goals first | (simp (maxDischargeDepth := 12) [go_sem]; done) | (simp at hzw ⊢; omega) | ((repeat (first | exact HW.out | refine Below.drew ?_ | refine kept_alloc ?_ _)); done)
    case rest =>
      obtain ⟨g, rfl, rfl, g0, g1, hgr, hb⟩ := hcut
      simp at hgr
      clear HW
      obtain ⟨hc, hf⟩ := bcell hb
      have hz := hb.size
      simp at hz
      have hnz : (nm u v == 0) = false := by simp; omega
      have hnz' : ¬ nm u v = 0 := by omega
      by_cases e1 : (dvR x y u v).tmod (nm u v) = 0
      · by_cases e2 : (dvI x y u v).tmod (nm u v) = 0
        · have HE := Lib.hid (And.intro e1 e2)
          have e1' : ((dvR x y u v).tmod (nm u v) != 0) = false := by simp [e1]
          have e2' : ((dvI x y u v).tmod (nm u v) != 0) = false := by simp [e2]
          obtain ⟨q1, q2⟩ := tdiv_bd (dvR x y u v) (nm u v) ⟨t1, t2⟩
          obtain ⟨q3, q4⟩ := tdiv_bd (dvI x y u v) (nm u v) ⟨t3, t4⟩
          clear e1 e2
          have hr0 : wc.cell? ⟨w.heap.size + 1 + 1, 0, none⟩ = some (.int .i64 0) := (hb.cell (p := ⟨w.heap.size + 1 + 1, 0, none⟩) (by simp)).trans (by go_simp)
          have hr1 : wc.cell? ⟨w.heap.size + 1 + 1, 1, none⟩ = some (.int .i64 0) := (hb.cell (p := ⟨w.heap.size + 1 + 1, 1, none⟩) (by simp)).trans (by go_simp)
          have hf0 : wc.frozen? ⟨w.heap.size + 1 + 1, 0, none⟩ = false := (hb.frozen (p := ⟨w.heap.size + 1 + 1, 0, none⟩) (by simp)).trans (by go_simp)
          have hf1 : wc.frozen? ⟨w.heap.size + 1 + 1, 1, none⟩ = false := (hb.frozen (p := ⟨w.heap.size + 1 + 1, 1, none⟩) (by simp)).trans (by go_simp)
          have hsz : w.heap.size + 1 + 1 < wc.heap.size := by omega
          have hbw : Below w.heap.size w wc := kept_trans (kept_alloc (kept_alloc (kept_alloc (kept_refl _) _) _) _) hb
          have HS := Lib.hid (And.intro g0 (And.intro g1 hbw))
          clear hc hf hb hbw
          go_upto_region 6 with fail
          by_cases hv : -1000000000 ≤ (dvR x y u v).tdiv (nm u v) ∧ (dvR x y u v).tdiv (nm u v) ≤ 1000000000 ∧ -1000000000 ≤ (dvI x y u v).tdiv (nm u v) ∧ (dvI x y u v).tdiv (nm u v) ≤ 1000000000
          · have hga : ¬ g = w.heap.size + 1 + 1 := by omega
            have hgb : w.heap.size ≤ w.heap.size + 1 + 1 := by omega
            have ew1 : IntKind.i64.wrap ((dvR x y u v).tdiv (nm u v)) = (dvR x y u v).tdiv (nm u v) := IntWalk.i64_in _ ⟨by omega, by omega⟩
            have ew2 : IntKind.i64.wrap ((dvI x y u v).tdiv (nm u v)) = (dvI x y u v).tdiv (nm u v) := IntWalk.i64_in _ ⟨by omega, by omega⟩
            go_region_held3 (fun W => W.cell? ⟨g, 0, none⟩ = some (.int .i64 (dvR x y u v)) ∧ W.cell? ⟨g, 1, none⟩ = some (.int .i64 (dvI x y u v)) ∧ Below w.heap.size w W) (first | assumption | (refine keep1 HS.out ?_; (repeat (first | exact kept_refl _ | refine Below.drew ?_ | refine kept_trans ?_ HB)); done) | (refine keep_store (keep1 HS.out ?_) hga hgb; (repeat (first | exact kept_refl _ | refine Below.drew ?_ | refine kept_trans ?_ HB)); done)) (first | (go_at_call 30; refine (checked_yes _ _ _ hv).mono ?_; rintro e w' ⟨rfl, HB⟩; have k0 : w'.cell? ⟨w.heap.size + 1 + 1, 0, none⟩ = some (.int .i64 0) := (HB.cell (p := ⟨w.heap.size + 1 + 1, 0, none⟩) hsz).trans hr0; have k1 : w'.cell? ⟨w.heap.size + 1 + 1, 1, none⟩ = some (.int .i64 0) := (HB.cell (p := ⟨w.heap.size + 1 + 1, 1, none⟩) hsz).trans hr1; have l0 : w'.frozen? ⟨w.heap.size + 1 + 1, 0, none⟩ = false := (HB.frozen (p := ⟨w.heap.size + 1 + 1, 0, none⟩) hsz).trans hf0; have l1 : w'.frozen? ⟨w.heap.size + 1 + 1, 1, none⟩ = false := (HB.frozen (p := ⟨w.heap.size + 1 + 1, 1, none⟩) hsz).trans hf1))
            all_goals go_wp2_with fail
            all_goals exact bodyPost_ret (v := .tuple #[.agg #[.int .i64 ((dvR x y u v).tdiv (nm u v)), .int .i64 ((dvI x y u v).tdiv (nm u v))], .bool true]) (by simp (maxDischargeDepth := 9) [results, Try.results10, go_sem, k0, k1]) rfl ⟨div_pos (div_of hx hu HNE.out HE.out.1 HE.out.2 hv), And.right (And.right (by assumption))⟩
          · have hv : ((dvR x y u v).tdiv (nm u v) < -1000000000 ∨ 1000000000 < (dvR x y u v).tdiv (nm u v)) ∨ ((dvI x y u v).tdiv (nm u v) < -1000000000 ∨ 1000000000 < (dvI x y u v).tdiv (nm u v)) := by omega
            have hga : ¬ g = w.heap.size + 1 + 1 := by omega
            have hgb : w.heap.size ≤ w.heap.size + 1 + 1 := by omega
            have ew1 : IntKind.i64.wrap ((dvR x y u v).tdiv (nm u v)) = (dvR x y u v).tdiv (nm u v) := IntWalk.i64_in _ ⟨by omega, by omega⟩
            have ew2 : IntKind.i64.wrap ((dvI x y u v).tdiv (nm u v)) = (dvI x y u v).tdiv (nm u v) := IntWalk.i64_in _ ⟨by omega, by omega⟩
            go_region_held3 (fun W => W.cell? ⟨g, 0, none⟩ = some (.int .i64 (dvR x y u v)) ∧ W.cell? ⟨g, 1, none⟩ = some (.int .i64 (dvI x y u v)) ∧ Below w.heap.size w W) (first | assumption | (refine keep1 HS.out ?_; (repeat (first | exact kept_refl _ | refine Below.drew ?_ | refine kept_trans ?_ HB)); done) | (refine keep_store (keep1 HS.out ?_) hga hgb; (repeat (first | exact kept_refl _ | refine Below.drew ?_ | refine kept_trans ?_ HB)); done)) (first | (go_at_call 30; refine (checked_no _ _ _ hv).mono ?_; rintro e w' ⟨rfl, HB⟩; have k0 : w'.cell? ⟨w.heap.size + 1 + 1, 0, none⟩ = some (.int .i64 0) := (HB.cell (p := ⟨w.heap.size + 1 + 1, 0, none⟩) hsz).trans hr0; have k1 : w'.cell? ⟨w.heap.size + 1 + 1, 1, none⟩ = some (.int .i64 0) := (HB.cell (p := ⟨w.heap.size + 1 + 1, 1, none⟩) hsz).trans hr1; have l0 : w'.frozen? ⟨w.heap.size + 1 + 1, 0, none⟩ = false := (HB.frozen (p := ⟨w.heap.size + 1 + 1, 0, none⟩) hsz).trans hf0; have l1 : w'.frozen? ⟨w.heap.size + 1 + 1, 1, none⟩ = false := (HB.frozen (p := ⟨w.heap.size + 1 + 1, 1, none⟩) hsz).trans hf1))
            all_goals go_wp2_with fail
            all_goals exact bodyPost_ret (v := .tuple #[.agg #[.int .i64 0, .int .i64 0], .bool false]) (by simp (maxDischargeDepth := 9) [results, Try.results10, go_sem, k0, k1]) rfl ⟨div_neg (fun h => by have := h.2.2.2.2; omega), And.right (And.right (by assumption))⟩
        · have HE := Lib.hid e2
          have e1' : ((dvR x y u v).tmod (nm u v) != 0) = false := by simp [e1]
          have e2' : ((dvI x y u v).tmod (nm u v) != 0) = true := by simp [e2]
          clear e1 e2
          go_wp2_with fail
          exact bodyPost_ret (v := .tuple #[.agg #[.int .i64 0, .int .i64 0], .bool false]) (by simp (maxDischargeDepth := 9) [results, Try.results10, go_sem, hc]) rfl ⟨div_neg (fun h => HE.out h.2.2.2.1), ((kept_trans (kept_alloc (kept_alloc (kept_alloc (kept_refl _) _) _) _) hb).setCell (by simp <;> omega) _).setCell (by simp <;> omega) _⟩
      · have HE := Lib.hid e1
        have e1' : ((dvR x y u v).tmod (nm u v) != 0) = true := by simp [e1]
        clear e1
        go_wp2_with fail
        exact bodyPost_ret (v := .tuple #[.agg #[.int .i64 0, .int .i64 0], .bool false]) (by simp (maxDischargeDepth := 9) [results, Try.results10, go_sem, hc]) rfl ⟨div_neg (fun h => HE.out h.2.2.1), ((kept_trans (kept_alloc (kept_alloc (kept_alloc (kept_refl _) _) _) _) hb).setCell (by simp <;> omega) _).setCell (by simp <;> omega) _⟩
  · clear hne
    go_enter Try.func10, Try.ntmps10
    go_upto_region 3 with (first | (go_at_call 27; first | (refine (valid_yes _ _ _ (by omega)).mono ?_; rintro e w' ⟨rfl, hb⟩; (first | (have hb1 := kept_trans HB hb; clear HB hb hc hf hz; have HB := hb1; clear hb1) | (have HB := hb; clear hb)); obtain ⟨hc, hf⟩ := bcell HB; have hz := HB.size; try simp at hz) | (refine (valid_no _ _ _ (by omega)).mono ?_; rintro e w' ⟨rfl, hb⟩; (first | (have hb1 := kept_trans HB hb; clear HB hb hc hf hz; have HB := hb1; clear hb1) | (have HB := hb; clear hb)); obtain ⟨hc, hf⟩ := bcell HB; have hz := HB.size; try simp at hz)))
    have HW := Lib.hid HB; clear HB hc hf hz
    go_cut [6, 7] (fun s6 s7 wx => ∃ g : Nat, s6 = .pointer (some ⟨g, 0, none⟩) ∧ s7 = .int .i64 (nm 0 v) ∧ wx.cell? ⟨g, 0, none⟩ = some (.int .i64 (dvR x y 0 v)) ∧ wx.cell? ⟨g, 1, none⟩ = some (.int .i64 (dvI x y 0 v)) ∧ (box3 w x y 0 v).heap.size ≤ g ∧ Below (box3 w x y 0 v).heap.size (box3 w x y 0 v) wx)
    case first =>
      have hS := div_S HW.out
      go_region_held3 (fun W => W.cell? ⟨w.heap.size, 0, none⟩ = some (.int .i64 x) ∧ W.cell? ⟨w.heap.size, 1, none⟩ = some (.int .i64 y) ∧ W.cell? ⟨w.heap.size + 1, 0, none⟩ = some (.int .i64 0) ∧ W.cell? ⟨w.heap.size + 1, 1, none⟩ = some (.int .i64 v) ∧ Below (box3 w x y 0 v).heap.size (box3 w x y 0 v) W) (first | assumption | (refine div_S ?_; (repeat (first | exact HW.out | refine Below.drew ?_ | refine kept_alloc ?_ _ | (refine Below.setCell ?_ ?_ _; rotate_left; (focus (simp <;> omega))))); done)) (first | (go_at_call 29; refine (conj_ex _ _ _ (by omega)).mono ?_; rintro e w' ⟨rfl, rfl⟩) | (go_at_call 28; refine (times_ex _ _ _ _ _ ⟨by omega, by omega⟩).mono ?_; rintro e w' ⟨rfl, rfl⟩) | (go_at_call 17; refine (norm_ex _ _ _ (by omega)).mono ?_; rintro e w' ⟨rfl, rfl⟩))
      all_goals (go_wp2_with fail; go_meet)
      all_goals have hzw := HW.out.size
      all_goals refine ⟨_, rfl, rfl, ?_, ?_, ?_, ?_⟩
      all_goals first | (simp (maxDischargeDepth := 12) [go_sem]; done) | (simp at hzw ⊢; omega) | ((repeat (first | exact HW.out | refine Below.drew ?_ | refine kept_alloc ?_ _)); done)
    case rest =>
      obtain ⟨g, rfl, rfl, g0, g1, hgr, hb⟩ := hcut
      simp at hgr
      clear HW
      obtain ⟨hc, hf⟩ := bcell hb
      have hz := hb.size
      simp at hz
      have hnz : (nm 0 v == 0) = false := by simp; omega
      have hnz' : ¬ nm 0 v = 0 := by omega
      by_cases e1 : (dvR x y 0 v).tmod (nm 0 v) = 0
      · by_cases e2 : (dvI x y 0 v).tmod (nm 0 v) = 0
        · have HE := Lib.hid (And.intro e1 e2)
          have e1' : ((dvR x y 0 v).tmod (nm 0 v) != 0) = false := by simp [e1]
          have e2' : ((dvI x y 0 v).tmod (nm 0 v) != 0) = false := by simp [e2]
          obtain ⟨q1, q2⟩ := tdiv_bd (dvR x y 0 v) (nm 0 v) ⟨t1, t2⟩
          obtain ⟨q3, q4⟩ := tdiv_bd (dvI x y 0 v) (nm 0 v) ⟨t3, t4⟩
          clear e1 e2
          have hr0 : wc.cell? ⟨w.heap.size + 1 + 1, 0, none⟩ = some (.int .i64 0) := (hb.cell (p := ⟨w.heap.size + 1 + 1, 0, none⟩) (by simp)).trans (by go_simp)
          have hr1 : wc.cell? ⟨w.heap.size + 1 + 1, 1, none⟩ = some (.int .i64 0) := (hb.cell (p := ⟨w.heap.size + 1 + 1, 1, none⟩) (by simp)).trans (by go_simp)
          have hf0 : wc.frozen? ⟨w.heap.size + 1 + 1, 0, none⟩ = false := (hb.frozen (p := ⟨w.heap.size + 1 + 1, 0, none⟩) (by simp)).trans (by go_simp)
          have hf1 : wc.frozen? ⟨w.heap.size + 1 + 1, 1, none⟩ = false := (hb.frozen (p := ⟨w.heap.size + 1 + 1, 1, none⟩) (by simp)).trans (by go_simp)
          have hsz : w.heap.size + 1 + 1 < wc.heap.size := by omega
          have hbw : Below w.heap.size w wc := kept_trans (kept_alloc (kept_alloc (kept_alloc (kept_refl _) _) _) _) hb
          have HS := Lib.hid (And.intro g0 (And.intro g1 hbw))
          clear hc hf hb hbw
          go_upto_region 6 with fail
          by_cases hv : -1000000000 ≤ (dvR x y 0 v).tdiv (nm 0 v) ∧ (dvR x y 0 v).tdiv (nm 0 v) ≤ 1000000000 ∧ -1000000000 ≤ (dvI x y 0 v).tdiv (nm 0 v) ∧ (dvI x y 0 v).tdiv (nm 0 v) ≤ 1000000000
          · have hga : ¬ g = w.heap.size + 1 + 1 := by omega
            have hgb : w.heap.size ≤ w.heap.size + 1 + 1 := by omega
            have ew1 : IntKind.i64.wrap ((dvR x y 0 v).tdiv (nm 0 v)) = (dvR x y 0 v).tdiv (nm 0 v) := IntWalk.i64_in _ ⟨by omega, by omega⟩
            have ew2 : IntKind.i64.wrap ((dvI x y 0 v).tdiv (nm 0 v)) = (dvI x y 0 v).tdiv (nm 0 v) := IntWalk.i64_in _ ⟨by omega, by omega⟩
            go_region_held3 (fun W => W.cell? ⟨g, 0, none⟩ = some (.int .i64 (dvR x y 0 v)) ∧ W.cell? ⟨g, 1, none⟩ = some (.int .i64 (dvI x y 0 v)) ∧ Below w.heap.size w W) (first | assumption | (refine keep1 HS.out ?_; (repeat (first | exact kept_refl _ | refine Below.drew ?_ | refine kept_trans ?_ HB)); done) | (refine keep_store (keep1 HS.out ?_) hga hgb; (repeat (first | exact kept_refl _ | refine Below.drew ?_ | refine kept_trans ?_ HB)); done)) (first | (go_at_call 30; refine (checked_yes _ _ _ hv).mono ?_; rintro e w' ⟨rfl, HB⟩; have k0 : w'.cell? ⟨w.heap.size + 1 + 1, 0, none⟩ = some (.int .i64 0) := (HB.cell (p := ⟨w.heap.size + 1 + 1, 0, none⟩) hsz).trans hr0; have k1 : w'.cell? ⟨w.heap.size + 1 + 1, 1, none⟩ = some (.int .i64 0) := (HB.cell (p := ⟨w.heap.size + 1 + 1, 1, none⟩) hsz).trans hr1; have l0 : w'.frozen? ⟨w.heap.size + 1 + 1, 0, none⟩ = false := (HB.frozen (p := ⟨w.heap.size + 1 + 1, 0, none⟩) hsz).trans hf0; have l1 : w'.frozen? ⟨w.heap.size + 1 + 1, 1, none⟩ = false := (HB.frozen (p := ⟨w.heap.size + 1 + 1, 1, none⟩) hsz).trans hf1))
            all_goals go_wp2_with fail
            all_goals exact bodyPost_ret (v := .tuple #[.agg #[.int .i64 ((dvR x y 0 v).tdiv (nm 0 v)), .int .i64 ((dvI x y 0 v).tdiv (nm 0 v))], .bool true]) (by simp (maxDischargeDepth := 9) [results, Try.results10, go_sem, k0, k1]) rfl ⟨div_pos (div_of hx hu (fun h => h0 h.2) HE.out.1 HE.out.2 hv), And.right (And.right (by assumption))⟩
          · have hv : ((dvR x y 0 v).tdiv (nm 0 v) < -1000000000 ∨ 1000000000 < (dvR x y 0 v).tdiv (nm 0 v)) ∨ ((dvI x y 0 v).tdiv (nm 0 v) < -1000000000 ∨ 1000000000 < (dvI x y 0 v).tdiv (nm 0 v)) := by omega
            have hga : ¬ g = w.heap.size + 1 + 1 := by omega
            have hgb : w.heap.size ≤ w.heap.size + 1 + 1 := by omega
            have ew1 : IntKind.i64.wrap ((dvR x y 0 v).tdiv (nm 0 v)) = (dvR x y 0 v).tdiv (nm 0 v) := IntWalk.i64_in _ ⟨by omega, by omega⟩
            have ew2 : IntKind.i64.wrap ((dvI x y 0 v).tdiv (nm 0 v)) = (dvI x y 0 v).tdiv (nm 0 v) := IntWalk.i64_in _ ⟨by omega, by omega⟩
            go_region_held3 (fun W => W.cell? ⟨g, 0, none⟩ = some (.int .i64 (dvR x y 0 v)) ∧ W.cell? ⟨g, 1, none⟩ = some (.int .i64 (dvI x y 0 v)) ∧ Below w.heap.size w W) (first | assumption | (refine keep1 HS.out ?_; (repeat (first | exact kept_refl _ | refine Below.drew ?_ | refine kept_trans ?_ HB)); done) | (refine keep_store (keep1 HS.out ?_) hga hgb; (repeat (first | exact kept_refl _ | refine Below.drew ?_ | refine kept_trans ?_ HB)); done)) (first | (go_at_call 30; refine (checked_no _ _ _ hv).mono ?_; rintro e w' ⟨rfl, HB⟩; have k0 : w'.cell? ⟨w.heap.size + 1 + 1, 0, none⟩ = some (.int .i64 0) := (HB.cell (p := ⟨w.heap.size + 1 + 1, 0, none⟩) hsz).trans hr0; have k1 : w'.cell? ⟨w.heap.size + 1 + 1, 1, none⟩ = some (.int .i64 0) := (HB.cell (p := ⟨w.heap.size + 1 + 1, 1, none⟩) hsz).trans hr1; have l0 : w'.frozen? ⟨w.heap.size + 1 + 1, 0, none⟩ = false := (HB.frozen (p := ⟨w.heap.size + 1 + 1, 0, none⟩) hsz).trans hf0; have l1 : w'.frozen? ⟨w.heap.size + 1 + 1, 1, none⟩ = false := (HB.frozen (p := ⟨w.heap.size + 1 + 1, 1, none⟩) hsz).trans hf1))
            all_goals go_wp2_with fail
            all_goals exact bodyPost_ret (v := .tuple #[.agg #[.int .i64 0, .int .i64 0], .bool false]) (by simp (maxDischargeDepth := 9) [results, Try.results10, go_sem, k0, k1]) rfl ⟨div_neg (fun h => by have := h.2.2.2.2; omega), And.right (And.right (by assumption))⟩
        · have HE := Lib.hid e2
          have e1' : ((dvR x y 0 v).tmod (nm 0 v) != 0) = false := by simp [e1]
          have e2' : ((dvI x y 0 v).tmod (nm 0 v) != 0) = true := by simp [e2]
          clear e1 e2
          go_wp2_with fail
          exact bodyPost_ret (v := .tuple #[.agg #[.int .i64 0, .int .i64 0], .bool false]) (by simp (maxDischargeDepth := 9) [results, Try.results10, go_sem, hc]) rfl ⟨div_neg (fun h => HE.out h.2.2.2.1), ((kept_trans (kept_alloc (kept_alloc (kept_alloc (kept_refl _) _) _) _) hb).setCell (by simp <;> omega) _).setCell (by simp <;> omega) _⟩
      · have HE := Lib.hid e1
        have e1' : ((dvR x y 0 v).tmod (nm 0 v) != 0) = true := by simp [e1]
        clear e1
        go_wp2_with fail
        exact bodyPost_ret (v := .tuple #[.agg #[.int .i64 0, .int .i64 0], .bool false]) (by simp (maxDischargeDepth := 9) [results, Try.results10, go_sem, hc]) rfl ⟨div_neg (fun h => HE.out h.2.2.1), ((kept_trans (kept_alloc (kept_alloc (kept_alloc (kept_refl _) _) _) _) hb).setCell (by simp <;> omega) _).setCell (by simp <;> omega) _⟩

set_option maxHeartbeats 1000000 in
theorem divV_any (x y u v : Int) (w : World) :
    Calls Try.prog 10 #[.agg #[.int .i64 x, .int .i64 y], .agg #[.int .i64 u, .int .i64 v]] w fun e w' => e = .returned (divV x y u v) ∧ Below w.heap.size w w' := by
  by_cases hx : -1000000000 ≤ x ∧ x ≤ 1000000000 ∧ -1000000000 ≤ y ∧ y ≤ 1000000000
  · by_cases hu : -1000000000 ≤ u ∧ u ≤ 1000000000 ∧ -1000000000 ≤ v ∧ v ≤ 1000000000
    · by_cases hz0 : u = 0 ∧ v = 0
      · obtain ⟨rfl, rfl⟩ := hz0
        have HV := Lib.hid (div_neg (x := x) (y := y) (u := 0) (v := 0) (fun h => h.2.1 ⟨rfl, rfl⟩))
        go_enter Try.func10, Try.ntmps10
        go_wp2_with (first | (go_at_call 27; first | (refine (valid_yes _ _ _ (by omega)).mono ?_; rintro e w' ⟨rfl, hb⟩; (first | (have hb1 := kept_trans HB hb; clear HB hb hc hf hz; have HB := hb1; clear hb1) | (have HB := hb; clear hb)); obtain ⟨hc, hf⟩ := bcell HB; have hz := HB.size; try simp at hz) | (refine (valid_no _ _ _ (by omega)).mono ?_; rintro e w' ⟨rfl, hb⟩; (first | (have hb1 := kept_trans HB hb; clear HB hb hc hf hz; have HB := hb1; clear hb1) | (have HB := hb; clear hb)); obtain ⟨hc, hf⟩ := bcell HB; have hz := HB.size; try simp at hz)))
        exact bodyPost_ret (v := .tuple #[.agg #[.int .i64 0, .int .i64 0], .bool false]) (by simp (maxDischargeDepth := 9) [results, Try.results10, go_sem, hc]) rfl ⟨HV.out, (by repeat (first | exact kept_refl _ | assumption | refine kept_alloc ?_ _ | refine Below.drew ?_ | refine Below.setCell ?_ (by simp <;> omega) _ | refine kept_trans ?_ (by assumption)))⟩
      · exact div_mid x y u v w hx hu hz0
    · have HV := Lib.hid (div_neg (x := x) (y := y) (u := u) (v := v) (fun h => hu h.1.2))
      go_enter Try.func10, Try.ntmps10
      go_wp2_with (first | (go_at_call 27; first | (refine (valid_yes _ _ _ (by omega)).mono ?_; rintro e w' ⟨rfl, hb⟩; (first | (have hb1 := kept_trans HB hb; clear HB hb hc hf hz; have HB := hb1; clear hb1) | (have HB := hb; clear hb)); obtain ⟨hc, hf⟩ := bcell HB; have hz := HB.size; try simp at hz) | (refine (valid_no _ _ _ (by omega)).mono ?_; rintro e w' ⟨rfl, hb⟩; (first | (have hb1 := kept_trans HB hb; clear HB hb hc hf hz; have HB := hb1; clear hb1) | (have HB := hb; clear hb)); obtain ⟨hc, hf⟩ := bcell HB; have hz := HB.size; try simp at hz)))
      exact bodyPost_ret (v := .tuple #[.agg #[.int .i64 0, .int .i64 0], .bool false]) (by simp (maxDischargeDepth := 9) [results, Try.results10, go_sem, hc]) rfl ⟨HV.out, (by repeat (first | exact kept_refl _ | assumption | refine kept_alloc ?_ _ | refine Below.drew ?_ | refine Below.setCell ?_ (by simp <;> omega) _ | refine kept_trans ?_ (by assumption)))⟩
  · have HV := Lib.hid (div_neg (x := x) (y := y) (u := u) (v := v) (fun h => hx h.1.1))
    go_enter Try.func10, Try.ntmps10
    go_wp2_with (first | (go_at_call 27; first | (refine (valid_yes _ _ _ (by omega)).mono ?_; rintro e w' ⟨rfl, hb⟩; (first | (have hb1 := kept_trans HB hb; clear HB hb hc hf hz; have HB := hb1; clear hb1) | (have HB := hb; clear hb)); obtain ⟨hc, hf⟩ := bcell HB; have hz := HB.size; try simp at hz) | (refine (valid_no _ _ _ (by omega)).mono ?_; rintro e w' ⟨rfl, hb⟩; (first | (have hb1 := kept_trans HB hb; clear HB hb hc hf hz; have HB := hb1; clear hb1) | (have HB := hb; clear hb)); obtain ⟨hc, hf⟩ := bcell HB; have hz := HB.size; try simp at hz)))
    exact bodyPost_ret (v := .tuple #[.agg #[.int .i64 0, .int .i64 0], .bool false]) (by simp (maxDischargeDepth := 9) [results, Try.results10, go_sem, hc]) rfl ⟨HV.out, (by repeat (first | exact kept_refl _ | assumption | refine kept_alloc ?_ _ | refine Below.drew ?_ | refine Below.setCell ?_ (by simp <;> omega) _ | refine kept_trans ?_ (by assumption)))⟩
end Go.Proofs.Ytoichhjnfiiocaa
