/- Contract of the quotient of Gaussian integers in the reference. -/
import Derived.Test.YtoichhjnfiiocaaGv
namespace Go.Proofs.Ytoichhjnfiiocaa
open Go.RowKit

theorem sNorm_nm (x y : Int) (w : World) (h : -1000000000 ≤ x ∧ x ≤ 1000000000 ∧ -1000000000 ≤ y ∧ y ≤ 1000000000) :
    Calls Try.prog 32 #[.agg #[.int .i64 x, .int .i64 y]] w fun e w' => e = .returned (.int .i64 (nm x y)) ∧ Below w.heap.size w w' := sNorm_yes x y w h
theorem dvR_eq (x y u v : Int) : dvR x y u v = x * u + y * v := rfl
theorem dvI_eq (x y u v : Int) : dvI x y u v = y * u - x * v := rfl
set_option maxRecDepth 100000 in
set_option maxHeartbeats 2000000 in
theorem sDiv_mid (x y u v : Int) (w : World) (hx : -1000000000 ≤ x ∧ x ≤ 1000000000 ∧ -1000000000 ≤ y ∧ y ≤ 1000000000) (hu : -1000000000 ≤ u ∧ u ≤ 1000000000 ∧ -1000000000 ≤ v ∧ v ≤ 1000000000) (hne : ¬ (u = 0 ∧ v = 0)) :
    Calls Try.prog 11 #[.agg #[.int .i64 x, .int .i64 y], .agg #[.int .i64 u, .int .i64 v]] w fun e w' => e = .returned (divV x y u v) ∧ Below w.heap.size w w' := by
  have hn1 := nm_pos u v hne
  have hn2 := (nm_bd u v hu).2
  obtain ⟨⟨t1, t2⟩, t3, t4⟩ := dv_bd x y u v ⟨hx, hu⟩
  have p1 := mul_bd x u ⟨hx.1, hx.2.1⟩ ⟨hu.1, hu.2.1⟩
  have p2 := mul_bd y v ⟨hx.2.2.1, hx.2.2.2⟩ ⟨hu.2.2.1, hu.2.2.2⟩
  have p3 := mul_bd y u ⟨hx.2.2.1, hx.2.2.2⟩ ⟨hu.1, hu.2.1⟩
  have p4 := mul_bd x v ⟨hx.1, hx.2.1⟩ ⟨hu.2.2.1, hu.2.2.2⟩
  have hnz : (nm u v == 0) = false := by simp; omega
  have hnz' : ¬ nm u v = 0 := by omega
  have HNE := Lib.hid hne; clear hne
  obtain ⟨q1, q2⟩ := tdiv_bd (dvR x y u v) (nm u v) ⟨t1, t2⟩
  obtain ⟨q3, q4⟩ := tdiv_bd (dvI x y u v) (nm u v) ⟨t3, t4⟩
  rw [dvR_eq] at t1 t2 q1 q2
  rw [dvI_eq] at t3 t4 q3 q4
  by_cases e1 : (dvR x y u v).tmod (nm u v) = 0
  · by_cases e2 : (dvI x y u v).tmod (nm u v) = 0
    · have HE := Lib.hid (And.intro e1 e2)
      have e1' : ((x * u + y * v).tmod (nm u v) != 0) = false := by rw [← dvR_eq]; simp [e1]
      have e2' : ((y * u - x * v).tmod (nm u v) != 0) = false := by rw [← dvI_eq]; simp [e2]
      clear e1 e2
      go_enter Try.func11, Try.ntmps11
      go_upto_region 8 with (first | (first | (go_at_call 31; first | (refine (sValid_yes _ _ _ (by omega)).mono ?_; rintro e w' ⟨rfl, hb⟩; (first | (have hb1 := kept_trans HB hb; clear HB hb hc hf hz; have HB := hb1; clear hb1) | (have HB := hb; clear hb)); obtain ⟨hc, hf⟩ := bcell HB; have hz := HB.size; try simp at hz) | (refine (sValid_no _ _ _ (by omega)).mono ?_; rintro e w' ⟨rfl, hb⟩; (first | (have hb1 := kept_trans HB hb; clear HB hb hc hf hz; have HB := hb1; clear hb1) | (have HB := hb; clear hb)); obtain ⟨hc, hf⟩ := bcell HB; have hz := HB.size; try simp at hz))) | (go_at_call 32; refine (sNorm_nm _ _ _ (by omega)).mono ?_; rintro e w' ⟨rfl, hb⟩; (first | (have hb1 := kept_trans HB hb; clear HB hb hc hf hz; have HB := hb1; clear hb1) | (have HB := hb; clear hb)); obtain ⟨hc, hf⟩ := bcell HB; have hz := HB.size; try simp at hz))
      have hr0 : w'.cell? ⟨w.heap.size + 1 + 1, 0, none⟩ = some (.int .i64 0) := (HB.cell (p := ⟨w.heap.size + 1 + 1, 0, none⟩) (by simp)).trans (by go_simp)
      have hr1 : w'.cell? ⟨w.heap.size + 1 + 1, 1, none⟩ = some (.int .i64 0) := (HB.cell (p := ⟨w.heap.size + 1 + 1, 1, none⟩) (by simp)).trans (by go_simp)
      have hf0 : w'.frozen? ⟨w.heap.size + 1 + 1, 0, none⟩ = false := (HB.frozen (p := ⟨w.heap.size + 1 + 1, 0, none⟩) (by simp)).trans (by go_simp)
      have hf1 : w'.frozen? ⟨w.heap.size + 1 + 1, 1, none⟩ = false := (HB.frozen (p := ⟨w.heap.size + 1 + 1, 1, none⟩) (by simp)).trans (by go_simp)
      have hsz : w.heap.size + 1 + 1 < w'.heap.size := by omega
      have hbw : Below w.heap.size w w' := kept_trans (kept_alloc (kept_alloc (kept_alloc (kept_refl _) _) _) _) HB
      clear hc hf HB hz
      by_cases hv : -1000000000 ≤ (x * u + y * v).tdiv (nm u v) ∧ (x * u + y * v).tdiv (nm u v) ≤ 1000000000 ∧ -1000000000 ≤ (y * u - x * v).tdiv (nm u v) ∧ (y * u - x * v).tdiv (nm u v) ≤ 1000000000
      · have ew1 : IntKind.i64.wrap ((x * u + y * v).tdiv (nm u v)) = (x * u + y * v).tdiv (nm u v) := IntWalk.i64_in _ ⟨by omega, by omega⟩
        have ew2 : IntKind.i64.wrap ((y * u - x * v).tdiv (nm u v)) = (y * u - x * v).tdiv (nm u v) := IntWalk.i64_in _ ⟨by omega, by omega⟩
        go_region_held3 (fun W => Below w.heap.size w W) (first | assumption | exact Below.drew hbw | exact kept_trans (Below.drew hbw) HB2 | exact ((kept_trans (Below.drew hbw) HB2).setCell (Nat.le_trans (Nat.le_succ _) (Nat.le_succ _)) _).setCell (Nat.le_trans (Nat.le_succ _) (Nat.le_succ _)) _) (first | (go_at_call 33; refine (made_yes _ _ _ hv).mono ?_; rintro e w2 ⟨rfl, HB2⟩; have k0 : w2.cell? ⟨w.heap.size + 1 + 1, 0, none⟩ = some (.int .i64 0) := (HB2.cell (p := ⟨w.heap.size + 1 + 1, 0, none⟩) hsz).trans hr0; have k1 : w2.cell? ⟨w.heap.size + 1 + 1, 1, none⟩ = some (.int .i64 0) := (HB2.cell (p := ⟨w.heap.size + 1 + 1, 1, none⟩) hsz).trans hr1; have l0 : w2.frozen? ⟨w.heap.size + 1 + 1, 0, none⟩ = false := (HB2.frozen (p := ⟨w.heap.size + 1 + 1, 0, none⟩) hsz).trans hf0; have l1 : w2.frozen? ⟨w.heap.size + 1 + 1, 1, none⟩ = false := (HB2.frozen (p := ⟨w.heap.size + 1 + 1, 1, none⟩) hsz).trans hf1))
        all_goals go_wp2_with fail
        all_goals exact bodyPost_ret (v := .tuple #[.agg #[.int .i64 ((x * u + y * v).tdiv (nm u v)), .int .i64 ((y * u - x * v).tdiv (nm u v))], .bool true]) (by simp (maxDischargeDepth := 9) [results, Try.results11, go_sem, k0, k1]) rfl ⟨div_pos (div_of hx hu HNE.out HE.out.1 HE.out.2 hv), by assumption⟩
      · have hv : ((x * u + y * v).tdiv (nm u v) < -1000000000 ∨ 1000000000 < (x * u + y * v).tdiv (nm u v)) ∨ ((y * u - x * v).tdiv (nm u v) < -1000000000 ∨ 1000000000 < (y * u - x * v).tdiv (nm u v)) := by omega
        have ew1 : IntKind.i64.wrap ((x * u + y * v).tdiv (nm u v)) = (x * u + y * v).tdiv (nm u v) := IntWalk.i64_in _ ⟨by omega, by omega⟩
        have ew2 : IntKind.i64.wrap ((y * u - x * v).tdiv (nm u v)) = (y * u - x * v).tdiv (nm u v) := IntWalk.i64_in _ ⟨by omega, by omega⟩
        go_region_held3 (fun W => Below w.heap.size w W) (first | assumption | exact Below.drew hbw | exact kept_trans (Below.drew hbw) HB2 | exact ((kept_trans (Below.drew hbw) HB2).setCell (Nat.le_trans (Nat.le_succ _) (Nat.le_succ _)) _).setCell (Nat.le_trans (Nat.le_succ _) (Nat.le_succ _)) _) (first | (go_at_call 33; refine (made_no _ _ _ hv).mono ?_; rintro e w2 ⟨rfl, HB2⟩; have k0 : w2.cell? ⟨w.heap.size + 1 + 1, 0, none⟩ = some (.int .i64 0) := (HB2.cell (p := ⟨w.heap.size + 1 + 1, 0, none⟩) hsz).trans hr0; have k1 : w2.cell? ⟨w.heap.size + 1 + 1, 1, none⟩ = some (.int .i64 0) := (HB2.cell (p := ⟨w.heap.size + 1 + 1, 1, none⟩) hsz).trans hr1; have l0 : w2.frozen? ⟨w.heap.size + 1 + 1, 0, none⟩ = false := (HB2.frozen (p := ⟨w.heap.size + 1 + 1, 0, none⟩) hsz).trans hf0; have l1 : w2.frozen? ⟨w.heap.size + 1 + 1, 1, none⟩ = false := (HB2.frozen (p := ⟨w.heap.size + 1 + 1, 1, none⟩) hsz).trans hf1))
        all_goals go_wp2_with fail
        all_goals exact bodyPost_ret (v := .tuple #[.agg #[.int .i64 0, .int .i64 0], .bool false]) (by simp (maxDischargeDepth := 9) [results, Try.results11, go_sem, k0, k1]) rfl ⟨div_neg (fun h => by have h5 := h.2.2.2.2; rw [dvR_eq, dvI_eq] at h5; omega), by assumption⟩
    · have HE := Lib.hid e2
      have e1' : ((x * u + y * v).tmod (nm u v) != 0) = false := by rw [← dvR_eq]; simp [e1]
      have e2' : ((y * u - x * v).tmod (nm u v) != 0) = true := by rw [← dvI_eq]; simp [e2]
      clear e1 e2
      go_enter Try.func11, Try.ntmps11
      go_wp2_with (first | (first | (go_at_call 31; first | (refine (sValid_yes _ _ _ (by omega)).mono ?_; rintro e w' ⟨rfl, hb⟩; (first | (have hb1 := kept_trans HB hb; clear HB hb hc hf hz; have HB := hb1; clear hb1) | (have HB := hb; clear hb)); obtain ⟨hc, hf⟩ := bcell HB; have hz := HB.size; try simp at hz) | (refine (sValid_no _ _ _ (by omega)).mono ?_; rintro e w' ⟨rfl, hb⟩; (first | (have hb1 := kept_trans HB hb; clear HB hb hc hf hz; have HB := hb1; clear hb1) | (have HB := hb; clear hb)); obtain ⟨hc, hf⟩ := bcell HB; have hz := HB.size; try simp at hz))) | (go_at_call 32; refine (sNorm_nm _ _ _ (by omega)).mono ?_; rintro e w' ⟨rfl, hb⟩; (first | (have hb1 := kept_trans HB hb; clear HB hb hc hf hz; have HB := hb1; clear hb1) | (have HB := hb; clear hb)); obtain ⟨hc, hf⟩ := bcell HB; have hz := HB.size; try simp at hz))
      exact bodyPost_ret (v := .tuple #[.agg #[.int .i64 0, .int .i64 0], .bool false]) (by simp (maxDischargeDepth := 9) [results, Try.results11, go_sem, hc]) rfl ⟨div_neg (fun h => HE.out h.2.2.2.1), (by repeat (first | exact kept_refl _ | assumption | refine kept_alloc ?_ _ | refine Below.drew ?_ | refine Below.setCell ?_ (by simp <;> omega) _ | refine kept_trans ?_ (by assumption)))⟩
  · have HE := Lib.hid e1
    have e1' : ((x * u + y * v).tmod (nm u v) != 0) = true := by rw [← dvR_eq]; simp [e1]
    clear e1
    go_enter Try.func11, Try.ntmps11
    go_wp2_with (first | (first | (go_at_call 31; first | (refine (sValid_yes _ _ _ (by omega)).mono ?_; rintro e w' ⟨rfl, hb⟩; (first | (have hb1 := kept_trans HB hb; clear HB hb hc hf hz; have HB := hb1; clear hb1) | (have HB := hb; clear hb)); obtain ⟨hc, hf⟩ := bcell HB; have hz := HB.size; try simp at hz) | (refine (sValid_no _ _ _ (by omega)).mono ?_; rintro e w' ⟨rfl, hb⟩; (first | (have hb1 := kept_trans HB hb; clear HB hb hc hf hz; have HB := hb1; clear hb1) | (have HB := hb; clear hb)); obtain ⟨hc, hf⟩ := bcell HB; have hz := HB.size; try simp at hz))) | (go_at_call 32; refine (sNorm_nm _ _ _ (by omega)).mono ?_; rintro e w' ⟨rfl, hb⟩; (first | (have hb1 := kept_trans HB hb; clear HB hb hc hf hz; have HB := hb1; clear hb1) | (have HB := hb; clear hb)); obtain ⟨hc, hf⟩ := bcell HB; have hz := HB.size; try simp at hz))
    exact bodyPost_ret (v := .tuple #[.agg #[.int .i64 0, .int .i64 0], .bool false]) (by simp (maxDischargeDepth := 9) [results, Try.results11, go_sem, hc]) rfl ⟨div_neg (fun h => HE.out h.2.2.1), (by repeat (first | exact kept_refl _ | assumption | refine kept_alloc ?_ _ | refine Below.drew ?_ | refine Below.setCell ?_ (by simp <;> omega) _ | refine kept_trans ?_ (by assumption)))⟩
set_option maxHeartbeats 1000000 in
theorem sDivV_any (x y u v : Int) (w : World) :
    Calls Try.prog 11 #[.agg #[.int .i64 x, .int .i64 y], .agg #[.int .i64 u, .int .i64 v]] w fun e w' => e = .returned (divV x y u v) ∧ Below w.heap.size w w' := by
  by_cases hx : -1000000000 ≤ x ∧ x ≤ 1000000000 ∧ -1000000000 ≤ y ∧ y ≤ 1000000000
  · by_cases hu : -1000000000 ≤ u ∧ u ≤ 1000000000 ∧ -1000000000 ≤ v ∧ v ≤ 1000000000
    · by_cases hz0 : u = 0 ∧ v = 0
      · obtain ⟨rfl, rfl⟩ := hz0
        have HV := Lib.hid (div_neg (x := x) (y := y) (u := 0) (v := 0) (fun h => h.2.1 ⟨rfl, rfl⟩))
        have hn0 : (nm 0 0 == 0) = true := by decide
        go_enter Try.func11, Try.ntmps11
        go_wp2_with (first | (first | (go_at_call 31; first | (refine (sValid_yes _ _ _ (by omega)).mono ?_; rintro e w' ⟨rfl, hb⟩; (first | (have hb1 := kept_trans HB hb; clear HB hb hc hf hz; have HB := hb1; clear hb1) | (have HB := hb; clear hb)); obtain ⟨hc, hf⟩ := bcell HB; have hz := HB.size; try simp at hz) | (refine (sValid_no _ _ _ (by omega)).mono ?_; rintro e w' ⟨rfl, hb⟩; (first | (have hb1 := kept_trans HB hb; clear HB hb hc hf hz; have HB := hb1; clear hb1) | (have HB := hb; clear hb)); obtain ⟨hc, hf⟩ := bcell HB; have hz := HB.size; try simp at hz))) | (go_at_call 32; refine (sNorm_nm _ _ _ (by omega)).mono ?_; rintro e w' ⟨rfl, hb⟩; (first | (have hb1 := kept_trans HB hb; clear HB hb hc hf hz; have HB := hb1; clear hb1) | (have HB := hb; clear hb)); obtain ⟨hc, hf⟩ := bcell HB; have hz := HB.size; try simp at hz))
        exact bodyPost_ret (v := .tuple #[.agg #[.int .i64 0, .int .i64 0], .bool false]) (by simp (maxDischargeDepth := 9) [results, Try.results11, go_sem, hc]) rfl ⟨HV.out, (by repeat (first | exact kept_refl _ | assumption | refine kept_alloc ?_ _ | refine Below.drew ?_ | refine Below.setCell ?_ (by simp <;> omega) _ | refine kept_trans ?_ (by assumption)))⟩
      · exact sDiv_mid x y u v w hx hu hz0
    · have HV := Lib.hid (div_neg (x := x) (y := y) (u := u) (v := v) (fun h => hu h.1.2))
      go_enter Try.func11, Try.ntmps11
      go_wp2_with (first | (first | (go_at_call 31; first | (refine (sValid_yes _ _ _ (by omega)).mono ?_; rintro e w' ⟨rfl, hb⟩; (first | (have hb1 := kept_trans HB hb; clear HB hb hc hf hz; have HB := hb1; clear hb1) | (have HB := hb; clear hb)); obtain ⟨hc, hf⟩ := bcell HB; have hz := HB.size; try simp at hz) | (refine (sValid_no _ _ _ (by omega)).mono ?_; rintro e w' ⟨rfl, hb⟩; (first | (have hb1 := kept_trans HB hb; clear HB hb hc hf hz; have HB := hb1; clear hb1) | (have HB := hb; clear hb)); obtain ⟨hc, hf⟩ := bcell HB; have hz := HB.size; try simp at hz))) | (go_at_call 32; refine (sNorm_nm _ _ _ (by omega)).mono ?_; rintro e w' ⟨rfl, hb⟩; (first | (have hb1 := kept_trans HB hb; clear HB hb hc hf hz; have HB := hb1; clear hb1) | (have HB := hb; clear hb)); obtain ⟨hc, hf⟩ := bcell HB; have hz := HB.size; try simp at hz))
      exact bodyPost_ret (v := .tuple #[.agg #[.int .i64 0, .int .i64 0], .bool false]) (by simp (maxDischargeDepth := 9) [results, Try.results11, go_sem, hc]) rfl ⟨HV.out, (by repeat (first | exact kept_refl _ | assumption | refine kept_alloc ?_ _ | refine Below.drew ?_ | refine Below.setCell ?_ (by simp <;> omega) _ | refine kept_trans ?_ (by assumption)))⟩
  · have HV := Lib.hid (div_neg (x := x) (y := y) (u := u) (v := v) (fun h => hx h.1.1))
    go_enter Try.func11, Try.ntmps11
    go_wp2_with (first | (first | (go_at_call 31; first | (refine (sValid_yes _ _ _ (by omega)).mono ?_; rintro e w' ⟨rfl, hb⟩; (first | (have hb1 := kept_trans HB hb; clear HB hb hc hf hz; have HB := hb1; clear hb1) | (have HB := hb; clear hb)); obtain ⟨hc, hf⟩ := bcell HB; have hz := HB.size; try simp at hz) | (refine (sValid_no _ _ _ (by omega)).mono ?_; rintro e w' ⟨rfl, hb⟩; (first | (have hb1 := kept_trans HB hb; clear HB hb hc hf hz; have HB := hb1; clear hb1) | (have HB := hb; clear hb)); obtain ⟨hc, hf⟩ := bcell HB; have hz := HB.size; try simp at hz))) | (go_at_call 32; refine (sNorm_nm _ _ _ (by omega)).mono ?_; rintro e w' ⟨rfl, hb⟩; (first | (have hb1 := kept_trans HB hb; clear HB hb hc hf hz; have HB := hb1; clear hb1) | (have HB := hb; clear hb)); obtain ⟨hc, hf⟩ := bcell HB; have hz := HB.size; try simp at hz))
    exact bodyPost_ret (v := .tuple #[.agg #[.int .i64 0, .int .i64 0], .bool false]) (by simp (maxDischargeDepth := 9) [results, Try.results11, go_sem, hc]) rfl ⟨HV.out, (by repeat (first | exact kept_refl _ | assumption | refine kept_alloc ?_ _ | refine Below.drew ?_ | refine Below.setCell ?_ (by simp <;> omega) _ | refine kept_trans ?_ (by assumption)))⟩
def divB (x y u v : Int) : Bool := decide (divP x y u v)
def divR (x y u v : Int) : Int := if divP x y u v then (dvR x y u v).tdiv (nm u v) else 0
def divI (x y u v : Int) : Int := if divP x y u v then (dvI x y u v).tdiv (nm u v) else 0
theorem divV_eq (x y u v : Int) : divV x y u v = .tuple #[.agg #[.int .i64 (divR x y u v), .int .i64 (divI x y u v)], .bool (divB x y u v)] := by
  unfold divV divR divI divB
  by_cases h : divP x y u v
  · rw [if_pos h, if_pos h, if_pos h, decide_eq_true h]
  · rw [if_neg h, if_neg h, if_neg h, decide_eq_false h]
theorem sDiv_any (x y u v : Int) (w : World) :
    Calls Try.prog 11 #[.agg #[.int .i64 x, .int .i64 y], .agg #[.int .i64 u, .int .i64 v]] w fun e w' => e = .returned (.tuple #[.agg #[.int .i64 (divR x y u v), .int .i64 (divI x y u v)], .bool (divB x y u v)]) ∧ Below w.heap.size w w' := by
  have h := sDivV_any x y u v w
  rw [divV_eq] at h
  exact h
theorem div_any (x y u v : Int) (w : World) :
    Calls Try.prog 10 #[.agg #[.int .i64 x, .int .i64 y], .agg #[.int .i64 u, .int .i64 v]] w fun e w' => e = .returned (.tuple #[.agg #[.int .i64 (divR x y u v), .int .i64 (divI x y u v)], .bool (divB x y u v)]) ∧ Below w.heap.size w w' := by
  have h := divV_any x y u v w
  rw [divV_eq] at h
  exact h
end Go.Proofs.Ytoichhjnfiiocaa
