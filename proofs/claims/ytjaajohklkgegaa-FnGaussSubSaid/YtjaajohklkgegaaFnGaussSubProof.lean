/- Proof that the law FnGaussSub returns true for all arguments. -/
import Derived.Test.YtjaajohklkgegaaRows
import Derived.WalkKit
import Derived.ProofKit
import Derived.OpenShut
import Derived.ShutString
import Derived.ChangeOld
import Derived.Below
import Derived.Test.YtjaajohklkgegaaGd
import Derived.Test.YtjaajohklkgegaaGi
import Derived.Test.YtjaajohklkgegaaGh
import Derived.Test.YtjaajohklkgegaaGk
import Derived.Deep.RegionHeld3
import Derived.Deep.DeepCutAuto
import Derived.Outline
namespace Go.Proofs.Ytjaajohklkgegaa.fnGaussSub
open Go.ChangeShapes Go.WideShapes Go.ChangeAt Go.RowKit
set_option linter.unusedVariables false

theorem own : ownKnob Try.prog.godebug = none := by kernel_rfl
theorem laidOut : laidOutB Try.prog = true := by kernel_rfl
/-- A slice of integers that came in: nil, or a row of cap cells, the numbers zs. -/
def IsRow (k : IntKind) (w : World) (a : Option Addr) (len cap : Nat) (zs : List Int) : Prop :=
  (a = none ∧ len = 0 ∧ cap = 0 ∧ zs = []) ∨
  ∃ x, a = some x ∧ len ≤ cap ∧ cap ≤ maxLen ∧ zs.length = cap ∧ (∀ i, i < zs.length → w.cell? (x.add i) = some (.int k (zs.getD i 0))) ∧ ∀ n ∈ zs, (Lit.int k n).wf = true
set_option maxRecDepth 100000 in
set_option maxHeartbeats 4000000 in
theorem walk (a0 : Option Addr) (len0 cap0 : Nat) (z0 : List Int) (w : World) (w0 : IsRow .u8 w a0 len0 cap0 z0) :
    Calls Try.prog 5 #[.slice a0 len0 cap0] w fun e w' => e = .returned (.bool true) ∧ Below w.heap.size w w' := by
  have H := Lib.hid (code_of w0); clear w0
  by_cases hl : 1048576 < len0
  · go_enter Try.func5, Try.ntmps5
    go_wp2
    go_ret
    exact ⟨rfl, Below.refl _ _⟩
  go_enter Try.func5, Try.ntmps5
  go_wp2_with fail
  refine (drawGaussSub H.out).mono ?_
  rintro e w1 ⟨x, y, u, v, ⟨⟨x0, x1, y0, y1⟩, u0, u1, v0, v1⟩, rfl, hb⟩
  have K := Lib.hid hb
  clear hb H
  by_cases hV : (-1000000000 ≤ (x : Int) ∧ (x : Int) ≤ 1000000000 ∧ -1000000000 ≤ (y : Int) ∧ (y : Int) ≤ 1000000000) ∧ (-1000000000 ≤ (u : Int) ∧ (u : Int) ≤ 1000000000 ∧ -1000000000 ≤ (v : Int) ∧ (v : Int) ≤ 1000000000) ∧ (-1000000000 ≤ ((x - u) : Int) ∧ ((x - u) : Int) ≤ 1000000000 ∧ -1000000000 ≤ ((y - v) : Int) ∧ ((y - v) : Int) ≤ 1000000000)
  · go_wp2_with fail
    refine (sub_yes x y u v _ hV).mono ?_
    rintro e w2 ⟨rfl, hb⟩
    have P1 : Hid (B2 w2 (w1.heap.size) (.int .i64 x) (.int .i64 y)) := by
      have h0 := ((B2.new w1 (.int .i64 x) (.int .i64 y) 24).alloc (.cells #[.int .i64 u, .int .i64 v] 24)).below hb
      try simp only [size_alloc1] at h0
      exact h0
    have P2 : Hid (B2 w2 (w1.heap.size + 1) (.int .i64 u) (.int .i64 v)) := by
      have h0 := (B2.new (w1.alloc (.cells #[.int .i64 x, .int .i64 y] 24)) (.int .i64 u) (.int .i64 v) 24).below hb
      try simp only [size_alloc1] at h0
      exact h0
    have K2 := Lib.hid (kept_trans (kept_alloc (kept_alloc K.out _) _) hb)
    clear K hb
    have K := Lib.hid K2.out
    clear K2
    obtain ⟨c0, d0⟩ := P1.out
    have l0 := P1.out.lt
    obtain ⟨c1, d1⟩ := P2.out
    have l1 := P2.out.lt
    go_wp2_with fail
    refine (sSub_yes x y u v _ hV).mono ?_
    rintro e w3 ⟨rfl, hb⟩
    have P3 := Lib.hid ((P1.out.alloc (.cells #[.int .i64 (x - u), .int .i64 (y - v)] 24)).below hb)
    have P4 := Lib.hid ((P2.out.alloc (.cells #[.int .i64 (x - u), .int .i64 (y - v)] 24)).below hb)
    have P5 : Hid (B2 w3 (w2.heap.size) (.int .i64 (x - u)) (.int .i64 (y - v))) := by
      have h0 := (B2.new w2 (.int .i64 (x - u)) (.int .i64 (y - v)) 24).below hb
      try simp only [size_alloc1] at h0
      exact h0
    have K2 := Lib.hid (kept_trans (kept_alloc K.out _) hb)
    clear K hb P1 P2
    clear c0 d0 l0 c1 d1 l1
    have K := Lib.hid K2.out
    clear K2
    obtain ⟨c0, d0⟩ := P3.out
    have l0 := P3.out.lt
    obtain ⟨c1, d1⟩ := P4.out
    have l1 := P4.out.lt
    obtain ⟨c2, d2⟩ := P5.out
    have l2 := P5.out.lt
    obtain ⟨⟨h1, h2, h3, h4⟩, ⟨h5, h6, h7, h8⟩, h9, h10, h11, h12⟩ := hV
    go_wp2_with fail
    have R6 : B2 (w3.alloc (.cells #[.int .i64 (x - u), .int .i64 (y - v)] 24)) (w1.heap.size) (.int .i64 x) (.int .i64 y) := by
      have h0 := (P3.out.alloc (.cells #[.int .i64 (x - u), .int .i64 (y - v)] 24))
      try simp only [size_alloc1] at h0
      exact h0
    have R7 : B2 (w3.alloc (.cells #[.int .i64 (x - u), .int .i64 (y - v)] 24)) (w1.heap.size + 1) (.int .i64 u) (.int .i64 v) := by
      have h0 := (P4.out.alloc (.cells #[.int .i64 (x - u), .int .i64 (y - v)] 24))
      try simp only [size_alloc1] at h0
      exact h0
    have R8 : B2 (w3.alloc (.cells #[.int .i64 (x - u), .int .i64 (y - v)] 24)) (w2.heap.size) (.int .i64 (x - u)) (.int .i64 (y - v)) := by
      have h0 := (P5.out.alloc (.cells #[.int .i64 (x - u), .int .i64 (y - v)] 24))
      try simp only [size_alloc1] at h0
      exact h0
    have KB := Lib.hid (kept_alloc K.out (.cells #[.int .i64 (x - u), .int .i64 (y - v)] 24))
    have HS := Lib.hid (And.intro R6.1 (And.intro R6.2 (And.intro R7.1 (And.intro R7.2 (And.intro R8.1 (And.intro R8.2 (kept_alloc K.out (.cells #[.int .i64 (x - u), .int .i64 (y - v)] 24))))))))
    clear c0 d0 l0 c1 d1 l1 c2 d2 l2
    have l0 := R6.lt
    try simp only [size_alloc1] at l0
    have l1 := R7.lt
    try simp only [size_alloc1] at l1
    have l2 := R8.lt
    try simp only [size_alloc1] at l2
    clear R6 R7 R8 K P3 P4 P5
    go_cut [9, 10] (fun s9 s10 W => ∃ g : Nat, s9 = .pointer (some ⟨g, 0, none⟩) ∧ s10 = .bool true ∧ B2 W g (.int .i64 (-u)) (.int .i64 (-v)) ∧ W.cell? ⟨w1.heap.size, 0, none⟩ = some (.int .i64 x) ∧ W.cell? ⟨w1.heap.size, 1, none⟩ = some (.int .i64 y) ∧ W.cell? ⟨w1.heap.size + 1, 0, none⟩ = some (.int .i64 u) ∧ W.cell? ⟨w1.heap.size + 1, 1, none⟩ = some (.int .i64 v) ∧ W.cell? ⟨w2.heap.size, 0, none⟩ = some (.int .i64 (x - u)) ∧ W.cell? ⟨w2.heap.size, 1, none⟩ = some (.int .i64 (y - v)) ∧ Below w.heap.size w W)
    case first =>
      go_region_held3 (fun W => W.cell? ⟨w1.heap.size, 0, none⟩ = some (.int .i64 x) ∧ W.cell? ⟨w1.heap.size, 1, none⟩ = some (.int .i64 y) ∧ W.cell? ⟨w1.heap.size + 1, 0, none⟩ = some (.int .i64 u) ∧ W.cell? ⟨w1.heap.size + 1, 1, none⟩ = some (.int .i64 v) ∧ W.cell? ⟨w2.heap.size, 0, none⟩ = some (.int .i64 (x - u)) ∧ W.cell? ⟨w2.heap.size, 1, none⟩ = some (.int .i64 (y - v)) ∧ Below w.heap.size w W) (first | assumption | (refine keep3 HS.out ?_; (repeat (first | exact kept_refl _ | refine Below.drew ?_ | refine kept_alloc ?_ _ | refine kept_trans ?_ (by assumption) | (refine Below.setCell ?_ ?_ _; rotate_left; (focus (simp <;> omega))))); done)) (first | (go_at_call 12; refine (gauss_ex _ _ _).mono ?_; rintro e w' ⟨rfl, rfl⟩) | (go_at_call 17; refine (mul_neg u v _ ⟨by omega, by omega, by omega, by omega⟩).mono ?_; rintro e w' ⟨rfl, HB⟩; obtain ⟨hc, hf⟩ := bcell HB; have q := HB.size; try simp at q))
      all_goals (go_wp2_with fail; go_meet)
      all_goals refine ⟨_, rfl, rfl, ?_, ?_⟩
      all_goals first | assumption | ((with_reducible refine B2.set (x := .int .i64 0) (y := .int .i64 0) ?_); (repeat (first | assumption | ((with_reducible refine B2.at ?_); (simp; done)) | (with_reducible refine B2.drew ?_) | (with_reducible refine B2.below ?_ HB) | (with_reducible refine B2.alloc ?_ _))); done) | ((with_reducible refine B2.at ?_); (simp; done))
    case rest =>
      obtain ⟨g9, rfl, rfl, g0, c0, d0, c1, d1, c2, d2, hb⟩ := hcut
      obtain ⟨w4, rfl⟩ : ∃ wo : World, wo = wc := ⟨_, rfl⟩
      have K := Lib.hid hb
      have P10 : Hid (B2 w4 (w1.heap.size) (.int .i64 x) (.int .i64 y)) := Lib.hid ⟨c0, d0⟩
      have P11 : Hid (B2 w4 (w1.heap.size + 1) (.int .i64 u) (.int .i64 v)) := Lib.hid ⟨c1, d1⟩
      have P12 : Hid (B2 w4 (w2.heap.size) (.int .i64 (x - u)) (.int .i64 (y - v))) := Lib.hid ⟨c2, d2⟩
      have P13 : Hid (B2 w4 g9 (.int .i64 (-u)) (.int .i64 (-v))) := Lib.hid g0
      clear hb HS KB g0 c0 d0 c1 d1 c2 d2 l0 l1 l2
      obtain ⟨c0, d0⟩ := P10.out
      have l0 := P10.out.lt
      obtain ⟨c1, d1⟩ := P11.out
      have l1 := P11.out.lt
      obtain ⟨c2, d2⟩ := P12.out
      have l2 := P12.out.lt
      obtain ⟨c3, d3⟩ := P13.out
      have l3 := P13.out.lt
      go_wp2_with fail
      have hcall := add_yes x y (-u) (-v) w4 ⟨⟨h1, h2, h3, h4⟩, ⟨by omega, by omega, by omega, by omega⟩, ⟨by omega, by omega, by omega, by omega⟩⟩
      rw [add_neg x u, add_neg y v] at hcall
      refine hcall.mono ?_
      clear hcall
      rintro e w5 ⟨rfl, hb⟩
      have P14 := Lib.hid (P10.out.below hb)
      have P15 := Lib.hid (P11.out.below hb)
      have P16 := Lib.hid (P12.out.below hb)
      have P17 := Lib.hid (P13.out.below hb)
      have K2 := Lib.hid (kept_trans K.out hb)
      clear K hb P10 P11 P12 P13
      clear c0 d0 l0 c1 d1 l1 c2 d2 l2 c3 d3 l3
      have K := Lib.hid K2.out
      clear K2
      obtain ⟨c0, d0⟩ := P14.out
      have l0 := P14.out.lt
      obtain ⟨c1, d1⟩ := P15.out
      have l1 := P15.out.lt
      obtain ⟨c2, d2⟩ := P16.out
      have l2 := P16.out.lt
      obtain ⟨c3, d3⟩ := P17.out
      have l3 := P17.out.lt
      by_cases hx : x = u
      · have hx0 : (x == u) = true := by simp; omega
        have hx1 : (x - u == 0) = true := by simp; omega
        clear hx
        by_cases hy : y = v
        · have hy0 : (y == v) = true := by simp; omega
          have hy1 : (y - v == 0) = true := by simp; omega
          clear hy
          go_wp2_with fail
          have R18 : B2 (w5.alloc (.cells #[.int .i64 (x - u), .int .i64 (y - v)] 24)) (w1.heap.size) (.int .i64 x) (.int .i64 y) := by
            have h0 := (P14.out.alloc (.cells #[.int .i64 (x - u), .int .i64 (y - v)] 24))
            try simp only [size_alloc1] at h0
            exact h0
          have R19 : B2 (w5.alloc (.cells #[.int .i64 (x - u), .int .i64 (y - v)] 24)) (w1.heap.size + 1) (.int .i64 u) (.int .i64 v) := by
            have h0 := (P15.out.alloc (.cells #[.int .i64 (x - u), .int .i64 (y - v)] 24))
            try simp only [size_alloc1] at h0
            exact h0
          have R20 : B2 (w5.alloc (.cells #[.int .i64 (x - u), .int .i64 (y - v)] 24)) (w2.heap.size) (.int .i64 (x - u)) (.int .i64 (y - v)) := by
            have h0 := (P16.out.alloc (.cells #[.int .i64 (x - u), .int .i64 (y - v)] 24))
            try simp only [size_alloc1] at h0
            exact h0
          have R21 : B2 (w5.alloc (.cells #[.int .i64 (x - u), .int .i64 (y - v)] 24)) (w5.heap.size) (.int .i64 (x - u)) (.int .i64 (y - v)) := by
            have h0 := (B2.new w5 (.int .i64 (x - u)) (.int .i64 (y - v)) 24)
            try simp only [size_alloc1] at h0
            exact h0
          have KB := Lib.hid (kept_alloc K.out (.cells #[.int .i64 (x - u), .int .i64 (y - v)] 24))
          have HS := Lib.hid (And.intro R18.1 (And.intro R18.2 (And.intro R19.1 (And.intro R19.2 (And.intro R20.1 (And.intro R20.2 (And.intro R21.1 (And.intro R21.2 (kept_alloc K.out (.cells #[.int .i64 (x - u), .int .i64 (y - v)] 24))))))))))
          clear c0 d0 l0 c1 d1 l1 c2 d2 l2 c3 d3 l3
          have l0 := R18.lt
          try simp only [size_alloc1] at l0
          have l1 := R19.lt
          try simp only [size_alloc1] at l1
          have l2 := R20.lt
          try simp only [size_alloc1] at l2
          have l3 := R21.lt
          try simp only [size_alloc1] at l3
          clear R18 R19 R20 R21 K P14 P15 P16 P17
          go_region_held3 (fun W => W.cell? ⟨w1.heap.size, 0, none⟩ = some (.int .i64 x) ∧ W.cell? ⟨w1.heap.size, 1, none⟩ = some (.int .i64 y) ∧ W.cell? ⟨w1.heap.size + 1, 0, none⟩ = some (.int .i64 u) ∧ W.cell? ⟨w1.heap.size + 1, 1, none⟩ = some (.int .i64 v) ∧ W.cell? ⟨w2.heap.size, 0, none⟩ = some (.int .i64 (x - u)) ∧ W.cell? ⟨w2.heap.size, 1, none⟩ = some (.int .i64 (y - v)) ∧ W.cell? ⟨w5.heap.size, 0, none⟩ = some (.int .i64 (x - u)) ∧ W.cell? ⟨w5.heap.size, 1, none⟩ = some (.int .i64 (y - v)) ∧ Below w.heap.size w W) (first | assumption | (refine keep4 HS.out ?_; (repeat (first | exact kept_refl _ | refine Below.drew ?_ | refine kept_alloc ?_ _ | refine kept_trans ?_ (by assumption) | (refine Below.setCell ?_ ?_ _; rotate_left; (focus (simp <;> omega))))); done)) (first | (go_at_call 12; refine (gauss_ex _ _ _).mono ?_; rintro e w' ⟨rfl, rfl⟩))
          all_goals go_wp2_with fail
          all_goals go_ret
          all_goals refine ⟨rfl, ?_⟩
          all_goals first | assumption | (repeat (first | exact KB.out | refine Below.drew ?_ | refine kept_alloc ?_ _ | refine kept_trans ?_ (by assumption)))
        · have hy0 : (y == v) = false := by simp; omega
          have hy1 : (y - v == 0) = false := by simp; omega
          clear hy
          go_wp2_with fail
          have R18 : B2 (w5.alloc (.cells #[.int .i64 (x - u), .int .i64 (y - v)] 24)) (w1.heap.size) (.int .i64 x) (.int .i64 y) := by
            have h0 := (P14.out.alloc (.cells #[.int .i64 (x - u), .int .i64 (y - v)] 24))
            try simp only [size_alloc1] at h0
            exact h0
          have R19 : B2 (w5.alloc (.cells #[.int .i64 (x - u), .int .i64 (y - v)] 24)) (w1.heap.size + 1) (.int .i64 u) (.int .i64 v) := by
            have h0 := (P15.out.alloc (.cells #[.int .i64 (x - u), .int .i64 (y - v)] 24))
            try simp only [size_alloc1] at h0
            exact h0
          have R20 : B2 (w5.alloc (.cells #[.int .i64 (x - u), .int .i64 (y - v)] 24)) (w2.heap.size) (.int .i64 (x - u)) (.int .i64 (y - v)) := by
            have h0 := (P16.out.alloc (.cells #[.int .i64 (x - u), .int .i64 (y - v)] 24))
            try simp only [size_alloc1] at h0
            exact h0
          have R21 : B2 (w5.alloc (.cells #[.int .i64 (x - u), .int .i64 (y - v)] 24)) (w5.heap.size) (.int .i64 (x - u)) (.int .i64 (y - v)) := by
            have h0 := (B2.new w5 (.int .i64 (x - u)) (.int .i64 (y - v)) 24)
            try simp only [size_alloc1] at h0
            exact h0
          have KB := Lib.hid (kept_alloc K.out (.cells #[.int .i64 (x - u), .int .i64 (y - v)] 24))
          have HS := Lib.hid (And.intro R18.1 (And.intro R18.2 (And.intro R19.1 (And.intro R19.2 (And.intro R20.1 (And.intro R20.2 (And.intro R21.1 (And.intro R21.2 (kept_alloc K.out (.cells #[.int .i64 (x - u), .int .i64 (y - v)] 24))))))))))
          clear c0 d0 l0 c1 d1 l1 c2 d2 l2 c3 d3 l3
          have l0 := R18.lt
          try simp only [size_alloc1] at l0
          have l1 := R19.lt
          try simp only [size_alloc1] at l1
          have l2 := R20.lt
          try simp only [size_alloc1] at l2
          have l3 := R21.lt
          try simp only [size_alloc1] at l3
          clear R18 R19 R20 R21 K P14 P15 P16 P17
          go_region_held3 (fun W => W.cell? ⟨w1.heap.size, 0, none⟩ = some (.int .i64 x) ∧ W.cell? ⟨w1.heap.size, 1, none⟩ = some (.int .i64 y) ∧ W.cell? ⟨w1.heap.size + 1, 0, none⟩ = some (.int .i64 u) ∧ W.cell? ⟨w1.heap.size + 1, 1, none⟩ = some (.int .i64 v) ∧ W.cell? ⟨w2.heap.size, 0, none⟩ = some (.int .i64 (x - u)) ∧ W.cell? ⟨w2.heap.size, 1, none⟩ = some (.int .i64 (y - v)) ∧ W.cell? ⟨w5.heap.size, 0, none⟩ = some (.int .i64 (x - u)) ∧ W.cell? ⟨w5.heap.size, 1, none⟩ = some (.int .i64 (y - v)) ∧ Below w.heap.size w W) (first | assumption | (refine keep4 HS.out ?_; (repeat (first | exact kept_refl _ | refine Below.drew ?_ | refine kept_alloc ?_ _ | refine kept_trans ?_ (by assumption) | (refine Below.setCell ?_ ?_ _; rotate_left; (focus (simp <;> omega))))); done)) (first | (go_at_call 12; refine (gauss_ex _ _ _).mono ?_; rintro e w' ⟨rfl, rfl⟩))
          all_goals go_wp2_with fail
          all_goals go_ret
          all_goals refine ⟨rfl, ?_⟩
          all_goals first | assumption | (repeat (first | exact KB.out | refine Below.drew ?_ | refine kept_alloc ?_ _ | refine kept_trans ?_ (by assumption)))
      · have hx0 : (x == u) = false := by simp; omega
        have hx1 : (x - u == 0) = false := by simp; omega
        clear hx
        go_wp2_with fail
        have R18 : B2 (w5.alloc (.cells #[.int .i64 (x - u), .int .i64 (y - v)] 24)) (w1.heap.size) (.int .i64 x) (.int .i64 y) := by
          have h0 := (P14.out.alloc (.cells #[.int .i64 (x - u), .int .i64 (y - v)] 24))
          try simp only [size_alloc1] at h0
          exact h0
        have R19 : B2 (w5.alloc (.cells #[.int .i64 (x - u), .int .i64 (y - v)] 24)) (w1.heap.size + 1) (.int .i64 u) (.int .i64 v) := by
          have h0 := (P15.out.alloc (.cells #[.int .i64 (x - u), .int .i64 (y - v)] 24))
          try simp only [size_alloc1] at h0
          exact h0
        have R20 : B2 (w5.alloc (.cells #[.int .i64 (x - u), .int .i64 (y - v)] 24)) (w2.heap.size) (.int .i64 (x - u)) (.int .i64 (y - v)) := by
          have h0 := (P16.out.alloc (.cells #[.int .i64 (x - u), .int .i64 (y - v)] 24))
          try simp only [size_alloc1] at h0
          exact h0
        have R21 : B2 (w5.alloc (.cells #[.int .i64 (x - u), .int .i64 (y - v)] 24)) (w5.heap.size) (.int .i64 (x - u)) (.int .i64 (y - v)) := by
          have h0 := (B2.new w5 (.int .i64 (x - u)) (.int .i64 (y - v)) 24)
          try simp only [size_alloc1] at h0
          exact h0
        have KB := Lib.hid (kept_alloc K.out (.cells #[.int .i64 (x - u), .int .i64 (y - v)] 24))
        have HS := Lib.hid (And.intro R18.1 (And.intro R18.2 (And.intro R19.1 (And.intro R19.2 (And.intro R20.1 (And.intro R20.2 (And.intro R21.1 (And.intro R21.2 (kept_alloc K.out (.cells #[.int .i64 (x - u), .int .i64 (y - v)] 24))))))))))
        clear c0 d0 l0 c1 d1 l1 c2 d2 l2 c3 d3 l3
        have l0 := R18.lt
        try simp only [size_alloc1] at l0
        have l1 := R19.lt
        try simp only [size_alloc1] at l1
        have l2 := R20.lt
        try simp only [size_alloc1] at l2
        have l3 := R21.lt
        try simp only [size_alloc1] at l3
        clear R18 R19 R20 R21 K P14 P15 P16 P17
        go_region_held3 (fun W => W.cell? ⟨w1.heap.size, 0, none⟩ = some (.int .i64 x) ∧ W.cell? ⟨w1.heap.size, 1, none⟩ = some (.int .i64 y) ∧ W.cell? ⟨w1.heap.size + 1, 0, none⟩ = some (.int .i64 u) ∧ W.cell? ⟨w1.heap.size + 1, 1, none⟩ = some (.int .i64 v) ∧ W.cell? ⟨w2.heap.size, 0, none⟩ = some (.int .i64 (x - u)) ∧ W.cell? ⟨w2.heap.size, 1, none⟩ = some (.int .i64 (y - v)) ∧ W.cell? ⟨w5.heap.size, 0, none⟩ = some (.int .i64 (x - u)) ∧ W.cell? ⟨w5.heap.size, 1, none⟩ = some (.int .i64 (y - v)) ∧ Below w.heap.size w W) (first | assumption | (refine keep4 HS.out ?_; (repeat (first | exact kept_refl _ | refine Below.drew ?_ | refine kept_alloc ?_ _ | refine kept_trans ?_ (by assumption) | (refine Below.setCell ?_ ?_ _; rotate_left; (focus (simp <;> omega))))); done)) (first | (go_at_call 12; refine (gauss_ex _ _ _).mono ?_; rintro e w' ⟨rfl, rfl⟩))
        all_goals go_wp2_with fail
        all_goals go_ret
        all_goals refine ⟨rfl, ?_⟩
        all_goals first | assumption | (repeat (first | exact KB.out | refine Below.drew ?_ | refine kept_alloc ?_ _ | refine kept_trans ?_ (by assumption)))
  · have QV := Lib.hid hV; clear hV
    go_wp2_with fail
    refine (sub_no x y u v _ QV.out).mono ?_
    rintro e w2 ⟨rfl, hb⟩
    have P1 : Hid (B2 w2 (w1.heap.size) (.int .i64 x) (.int .i64 y)) := by
      have h0 := ((B2.new w1 (.int .i64 x) (.int .i64 y) 24).alloc (.cells #[.int .i64 u, .int .i64 v] 24)).below hb
      try simp only [size_alloc1] at h0
      exact h0
    have P2 : Hid (B2 w2 (w1.heap.size + 1) (.int .i64 u) (.int .i64 v)) := by
      have h0 := (B2.new (w1.alloc (.cells #[.int .i64 x, .int .i64 y] 24)) (.int .i64 u) (.int .i64 v) 24).below hb
      try simp only [size_alloc1] at h0
      exact h0
    have K2 := Lib.hid (kept_trans (kept_alloc (kept_alloc K.out _) _) hb)
    clear K hb
    have K := Lib.hid K2.out
    clear K2
    obtain ⟨c0, d0⟩ := P1.out
    have l0 := P1.out.lt
    obtain ⟨c1, d1⟩ := P2.out
    have l1 := P2.out.lt
    go_wp2_with fail
    refine (sSub_no x y u v _ QV.out).mono ?_
    rintro e w3 ⟨rfl, hb⟩
    have P3 := Lib.hid ((P1.out.alloc (.cells #[.int .i64 0, .int .i64 0] 24)).below hb)
    have P4 := Lib.hid ((P2.out.alloc (.cells #[.int .i64 0, .int .i64 0] 24)).below hb)
    have P5 : Hid (B2 w3 (w2.heap.size) (.int .i64 0) (.int .i64 0)) := by
      have h0 := (B2.new w2 (.int .i64 0) (.int .i64 0) 24).below hb
      try simp only [size_alloc1] at h0
      exact h0
    have K2 := Lib.hid (kept_trans (kept_alloc K.out _) hb)
    clear K hb P1 P2
    clear c0 d0 l0 c1 d1 l1
    have K := Lib.hid K2.out
    clear K2
    obtain ⟨c0, d0⟩ := P3.out
    have l0 := P3.out.lt
    obtain ⟨c1, d1⟩ := P4.out
    have l1 := P4.out.lt
    obtain ⟨c2, d2⟩ := P5.out
    have l2 := P5.out.lt
    go_wp2_with fail
    go_ret
    exact ⟨rfl, kept_alloc (K.out) _⟩

set_option maxRecDepth 100000 in
theorem lifted (os : Os) (started : os.Started) (H : Type) (enc : TypeId × Value → H) :
    ReturnsInHanded {} Try.checked os 5 .any (Rows.fnGaussSubSpec.pre6 enc Try.prog Try.f5 Rows.fnGaussSubRow.domain false) (Rows.fnGaussSubSpec.post enc Try.prog Try.f5 false true false false) := by
  refine returnsInHanded_of_change (C := Try.checked) own started (by kernel_rfl) Try.func5
    (ChangeSpec.witness6 (enc := enc) (C := Try.checked) false ⟨#[], #[.slice none 0 0], []⟩ 8 (by kernel_rfl) (by kernel_rfl) (by kernel_rfl) (by kernel_rfl)) ?_
  intro W base args ds gs before hval0 hW hcnd _
  have hval : ∀ (j : Nat) t v, Try.f5.params[j]? = some t → args[j]? = some v → Value.okWide Try.prog W .any base t v := hval0
  have hW' := hW
  obtain ⟨p, q, hA0, hV, rfl, hfz, hnd⟩ := hW
  have hA : DataW.TrodAll enc Try.prog W 0 (fun _ => true) true Try.f5.params.toList args.toList ds p := hA0
  rw [Try.params5] at hA hval
  obtain ⟨v0, vs0, d0, ds0, p0, q0, hargs, rfl, rfl, h0, r0⟩ := trodAll_cons hA
  obtain ⟨rfl, rfl, rfl⟩ := trodAll_nil r0
  obtain rfl : args = #[v0] := by cases args; simp_all
  obtain ⟨rfl, rfl⟩ := trodVars_none hV
  obtain ⟨a0, len0, cap0, rfl⟩ := okWide_slice Try.underlying22 (hval 0 22 v0 rfl rfl)
  have k0 := h0
  have lt0 : ∀ x ∈ p0, x.block < W.heap.size := by obtain ⟨m, hm⟩ := k0; exact DataW.trod_lt m _ _ _ hm
  obtain ⟨z0, w0⟩ : ∃ zs, IsRow .u8 W a0 len0 cap0 zs := by
    obtain ⟨fuel, hf⟩ := h0
    rcases open_ints Try.underlying22 Try.underlying5 (by kernel_rfl) hf with ⟨hcs, _⟩ | ⟨x, l, c, zs, hcs, _, hl, hm, hz, _, hcell, hwz⟩
    · simp [Value.cells] at hcs
      obtain ⟨rfl, rfl, rfl⟩ := hcs
      exact ⟨[], .inl ⟨rfl, rfl, rfl, rfl⟩⟩
    · simp [Value.cells] at hcs
      obtain ⟨rfl, rfl, rfl⟩ := hcs
      exact ⟨zs, .inr ⟨_, rfl, hl, hm, by simpa using hz, hcell, hwz⟩⟩
  clear hA0 hval0
  refine (walk a0 len0 cap0 z0 W w0).mono fun e W' ⟨he, bel⟩ => ?_
  subst he
  exact ⟨_, rfl, _, _, _, [], _, [], hW', trodAll_mk1 (shut_bool Try.underlying4 _), (trodAll_cons_mk (Below.trod laidOut (by kernel_rfl) (of_decide_eq_true (by kernel_rfl)) k0 bel lt0) trodAll_mk0), rfl, bel.frame _, fun h => by cases h⟩

theorem over : Rows.fnGaussSubRow.holds Try.pinned (OpenSpec.ofChange Rows.fnGaussSubSpec) :=
  OpenClaim.holds_of_wide 5 Try.f5 rfl rfl rfl rfl rfl rfl rfl ⟨rfl, rfl, rfl, rfl, rfl⟩ rfl rfl rfl rfl rfl (by kernel_rfl) Try.func5 (by kernel_rfl)
    (of_decide_eq_true (by kernel_rfl)) (by unfold Func.isWrapper; first | (rw [if_pos (by decide +kernel)]; kernel_rfl) | (rw [if_neg (by decide +kernel)]; exact ⟨rfl, rfl⟩))
    (fun os started H enc _ => lifted os started H enc)

/-- The statement. -/
theorem proved : Rows.FnGaussSubSaid := over
#print axioms proved
end Go.Proofs.Ytjaajohklkgegaa.fnGaussSub
