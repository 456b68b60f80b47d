/- Proof that the law FnGaussNormSum returns true for all arguments. -/
import Derived.Test.YtjaajohklkgegaaRows
import Derived.WalkKit
import Derived.ProofKit
import Derived.OpenShut
import Derived.ShutString
import Derived.ChangeOld
import Derived.Below
import Derived.Test.YtjaajohklkgegaaGd
import Derived.Test.YtjaajohklkgegaaGi
import Derived.Test.YtjaajohklkgegaaGh
import Derived.Test.YtjaajohklkgegaaGk
import Derived.Deep.RegionHeld3
import Derived.Deep.DeepCutAuto
import Derived.Deep.RegionWith
import Derived.Outline
namespace Go.Proofs.Ytjaajohklkgegaa.fnGaussNormSum
open Go.ChangeShapes Go.WideShapes Go.ChangeAt Go.RowKit
set_option linter.unusedVariables false

theorem own : ownKnob Try.prog.godebug = none := by kernel_rfl
theorem laidOut : laidOutB Try.prog = true := by kernel_rfl
/-- A slice of integers that came in: nil, or a row of cap cells, the numbers zs. -/
def IsRow (k : IntKind) (w : World) (a : Option Addr) (len cap : Nat) (zs : List Int) : Prop :=
  (a = none ∧ len = 0 ∧ cap = 0 ∧ zs = []) ∨
  ∃ x, a = some x ∧ len ≤ cap ∧ cap ≤ maxLen ∧ zs.length = cap ∧ (∀ i, i < zs.length → w.cell? (x.add i) = some (.int k (zs.getD i 0))) ∧ ∀ n ∈ zs, (Lit.int k n).wf = true
set_option maxRecDepth 100000 in
set_option maxHeartbeats 4000000 in
theorem walk (a0 : Option Addr) (len0 cap0 : Nat) (z0 : List Int) (w : World) (w0 : IsRow .u8 w a0 len0 cap0 z0) :
    Calls Try.prog 6 #[.slice a0 len0 cap0] w fun e w' => e = .returned (.bool true) ∧ Below w.heap.size w w' := by
  have H := Lib.hid (code_of w0); clear w0
  by_cases hl : 1048576 < len0
  · go_enter Try.func6, Try.ntmps6
    go_wp2
    go_ret
    exact ⟨rfl, Below.refl _ _⟩
  go_enter Try.func6, Try.ntmps6
  go_wp2_with fail
  refine (drawGaussAdd H.out).mono ?_
  rintro e w1 ⟨x, y, u, v, ⟨⟨x0, x1, y0, y1⟩, u0, u1, v0, v1⟩, rfl, hb⟩
  have K := Lib.hid hb
  clear hb H
  by_cases hV : (-1000000000 ≤ (x : Int) ∧ (x : Int) ≤ 1000000000 ∧ -1000000000 ≤ (y : Int) ∧ (y : Int) ≤ 1000000000) ∧ (-1000000000 ≤ (u : Int) ∧ (u : Int) ≤ 1000000000 ∧ -1000000000 ≤ (v : Int) ∧ (v : Int) ≤ 1000000000) ∧ (-1000000000 ≤ ((x + u) : Int) ∧ ((x + u) : Int) ≤ 1000000000 ∧ -1000000000 ≤ ((y + v) : Int) ∧ ((y + v) : Int) ≤ 1000000000)
  · go_wp2_with fail
    refine (add_yes x y u v _ hV).mono ?_
    rintro e w2 ⟨rfl, hb⟩
    have P1 : Hid (B2 w2 (w1.heap.size) (.int .i64 x) (.int .i64 y)) := by
      have h0 := ((B2.new w1 (.int .i64 x) (.int .i64 y) 24).alloc (.cells #[.int .i64 u, .int .i64 v] 24)).below hb
      try simp only [size_alloc1] at h0
      exact h0
    have P2 : Hid (B2 w2 (w1.heap.size + 1) (.int .i64 u) (.int .i64 v)) := by
      have h0 := (B2.new (w1.alloc (.cells #[.int .i64 x, .int .i64 y] 24)) (.int .i64 u) (.int .i64 v) 24).below hb
      try simp only [size_alloc1] at h0
      exact h0
    have K2 := Lib.hid (kept_trans (kept_alloc (kept_alloc K.out _) _) hb)
    clear K hb
    have K := Lib.hid K2.out
    clear K2
    obtain ⟨c0, d0⟩ := P1.out
    have l0 := P1.out.lt
    obtain ⟨c1, d1⟩ := P2.out
    have l1 := P2.out.lt
    go_wp2_with fail
    refine (sAdd_yes x y u v _ hV).mono ?_
    rintro e w3 ⟨rfl, hb⟩
    have P3 := Lib.hid ((P1.out.alloc (.cells #[.int .i64 (x + u), .int .i64 (y + v)] 24)).below hb)
    have P4 := Lib.hid ((P2.out.alloc (.cells #[.int .i64 (x + u), .int .i64 (y + v)] 24)).below hb)
    have P5 : Hid (B2 w3 (w2.heap.size) (.int .i64 (x + u)) (.int .i64 (y + v))) := by
      have h0 := (B2.new w2 (.int .i64 (x + u)) (.int .i64 (y + v)) 24).below hb
      try simp only [size_alloc1] at h0
      exact h0
    have K2 := Lib.hid (kept_trans (kept_alloc K.out _) hb)
    clear K hb P1 P2
    clear c0 d0 l0 c1 d1 l1
    have K := Lib.hid K2.out
    clear K2
    obtain ⟨c0, d0⟩ := P3.out
    have l0 := P3.out.lt
    obtain ⟨c1, d1⟩ := P4.out
    have l1 := P4.out.lt
    obtain ⟨c2, d2⟩ := P5.out
    have l2 := P5.out.lt
    obtain ⟨⟨h1, h2, h3, h4⟩, ⟨h5, h6, h7, h8⟩, h9, h10, h11, h12⟩ := hV
    obtain ⟨m, hm⟩ : ∃ m : Int, m = x * x + y * y := ⟨_, rfl⟩
    obtain ⟨n, hn⟩ : ∃ n : Int, n = u * u + v * v := ⟨_, rfl⟩
    have m0 : 0 ≤ m := by have := sum_nn x y; omega
    have n0 : 0 ≤ n := by have := sum_nn u v; omega
    have HM := Lib.hid hm.symm; have HN := Lib.hid hn.symm; clear hm hn
    by_cases s1 : (-1000000000 ≤ ((x - u) : Int) ∧ ((x - u) : Int) ≤ 1000000000 ∧ -1000000000 ≤ ((y - v) : Int) ∧ ((y - v) : Int) ≤ 1000000000)
    · go_wp2_with fail
      refine (sub_yes x y u v _ ⟨⟨h1, h2, h3, h4⟩, ⟨h5, h6, h7, h8⟩, s1⟩).mono ?_
      rintro e w4 ⟨rfl, hb⟩
      have P6 := Lib.hid ((P3.out.alloc (.cells #[.int .i64 (x + u), .int .i64 (y + v)] 24)).below hb)
      have P7 := Lib.hid ((P4.out.alloc (.cells #[.int .i64 (x + u), .int .i64 (y + v)] 24)).below hb)
      have P8 := Lib.hid ((P5.out.alloc (.cells #[.int .i64 (x + u), .int .i64 (y + v)] 24)).below hb)
      have P9 : Hid (B2 w4 (w3.heap.size) (.int .i64 (x + u)) (.int .i64 (y + v))) := by
        have h0 := (B2.new w3 (.int .i64 (x + u)) (.int .i64 (y + v)) 24).below hb
        try simp only [size_alloc1] at h0
        exact h0
      have K2 := Lib.hid (kept_trans (kept_alloc K.out _) hb)
      clear K hb P3 P4 P5
      clear c0 d0 l0 c1 d1 l1 c2 d2 l2
      have K := Lib.hid K2.out
      clear K2
      obtain ⟨c0, d0⟩ := P6.out
      have l0 := P6.out.lt
      obtain ⟨c1, d1⟩ := P7.out
      have l1 := P7.out.lt
      obtain ⟨c2, d2⟩ := P8.out
      have l2 := P8.out.lt
      obtain ⟨c3, d3⟩ := P9.out
      have l3 := P9.out.lt
      go_wp2_with fail
      refine (norm_eq x y m _ ⟨h1, h2, h3, h4⟩ HM.out).mono ?_
      rintro e w5 ⟨rfl, hb⟩
      have P10 := Lib.hid ((P6.out.alloc (.cells #[.int .i64 (x - u), .int .i64 (y - v)] 24)).below hb)
      have P11 := Lib.hid ((P7.out.alloc (.cells #[.int .i64 (x - u), .int .i64 (y - v)] 24)).below hb)
      have P12 := Lib.hid ((P8.out.alloc (.cells #[.int .i64 (x - u), .int .i64 (y - v)] 24)).below hb)
      have P13 := Lib.hid ((P9.out.alloc (.cells #[.int .i64 (x - u), .int .i64 (y - v)] 24)).below hb)
      have P14 : Hid (B2 w5 (w4.heap.size) (.int .i64 (x - u)) (.int .i64 (y - v))) := by
        have h0 := (B2.new w4 (.int .i64 (x - u)) (.int .i64 (y - v)) 24).below hb
        try simp only [size_alloc1] at h0
        exact h0
      have K2 := Lib.hid (kept_trans (kept_alloc K.out _) hb)
      clear K hb P6 P7 P8 P9
      clear c0 d0 l0 c1 d1 l1 c2 d2 l2 c3 d3 l3
      have K := Lib.hid K2.out
      clear K2
      obtain ⟨c0, d0⟩ := P10.out
      have l0 := P10.out.lt
      obtain ⟨c1, d1⟩ := P11.out
      have l1 := P11.out.lt
      obtain ⟨c2, d2⟩ := P12.out
      have l2 := P12.out.lt
      obtain ⟨c3, d3⟩ := P13.out
      have l3 := P13.out.lt
      obtain ⟨c4, d4⟩ := P14.out
      have l4 := P14.out.lt
      go_wp2_with fail
      refine (norm_eq u v n _ ⟨h5, h6, h7, h8⟩ HN.out).mono ?_
      rintro e w6 ⟨rfl, hb⟩
      have P15 := Lib.hid (P10.out.below hb)
      have P16 := Lib.hid (P11.out.below hb)
      have P17 := Lib.hid (P12.out.below hb)
      have P18 := Lib.hid (P13.out.below hb)
      have P19 := Lib.hid (P14.out.below hb)
      have K2 := Lib.hid (kept_trans K.out hb)
      clear K hb P10 P11 P12 P13 P14
      clear c0 d0 l0 c1 d1 l1 c2 d2 l2 c3 d3 l3 c4 d4 l4
      have K := Lib.hid K2.out
      clear K2
      obtain ⟨c0, d0⟩ := P15.out
      have l0 := P15.out.lt
      obtain ⟨c1, d1⟩ := P16.out
      have l1 := P16.out.lt
      obtain ⟨c2, d2⟩ := P17.out
      have l2 := P17.out.lt
      obtain ⟨c3, d3⟩ := P18.out
      have l3 := P18.out.lt
      obtain ⟨c4, d4⟩ := P19.out
      have l4 := P19.out.lt
      by_cases n1 : 1000000000 < m
      · go_wp2_with fail
        refine (valid_yes (x + u) (y + v) _ ⟨h9, h10, h11, h12⟩).mono ?_
        rintro e w7 ⟨rfl, hb⟩
        have P20 := Lib.hid (P15.out.below hb)
        have P21 := Lib.hid (P16.out.below hb)
        have P22 := Lib.hid (P17.out.below hb)
        have P23 := Lib.hid (P18.out.below hb)
        have P24 := Lib.hid (P19.out.below hb)
        have K2 := Lib.hid (kept_trans K.out hb)
        clear K hb P15 P16 P17 P18 P19
        clear c0 d0 l0 c1 d1 l1 c2 d2 l2 c3 d3 l3 c4 d4 l4
        have K := Lib.hid K2.out
        clear K2
        obtain ⟨c0, d0⟩ := P20.out
        have l0 := P20.out.lt
        obtain ⟨c1, d1⟩ := P21.out
        have l1 := P21.out.lt
        obtain ⟨c2, d2⟩ := P22.out
        have l2 := P22.out.lt
        obtain ⟨c3, d3⟩ := P23.out
        have l3 := P23.out.lt
        obtain ⟨c4, d4⟩ := P24.out
        have l4 := P24.out.lt
        go_wp2_with fail
        go_ret
        exact ⟨rfl, K.out⟩
      · have n1' : decide (1000000000 < m) = false := by simp; omega
        by_cases n2 : 1000000000 < n
        · go_wp2_with fail
          refine (valid_yes (x + u) (y + v) _ ⟨h9, h10, h11, h12⟩).mono ?_
          rintro e w7 ⟨rfl, hb⟩
          have P20 := Lib.hid (P15.out.below hb)
          have P21 := Lib.hid (P16.out.below hb)
          have P22 := Lib.hid (P17.out.below hb)
          have P23 := Lib.hid (P18.out.below hb)
          have P24 := Lib.hid (P19.out.below hb)
          have K2 := Lib.hid (kept_trans K.out hb)
          clear K hb P15 P16 P17 P18 P19
          clear c0 d0 l0 c1 d1 l1 c2 d2 l2 c3 d3 l3 c4 d4 l4
          have K := Lib.hid K2.out
          clear K2
          obtain ⟨c0, d0⟩ := P20.out
          have l0 := P20.out.lt
          obtain ⟨c1, d1⟩ := P21.out
          have l1 := P21.out.lt
          obtain ⟨c2, d2⟩ := P22.out
          have l2 := P22.out.lt
          obtain ⟨c3, d3⟩ := P23.out
          have l3 := P23.out.lt
          obtain ⟨c4, d4⟩ := P24.out
          have l4 := P24.out.lt
          go_wp2_with fail
          go_ret
          exact ⟨rfl, K.out⟩
        · have n2' : decide (1000000000 < n) = false := by simp; omega
          obtain ⟨a, ha⟩ : ∃ a : Int, a = (x + u) * (x + u) + (y + v) * (y + v) := ⟨_, rfl⟩
          obtain ⟨b, hb⟩ : ∃ b : Int, b = (x - u) * (x - u) + (y - v) * (y - v) := ⟨_, rfl⟩
          have a0 : 0 ≤ a := by have := sum_nn (x + u) (y + v); omega
          have b0 : 0 ≤ b := by have := sum_nn (x - u) (y - v); omega
          have hab : a + b = 2 * m + 2 * n := by have e1 := HM.out; have e2 := HN.out; have e3 := norm_two x y u v; omega
          have HA := Lib.hid ha.symm; have HB0 := Lib.hid hb.symm; clear ha hb
          have e1 : IntKind.i64.wrap (2 * m) = 2 * m := IntWalk.i64_in _ ⟨by omega, by omega⟩
          have e2 : IntKind.i64.wrap (2 * n) = 2 * n := IntWalk.i64_in _ ⟨by omega, by omega⟩
          have e3 : IntKind.i64.wrap (2 * m + 2 * n) = 2 * m + 2 * n := IntWalk.i64_in _ ⟨by omega, by omega⟩
          have e4 : IntKind.i64.wrap (a + b) = 2 * m + 2 * n := by rw [IntWalk.i64_in _ ⟨by omega, by omega⟩]; exact hab
          replace e1 := Lib.hid e1; replace e2 := Lib.hid e2; replace e3 := Lib.hid e3; replace e4 := Lib.hid e4; clear hab
          go_wp2_with fail
          have R20 : B2 w6 (w2.heap.size) (.int .i64 (x + u)) (.int .i64 (y + v)) := by
            have h0 := P17.out
            try simp only [size_alloc1] at h0
            exact h0
          have R21 : B2 w6 (w4.heap.size) (.int .i64 (x - u)) (.int .i64 (y - v)) := by
            have h0 := P19.out
            try simp only [size_alloc1] at h0
            exact h0
          have KB := Lib.hid K.out
          have HS := Lib.hid (And.intro R20.1 (And.intro R20.2 (And.intro R21.1 (And.intro R21.2 K.out))))
          clear c0 d0 l0 c1 d1 l1 c2 d2 l2 c3 d3 l3 c4 d4 l4
          have l0 := R20.lt
          try simp only [size_alloc1] at l0
          have l1 := R21.lt
          try simp only [size_alloc1] at l1
          clear R20 R21 K P15 P16 P17 P18 P19
          replace e1 := e1.out; replace e2 := e2.out; replace e3 := e3.out; replace e4 := e4.out
          first | (go_region_held3 (fun W => W.cell? ⟨w2.heap.size, 0, none⟩ = some (.int .i64 (x + u)) ∧ W.cell? ⟨w2.heap.size, 1, none⟩ = some (.int .i64 (y + v)) ∧ W.cell? ⟨w4.heap.size, 0, none⟩ = some (.int .i64 (x - u)) ∧ W.cell? ⟨w4.heap.size, 1, none⟩ = some (.int .i64 (y - v)) ∧ Below w.heap.size w W) (first | assumption | (refine keep2 HS.out ?_; (repeat (first | exact kept_refl _ | refine Below.drew ?_ | refine kept_alloc ?_ _ | refine kept_trans ?_ (by assumption) | (refine Below.setCell ?_ ?_ _; rotate_left; (focus (simp <;> omega))))); done)) (first | (go_at_call 18; first | ((with_reducible refine (norm_eq (x + u) (y + v) a _ ⟨h9, h10, h11, h12⟩ HA.out).mono ?_); rintro e w' ⟨rfl, HB⟩; obtain ⟨hc, hf⟩ := bcell HB; have q := HB.size; try simp at q) | ((with_reducible refine (norm_eq (x - u) (y - v) b _ s1 HB0.out).mono ?_); rintro e w' ⟨rfl, HB⟩; obtain ⟨hc, hf⟩ := bcell HB; have q := HB.size; try simp at q)))) | fail
          all_goals go_wp2_with fail
          all_goals go_ret
          all_goals refine ⟨rfl, ?_⟩
          all_goals first | assumption | (repeat (first | exact KB.out | refine Below.drew ?_ | refine kept_alloc ?_ _ | refine kept_trans ?_ (by assumption)))
    · have S1 := Lib.hid s1; clear s1
      go_wp2_with fail
      refine (sub_no x y u v _ (fun h => S1.out h.2.2)).mono ?_
      rintro e w4 ⟨rfl, hb⟩
      have P6 := Lib.hid ((P3.out.alloc (.cells #[.int .i64 (x + u), .int .i64 (y + v)] 24)).below hb)
      have P7 := Lib.hid ((P4.out.alloc (.cells #[.int .i64 (x + u), .int .i64 (y + v)] 24)).below hb)
      have P8 := Lib.hid ((P5.out.alloc (.cells #[.int .i64 (x + u), .int .i64 (y + v)] 24)).below hb)
      have P9 : Hid (B2 w4 (w3.heap.size) (.int .i64 (x + u)) (.int .i64 (y + v))) := by
        have h0 := (B2.new w3 (.int .i64 (x + u)) (.int .i64 (y + v)) 24).below hb
        try simp only [size_alloc1] at h0
        exact h0
      have K2 := Lib.hid (kept_trans (kept_alloc K.out _) hb)
      clear K hb P3 P4 P5
      clear c0 d0 l0 c1 d1 l1 c2 d2 l2
      have K := Lib.hid K2.out
      clear K2
      obtain ⟨c0, d0⟩ := P6.out
      have l0 := P6.out.lt
      obtain ⟨c1, d1⟩ := P7.out
      have l1 := P7.out.lt
      obtain ⟨c2, d2⟩ := P8.out
      have l2 := P8.out.lt
      obtain ⟨c3, d3⟩ := P9.out
      have l3 := P9.out.lt
      go_wp2_with fail
      refine (norm_eq x y m _ ⟨h1, h2, h3, h4⟩ HM.out).mono ?_
      rintro e w5 ⟨rfl, hb⟩
      have P10 := Lib.hid ((P6.out.alloc (.cells #[.int .i64 0, .int .i64 0] 24)).below hb)
      have P11 := Lib.hid ((P7.out.alloc (.cells #[.int .i64 0, .int .i64 0] 24)).below hb)
      have P12 := Lib.hid ((P8.out.alloc (.cells #[.int .i64 0, .int .i64 0] 24)).below hb)
      have P13 := Lib.hid ((P9.out.alloc (.cells #[.int .i64 0, .int .i64 0] 24)).below hb)
      have P14 : Hid (B2 w5 (w4.heap.size) (.int .i64 0) (.int .i64 0)) := by
        have h0 := (B2.new w4 (.int .i64 0) (.int .i64 0) 24).below hb
        try simp only [size_alloc1] at h0
        exact h0
      have K2 := Lib.hid (kept_trans (kept_alloc K.out _) hb)
      clear K hb P6 P7 P8 P9
      clear c0 d0 l0 c1 d1 l1 c2 d2 l2 c3 d3 l3
      have K := Lib.hid K2.out
      clear K2
      obtain ⟨c0, d0⟩ := P10.out
      have l0 := P10.out.lt
      obtain ⟨c1, d1⟩ := P11.out
      have l1 := P11.out.lt
      obtain ⟨c2, d2⟩ := P12.out
      have l2 := P12.out.lt
      obtain ⟨c3, d3⟩ := P13.out
      have l3 := P13.out.lt
      obtain ⟨c4, d4⟩ := P14.out
      have l4 := P14.out.lt
      go_wp2_with fail
      refine (norm_eq u v n _ ⟨h5, h6, h7, h8⟩ HN.out).mono ?_
      rintro e w6 ⟨rfl, hb⟩
      have P15 := Lib.hid (P10.out.below hb)
      have P16 := Lib.hid (P11.out.below hb)
      have P17 := Lib.hid (P12.out.below hb)
      have P18 := Lib.hid (P13.out.below hb)
      have P19 := Lib.hid (P14.out.below hb)
      have K2 := Lib.hid (kept_trans K.out hb)
      clear K hb P10 P11 P12 P13 P14
      clear c0 d0 l0 c1 d1 l1 c2 d2 l2 c3 d3 l3 c4 d4 l4
      have K := Lib.hid K2.out
      clear K2
      obtain ⟨c0, d0⟩ := P15.out
      have l0 := P15.out.lt
      obtain ⟨c1, d1⟩ := P16.out
      have l1 := P16.out.lt
      obtain ⟨c2, d2⟩ := P17.out
      have l2 := P17.out.lt
      obtain ⟨c3, d3⟩ := P18.out
      have l3 := P18.out.lt
      obtain ⟨c4, d4⟩ := P19.out
      have l4 := P19.out.lt
      go_wp2_with fail
      refine (valid_yes (x + u) (y + v) _ ⟨h9, h10, h11, h12⟩).mono ?_
      rintro e w7 ⟨rfl, hb⟩
      have P20 := Lib.hid (P15.out.below hb)
      have P21 := Lib.hid (P16.out.below hb)
      have P22 := Lib.hid (P17.out.below hb)
      have P23 := Lib.hid (P18.out.below hb)
      have P24 := Lib.hid (P19.out.below hb)
      have K2 := Lib.hid (kept_trans K.out hb)
      clear K hb P15 P16 P17 P18 P19
      clear c0 d0 l0 c1 d1 l1 c2 d2 l2 c3 d3 l3 c4 d4 l4
      have K := Lib.hid K2.out
      clear K2
      obtain ⟨c0, d0⟩ := P20.out
      have l0 := P20.out.lt
      obtain ⟨c1, d1⟩ := P21.out
      have l1 := P21.out.lt
      obtain ⟨c2, d2⟩ := P22.out
      have l2 := P22.out.lt
      obtain ⟨c3, d3⟩ := P23.out
      have l3 := P23.out.lt
      obtain ⟨c4, d4⟩ := P24.out
      have l4 := P24.out.lt
      go_wp2_with fail
      go_ret
      exact ⟨rfl, K.out⟩
  · have QV := Lib.hid hV; clear hV
    go_wp2_with fail
    refine (add_no x y u v _ QV.out).mono ?_
    rintro e w2 ⟨rfl, hb⟩
    have P1 : Hid (B2 w2 (w1.heap.size) (.int .i64 x) (.int .i64 y)) := by
      have h0 := ((B2.new w1 (.int .i64 x) (.int .i64 y) 24).alloc (.cells #[.int .i64 u, .int .i64 v] 24)).below hb
      try simp only [size_alloc1] at h0
      exact h0
    have P2 : Hid (B2 w2 (w1.heap.size + 1) (.int .i64 u) (.int .i64 v)) := by
      have h0 := (B2.new (w1.alloc (.cells #[.int .i64 x, .int .i64 y] 24)) (.int .i64 u) (.int .i64 v) 24).below hb
      try simp only [size_alloc1] at h0
      exact h0
    have K2 := Lib.hid (kept_trans (kept_alloc (kept_alloc K.out _) _) hb)
    clear K hb
    have K := Lib.hid K2.out
    clear K2
    obtain ⟨c0, d0⟩ := P1.out
    have l0 := P1.out.lt
    obtain ⟨c1, d1⟩ := P2.out
    have l1 := P2.out.lt
    go_wp2_with fail
    refine (sAdd_no x y u v _ QV.out).mono ?_
    rintro e w3 ⟨rfl, hb⟩
    have P3 := Lib.hid ((P1.out.alloc (.cells #[.int .i64 0, .int .i64 0] 24)).below hb)
    have P4 := Lib.hid ((P2.out.alloc (.cells #[.int .i64 0, .int .i64 0] 24)).below hb)
    have P5 : Hid (B2 w3 (w2.heap.size) (.int .i64 0) (.int .i64 0)) := by
      have h0 := (B2.new w2 (.int .i64 0) (.int .i64 0) 24).below hb
      try simp only [size_alloc1] at h0
      exact h0
    have K2 := Lib.hid (kept_trans (kept_alloc K.out _) hb)
    clear K hb P1 P2
    clear c0 d0 l0 c1 d1 l1
    have K := Lib.hid K2.out
    clear K2
    obtain ⟨c0, d0⟩ := P3.out
    have l0 := P3.out.lt
    obtain ⟨c1, d1⟩ := P4.out
    have l1 := P4.out.lt
    obtain ⟨c2, d2⟩ := P5.out
    have l2 := P5.out.lt
    go_wp2_with fail
    go_ret
    exact ⟨rfl, kept_alloc (K.out) _⟩

set_option maxRecDepth 100000 in
theorem lifted (os : Os) (started : os.Started) (H : Type) (enc : TypeId × Value → H) :
    ReturnsInHanded {} Try.checked os 6 .any (Rows.fnGaussNormSumSpec.pre6 enc Try.prog Try.f6 Rows.fnGaussNormSumRow.domain false) (Rows.fnGaussNormSumSpec.post enc Try.prog Try.f6 false true false false) := by
  refine returnsInHanded_of_change (C := Try.checked) own started (by kernel_rfl) Try.func6
    (ChangeSpec.witness6 (enc := enc) (C := Try.checked) false ⟨#[], #[.slice none 0 0], []⟩ 8 (by kernel_rfl) (by kernel_rfl) (by kernel_rfl) (by kernel_rfl)) ?_
  intro W base args ds gs before hval0 hW hcnd _
  have hval : ∀ (j : Nat) t v, Try.f6.params[j]? = some t → args[j]? = some v → Value.okWide Try.prog W .any base t v := hval0
  have hW' := hW
  obtain ⟨p, q, hA0, hV, rfl, hfz, hnd⟩ := hW
  have hA : DataW.TrodAll enc Try.prog W 0 (fun _ => true) true Try.f6.params.toList args.toList ds p := hA0
  rw [Try.params6] at hA hval
  obtain ⟨v0, vs0, d0, ds0, p0, q0, hargs, rfl, rfl, h0, r0⟩ := trodAll_cons hA
  obtain ⟨rfl, rfl, rfl⟩ := trodAll_nil r0
  obtain rfl : args = #[v0] := by cases args; simp_all
  obtain ⟨rfl, rfl⟩ := trodVars_none hV
  obtain ⟨a0, len0, cap0, rfl⟩ := okWide_slice Try.underlying22 (hval 0 22 v0 rfl rfl)
  have k0 := h0
  have lt0 : ∀ x ∈ p0, x.block < W.heap.size := by obtain ⟨m, hm⟩ := k0; exact DataW.trod_lt m _ _ _ hm
  obtain ⟨z0, w0⟩ : ∃ zs, IsRow .u8 W a0 len0 cap0 zs := by
    obtain ⟨fuel, hf⟩ := h0
    rcases open_ints Try.underlying22 Try.underlying5 (by kernel_rfl) hf with ⟨hcs, _⟩ | ⟨x, l, c, zs, hcs, _, hl, hm, hz, _, hcell, hwz⟩
    · simp [Value.cells] at hcs
      obtain ⟨rfl, rfl, rfl⟩ := hcs
      exact ⟨[], .inl ⟨rfl, rfl, rfl, rfl⟩⟩
    · simp [Value.cells] at hcs
      obtain ⟨rfl, rfl, rfl⟩ := hcs
      exact ⟨zs, .inr ⟨_, rfl, hl, hm, by simpa using hz, hcell, hwz⟩⟩
  clear hA0 hval0
  refine (walk a0 len0 cap0 z0 W w0).mono fun e W' ⟨he, bel⟩ => ?_
  subst he
  exact ⟨_, rfl, _, _, _, [], _, [], hW', trodAll_mk1 (shut_bool Try.underlying4 _), (trodAll_cons_mk (Below.trod laidOut (by kernel_rfl) (of_decide_eq_true (by kernel_rfl)) k0 bel lt0) trodAll_mk0), rfl, bel.frame _, fun h => by cases h⟩

theorem over : Rows.fnGaussNormSumRow.holds Try.pinned (OpenSpec.ofChange Rows.fnGaussNormSumSpec) :=
  OpenClaim.holds_of_wide 6 Try.f6 rfl rfl rfl rfl rfl rfl rfl ⟨rfl, rfl, rfl, rfl, rfl⟩ rfl rfl rfl rfl rfl (by kernel_rfl) Try.func6 (by kernel_rfl)
    (of_decide_eq_true (by kernel_rfl)) (by unfold Func.isWrapper; first | (rw [if_pos (by decide +kernel)]; kernel_rfl) | (rw [if_neg (by decide +kernel)]; exact ⟨rfl, rfl⟩))
    (fun os started H enc _ => lifted os started H enc)

/-- The statement. -/
theorem proved : Rows.FnGaussNormSumSaid := over
#print axioms proved
end Go.Proofs.Ytjaajohklkgegaa.fnGaussNormSum
