/- Proof that the law FnGaussMulOver returns true for all arguments. -/
import Derived.Test.YthbhfakekpacoaaRows
import Derived.WalkKit
import Derived.ProofKit
import Derived.OpenShut
import Derived.ShutString
import Derived.ChangeOld
import Derived.Below
import Derived.Test.YthbhfakekpacoaaGd
import Derived.Test.YthbhfakekpacoaaGi
import Derived.Test.YthbhfakekpacoaaGh
namespace Go.Proofs.Ythbhfakekpacoaa.fnGaussMulOver
open Go.ChangeShapes Go.WideShapes Go.ChangeAt Go.RowKit
set_option linter.unusedVariables false

theorem own : ownKnob Try.prog.godebug = none := by kernel_rfl
theorem laidOut : laidOutB Try.prog = true := by kernel_rfl
/-- A slice of integers that came in: nil, or a row of cap cells, the numbers zs. -/
def IsRow (k : IntKind) (w : World) (a : Option Addr) (len cap : Nat) (zs : List Int) : Prop :=
  (a = none ∧ len = 0 ∧ cap = 0 ∧ zs = []) ∨
  ∃ x, a = some x ∧ len ≤ cap ∧ cap ≤ maxLen ∧ zs.length = cap ∧ (∀ i, i < zs.length → w.cell? (x.add i) = some (.int k (zs.getD i 0))) ∧ ∀ n ∈ zs, (Lit.int k n).wf = true
set_option maxRecDepth 100000 in
set_option maxHeartbeats 4000000 in
theorem walk (a0 : Option Addr) (len0 cap0 : Nat) (z0 : List Int) (w : World) (w0 : IsRow .u8 w a0 len0 cap0 z0) :
    Calls Try.prog 7 #[.slice a0 len0 cap0] w fun e w' => e = .returned (.bool true) ∧ Below w.heap.size w w' := by
  have H := Lib.hid (code_of w0); clear w0
  by_cases hl : 1048576 < len0
  · go_enter Try.func7, Try.ntmps7
    go_wp2
    go_ret
    exact ⟨rfl, Below.refl _ _⟩
  go_enter Try.func7, Try.ntmps7
  go_wp2_with fail
  refine (drawGaussMul H.out).mono ?_
  rintro e w1 ⟨x, y, u, v, ⟨⟨x0, x1, y0, y1⟩, u0, u1, v0, v1⟩, rfl, hb⟩
  have K := Lib.hid hb
  clear hb H
  by_cases hV : (-1000000000 ≤ (x : Int) ∧ (x : Int) ≤ 1000000000 ∧ -1000000000 ≤ (y : Int) ∧ (y : Int) ≤ 1000000000) ∧ (-1000000000 ≤ (u : Int) ∧ (u : Int) ≤ 1000000000 ∧ -1000000000 ≤ (v : Int) ∧ (v : Int) ≤ 1000000000) ∧ (-1000000000 ≤ ((x * u - y * v) : Int) ∧ ((x * u - y * v) : Int) ≤ 1000000000 ∧ -1000000000 ≤ ((x * v + y * u) : Int) ∧ ((x * v + y * u) : Int) ≤ 1000000000)
  · go_wp2_with fail
    refine (mul_yes x y u v _ hV).mono ?_
    rintro e w2 ⟨rfl, hb⟩
    have P1 : Hid (B2 w2 (w1.heap.size) (.int .i64 x) (.int .i64 y)) := by
      have h0 := ((B2.new w1 (.int .i64 x) (.int .i64 y) 24).alloc (.cells #[.int .i64 u, .int .i64 v] 24)).below hb
      try simp only [size_alloc1] at h0
      exact h0
    have P2 : Hid (B2 w2 (w1.heap.size + 1) (.int .i64 u) (.int .i64 v)) := by
      have h0 := (B2.new (w1.alloc (.cells #[.int .i64 x, .int .i64 y] 24)) (.int .i64 u) (.int .i64 v) 24).below hb
      try simp only [size_alloc1] at h0
      exact h0
    have K2 := Lib.hid (kept_trans (kept_alloc (kept_alloc K.out _) _) hb)
    clear K hb
    have K := Lib.hid K2.out
    clear K2
    obtain ⟨c0, d0⟩ := P1.out
    have l0 := P1.out.lt
    obtain ⟨c1, d1⟩ := P2.out
    have l1 := P2.out.lt
    go_wp2_with fail
    refine (sMul_yes x y u v _ hV).mono ?_
    rintro e w3 ⟨rfl, hb⟩
    have P3 := Lib.hid ((P1.out.alloc (.cells #[.int .i64 (x * u - y * v), .int .i64 (x * v + y * u)] 24)).below hb)
    have P4 := Lib.hid ((P2.out.alloc (.cells #[.int .i64 (x * u - y * v), .int .i64 (x * v + y * u)] 24)).below hb)
    have P5 : Hid (B2 w3 (w2.heap.size) (.int .i64 (x * u - y * v)) (.int .i64 (x * v + y * u))) := by
      have h0 := (B2.new w2 (.int .i64 (x * u - y * v)) (.int .i64 (x * v + y * u)) 24).below hb
      try simp only [size_alloc1] at h0
      exact h0
    have K2 := Lib.hid (kept_trans (kept_alloc K.out _) hb)
    clear K hb P1 P2
    clear c0 d0 l0 c1 d1 l1
    have K := Lib.hid K2.out
    clear K2
    obtain ⟨c0, d0⟩ := P3.out
    have l0 := P3.out.lt
    obtain ⟨c1, d1⟩ := P4.out
    have l1 := P4.out.lt
    obtain ⟨c2, d2⟩ := P5.out
    have l2 := P5.out.lt
    obtain ⟨⟨h1, h2, h3, h4⟩, ⟨h5, h6, h7, h8⟩, h9, h10, h11, h12⟩ := hV
    go_wp2_with fail
    refine (gauss_any 1 1 _).mono ?_
    rintro e w4 ⟨rfl, hb⟩
    have P6 := Lib.hid ((P3.out.alloc (.cells #[.int .i64 (x * u - y * v), .int .i64 (x * v + y * u)] 24)).below hb)
    have P7 := Lib.hid ((P4.out.alloc (.cells #[.int .i64 (x * u - y * v), .int .i64 (x * v + y * u)] 24)).below hb)
    have P8 := Lib.hid ((P5.out.alloc (.cells #[.int .i64 (x * u - y * v), .int .i64 (x * v + y * u)] 24)).below hb)
    have P9 : Hid (B2 w4 (w3.heap.size) (.int .i64 (x * u - y * v)) (.int .i64 (x * v + y * u))) := by
      have h0 := (B2.new w3 (.int .i64 (x * u - y * v)) (.int .i64 (x * v + y * u)) 24).below hb
      try simp only [size_alloc1] at h0
      exact h0
    have K2 := Lib.hid (kept_trans (kept_alloc K.out _) hb)
    clear K hb P3 P4 P5
    clear c0 d0 l0 c1 d1 l1 c2 d2 l2
    have K := Lib.hid K2.out
    clear K2
    obtain ⟨c0, d0⟩ := P6.out
    have l0 := P6.out.lt
    obtain ⟨c1, d1⟩ := P7.out
    have l1 := P7.out.lt
    obtain ⟨c2, d2⟩ := P8.out
    have l2 := P8.out.lt
    obtain ⟨c3, d3⟩ := P9.out
    have l3 := P9.out.lt
    by_cases hs0 : (-1000000000 ≤ (u : Int) ∧ (u : Int) ≤ 1000000000 ∧ -1000000000 ≤ (v : Int) ∧ (v : Int) ≤ 1000000000) ∧ (-1000000000 ≤ (1 : Int) ∧ (1 : Int) ≤ 1000000000 ∧ -1000000000 ≤ (1 : Int) ∧ (1 : Int) ≤ 1000000000) ∧ (-1000000000 ≤ ((u + 1) : Int) ∧ ((u + 1) : Int) ≤ 1000000000 ∧ -1000000000 ≤ ((v + 1) : Int) ∧ ((v + 1) : Int) ≤ 1000000000)
    · have Q0 := Lib.hid hs0; clear hs0
      go_wp2_with fail
      refine (add_yes u v 1 1 _ Q0.out).mono ?_
      rintro e w5 ⟨rfl, hb⟩
      have P10 := Lib.hid ((P6.out.alloc (.cells #[.int .i64 1, .int .i64 1] 24)).below hb)
      have P11 := Lib.hid ((P7.out.alloc (.cells #[.int .i64 1, .int .i64 1] 24)).below hb)
      have P12 := Lib.hid ((P8.out.alloc (.cells #[.int .i64 1, .int .i64 1] 24)).below hb)
      have P13 := Lib.hid ((P9.out.alloc (.cells #[.int .i64 1, .int .i64 1] 24)).below hb)
      have P14 : Hid (B2 w5 (w4.heap.size) (.int .i64 1) (.int .i64 1)) := by
        have h0 := (B2.new w4 (.int .i64 1) (.int .i64 1) 24).below hb
        try simp only [size_alloc1] at h0
        exact h0
      have K2 := Lib.hid (kept_trans (kept_alloc K.out _) hb)
      clear K hb P6 P7 P8 P9
      clear c0 d0 l0 c1 d1 l1 c2 d2 l2 c3 d3 l3
      have K := Lib.hid K2.out
      clear K2
      obtain ⟨c0, d0⟩ := P10.out
      have l0 := P10.out.lt
      obtain ⟨c1, d1⟩ := P11.out
      have l1 := P11.out.lt
      obtain ⟨c2, d2⟩ := P12.out
      have l2 := P12.out.lt
      obtain ⟨c3, d3⟩ := P13.out
      have l3 := P13.out.lt
      obtain ⟨c4, d4⟩ := P14.out
      have l4 := P14.out.lt
      by_cases hs1 : (-1000000000 ≤ (x : Int) ∧ (x : Int) ≤ 1000000000 ∧ -1000000000 ≤ (y : Int) ∧ (y : Int) ≤ 1000000000) ∧ (-1000000000 ≤ ((u + 1) : Int) ∧ ((u + 1) : Int) ≤ 1000000000 ∧ -1000000000 ≤ ((v + 1) : Int) ∧ ((v + 1) : Int) ≤ 1000000000) ∧ (-1000000000 ≤ ((x * (u + 1) - y * (v + 1)) : Int) ∧ ((x * (u + 1) - y * (v + 1)) : Int) ≤ 1000000000 ∧ -1000000000 ≤ ((x * (v + 1) + y * (u + 1)) : Int) ∧ ((x * (v + 1) + y * (u + 1)) : Int) ≤ 1000000000)
      · have Q1 := Lib.hid hs1; clear hs1
        go_wp2_with fail
        have hcall := mul_yes x y (u + 1) (v + 1) (w5.alloc (.cells #[.int .i64 (u + 1), .int .i64 (v + 1)] 24)) Q1.out
        rw [muloRn x y u v, muloIn x y u v] at hcall
        refine hcall.mono ?_
        clear hcall
        rintro e w6 ⟨rfl, hb⟩
        have P15 := Lib.hid ((P10.out.alloc (.cells #[.int .i64 (u + 1), .int .i64 (v + 1)] 24)).below hb)
        have P16 := Lib.hid ((P11.out.alloc (.cells #[.int .i64 (u + 1), .int .i64 (v + 1)] 24)).below hb)
        have P17 := Lib.hid ((P12.out.alloc (.cells #[.int .i64 (u + 1), .int .i64 (v + 1)] 24)).below hb)
        have P18 := Lib.hid ((P13.out.alloc (.cells #[.int .i64 (u + 1), .int .i64 (v + 1)] 24)).below hb)
        have P19 := Lib.hid ((P14.out.alloc (.cells #[.int .i64 (u + 1), .int .i64 (v + 1)] 24)).below hb)
        have P20 : Hid (B2 w6 (w5.heap.size) (.int .i64 (u + 1)) (.int .i64 (v + 1))) := by
          have h0 := (B2.new w5 (.int .i64 (u + 1)) (.int .i64 (v + 1)) 24).below hb
          try simp only [size_alloc1] at h0
          exact h0
        have K2 := Lib.hid (kept_trans (kept_alloc K.out _) hb)
        clear K hb P10 P11 P12 P13 P14
        clear c0 d0 l0 c1 d1 l1 c2 d2 l2 c3 d3 l3 c4 d4 l4
        have K := Lib.hid K2.out
        clear K2
        obtain ⟨c0, d0⟩ := P15.out
        have l0 := P15.out.lt
        obtain ⟨c1, d1⟩ := P16.out
        have l1 := P16.out.lt
        obtain ⟨c2, d2⟩ := P17.out
        have l2 := P17.out.lt
        obtain ⟨c3, d3⟩ := P18.out
        have l3 := P18.out.lt
        obtain ⟨c4, d4⟩ := P19.out
        have l4 := P19.out.lt
        obtain ⟨c5, d5⟩ := P20.out
        have l5 := P20.out.lt
        by_cases hs2 : (-1000000000 ≤ (x : Int) ∧ (x : Int) ≤ 1000000000 ∧ -1000000000 ≤ (y : Int) ∧ (y : Int) ≤ 1000000000) ∧ (-1000000000 ≤ (1 : Int) ∧ (1 : Int) ≤ 1000000000 ∧ -1000000000 ≤ (1 : Int) ∧ (1 : Int) ≤ 1000000000) ∧ (-1000000000 ≤ ((x * 1 - y * 1) : Int) ∧ ((x * 1 - y * 1) : Int) ≤ 1000000000 ∧ -1000000000 ≤ ((x * 1 + y * 1) : Int) ∧ ((x * 1 + y * 1) : Int) ≤ 1000000000)
        · have Q2 := Lib.hid hs2; clear hs2
          go_wp2_with fail
          have hcall := mul_yes x y 1 1 (w6.alloc (.cells #[.int .i64 ((x * u - y * v) + (x - y)), .int .i64 ((x * v + y * u) + (x + y))] 24)) Q2.out
          rw [n1R, n1I] at hcall
          refine hcall.mono ?_
          clear hcall
          rintro e w7 ⟨rfl, hb⟩
          have P21 := Lib.hid ((P15.out.alloc (.cells #[.int .i64 ((x * u - y * v) + (x - y)), .int .i64 ((x * v + y * u) + (x + y))] 24)).below hb)
          have P22 := Lib.hid ((P16.out.alloc (.cells #[.int .i64 ((x * u - y * v) + (x - y)), .int .i64 ((x * v + y * u) + (x + y))] 24)).below hb)
          have P23 := Lib.hid ((P17.out.alloc (.cells #[.int .i64 ((x * u - y * v) + (x - y)), .int .i64 ((x * v + y * u) + (x + y))] 24)).below hb)
          have P24 := Lib.hid ((P18.out.alloc (.cells #[.int .i64 ((x * u - y * v) + (x - y)), .int .i64 ((x * v + y * u) + (x + y))] 24)).below hb)
          have P25 := Lib.hid ((P19.out.alloc (.cells #[.int .i64 ((x * u - y * v) + (x - y)), .int .i64 ((x * v + y * u) + (x + y))] 24)).below hb)
          have P26 := Lib.hid ((P20.out.alloc (.cells #[.int .i64 ((x * u - y * v) + (x - y)), .int .i64 ((x * v + y * u) + (x + y))] 24)).below hb)
          have P27 : Hid (B2 w7 (w6.heap.size) (.int .i64 ((x * u - y * v) + (x - y))) (.int .i64 ((x * v + y * u) + (x + y)))) := by
            have h0 := (B2.new w6 (.int .i64 ((x * u - y * v) + (x - y))) (.int .i64 ((x * v + y * u) + (x + y))) 24).below hb
            try simp only [size_alloc1] at h0
            exact h0
          have K2 := Lib.hid (kept_trans (kept_alloc K.out _) hb)
          clear K hb P15 P16 P17 P18 P19 P20
          clear c0 d0 l0 c1 d1 l1 c2 d2 l2 c3 d3 l3 c4 d4 l4 c5 d5 l5
          have K := Lib.hid K2.out
          clear K2
          obtain ⟨c0, d0⟩ := P21.out
          have l0 := P21.out.lt
          obtain ⟨c1, d1⟩ := P22.out
          have l1 := P22.out.lt
          obtain ⟨c2, d2⟩ := P23.out
          have l2 := P23.out.lt
          obtain ⟨c3, d3⟩ := P24.out
          have l3 := P24.out.lt
          obtain ⟨c4, d4⟩ := P25.out
          have l4 := P25.out.lt
          obtain ⟨c5, d5⟩ := P26.out
          have l5 := P26.out.lt
          obtain ⟨c6, d6⟩ := P27.out
          have l6 := P27.out.lt
          by_cases hs3 : (-1000000000 ≤ ((x * u - y * v) : Int) ∧ ((x * u - y * v) : Int) ≤ 1000000000 ∧ -1000000000 ≤ ((x * v + y * u) : Int) ∧ ((x * v + y * u) : Int) ≤ 1000000000) ∧ (-1000000000 ≤ ((x - y) : Int) ∧ ((x - y) : Int) ≤ 1000000000 ∧ -1000000000 ≤ ((x + y) : Int) ∧ ((x + y) : Int) ≤ 1000000000) ∧ (-1000000000 ≤ (((x * u - y * v) + (x - y)) : Int) ∧ (((x * u - y * v) + (x - y)) : Int) ≤ 1000000000 ∧ -1000000000 ≤ (((x * v + y * u) + (x + y)) : Int) ∧ (((x * v + y * u) + (x + y)) : Int) ≤ 1000000000)
          · have Q3 := Lib.hid hs3; clear hs3
            go_wp2_with fail
            refine (add_yes (x * u - y * v) (x * v + y * u) (x - y) (x + y) _ Q3.out).mono ?_
            rintro e w8 ⟨rfl, hb⟩
            have P28 := Lib.hid ((P21.out.alloc (.cells #[.int .i64 (x - y), .int .i64 (x + y)] 24)).below hb)
            have P29 := Lib.hid ((P22.out.alloc (.cells #[.int .i64 (x - y), .int .i64 (x + y)] 24)).below hb)
            have P30 := Lib.hid ((P23.out.alloc (.cells #[.int .i64 (x - y), .int .i64 (x + y)] 24)).below hb)
            have P31 := Lib.hid ((P24.out.alloc (.cells #[.int .i64 (x - y), .int .i64 (x + y)] 24)).below hb)
            have P32 := Lib.hid ((P25.out.alloc (.cells #[.int .i64 (x - y), .int .i64 (x + y)] 24)).below hb)
            have P33 := Lib.hid ((P26.out.alloc (.cells #[.int .i64 (x - y), .int .i64 (x + y)] 24)).below hb)
            have P34 := Lib.hid ((P27.out.alloc (.cells #[.int .i64 (x - y), .int .i64 (x + y)] 24)).below hb)
            have P35 : Hid (B2 w8 (w7.heap.size) (.int .i64 (x - y)) (.int .i64 (x + y))) := by
              have h0 := (B2.new w7 (.int .i64 (x - y)) (.int .i64 (x + y)) 24).below hb
              try simp only [size_alloc1] at h0
              exact h0
            have K2 := Lib.hid (kept_trans (kept_alloc K.out _) hb)
            clear K hb P21 P22 P23 P24 P25 P26 P27
            clear c0 d0 l0 c1 d1 l1 c2 d2 l2 c3 d3 l3 c4 d4 l4 c5 d5 l5 c6 d6 l6
            have K := Lib.hid K2.out
            clear K2
            obtain ⟨c0, d0⟩ := P28.out
            have l0 := P28.out.lt
            obtain ⟨c1, d1⟩ := P29.out
            have l1 := P29.out.lt
            obtain ⟨c2, d2⟩ := P30.out
            have l2 := P30.out.lt
            obtain ⟨c3, d3⟩ := P31.out
            have l3 := P31.out.lt
            obtain ⟨c4, d4⟩ := P32.out
            have l4 := P32.out.lt
            obtain ⟨c5, d5⟩ := P33.out
            have l5 := P33.out.lt
            obtain ⟨c6, d6⟩ := P34.out
            have l6 := P34.out.lt
            obtain ⟨c7, d7⟩ := P35.out
            have l7 := P35.out.lt
            go_wp2_with fail
            go_ret
            exact ⟨rfl, kept_alloc (K.out) _⟩
          · have Q3 := Lib.hid hs3; clear hs3
            go_wp2_with fail
            refine (add_no (x * u - y * v) (x * v + y * u) (x - y) (x + y) _ Q3.out).mono ?_
            rintro e w8 ⟨rfl, hb⟩
            have P28 := Lib.hid ((P21.out.alloc (.cells #[.int .i64 (x - y), .int .i64 (x + y)] 24)).below hb)
            have P29 := Lib.hid ((P22.out.alloc (.cells #[.int .i64 (x - y), .int .i64 (x + y)] 24)).below hb)
            have P30 := Lib.hid ((P23.out.alloc (.cells #[.int .i64 (x - y), .int .i64 (x + y)] 24)).below hb)
            have P31 := Lib.hid ((P24.out.alloc (.cells #[.int .i64 (x - y), .int .i64 (x + y)] 24)).below hb)
            have P32 := Lib.hid ((P25.out.alloc (.cells #[.int .i64 (x - y), .int .i64 (x + y)] 24)).below hb)
            have P33 := Lib.hid ((P26.out.alloc (.cells #[.int .i64 (x - y), .int .i64 (x + y)] 24)).below hb)
            have P34 := Lib.hid ((P27.out.alloc (.cells #[.int .i64 (x - y), .int .i64 (x + y)] 24)).below hb)
            have P35 : Hid (B2 w8 (w7.heap.size) (.int .i64 (x - y)) (.int .i64 (x + y))) := by
              have h0 := (B2.new w7 (.int .i64 (x - y)) (.int .i64 (x + y)) 24).below hb
              try simp only [size_alloc1] at h0
              exact h0
            have K2 := Lib.hid (kept_trans (kept_alloc K.out _) hb)
            clear K hb P21 P22 P23 P24 P25 P26 P27
            clear c0 d0 l0 c1 d1 l1 c2 d2 l2 c3 d3 l3 c4 d4 l4 c5 d5 l5 c6 d6 l6
            have K := Lib.hid K2.out
            clear K2
            obtain ⟨c0, d0⟩ := P28.out
            have l0 := P28.out.lt
            obtain ⟨c1, d1⟩ := P29.out
            have l1 := P29.out.lt
            obtain ⟨c2, d2⟩ := P30.out
            have l2 := P30.out.lt
            obtain ⟨c3, d3⟩ := P31.out
            have l3 := P31.out.lt
            obtain ⟨c4, d4⟩ := P32.out
            have l4 := P32.out.lt
            obtain ⟨c5, d5⟩ := P33.out
            have l5 := P33.out.lt
            obtain ⟨c6, d6⟩ := P34.out
            have l6 := P34.out.lt
            obtain ⟨c7, d7⟩ := P35.out
            have l7 := P35.out.lt
            go_wp2_with fail
            go_ret
            exact ⟨rfl, kept_alloc (K.out) _⟩
        · have Q2 := Lib.hid hs2; clear hs2
          go_wp2_with fail
          refine (mul_no x y 1 1 _ Q2.out).mono ?_
          rintro e w7 ⟨rfl, hb⟩
          have P21 := Lib.hid ((P15.out.alloc (.cells #[.int .i64 ((x * u - y * v) + (x - y)), .int .i64 ((x * v + y * u) + (x + y))] 24)).below hb)
          have P22 := Lib.hid ((P16.out.alloc (.cells #[.int .i64 ((x * u - y * v) + (x - y)), .int .i64 ((x * v + y * u) + (x + y))] 24)).below hb)
          have P23 := Lib.hid ((P17.out.alloc (.cells #[.int .i64 ((x * u - y * v) + (x - y)), .int .i64 ((x * v + y * u) + (x + y))] 24)).below hb)
          have P24 := Lib.hid ((P18.out.alloc (.cells #[.int .i64 ((x * u - y * v) + (x - y)), .int .i64 ((x * v + y * u) + (x + y))] 24)).below hb)
          have P25 := Lib.hid ((P19.out.alloc (.cells #[.int .i64 ((x * u - y * v) + (x - y)), .int .i64 ((x * v + y * u) + (x + y))] 24)).below hb)
          have P26 := Lib.hid ((P20.out.alloc (.cells #[.int .i64 ((x * u - y * v) + (x - y)), .int .i64 ((x * v + y * u) + (x + y))] 24)).below hb)
          have P27 : Hid (B2 w7 (w6.heap.size) (.int .i64 ((x * u - y * v) + (x - y))) (.int .i64 ((x * v + y * u) + (x + y)))) := by
            have h0 := (B2.new w6 (.int .i64 ((x * u - y * v) + (x - y))) (.int .i64 ((x * v + y * u) + (x + y))) 24).below hb
            try simp only [size_alloc1] at h0
            exact h0
          have K2 := Lib.hid (kept_trans (kept_alloc K.out _) hb)
          clear K hb P15 P16 P17 P18 P19 P20
          clear c0 d0 l0 c1 d1 l1 c2 d2 l2 c3 d3 l3 c4 d4 l4 c5 d5 l5
          have K := Lib.hid K2.out
          clear K2
          obtain ⟨c0, d0⟩ := P21.out
          have l0 := P21.out.lt
          obtain ⟨c1, d1⟩ := P22.out
          have l1 := P22.out.lt
          obtain ⟨c2, d2⟩ := P23.out
          have l2 := P23.out.lt
          obtain ⟨c3, d3⟩ := P24.out
          have l3 := P24.out.lt
          obtain ⟨c4, d4⟩ := P25.out
          have l4 := P25.out.lt
          obtain ⟨c5, d5⟩ := P26.out
          have l5 := P26.out.lt
          obtain ⟨c6, d6⟩ := P27.out
          have l6 := P27.out.lt
          go_wp2_with fail
          refine (add_any (x * u - y * v) (x * v + y * u) 0 0 _).mono ?_
          rintro e w8 ⟨rfl, hb⟩
          have P28 := Lib.hid ((P21.out.alloc (.cells #[.int .i64 0, .int .i64 0] 24)).below hb)
          have P29 := Lib.hid ((P22.out.alloc (.cells #[.int .i64 0, .int .i64 0] 24)).below hb)
          have P30 := Lib.hid ((P23.out.alloc (.cells #[.int .i64 0, .int .i64 0] 24)).below hb)
          have P31 := Lib.hid ((P24.out.alloc (.cells #[.int .i64 0, .int .i64 0] 24)).below hb)
          have P32 := Lib.hid ((P25.out.alloc (.cells #[.int .i64 0, .int .i64 0] 24)).below hb)
          have P33 := Lib.hid ((P26.out.alloc (.cells #[.int .i64 0, .int .i64 0] 24)).below hb)
          have P34 := Lib.hid ((P27.out.alloc (.cells #[.int .i64 0, .int .i64 0] 24)).below hb)
          have P35 : Hid (B2 w8 (w7.heap.size) (.int .i64 0) (.int .i64 0)) := by
            have h0 := (B2.new w7 (.int .i64 0) (.int .i64 0) 24).below hb
            try simp only [size_alloc1] at h0
            exact h0
          have K2 := Lib.hid (kept_trans (kept_alloc K.out _) hb)
          clear K hb P21 P22 P23 P24 P25 P26 P27
          clear c0 d0 l0 c1 d1 l1 c2 d2 l2 c3 d3 l3 c4 d4 l4 c5 d5 l5 c6 d6 l6
          have K := Lib.hid K2.out
          clear K2
          obtain ⟨c0, d0⟩ := P28.out
          have l0 := P28.out.lt
          obtain ⟨c1, d1⟩ := P29.out
          have l1 := P29.out.lt
          obtain ⟨c2, d2⟩ := P30.out
          have l2 := P30.out.lt
          obtain ⟨c3, d3⟩ := P31.out
          have l3 := P31.out.lt
          obtain ⟨c4, d4⟩ := P32.out
          have l4 := P32.out.lt
          obtain ⟨c5, d5⟩ := P33.out
          have l5 := P33.out.lt
          obtain ⟨c6, d6⟩ := P34.out
          have l6 := P34.out.lt
          obtain ⟨c7, d7⟩ := P35.out
          have l7 := P35.out.lt
          go_wp2_with fail
          go_ret
          exact ⟨rfl, kept_alloc (K.out) _⟩
      · have Q1 := Lib.hid hs1; clear hs1
        go_wp2_with fail
        refine (mul_no x y (u + 1) (v + 1) _ Q1.out).mono ?_
        rintro e w6 ⟨rfl, hb⟩
        have P15 := Lib.hid ((P10.out.alloc (.cells #[.int .i64 (u + 1), .int .i64 (v + 1)] 24)).below hb)
        have P16 := Lib.hid ((P11.out.alloc (.cells #[.int .i64 (u + 1), .int .i64 (v + 1)] 24)).below hb)
        have P17 := Lib.hid ((P12.out.alloc (.cells #[.int .i64 (u + 1), .int .i64 (v + 1)] 24)).below hb)
        have P18 := Lib.hid ((P13.out.alloc (.cells #[.int .i64 (u + 1), .int .i64 (v + 1)] 24)).below hb)
        have P19 := Lib.hid ((P14.out.alloc (.cells #[.int .i64 (u + 1), .int .i64 (v + 1)] 24)).below hb)
        have P20 : Hid (B2 w6 (w5.heap.size) (.int .i64 (u + 1)) (.int .i64 (v + 1))) := by
          have h0 := (B2.new w5 (.int .i64 (u + 1)) (.int .i64 (v + 1)) 24).below hb
          try simp only [size_alloc1] at h0
          exact h0
        have K2 := Lib.hid (kept_trans (kept_alloc K.out _) hb)
        clear K hb P10 P11 P12 P13 P14
        clear c0 d0 l0 c1 d1 l1 c2 d2 l2 c3 d3 l3 c4 d4 l4
        have K := Lib.hid K2.out
        clear K2
        obtain ⟨c0, d0⟩ := P15.out
        have l0 := P15.out.lt
        obtain ⟨c1, d1⟩ := P16.out
        have l1 := P16.out.lt
        obtain ⟨c2, d2⟩ := P17.out
        have l2 := P17.out.lt
        obtain ⟨c3, d3⟩ := P18.out
        have l3 := P18.out.lt
        obtain ⟨c4, d4⟩ := P19.out
        have l4 := P19.out.lt
        obtain ⟨c5, d5⟩ := P20.out
        have l5 := P20.out.lt
        go_wp2_with fail
        refine (mul_any x y 1 1 _).mono ?_
        rintro e w7 ⟨rfl, hb⟩
        have P21 := Lib.hid ((P15.out.alloc (.cells #[.int .i64 0, .int .i64 0] 24)).below hb)
        have P22 := Lib.hid ((P16.out.alloc (.cells #[.int .i64 0, .int .i64 0] 24)).below hb)
        have P23 := Lib.hid ((P17.out.alloc (.cells #[.int .i64 0, .int .i64 0] 24)).below hb)
        have P24 := Lib.hid ((P18.out.alloc (.cells #[.int .i64 0, .int .i64 0] 24)).below hb)
        have P25 := Lib.hid ((P19.out.alloc (.cells #[.int .i64 0, .int .i64 0] 24)).below hb)
        have P26 := Lib.hid ((P20.out.alloc (.cells #[.int .i64 0, .int .i64 0] 24)).below hb)
        have P27 : Hid (B2 w7 (w6.heap.size) (.int .i64 0) (.int .i64 0)) := by
          have h0 := (B2.new w6 (.int .i64 0) (.int .i64 0) 24).below hb
          try simp only [size_alloc1] at h0
          exact h0
        have K2 := Lib.hid (kept_trans (kept_alloc K.out _) hb)
        clear K hb P15 P16 P17 P18 P19 P20
        clear c0 d0 l0 c1 d1 l1 c2 d2 l2 c3 d3 l3 c4 d4 l4 c5 d5 l5
        have K := Lib.hid K2.out
        clear K2
        obtain ⟨c0, d0⟩ := P21.out
        have l0 := P21.out.lt
        obtain ⟨c1, d1⟩ := P22.out
        have l1 := P22.out.lt
        obtain ⟨c2, d2⟩ := P23.out
        have l2 := P23.out.lt
        obtain ⟨c3, d3⟩ := P24.out
        have l3 := P24.out.lt
        obtain ⟨c4, d4⟩ := P25.out
        have l4 := P25.out.lt
        obtain ⟨c5, d5⟩ := P26.out
        have l5 := P26.out.lt
        obtain ⟨c6, d6⟩ := P27.out
        have l6 := P27.out.lt
        go_wp2_with fail
        refine (add_any (x * u - y * v) (x * v + y * u) (mulR x y 1 1) (mulI x y 1 1) _).mono ?_
        rintro e w8 ⟨rfl, hb⟩
        have P28 := Lib.hid ((P21.out.alloc (.cells #[.int .i64 (mulR x y 1 1), .int .i64 (mulI x y 1 1)] 24)).below hb)
        have P29 := Lib.hid ((P22.out.alloc (.cells #[.int .i64 (mulR x y 1 1), .int .i64 (mulI x y 1 1)] 24)).below hb)
        have P30 := Lib.hid ((P23.out.alloc (.cells #[.int .i64 (mulR x y 1 1), .int .i64 (mulI x y 1 1)] 24)).below hb)
        have P31 := Lib.hid ((P24.out.alloc (.cells #[.int .i64 (mulR x y 1 1), .int .i64 (mulI x y 1 1)] 24)).below hb)
        have P32 := Lib.hid ((P25.out.alloc (.cells #[.int .i64 (mulR x y 1 1), .int .i64 (mulI x y 1 1)] 24)).below hb)
        have P33 := Lib.hid ((P26.out.alloc (.cells #[.int .i64 (mulR x y 1 1), .int .i64 (mulI x y 1 1)] 24)).below hb)
        have P34 := Lib.hid ((P27.out.alloc (.cells #[.int .i64 (mulR x y 1 1), .int .i64 (mulI x y 1 1)] 24)).below hb)
        have P35 : Hid (B2 w8 (w7.heap.size) (.int .i64 (mulR x y 1 1)) (.int .i64 (mulI x y 1 1))) := by
          have h0 := (B2.new w7 (.int .i64 (mulR x y 1 1)) (.int .i64 (mulI x y 1 1)) 24).below hb
          try simp only [size_alloc1] at h0
          exact h0
        have K2 := Lib.hid (kept_trans (kept_alloc K.out _) hb)
        clear K hb P21 P22 P23 P24 P25 P26 P27
        clear c0 d0 l0 c1 d1 l1 c2 d2 l2 c3 d3 l3 c4 d4 l4 c5 d5 l5 c6 d6 l6
        have K := Lib.hid K2.out
        clear K2
        obtain ⟨c0, d0⟩ := P28.out
        have l0 := P28.out.lt
        obtain ⟨c1, d1⟩ := P29.out
        have l1 := P29.out.lt
        obtain ⟨c2, d2⟩ := P30.out
        have l2 := P30.out.lt
        obtain ⟨c3, d3⟩ := P31.out
        have l3 := P31.out.lt
        obtain ⟨c4, d4⟩ := P32.out
        have l4 := P32.out.lt
        obtain ⟨c5, d5⟩ := P33.out
        have l5 := P33.out.lt
        obtain ⟨c6, d6⟩ := P34.out
        have l6 := P34.out.lt
        obtain ⟨c7, d7⟩ := P35.out
        have l7 := P35.out.lt
        go_wp2_with fail
        go_ret
        exact ⟨rfl, kept_alloc (K.out) _⟩
    · have Q0 := Lib.hid hs0; clear hs0
      go_wp2_with fail
      refine (add_no u v 1 1 _ Q0.out).mono ?_
      rintro e w5 ⟨rfl, hb⟩
      have P10 := Lib.hid ((P6.out.alloc (.cells #[.int .i64 1, .int .i64 1] 24)).below hb)
      have P11 := Lib.hid ((P7.out.alloc (.cells #[.int .i64 1, .int .i64 1] 24)).below hb)
      have P12 := Lib.hid ((P8.out.alloc (.cells #[.int .i64 1, .int .i64 1] 24)).below hb)
      have P13 := Lib.hid ((P9.out.alloc (.cells #[.int .i64 1, .int .i64 1] 24)).below hb)
      have P14 : Hid (B2 w5 (w4.heap.size) (.int .i64 1) (.int .i64 1)) := by
        have h0 := (B2.new w4 (.int .i64 1) (.int .i64 1) 24).below hb
        try simp only [size_alloc1] at h0
        exact h0
      have K2 := Lib.hid (kept_trans (kept_alloc K.out _) hb)
      clear K hb P6 P7 P8 P9
      clear c0 d0 l0 c1 d1 l1 c2 d2 l2 c3 d3 l3
      have K := Lib.hid K2.out
      clear K2
      obtain ⟨c0, d0⟩ := P10.out
      have l0 := P10.out.lt
      obtain ⟨c1, d1⟩ := P11.out
      have l1 := P11.out.lt
      obtain ⟨c2, d2⟩ := P12.out
      have l2 := P12.out.lt
      obtain ⟨c3, d3⟩ := P13.out
      have l3 := P13.out.lt
      obtain ⟨c4, d4⟩ := P14.out
      have l4 := P14.out.lt
      go_wp2_with fail
      refine (mul_any x y 0 0 _).mono ?_
      rintro e w6 ⟨rfl, hb⟩
      have P15 := Lib.hid ((P10.out.alloc (.cells #[.int .i64 0, .int .i64 0] 24)).below hb)
      have P16 := Lib.hid ((P11.out.alloc (.cells #[.int .i64 0, .int .i64 0] 24)).below hb)
      have P17 := Lib.hid ((P12.out.alloc (.cells #[.int .i64 0, .int .i64 0] 24)).below hb)
      have P18 := Lib.hid ((P13.out.alloc (.cells #[.int .i64 0, .int .i64 0] 24)).below hb)
      have P19 := Lib.hid ((P14.out.alloc (.cells #[.int .i64 0, .int .i64 0] 24)).below hb)
      have P20 : Hid (B2 w6 (w5.heap.size) (.int .i64 0) (.int .i64 0)) := by
        have h0 := (B2.new w5 (.int .i64 0) (.int .i64 0) 24).below hb
        try simp only [size_alloc1] at h0
        exact h0
      have K2 := Lib.hid (kept_trans (kept_alloc K.out _) hb)
      clear K hb P10 P11 P12 P13 P14
      clear c0 d0 l0 c1 d1 l1 c2 d2 l2 c3 d3 l3 c4 d4 l4
      have K := Lib.hid K2.out
      clear K2
      obtain ⟨c0, d0⟩ := P15.out
      have l0 := P15.out.lt
      obtain ⟨c1, d1⟩ := P16.out
      have l1 := P16.out.lt
      obtain ⟨c2, d2⟩ := P17.out
      have l2 := P17.out.lt
      obtain ⟨c3, d3⟩ := P18.out
      have l3 := P18.out.lt
      obtain ⟨c4, d4⟩ := P19.out
      have l4 := P19.out.lt
      obtain ⟨c5, d5⟩ := P20.out
      have l5 := P20.out.lt
      go_wp2_with fail
      refine (mul_any x y 1 1 _).mono ?_
      rintro e w7 ⟨rfl, hb⟩
      have P21 := Lib.hid ((P15.out.alloc (.cells #[.int .i64 (mulR x y 0 0), .int .i64 (mulI x y 0 0)] 24)).below hb)
      have P22 := Lib.hid ((P16.out.alloc (.cells #[.int .i64 (mulR x y 0 0), .int .i64 (mulI x y 0 0)] 24)).below hb)
      have P23 := Lib.hid ((P17.out.alloc (.cells #[.int .i64 (mulR x y 0 0), .int .i64 (mulI x y 0 0)] 24)).below hb)
      have P24 := Lib.hid ((P18.out.alloc (.cells #[.int .i64 (mulR x y 0 0), .int .i64 (mulI x y 0 0)] 24)).below hb)
      have P25 := Lib.hid ((P19.out.alloc (.cells #[.int .i64 (mulR x y 0 0), .int .i64 (mulI x y 0 0)] 24)).below hb)
      have P26 := Lib.hid ((P20.out.alloc (.cells #[.int .i64 (mulR x y 0 0), .int .i64 (mulI x y 0 0)] 24)).below hb)
      have P27 : Hid (B2 w7 (w6.heap.size) (.int .i64 (mulR x y 0 0)) (.int .i64 (mulI x y 0 0))) := by
        have h0 := (B2.new w6 (.int .i64 (mulR x y 0 0)) (.int .i64 (mulI x y 0 0)) 24).below hb
        try simp only [size_alloc1] at h0
        exact h0
      have K2 := Lib.hid (kept_trans (kept_alloc K.out _) hb)
      clear K hb P15 P16 P17 P18 P19 P20
      clear c0 d0 l0 c1 d1 l1 c2 d2 l2 c3 d3 l3 c4 d4 l4 c5 d5 l5
      have K := Lib.hid K2.out
      clear K2
      obtain ⟨c0, d0⟩ := P21.out
      have l0 := P21.out.lt
      obtain ⟨c1, d1⟩ := P22.out
      have l1 := P22.out.lt
      obtain ⟨c2, d2⟩ := P23.out
      have l2 := P23.out.lt
      obtain ⟨c3, d3⟩ := P24.out
      have l3 := P24.out.lt
      obtain ⟨c4, d4⟩ := P25.out
      have l4 := P25.out.lt
      obtain ⟨c5, d5⟩ := P26.out
      have l5 := P26.out.lt
      obtain ⟨c6, d6⟩ := P27.out
      have l6 := P27.out.lt
      go_wp2_with fail
      refine (add_any (x * u - y * v) (x * v + y * u) (mulR x y 1 1) (mulI x y 1 1) _).mono ?_
      rintro e w8 ⟨rfl, hb⟩
      have P28 := Lib.hid ((P21.out.alloc (.cells #[.int .i64 (mulR x y 1 1), .int .i64 (mulI x y 1 1)] 24)).below hb)
      have P29 := Lib.hid ((P22.out.alloc (.cells #[.int .i64 (mulR x y 1 1), .int .i64 (mulI x y 1 1)] 24)).below hb)
      have P30 := Lib.hid ((P23.out.alloc (.cells #[.int .i64 (mulR x y 1 1), .int .i64 (mulI x y 1 1)] 24)).below hb)
      have P31 := Lib.hid ((P24.out.alloc (.cells #[.int .i64 (mulR x y 1 1), .int .i64 (mulI x y 1 1)] 24)).below hb)
      have P32 := Lib.hid ((P25.out.alloc (.cells #[.int .i64 (mulR x y 1 1), .int .i64 (mulI x y 1 1)] 24)).below hb)
      have P33 := Lib.hid ((P26.out.alloc (.cells #[.int .i64 (mulR x y 1 1), .int .i64 (mulI x y 1 1)] 24)).below hb)
      have P34 := Lib.hid ((P27.out.alloc (.cells #[.int .i64 (mulR x y 1 1), .int .i64 (mulI x y 1 1)] 24)).below hb)
      have P35 : Hid (B2 w8 (w7.heap.size) (.int .i64 (mulR x y 1 1)) (.int .i64 (mulI x y 1 1))) := by
        have h0 := (B2.new w7 (.int .i64 (mulR x y 1 1)) (.int .i64 (mulI x y 1 1)) 24).below hb
        try simp only [size_alloc1] at h0
        exact h0
      have K2 := Lib.hid (kept_trans (kept_alloc K.out _) hb)
      clear K hb P21 P22 P23 P24 P25 P26 P27
      clear c0 d0 l0 c1 d1 l1 c2 d2 l2 c3 d3 l3 c4 d4 l4 c5 d5 l5 c6 d6 l6
      have K := Lib.hid K2.out
      clear K2
      obtain ⟨c0, d0⟩ := P28.out
      have l0 := P28.out.lt
      obtain ⟨c1, d1⟩ := P29.out
      have l1 := P29.out.lt
      obtain ⟨c2, d2⟩ := P30.out
      have l2 := P30.out.lt
      obtain ⟨c3, d3⟩ := P31.out
      have l3 := P31.out.lt
      obtain ⟨c4, d4⟩ := P32.out
      have l4 := P32.out.lt
      obtain ⟨c5, d5⟩ := P33.out
      have l5 := P33.out.lt
      obtain ⟨c6, d6⟩ := P34.out
      have l6 := P34.out.lt
      obtain ⟨c7, d7⟩ := P35.out
      have l7 := P35.out.lt
      go_wp2_with fail
      go_ret
      exact ⟨rfl, kept_alloc (K.out) _⟩
  · have QV := Lib.hid hV; clear hV
    go_wp2_with fail
    refine (mul_no x y u v _ QV.out).mono ?_
    rintro e w2 ⟨rfl, hb⟩
    have P1 : Hid (B2 w2 (w1.heap.size) (.int .i64 x) (.int .i64 y)) := by
      have h0 := ((B2.new w1 (.int .i64 x) (.int .i64 y) 24).alloc (.cells #[.int .i64 u, .int .i64 v] 24)).below hb
      try simp only [size_alloc1] at h0
      exact h0
    have P2 : Hid (B2 w2 (w1.heap.size + 1) (.int .i64 u) (.int .i64 v)) := by
      have h0 := (B2.new (w1.alloc (.cells #[.int .i64 x, .int .i64 y] 24)) (.int .i64 u) (.int .i64 v) 24).below hb
      try simp only [size_alloc1] at h0
      exact h0
    have K2 := Lib.hid (kept_trans (kept_alloc (kept_alloc K.out _) _) hb)
    clear K hb
    have K := Lib.hid K2.out
    clear K2
    obtain ⟨c0, d0⟩ := P1.out
    have l0 := P1.out.lt
    obtain ⟨c1, d1⟩ := P2.out
    have l1 := P2.out.lt
    go_wp2_with fail
    refine (sMul_no x y u v _ QV.out).mono ?_
    rintro e w3 ⟨rfl, hb⟩
    have P3 := Lib.hid ((P1.out.alloc (.cells #[.int .i64 0, .int .i64 0] 24)).below hb)
    have P4 := Lib.hid ((P2.out.alloc (.cells #[.int .i64 0, .int .i64 0] 24)).below hb)
    have P5 : Hid (B2 w3 (w2.heap.size) (.int .i64 0) (.int .i64 0)) := by
      have h0 := (B2.new w2 (.int .i64 0) (.int .i64 0) 24).below hb
      try simp only [size_alloc1] at h0
      exact h0
    have K2 := Lib.hid (kept_trans (kept_alloc K.out _) hb)
    clear K hb P1 P2
    clear c0 d0 l0 c1 d1 l1
    have K := Lib.hid K2.out
    clear K2
    obtain ⟨c0, d0⟩ := P3.out
    have l0 := P3.out.lt
    obtain ⟨c1, d1⟩ := P4.out
    have l1 := P4.out.lt
    obtain ⟨c2, d2⟩ := P5.out
    have l2 := P5.out.lt
    go_wp2_with fail
    go_ret
    exact ⟨rfl, kept_alloc (K.out) _⟩

set_option maxRecDepth 100000 in
theorem lifted (os : Os) (started : os.Started) (H : Type) (enc : TypeId × Value → H) :
    ReturnsInHanded {} Try.checked os 7 .any (Rows.fnGaussMulOverSpec.pre6 enc Try.prog Try.f7 Rows.fnGaussMulOverRow.domain false) (Rows.fnGaussMulOverSpec.post enc Try.prog Try.f7 false true false false) := by
  refine returnsInHanded_of_change (C := Try.checked) own started (by kernel_rfl) Try.func7
    (ChangeSpec.witness6 (enc := enc) (C := Try.checked) false ⟨#[], #[.slice none 0 0], []⟩ 8 (by kernel_rfl) (by kernel_rfl) (by kernel_rfl) (by kernel_rfl)) ?_
  intro W base args ds gs before hval0 hW hcnd _
  have hval : ∀ (j : Nat) t v, Try.f7.params[j]? = some t → args[j]? = some v → Value.okWide Try.prog W .any base t v := hval0
  have hW' := hW
  obtain ⟨p, q, hA0, hV, rfl, hfz, hnd⟩ := hW
  have hA : DataW.TrodAll enc Try.prog W 0 (fun _ => true) true Try.f7.params.toList args.toList ds p := hA0
  rw [Try.params7] at hA hval
  obtain ⟨v0, vs0, d0, ds0, p0, q0, hargs, rfl, rfl, h0, r0⟩ := trodAll_cons hA
  obtain ⟨rfl, rfl, rfl⟩ := trodAll_nil r0
  obtain rfl : args = #[v0] := by cases args; simp_all
  obtain ⟨rfl, rfl⟩ := trodVars_none hV
  obtain ⟨a0, len0, cap0, rfl⟩ := okWide_slice Try.underlying22 (hval 0 22 v0 rfl rfl)
  have k0 := h0
  have lt0 : ∀ x ∈ p0, x.block < W.heap.size := by obtain ⟨m, hm⟩ := k0; exact DataW.trod_lt m _ _ _ hm
  obtain ⟨z0, w0⟩ : ∃ zs, IsRow .u8 W a0 len0 cap0 zs := by
    obtain ⟨fuel, hf⟩ := h0
    rcases open_ints Try.underlying22 Try.underlying5 (by kernel_rfl) hf with ⟨hcs, _⟩ | ⟨x, l, c, zs, hcs, _, hl, hm, hz, _, hcell, hwz⟩
    · simp [Value.cells] at hcs
      obtain ⟨rfl, rfl, rfl⟩ := hcs
      exact ⟨[], .inl ⟨rfl, rfl, rfl, rfl⟩⟩
    · simp [Value.cells] at hcs
      obtain ⟨rfl, rfl, rfl⟩ := hcs
      exact ⟨zs, .inr ⟨_, rfl, hl, hm, by simpa using hz, hcell, hwz⟩⟩
  clear hA0 hval0
  refine (walk a0 len0 cap0 z0 W w0).mono fun e W' ⟨he, bel⟩ => ?_
  subst he
  exact ⟨_, rfl, _, _, _, [], _, [], hW', trodAll_mk1 (shut_bool Try.underlying4 _), (trodAll_cons_mk (Below.trod laidOut (by kernel_rfl) (of_decide_eq_true (by kernel_rfl)) k0 bel lt0) trodAll_mk0), rfl, bel.frame _, fun h => by cases h⟩

theorem over : Rows.fnGaussMulOverRow.holds Try.pinned (OpenSpec.ofChange Rows.fnGaussMulOverSpec) :=
  OpenClaim.holds_of_wide 7 Try.f7 rfl rfl rfl rfl rfl rfl rfl ⟨rfl, rfl, rfl, rfl, rfl⟩ rfl rfl rfl rfl rfl (by kernel_rfl) Try.func7 (by kernel_rfl)
    (of_decide_eq_true (by kernel_rfl)) (by unfold Func.isWrapper; first | (rw [if_pos (by decide +kernel)]; kernel_rfl) | (rw [if_neg (by decide +kernel)]; exact ⟨rfl, rfl⟩))
    (fun os started H enc _ => lifted os started H enc)

/-- The statement. -/
theorem proved : Rows.FnGaussMulOverSaid := over
#print axioms proved
end Go.Proofs.Ythbhfakekpacoaa.fnGaussMulOver
