/- Contracts at special arguments, for laws whose regions draw their order. -/
import Derived.Test.YtjaajohklkgegaaGh
import Derived.Test.YtjaajohklkgegaaGi
namespace Go.Proofs.Ytjaajohklkgegaa
open Go.RowKit
theorem B2.at {w : World} {n : Nat} {x y : Value} {t : TypeId} (h : w.heap.size = n) : B2 (w.alloc (.cells #[x, y] t)) n x y := by
  subst h; exact B2.new w x y t
theorem B2.drew {w : World} {n : Nat} {x y : Value} (h : B2 w n x y) : B2 w.drew n x y := h
theorem set_b2 {w : World} {n : Nat} {a b x y : Value} (h : B2 w n x y) :
    ((w.setCell ⟨n, 0, none⟩ a).setCell ⟨n, 1, none⟩ b).cell? ⟨n, 0, none⟩ = some a ∧ ((w.setCell ⟨n, 0, none⟩ a).setCell ⟨n, 1, none⟩ b).cell? ⟨n, 1, none⟩ = some b := set_one h.1 h.2
theorem B2.set {w : World} {n : Nat} {a b x y : Value} (h : B2 w n x y) : B2 ((w.setCell ⟨n, 0, none⟩ a).setCell ⟨n, 1, none⟩ b) n a b := set_one h.1 h.2
theorem B2.set_at {w : World} {n : Nat} {a b x y : Value} {t : TypeId} (h : w.heap.size = n) : B2 (((w.alloc (.cells #[x, y] t)).setCell ⟨n, 0, none⟩ a).setCell ⟨n, 1, none⟩ b) n a b := (B2.at h).set
theorem add_neg (a b : Int) : a + -b = a - b := by omega
theorem gauss_ex (x y : Int) (w : World) :
    Calls Try.prog 12 #[.int .i64 x, .int .i64 y] w fun e w' => e = .returned (.agg #[.int .i64 x, .int .i64 y]) ∧ w.alloc (.cells #[.int .i64 x, .int .i64 y] 24) = w' := by
  go_enter Try.func12, Try.ntmps12
  go_wp2
  exact bodyPost_ret (v := .agg #[.int .i64 x, .int .i64 y]) (by simp (maxDischargeDepth := 9) [results, Try.results12, go_sem]) rfl ⟨rfl, rfl⟩
theorem mul_neg (u v : Int) (w : World) (h : -1000000000 ≤ u ∧ u ≤ 1000000000 ∧ -1000000000 ≤ v ∧ v ≤ 1000000000) :
    Calls Try.prog 17 #[.agg #[.int .i64 u, .int .i64 v], .agg #[.int .i64 (-1), .int .i64 0]] w fun e w' => e = .returned (.tuple #[.agg #[.int .i64 (-u), .int .i64 (-v)], .bool true]) ∧ Below w.heap.size w w' := by
  have hc := mul_yes u v (-1) 0 w ⟨h, by omega, by omega⟩
  have e1 : u * -1 - v * 0 = -u := by omega
  have e2 : u * 0 + v * -1 = -v := by omega
  rw [e1, e2] at hc
  exact hc
end Go.Proofs.Ytjaajohklkgegaa
