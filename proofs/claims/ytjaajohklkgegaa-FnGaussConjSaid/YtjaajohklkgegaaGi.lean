/- Identities of Gaussian integers, in plain integers. -/
import Derived.Test.YtjaajohklkgegaaLeaf
namespace Go.Proofs.Ytjaajohklkgegaa
theorem mul3R (x y u v : Int) : x * (u * 2 - v * -1) - y * (u * -1 + v * 2) = (x * u - y * v) * 2 - (x * v + y * u) * -1 := by grind
theorem mul3I (x y u v : Int) : x * (u * -1 + v * 2) + y * (u * 2 - v * -1) = (x * u - y * v) * -1 + (x * v + y * u) * 2 := by grind
theorem mulcR (x y u v : Int) : x * u - -y * -v = x * u - y * v := by grind
theorem mulcI (x y u v : Int) : x * -v + -y * u = -(x * v + y * u) := by grind
theorem muloR (x y u v : Int) : x * (u + 1) - y * (v + 1) = x * u - y * v + (x * 1 - y * 1) := by grind
theorem muloI (x y u v : Int) : x * (v + 1) + y * (u + 1) = x * v + y * u + (x * 1 + y * 1) := by grind
theorem normid (x y u v : Int) : (x * u - y * v) * (x * u - y * v) + (x * v + y * u) * (x * v + y * u) = (x * x + y * y) * (u * u + v * v) := by grind
theorem n3R (a b : Int) : a * 2 - b * -1 = a * 2 + b := by omega
theorem n3I (a b : Int) : a * -1 + b * 2 = -a + b * 2 := by omega
theorem n1R (a b : Int) : a * 1 - b * 1 = a - b := by omega
theorem n1I (a b : Int) : a * 1 + b * 1 = a + b := by omega
theorem mul3Rn (x y u v : Int) : x * (u * 2 + v) - y * (-u + v * 2) = (x * u - y * v) * 2 + (x * v + y * u) := by grind
theorem mul3In (x y u v : Int) : x * (-u + v * 2) + y * (u * 2 + v) = -(x * u - y * v) + (x * v + y * u) * 2 := by grind
theorem muloRn (x y u v : Int) : x * (u + 1) - y * (v + 1) = x * u - y * v + (x - y) := by grind
theorem muloIn (x y u v : Int) : x * (v + 1) + y * (u + 1) = x * v + y * u + (x + y) := by grind
theorem sq_nn0 (u : Int) : 0 ≤ u * u := by
  rcases Int.le_total 0 u with h | h
  · exact Int.mul_nonneg h h
  · have := Int.mul_nonneg (show 0 ≤ -u by omega) (show 0 ≤ -u by omega)
    rwa [Int.neg_mul_neg] at this
theorem sum_nn (u v : Int) : 0 ≤ u * u + v * v := by have := sq_nn0 u; have := sq_nn0 v; omega
theorem nn_mul (a b : Int) (ha : 0 ≤ a ∧ a ≤ 1000000000) (hb : 0 ≤ b ∧ b ≤ 1000000000) : 0 ≤ a * b ∧ a * b ≤ 1000000000000000000 := by
  refine ⟨Int.mul_nonneg ha.1 hb.1, ?_⟩
  have := Int.mul_le_mul ha.2 hb.2 hb.1 (by omega)
  omega
theorem mulcoR (x y u v : Int) : u * x - v * y = x * u - y * v := by grind
theorem mulcoI (x y u v : Int) : u * y + v * x = x * v + y * u := by grind
end Go.Proofs.Ytjaajohklkgegaa
