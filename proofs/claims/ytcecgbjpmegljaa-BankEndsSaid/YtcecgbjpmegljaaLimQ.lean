/- Rows made place by place, and the steps of limb.Num and limb.Mul, in plain words. No program here; no condition. -/
import Derived.Test.YtcecgbjpmegljaaLimP
namespace Go.Proofs.Ytcecgbjpmegljaa.Lm
open Go.RowKit

/-- n places, of which the first j are made. -/
def upto (f : Nat → Nat) (n j : Nat) : List Nat := (List.range n).map fun i => if i < j then f i else 0
theorem upto_len (f : Nat → Nat) (n j : Nat) : (upto f n j).length = n := by simp [upto]
theorem upto_zero (f : Nat → Nat) (n : Nat) : upto f n 0 = List.replicate n 0 := by
  apply List.ext_getElem <;> simp [upto]
theorem upto_set (f : Nat → Nat) (n j : Nat) : (upto f n j).set j (f j) = upto f n (j + 1) := by
  apply List.ext_getElem
  · simp [upto]
  · intro i h1 h2
    simp only [upto, List.getElem_set, List.getElem_map, List.getElem_range]
    by_cases e : j = i
    · subst e; simp
    · rw [if_neg e]
      by_cases h : i < j
      · rw [if_pos h, if_pos (by omega)]
      · rw [if_neg h, if_neg (by omega)]
theorem upto_all (f : Nat → Nat) (n : Nat) : upto f n n = (List.range n).map f := by
  apply List.ext_getElem
  · simp [upto]
  · intro i h1 h2
    simp only [upto, List.getElem_map, List.getElem_range]
    rw [if_pos (by simpa [upto] using h1)]
theorem dig_upto (b n v : Nat) : dig b n v = upto (fun i => v / b ^ i % b) n n := by
  rw [upto_all]
  apply List.ext_getElem
  · simp [dig_len]
  · intro i h1 h2
    have hi : i < n := by simpa using h2
    have := dig_get b n v i hi
    rw [List.getD, List.getElem?_eq_getElem h1] at this
    simpa using this
theorem getD_zeros (n k : Nat) : (List.replicate n 0).getD k 0 = 0 := by
  simp only [List.getD, List.getElem?_replicate]
  split <;> rfl
/-- A byte out of a limb. -/
theorem byte_limb (v j x : Nat) (hx : x = v / 18446744073709551616 ^ (j / 8) % 18446744073709551616) (e : 256 ^ j = 18446744073709551616 ^ (j / 8) * 2 ^ (8 * (j % 8))) : x / 2 ^ (8 * (j % 8)) % 256 = v / 256 ^ j % 256 := by
  rw [e, ← Nat.div_div_eq_div_mul, hx]
  generalize v / 18446744073709551616 ^ (j / 8) = y
  have h8 : j % 8 < 8 := Nat.mod_lt _ (by decide)
  generalize j % 8 = s at h8 ⊢
  have hB : (18446744073709551616 : Nat) = 2 ^ (8 * s) * (256 * 2 ^ (56 - 8 * s)) := by
    rw [show (256 : Nat) = 2 ^ 8 by rfl, show (18446744073709551616 : Nat) = 2 ^ 64 by rfl, ← Nat.pow_add, ← Nat.pow_add]
    congr 1
    omega
  rw [hB, Nat.mod_mul_right_div_self, Nat.mod_mul_right_mod]
/-- One step of a product. -/
theorem mul_bits (P o c : Nat) (hP : P ≤ 18446744073709551615 * 18446744073709551615) (ho : o < 18446744073709551616) (hc : c < 18446744073709551616) :
    ((P % 18446744073709551616 + o) % 18446744073709551616 + c) % 18446744073709551616 + 18446744073709551616 * (P / 18446744073709551616 + (P % 18446744073709551616 + o) / 18446744073709551616 + ((P % 18446744073709551616 + o) % 18446744073709551616 + c) / 18446744073709551616) = P + o + c ∧
    P / 18446744073709551616 + (P % 18446744073709551616 + o) / 18446744073709551616 + ((P % 18446744073709551616 + o) % 18446744073709551616 + c) / 18446744073709551616 < 18446744073709551616 := by omega
theorem mul_step (b i j x y o c lo hi V0 V V' Yj : Nat) (h : V + b ^ (i + j) * c = V0 + b ^ i * x * Yj) (hs : V' + b ^ (i + j) * o = V + b ^ (i + j) * lo) (hl : lo + b * hi = x * y + o + c) :
    V' + b ^ (i + (j + 1)) * hi = V0 + b ^ i * x * (Yj + b ^ j * y) := by
  have e1 : b ^ (i + (j + 1)) = b ^ (i + j) * b := by rw [← Nat.add_assoc, Nat.pow_succ]
  have e2 : b ^ i * x * (b ^ j * y) = b ^ (i + j) * (x * y) := by rw [Nat.pow_add]; grind
  have e3 : b ^ (i + j) * (lo + b * hi) = b ^ (i + j) * (x * y + o + c) := by rw [hl]
  rw [Nat.mul_add, e1, e2, Nat.mul_assoc]
  rw [Nat.mul_add, Nat.mul_add, Nat.mul_add] at e3
  omega
end Go.Proofs.Ytcecgbjpmegljaa.Lm
