/- A number and another one are added byte by byte. No program here; no condition. -/
import Derived.Test.YtanjhngehfbpbaaDoorAgc
import Derived.Test.YtanjhngehfbpbaaDoorCvI
namespace Go.Proofs.YtanjhngehfbpbaaDoor.Ed
open Go.RowKit Lm Fp Cu Sc

def gcar (A B i : Nat) : Nat := (A % 256 ^ i + B % 256 ^ i) / 256 ^ i
def gdig (A B i j : Nat) : Nat := if j < i then (A + B) / 256 ^ j % 256 else A / 256 ^ j % 256
def gsum (R A B i : Nat) : List Int := n32 R ++ nar ((List.range 32).map (gdig A B i))
theorem gstep (A B i : Nat) : (A + B) / 256 ^ i = A / 256 ^ i + B / 256 ^ i + gcar A B i := by
  have hp : 0 < 256 ^ i := Nat.pow_pos (by decide)
  unfold gcar
  generalize 256 ^ i = M at hp ⊢
  have h1 := Nat.div_add_mod A M
  have h2 := Nat.div_add_mod B M
  have h3 : A + B = (A % M + B % M) + M * (A / M + B / M) := by rw [Nat.mul_add]; omega
  rw [h3, Nat.add_mul_div_left _ _ hp]
  omega
theorem gnext (A B i : Nat) : gcar A B (i + 1) = (gcar A B i + A / 256 ^ i % 256 + B / 256 ^ i % 256) / 256 ∧ (A + B) / 256 ^ i % 256 = (gcar A B i + A / 256 ^ i % 256 + B / 256 ^ i % 256) % 256 := by
  have h1 := gstep A B i
  have h2 := gstep A B (i + 1)
  have e : ∀ x : Nat, x / 256 ^ (i + 1) = x / 256 ^ i / 256 := fun x => by rw [Nat.pow_succ, Nat.div_div_eq_div_mul]
  rw [e, e, e] at h2
  generalize (A + B) / 256 ^ i = s at h1 h2 ⊢
  generalize A / 256 ^ i = a at h1 h2 ⊢
  generalize B / 256 ^ i = b at h1 h2 ⊢
  generalize gcar A B i = c at h1 h2 ⊢
  generalize gcar A B (i + 1) = d at h2 ⊢
  omega
theorem gcar_le (A B i : Nat) : gcar A B i ≤ 1 := by
  have hp : 0 < 256 ^ i := Nat.pow_pos (by decide)
  unfold gcar
  have h1 := Nat.mod_lt A hp
  have h2 := Nat.mod_lt B hp
  have : (A % 256 ^ i + B % 256 ^ i) / 256 ^ i < 2 := by rw [Nat.div_lt_iff_lt_mul hp]; omega
  omega
theorem gcar_zero (A B : Nat) : gcar A B 0 = 0 := by simp [gcar, Nat.mod_one]
theorem n32_range (a : Nat) : n32 a = nar ((List.range 32).map fun j => a / 256 ^ j % 256) := by
  unfold n32 nar
  congr 1
  apply List.ext_getElem
  · rw [dig_len, List.length_map, List.length_range]
  · intro i h1 h2
    rw [dig_len] at h1
    have := dig_get 256 32 a i h1
    rw [List.getD_eq_getElem?_getD, List.getElem?_eq_getElem (by rw [dig_len]; exact h1), Option.getD_some] at this
    rw [this, List.getElem_map, List.getElem_range]
theorem gsum_zero (R A B : Nat) : gsum R A B 0 = n32 R ++ n32 A := by
  rw [gsum, n32_range A]
  rfl
theorem gsum_end (R A B : Nat) : gsum R A B 32 = n32 R ++ n32 (A + B) := by
  have h : (List.range 32).map (gdig A B 32) = (List.range 32).map fun j => (A + B) / 256 ^ j % 256 := by
    apply List.map_congr_left
    intro j hj
    rw [List.mem_range] at hj
    rw [gdig, if_pos hj]
  rw [gsum, n32_range (A + B), h]
theorem gsum_len (R A B i : Nat) : (gsum R A B i).length = 64 := by
  rw [gsum, List.length_append, n32_len, nar_len, List.length_map, List.length_range]
theorem gsum_set (R A B i : Nat) (hi : i < 32) : (gsum R A B i).set (32 + i) (((A + B) / 256 ^ i % 256 : Nat) : Int) = gsum R A B (i + 1) := by
  unfold gsum
  rw [List.set_append_right _ _ (by rw [n32_len]; omega), n32_len, show 32 + i - 32 = i by omega]
  congr 1
  apply List.ext_getElem?
  intro j
  rw [List.getElem?_set]
  unfold nar
  by_cases hj : j < 32
  · simp only [List.getElem?_map, List.getElem?_range hj, List.length_map, List.length_range, Option.map_some]
    by_cases e : i = j
    · subst e
      rw [if_pos rfl, if_pos hj]
      unfold gdig
      rw [if_pos (by omega)]
      rfl
    · rw [if_neg e]
      unfold gdig
      by_cases h : j < i
      · rw [if_pos h, if_pos (by omega)]
      · rw [if_neg h, if_neg (by omega)]
  · rw [if_neg (by omega), List.getElem?_eq_none (by simp; omega), List.getElem?_eq_none (by simp; omega)]
theorem n32_get (a i : Nat) (hi : i < 32) : (n32 a).getD i 0 = ((a / 256 ^ i % 256 : Nat) : Int) := by
  rw [n32_range]
  unfold nar
  rw [List.getD_eq_getElem?_getD, List.getElem?_map, List.getElem?_map, List.getElem?_range hi]
  rfl
theorem sig_get (R A i : Nat) (hi : i < 32) : (n32 R ++ n32 A).getD (32 + i) 0 = ((A / 256 ^ i % 256 : Nat) : Int) := by
  rw [List.getD_eq_getElem?_getD, List.getElem?_append_right (by rw [n32_len]; omega), n32_len, show 32 + i - 32 = i by omega, ← List.getD_eq_getElem?_getD, n32_get _ _ hi]
def qB : List Int := [237, 211, 245, 92, 26, 99, 18, 88, 214, 156, 247, 162, 222, 249, 222, 20, 0, 0, 0, 0, 0, 0, 0, 0, 0, 0, 0, 0, 0, 0, 0, 16]
theorem qB_n32 : qB = n32 Sc.q := by decide +kernel
theorem qB_get (i : Nat) (hi : i < 32) : qB.getD i 0 = ((Sc.q / 256 ^ i % 256 : Nat) : Int) := by rw [qB_n32, n32_get _ _ hi]
/-- The number and q. -/
theorem gsum_sig (s : Nat) (b : List Int) : hnum ((gsum (esignR s b) (esignS s b) Sc.q 32).take 32) = esignR s b ∧ Sc.q ≤ hnum ((gsum (esignR s b) (esignS s b) Sc.q 32).drop 32) ∧ bytes (gsum (esignR s b) (esignS s b) Sc.q 32) := by
  have h1 : esignS s b < Sc.q := Nat.mod_lt _ (by decide +kernel)
  have h2 : esignS s b + Sc.q < 256 ^ 32 := Nat.lt_trans (show esignS s b + Sc.q < Sc.q + Sc.q by omega) (by decide +kernel)
  rw [gsum_end]
  refine ⟨?_, ?_, bytes_app (n32_bytes _) (n32_bytes _)⟩
  · rw [List.take_append_of_le_length (by rw [n32_len]; decide), List.take_of_length_le (by rw [n32_len]; decide), hnum_n32 (Sl.esignR_lt s b)]
  · rw [List.drop_append_of_le_length (by rw [n32_len]; decide), List.drop_of_length_le (by rw [n32_len]; decide), List.nil_append, hnum_n32 h2]
    omega
/-- Of a number that is as great as q, or greater. -/
theorem great_sum (s : Nat) (b c : List Int) (k : Nat) : everify k (hnum ((gsum (esignR s b) (esignS s b) Sc.q 32).take 32)) (hnum ((gsum (esignR s b) (esignS s b) Sc.q 32).drop 32)) c = false := great _ _ _ _ (gsum_sig s b).2.1
/-- A signature holds. -/
theorem holds_sig (s : Nat) (b : List Int) : everify (epub s) (hnum ((esign s b).take 32)) (hnum ((esign s b).drop 32)) b = true := by
  rw [Sl.esign_R, Sl.esign_S]
  exact holds s b
end Go.Proofs.YtanjhngehfbpbaaDoor.Ed
