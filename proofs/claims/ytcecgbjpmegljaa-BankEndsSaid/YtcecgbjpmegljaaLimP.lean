/- Numbers as rows of digits, in plain words. No program here; no condition. -/
import Derived.Test.YtcecgbjpmegljaaLong
namespace Go.Proofs.Ytcecgbjpmegljaa.Lm
open Go.RowKit

/-- What a row of digits is worth, to the base b. -/
def val (b : Nat) : List Nat → Nat
  | [] => 0
  | x :: xs => x + b * val b xs
/-- The n lowest digits. -/
def dig (b : Nat) : Nat → Nat → List Nat
  | 0, _ => []
  | n + 1, v => v % b :: dig b n (v / b)
theorem dig_len (b : Nat) : ∀ n v, (dig b n v).length = n
  | 0, _ => rfl
  | n + 1, v => by simp [dig, dig_len b n]
theorem val_dig (b : Nat) : ∀ n v, val b (dig b n v) = v % b ^ n
  | 0, v => by simp [dig, val, Nat.mod_one]
  | n + 1, v => by
    rw [dig, val, val_dig b n, Nat.pow_succ, Nat.mul_comm (b ^ n) b, Nat.mod_mul]
theorem dig_lt (b : Nat) (hb : 0 < b) : ∀ n v, ∀ x ∈ dig b n v, x < b
  | 0, _, x, h => by simp [dig] at h
  | n + 1, v, x, h => by
    rw [dig, List.mem_cons] at h
    rcases h with rfl | h
    · exact Nat.mod_lt _ hb
    · exact dig_lt b hb n _ x h
theorem val_lt (b : Nat) : ∀ xs : List Nat, (∀ x ∈ xs, x < b) → val b xs < b ^ xs.length
  | [], _ => by simp [val]
  | x :: xs, h => by
    have h1 := h x (by simp)
    have h2 := val_lt b xs (fun y hy => h y (by simp [hy]))
    rw [val, List.length_cons, Nat.pow_succ]
    have h3 : b * (val b xs + 1) ≤ b * b ^ xs.length := Nat.mul_le_mul_left b h2
    rw [Nat.mul_comm (b ^ xs.length) b]
    rw [Nat.mul_add] at h3
    omega
theorem dig_val (b : Nat) (hb : 0 < b) : ∀ xs : List Nat, (∀ x ∈ xs, x < b) → dig b xs.length (val b xs) = xs
  | [], _ => rfl
  | x :: xs, h => by
    have h1 := h x (by simp)
    rw [List.length_cons, dig, val, Nat.add_mul_mod_self_left, Nat.mod_eq_of_lt h1, Nat.add_mul_div_left _ _ hb, Nat.div_eq_of_lt h1, Nat.zero_add, dig_val b hb xs (fun y hy => h y (by simp [hy]))]
theorem dig_eq (b : Nat) (hb : 0 < b) (n v : Nat) (xs : List Nat) (hl : xs.length = n) (h : ∀ x ∈ xs, x < b) (hv : val b xs = v) : xs = dig b n v := by
  subst hl hv
  exact (dig_val b hb xs h).symm
theorem dig_get (b : Nat) : ∀ n v i, i < n → (dig b n v).getD i 0 = v / b ^ i % b
  | 0, _, _, h => by omega
  | n + 1, v, 0, _ => by simp [dig]
  | n + 1, v, i + 1, h => by
    rw [dig, List.getD_cons_succ, dig_get b n _ i (by omega), Nat.div_div_eq_div_mul, Nat.pow_succ, Nat.mul_comm b]
theorem val_append (b : Nat) : ∀ xs ys : List Nat, val b (xs ++ ys) = val b xs + b ^ xs.length * val b ys
  | [], ys => by simp [val]
  | x :: xs, ys => by
    rw [List.cons_append, val, val, val_append b xs ys, List.length_cons, Nat.pow_succ]
    grind
theorem val_take_succ (b : Nat) (xs : List Nat) (i : Nat) (h : i < xs.length) : val b (xs.take (i + 1)) = val b (xs.take i) + b ^ i * xs.getD i 0 := by
  rw [List.take_succ_eq_append_getElem h, val_append]
  simp [val, List.getD, h, Nat.min_eq_left (Nat.le_of_lt h)]
theorem val_take_set (b : Nat) (xs : List Nat) (i v : Nat) (h : i < xs.length) : val b ((xs.set i v).take (i + 1)) = val b (xs.take i) + b ^ i * v := by
  rw [val_take_succ _ _ _ (by simpa using h), List.take_set_of_le (Nat.le_refl i)]
  simp [List.getD, h]
theorem val_set (b : Nat) : ∀ (xs : List Nat) (i v : Nat), i < xs.length → val b (xs.set i v) + b ^ i * xs.getD i 0 = val b xs + b ^ i * v
  | [], i, v, h => by simp at h
  | x :: xs, 0, v, _ => by
    simp [val]
    omega
  | x :: xs, i + 1, v, h => by
    have ih := val_set b xs i v (by simpa using h)
    rw [List.set_cons_succ, val, val, List.getD_cons_succ, Nat.pow_succ]
    grind
theorem val_zeros (b n : Nat) : val b (List.replicate n 0) = 0 := by
  induction n with
  | zero => rfl
  | succ n ih => rw [List.replicate_succ, val, ih]; simp
theorem lt_getD {b : Nat} {xs : List Nat} (h : ∀ x ∈ xs, x < b) (hb : 0 < b) (i : Nat) : xs.getD i 0 < b := by
  simp only [List.getD]
  cases e : xs[i]? with
  | none => simpa using hb
  | some y => simpa using h y (List.mem_of_getElem? e)
theorem lt_set {b : Nat} {xs : List Nat} (h : ∀ x ∈ xs, x < b) (i v : Nat) (hv : v < b) : ∀ x ∈ xs.set i v, x < b := by
  intro x hx
  rcases List.mem_or_eq_of_mem_set hx with h1 | rfl
  · exact h x h1
  · exact hv

/-- Digits as the model's integers. -/
def nar (xs : List Nat) : List Int := xs.map Int.ofNat
theorem nar_len (xs : List Nat) : (nar xs).length = xs.length := by simp [nar]
theorem nar_get (xs : List Nat) (i : Nat) : (nar xs).getD i 0 = ((xs.getD i 0 : Nat) : Int) := by
  simp only [nar, List.getD, List.getElem?_map]
  cases xs[i]? <;> rfl
theorem nar_set (xs : List Nat) (i v : Nat) : nar (xs.set i v) = (nar xs).set i (v : Int) := by simp [nar, List.map_set]
theorem nar_zeros (n : Nat) : nar (List.replicate n 0) = List.replicate n 0 := by simp [nar]
/-- Whatever integers that are none below nought are digits. -/
theorem nar_of (xs : List Int) (h : ∀ x ∈ xs, 0 ≤ x) : nar (xs.map Int.toNat) = xs := by
  induction xs with
  | nil => rfl
  | cons x xs ih =>
    have h1 := h x (by simp)
    rw [List.map_cons, nar, List.map_cons]
    rw [show List.map Int.ofNat (List.map Int.toNat xs) = xs from ih (fun y hy => h y (by simp [hy]))]
    congr 1
    exact Int.toNat_of_nonneg h1

/-- One step of a sum, digit by digit. -/
theorem add_step (b i X Y S x y c s c' : Nat) (h : S + b ^ i * c = X + Y) (hs : s + b * c' = x + y + c) : S + b ^ i * s + b ^ (i + 1) * c' = (X + b ^ i * x) + (Y + b ^ i * y) := by
  rw [Nat.pow_succ]
  have : b ^ i * (s + b * c') = b ^ i * (x + y + c) := by rw [hs]
  grind
/-- One step of a difference. -/
theorem sub_step (b i X Y S x y c s c' : Nat) (h : S + Y = X + b ^ i * c) (hs : s + y + c = x + b * c') : (S + b ^ i * s) + (Y + b ^ i * y) = (X + b ^ i * x) + b ^ (i + 1) * c' := by
  rw [Nat.pow_succ]
  have : b ^ i * (s + y + c) = b ^ i * (x + b * c') := by rw [hs]
  grind
end Go.Proofs.Ytcecgbjpmegljaa.Lm
