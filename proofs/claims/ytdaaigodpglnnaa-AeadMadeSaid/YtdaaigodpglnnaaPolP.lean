/- Poly1305's numbers, in plain words. No program here; no condition. -/
import Derived.Test.YtdaaigodpglnnaaLimQ
namespace Go.Proofs.Ytdaaigodpglnnaa.Po
open Go.RowKit Lm

/-- A number of the same rest by 2^130 - 5. -/
def fold (v : Nat) : Nat := v % 2 ^ 130 + 5 * (v / 2 ^ 130)
theorem fold_mod (v : Nat) : fold v % (2 ^ 130 - 5) = v % (2 ^ 130 - 5) := by
  have h : v = fold v + (2 ^ 130 - 5) * (v / 2 ^ 130) := by unfold fold; omega
  have : (fold v + (2 ^ 130 - 5) * (v / 2 ^ 130)) % (2 ^ 130 - 5) = fold v % (2 ^ 130 - 5) := Nat.add_mul_mod_self_left _ _ _
  rw [← h] at this
  exact this.symm
theorem fold_lt (v : Nat) (h : v < 2 ^ 256) : fold v < 2 ^ 131 := by unfold fold; omega
theorem fold3 (v : Nat) (h : v < 2 ^ 131) : fold (fold (fold v)) < 2 ^ 130 := by unfold fold; omega
theorem val4 (a b c d : Nat) : val 18446744073709551616 [a, b, c, d] = a + 18446744073709551616 * b + 18446744073709551616 ^ 2 * c + 18446744073709551616 ^ 3 * d := by simp only [val]; omega
/-- What the code's fold adds. -/
theorem fold_code (a b c d p q : Nat) (ha : a < 18446744073709551616) (hb : b < 18446744073709551616) (hc : c < 18446744073709551616) (hd : d < 18446744073709551616) (hp : p = c / 4 + d % 4 * 4611686018427387904) (hq : q = d / 4) :
    p < 18446744073709551616 ∧
    (q * 5 / 18446744073709551616 + (q * 5 % 18446744073709551616 + p * 5 / 18446744073709551616) / 18446744073709551616 < 18446744073709551616) ∧
    (val 18446744073709551616 [a, b, c % 4, 0] + val 18446744073709551616 [p * 5 % 18446744073709551616, (q * 5 % 18446744073709551616 + p * 5 / 18446744073709551616) % 18446744073709551616, q * 5 / 18446744073709551616 + (q * 5 % 18446744073709551616 + p * 5 / 18446744073709551616) / 18446744073709551616, 0]) % 18446744073709551616 ^ 4 = fold (val 18446744073709551616 [a, b, c, d]) := by
  rw [val4, val4, val4]
  have hr : a + 18446744073709551616 * b + 18446744073709551616 ^ 2 * (c % 4) < 2 ^ 130 := by omega
  have hV : a + 18446744073709551616 * b + 18446744073709551616 ^ 2 * c + 18446744073709551616 ^ 3 * d = (a + 18446744073709551616 * b + 18446744073709551616 ^ 2 * (c % 4)) + 2 ^ 130 * (p + 18446744073709551616 * q) := by subst hp hq; omega
  have hp1 : p < 18446744073709551616 := by subst hp; omega
  have hq1 : q < 4611686018427387904 := by subst hq; omega
  unfold fold
  rw [hV, Nat.add_mul_mod_self_left, Nat.mod_eq_of_lt hr, Nat.add_mul_div_left _ _ (by decide), Nat.div_eq_of_lt hr, Nat.zero_add]
  clear hV hp hq
  generalize c % 4 = c4 at hr ⊢
  refine ⟨hp1, by omega, ?_⟩
  have e1 : p * 5 % 18446744073709551616 + 18446744073709551616 * ((q * 5 % 18446744073709551616 + p * 5 / 18446744073709551616) % 18446744073709551616) + 18446744073709551616 ^ 2 * (q * 5 / 18446744073709551616 + (q * 5 % 18446744073709551616 + p * 5 / 18446744073709551616) / 18446744073709551616) + 18446744073709551616 ^ 3 * 0 = 5 * (p + 18446744073709551616 * q) := by omega
  rw [e1, Nat.mul_zero, Nat.add_zero]
  exact Nat.mod_eq_of_lt (by omega)

/-! ### The key's first half, with the bits that fall -/
theorem and_split (k a b : Nat) : a &&& b = (a % 2 ^ k &&& b % 2 ^ k) + 2 ^ k * (a / 2 ^ k &&& b / 2 ^ k) := by
  have h1 : (a &&& b) % 2 ^ k = a % 2 ^ k &&& b % 2 ^ k := Nat.and_mod_two_pow
  have h2 : (a &&& b) / 2 ^ k = a / 2 ^ k &&& b / 2 ^ k := Nat.and_div_two_pow
  rw [← h1, ← h2]
  exact (Nat.mod_add_div _ _).symm
/-- The bits that stay. -/
def mask : Nat := 21267647620597763993911028882763415551
/-- The number of the key's first half. -/
def rv (ks : List Nat) : Nat := val 256 ks &&& mask
theorem rv_lt (ks : List Nat) : rv ks < 2 ^ 124 := Nat.lt_of_le_of_lt Nat.and_le_right (by decide)
theorem rv_code (ks : List Nat) (v : Nat) (hv : v = val 256 ks) : val 18446744073709551616 [v % 18446744073709551616 &&& 1152921487695413247, v / 18446744073709551616 % 18446744073709551616 &&& 1152921487695413244, 0, 0] = rv ks := by
  rw [val4, rv, and_split 64 (val 256 ks) mask, and_split 64 (val 256 ks / 2 ^ 64) (mask / 2 ^ 64), ← hv]
  rw [show mask % 2 ^ 64 = 1152921487695413247 by decide, show mask / 2 ^ 64 % 2 ^ 64 = 1152921487695413244 by decide, show mask / 2 ^ 64 / 2 ^ 64 = 0 by decide, Nat.and_zero, show (2 : Nat) ^ 64 = 18446744073709551616 by rfl]
  omega
def masks : List Nat := [255, 255, 255, 15, 252, 255, 255, 15, 252, 255, 255, 15, 252, 255, 255, 15]
theorem val_and : ∀ xs ms : List Nat, (∀ x ∈ xs, x < 256) → (∀ x ∈ ms, x < 256) → val 256 xs &&& val 256 ms = val 256 (List.zipWith (· &&& ·) xs ms)
  | [], _, _, _ => by simp [val]
  | _ :: _, [], _, _ => by simp [val]
  | x :: xs, m :: ms, hx, hm => by
    have h1 := hx x (by simp)
    have h2 := hm m (by simp)
    have ih := val_and xs ms (fun y hy => hx y (by simp [hy])) (fun y hy => hm y (by simp [hy]))
    rw [List.zipWith_cons_cons, val, val, val, ← ih, and_split 8]
    rw [show (2 : Nat) ^ 8 = 256 by rfl, Nat.add_mul_mod_self_left, Nat.add_mul_mod_self_left, Nat.mod_eq_of_lt h1, Nat.mod_eq_of_lt h2, Nat.add_mul_div_left _ _ (by decide), Nat.add_mul_div_left _ _ (by decide), Nat.div_eq_of_lt h1, Nat.div_eq_of_lt h2, Nat.zero_add, Nat.zero_add]
/-- The same, byte by byte. -/
theorem rv_bytes (ks : List Nat) (hb : ∀ x ∈ ks, x < 256) : rv ks = val 256 (List.zipWith (· &&& ·) ks masks) := by
  rw [← val_and ks masks hb (by decide)]
  rfl

/-! ### Digits of digits -/
theorem val_div (b : Nat) (hb : 0 < b) : ∀ (i : Nat) (xs : List Nat), (∀ x ∈ xs, x < b) → val b xs / b ^ i = val b (xs.drop i)
  | 0, xs, _ => by simp
  | i + 1, [], _ => by simp [val]
  | i + 1, x :: xs, h => by
    rw [Nat.pow_succ, Nat.mul_comm, ← Nat.div_div_eq_div_mul, val, Nat.add_mul_div_left _ _ hb, Nat.div_eq_of_lt (h x (by simp)), Nat.zero_add, List.drop_succ_cons]
    exact val_div b hb i xs (fun y hy => h y (by simp [hy]))
theorem val_mod (b : Nat) : ∀ (i : Nat) (xs : List Nat), (∀ x ∈ xs, x < b) → val b xs % b ^ i = val b (xs.take i)
  | 0, xs, _ => by simp [val, Nat.mod_one]
  | i + 1, [], _ => by simp [val]
  | i + 1, x :: xs, h => by
    rw [Nat.pow_succ, Nat.mul_comm, Nat.mod_mul, val, Nat.add_mul_mod_self_left, Nat.mod_eq_of_lt (h x (by simp)), Nat.add_mul_div_left _ _ (Nat.lt_of_le_of_lt (Nat.zero_le _) (h x (by simp))), Nat.div_eq_of_lt (h x (by simp)), Nat.zero_add, List.take_succ_cons, val]
    rw [val_mod b i xs (fun y hy => h y (by simp [hy]))]
theorem dig_take (b : Nat) : ∀ (n k v : Nat), (dig b (n + k) v).take n = dig b n v
  | 0, _, _ => by simp [dig]
  | n + 1, k, v => by
    rw [show n + 1 + k = (n + k) + 1 by omega, dig, dig, List.take_succ_cons, dig_take b n k]

/-! ### The sum -/
/-- What the first q blocks of sixteen sum up to. -/
def acc (r : Nat) (m : List Nat) : Nat → Nat
  | 0 => 0
  | q + 1 => (acc r m q + val 256 ((m.drop (16 * q)).take 16 ++ [1])) * r % (2 ^ 130 - 5)
/-- The document's tag. -/
def tagP (ks m : List Nat) : List Nat := dig 256 16 (acc (rv ks) m ((m.length + 15) / 16) + val 256 (ks.drop 16))
/-- One block in the code. -/
theorem turn_mod (h v r a : Nat) (hh : h % (2 ^ 130 - 5) = a) : fold ((h + v) * r) % (2 ^ 130 - 5) = (a + v) * r % (2 ^ 130 - 5) := by
  rw [fold_mod, Nat.mul_mod, Nat.add_mod, hh, Nat.mul_mod (a + v), Nat.add_mod a v]
  congr 3
  rw [← hh, Nat.mod_mod]
theorem turn_lt (h v r : Nat) (hh : h < 2 ^ 131) (hv : v < 2 ^ 129) (hr : r < 2 ^ 124) : (h + v) * r < 2 ^ 256 := by
  have h1 : h + v < 2 ^ 132 := by omega
  calc (h + v) * r ≤ 2 ^ 132 * r := Nat.mul_le_mul (by omega) (Nat.le_refl _)
    _ < 2 ^ 132 * 2 ^ 124 := Nat.mul_lt_mul_of_pos_left hr (by decide)
    _ = 2 ^ 256 := by decide
end Go.Proofs.Ytdaaigodpglnnaa.Po
