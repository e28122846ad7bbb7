/- The document's Poly1305, in plain words. No program here; no condition. -/
import Derived.Test.YtdaaigodpglnnaaPolP
namespace Go.Proofs.Ytdaaigodpglnnaa.Po
open Go.RowKit Lm

/-! ### Rows by a rule, sums -/
def tabl (n : Nat) (f : Nat → Nat) : List Nat := (List.range n).map f
theorem tabl_len (n : Nat) (f : Nat → Nat) : (tabl n f).length = n := by simp [tabl]
theorem tabl_get (n : Nat) (f : Nat → Nat) (i : Nat) (h : i < n) : (tabl n f).getD i 0 = f i := by simp [tabl, List.getD, h]
theorem tabl_set (n : Nat) (f : Nat → Nat) (j x : Nat) : (tabl n f).set j x = tabl n (fun i => if i = j then x else f i) := by
  apply List.ext_getElem
  · simp [tabl]
  · intro i h1 h2
    simp only [tabl, List.getElem_set, List.getElem_map, List.getElem_range]
    by_cases e : j = i
    · rw [if_pos e, if_pos e.symm]
    · rw [if_neg e, if_neg (fun h => e h.symm)]
theorem tabl_congr (n : Nat) (f g : Nat → Nat) (h : ∀ i, i < n → f i = g i) : tabl n f = tabl n g := by
  apply List.map_congr_left
  intro i hi
  exact h i (by simpa using hi)
theorem tabl_of (n : Nat) (xs : List Nat) (h : xs.length = n) : xs = tabl n (fun i => xs.getD i 0) := by
  apply List.ext_getElem
  · rw [tabl_len, h]
  · intro i h1 h2
    simp [tabl, List.getD, h1]
theorem tabl_lt (n : Nat) (f : Nat → Nat) (b : Nat) (h : ∀ i, i < n → f i < b) : ∀ x ∈ tabl n f, x < b := by
  intro x hx
  simp only [tabl, List.mem_map, List.mem_range] at hx
  obtain ⟨i, hi, rfl⟩ := hx
  exact h i hi
theorem tabl_zero (n : Nat) : List.replicate n 0 = tabl n (fun _ => 0) := by
  apply List.ext_getElem <;> simp [tabl]
def sm : Nat → (Nat → Nat) → Nat
  | 0, _ => 0
  | n + 1, f => sm n f + f n
theorem sm_congr (n : Nat) (f g : Nat → Nat) (h : ∀ i, i < n → f i = g i) : sm n f = sm n g := by
  induction n with
  | zero => rfl
  | succ n ih => rw [sm, sm, ih (fun i hi => h i (by omega)), h n (by omega)]
theorem sm_add (n : Nat) (f g : Nat → Nat) : sm n (fun i => f i + g i) = sm n f + sm n g := by
  induction n with
  | zero => rfl
  | succ n ih => rw [sm, sm, sm, ih]; omega
theorem sm_mul (n c : Nat) (f : Nat → Nat) : sm n (fun i => c * f i) = c * sm n f := by
  induction n with
  | zero => rfl
  | succ n ih => rw [sm, sm, ih, Nat.mul_add]
theorem sm_zero (n : Nat) : sm n (fun _ => 0) = 0 := by
  induction n with
  | zero => rfl
  | succ n ih => rw [sm, ih]
theorem sm_comm (n k : Nat) (f : Nat → Nat → Nat) : sm n (fun i => sm k (fun j => f i j)) = sm k (fun j => sm n (fun i => f i j)) := by
  induction k with
  | zero => exact sm_zero n
  | succ k ih => simp only [sm]; rw [sm_add, ih]
theorem sm_le (n b : Nat) (f : Nat → Nat) (h : ∀ i, i < n → f i ≤ b) : sm n f ≤ n * b := by
  induction n with
  | zero => simp [sm]
  | succ n ih =>
    have h1 := ih (fun i hi => h i (by omega))
    have h2 := h n (by omega)
    rw [sm, Nat.succ_mul]
    omega
theorem sm_shift (n : Nat) (f : Nat → Nat) : sm (n + 1) f = f 0 + sm n (fun i => f (i + 1)) := by
  induction n with
  | zero => simp [sm]
  | succ n ih =>
    have e : sm (n + 1 + 1) f = sm (n + 1) f + f (n + 1) := rfl
    have e2 : sm (n + 1) (fun i => f (i + 1)) = sm n (fun i => f (i + 1)) + f (n + 1) := rfl
    rw [e, ih, e2]
    omega
theorem val_tabl (n : Nat) (f : Nat → Nat) : val 256 (tabl n f) = sm n (fun i => 256 ^ i * f i) := by
  induction n with
  | zero => rfl
  | succ n ih =>
    have e : tabl (n + 1) f = tabl n f ++ [f n] := by simp [tabl, List.range_succ]
    rw [e, val_append, ih, tabl_len, sm]
    simp [val]

/-! ### A pass of carrying -/
/-- What a pass makes of a number. -/
def pk (v : Nat) : List Nat := (dig 256 16 v).set 0 (v % 256 + 5 * (v / 2 ^ 130)) ++ [v / 256 ^ 16 % 4]
theorem pk_len (v : Nat) : (pk v).length = 17 := by simp [pk, dig_len]
theorem val_pk (v : Nat) : val 256 (pk v) = fold v := by
  have h := val_set 256 (dig 256 16 v) 0 (v % 256 + 5 * (v / 2 ^ 130)) (by rw [dig_len]; decide)
  rw [dig_get _ _ _ _ (by decide), val_dig] at h
  rw [pk, val_append, List.length_set, dig_len]
  unfold fold
  simp only [val, Nat.pow_zero, Nat.one_mul, Nat.div_one] at h ⊢
  omega
theorem pk_lt (v b : Nat) (hb : 256 ≤ b) (h : v % 256 + 5 * (v / 2 ^ 130) < b) : ∀ x ∈ pk v, x < b := by
  intro x hx
  rw [pk, List.mem_append, List.mem_singleton] at hx
  rcases hx with hx | rfl
  · exact lt_set (fun x hx => Nat.lt_of_lt_of_le (dig_lt 256 (by decide) 16 v x hx) hb) 0 _ h x hx
  · omega
theorem dig_snoc (b : Nat) : ∀ n v, dig b (n + 1) v = dig b n v ++ [v / b ^ n % b]
  | 0, v => by simp [dig]
  | n + 1, v => by
    rw [dig, dig_snoc b n, dig, List.cons_append, Nat.div_div_eq_div_mul, Nat.pow_succ, Nat.mul_comm b]
theorem dig_add (b : Nat) (hb : 0 < b) : ∀ n v x, dig b n (v + b ^ n * x) = dig b n v
  | 0, _, _ => rfl
  | n + 1, v, x => by
    rw [dig, dig]
    have e : b ^ (n + 1) * x = b * (b ^ n * x) := by rw [Nat.pow_succ, Nat.mul_comm (b ^ n) b, Nat.mul_assoc]
    rw [e, Nat.add_mul_mod_self_left, Nat.add_mul_div_left _ _ hb, dig_add b hb n]
theorem dig_mod (b : Nat) (hb : 0 < b) (n v : Nat) : dig b n (v % b ^ n) = dig b n v := by
  have h : v = v % b ^ n + b ^ n * (v / b ^ n) := (Nat.mod_add_div _ _).symm
  have h2 := dig_add b hb n (v % b ^ n) (v / b ^ n)
  rw [← h] at h2
  exact h2.symm
/-- The row in the midst of a pass: the first i places are carried. -/
def mid (hs : List Nat) (i : Nat) : List Nat := dig 256 i (val 256 (hs.take i)) ++ hs.drop i
theorem mid_zero (hs : List Nat) : mid hs 0 = hs := by simp [mid, dig]
theorem mid_len (hs : List Nat) (i : Nat) (h : i ≤ hs.length) : (mid hs i).length = hs.length := by simp [mid, dig_len]; omega
theorem mid_get (hs : List Nat) (i : Nat) : (mid hs i).getD i 0 = hs.getD i 0 := by
  simp only [mid, List.getD]
  rw [List.getElem?_append_right (by rw [dig_len]; exact Nat.le_refl _), dig_len, Nat.sub_self, List.getElem?_drop, Nat.add_zero]
theorem mid_step (hs : List Nat) (i u : Nat) (h : i < hs.length) (hu : u = val 256 (hs.take i) / 256 ^ i) :
    (mid hs i).set i ((u + hs.getD i 0) % 256) = mid hs (i + 1) ∧ (u + hs.getD i 0) / 256 = val 256 (hs.take (i + 1)) / 256 ^ (i + 1) := by
  have hv := val_take_succ 256 hs i h
  have hp : 0 < 256 ^ i := Nat.pow_pos (by decide)
  have hq : (val 256 (hs.take (i + 1))) / 256 ^ i = u + hs.getD i 0 := by rw [hv, Nat.add_mul_div_left _ _ hp, ← hu]
  constructor
  · rw [mid, mid, dig_snoc, hq, hv, dig_add 256 (by decide), List.set_append_right _ _ (by rw [dig_len]; exact Nat.le_refl _), dig_len, Nat.sub_self, List.append_assoc]
    congr 1
    rw [List.drop_eq_getElem_cons h, List.set_cons_zero]
    rfl
  · rw [← hq, Nat.pow_succ, Nat.div_div_eq_div_mul]
theorem mid_end (hs : List Nat) (u : Nat) (h : hs.length = 17) (hu : u = val 256 (hs.take 16) / 256 ^ 16) :
    ((mid hs 16).set 16 ((u + hs.getD 16 0) % 4)).set 0 (((mid hs 16).set 16 ((u + hs.getD 16 0) % 4)).getD 0 0 + 5 * ((u + hs.getD 16 0) / 4)) = pk (val 256 hs) := by
  have hv := val_take_succ 256 hs 16 (by omega)
  rw [List.take_of_length_le (show hs.length ≤ 16 + 1 by omega)] at hv
  have hp : 0 < 256 ^ 16 := by decide
  have hq : val 256 hs / 256 ^ 16 = u + hs.getD 16 0 := by rw [hv, Nat.add_mul_div_left _ _ hp, ← hu]
  have hd : mid hs 16 = dig 256 16 (val 256 hs) ++ [hs.getD 16 0] := by
    rw [mid, hv, dig_add 256 (by decide)]
    congr 1
    rw [List.drop_eq_getElem_cons (by omega : 16 < hs.length), List.drop_of_length_le (by omega)]
    simp [List.getD, show 16 < hs.length by omega]
  rw [hd, List.set_append_right _ _ (by rw [dig_len]; exact Nat.le_refl _), dig_len, Nat.sub_self, List.set_cons_zero, pk, hq]
  generalize u + hs.getD 16 0 = U at hq ⊢
  rw [List.set_append_left _ _ (by rw [dig_len]; decide)]
  congr 2
  have e1 : (dig 256 16 (val 256 hs) ++ [U % 4]).getD 0 0 = val 256 hs % 256 := by rw [dig, List.cons_append]; rfl
  rw [e1, show val 256 hs / 2 ^ 130 = U / 4 by rw [← hq, Nat.div_div_eq_div_mul]]
theorem val_le (b M : Nat) (hb : 2 ≤ b) : ∀ xs : List Nat, (∀ x ∈ xs, x ≤ M) → val b xs + M ≤ M * b ^ xs.length
  | [], _ => by simp [val]
  | x :: xs, h => by
    have h1 := h x (by simp)
    have h2 := val_le b M hb xs (fun y hy => h y (by simp [hy]))
    rw [val, List.length_cons, Nat.pow_succ]
    have h3 : b * (val b xs + M) ≤ b * (M * b ^ xs.length) := Nat.mul_le_mul_left b h2
    have h4 : 2 * M ≤ b * M := Nat.mul_le_mul_right M hb
    rw [Nat.mul_add] at h3
    have h5 : M * (b ^ xs.length * b) = b * (M * b ^ xs.length) := by rw [← Nat.mul_assoc, Nat.mul_comm]
    omega
theorem val17 (hs : List Nat) (hl : hs.length = 17) (h : ∀ x ∈ hs, x < 2 ^ 45) : val 256 hs < 2 ^ 181 := by
  have := val_le 256 (2 ^ 45 - 1) (by decide) hs (fun x hx => by have := h x hx; omega)
  rw [hl] at this
  omega
theorem fold_lt2 (v : Nat) (h : v < 2 ^ 181) : fold v < 2 ^ 131 := by unfold fold; omega
theorem fold_lt3 (v : Nat) (h : v < 2 ^ 131) : fold v < 2 ^ 130 + 10 ∧ fold (fold v) < 2 ^ 130 := by unfold fold; omega
theorem pk_big (v : Nat) (h : v < 2 ^ 181) : ∀ x ∈ pk v, x < 2 ^ 60 := pk_lt v _ (by decide) (by omega)
theorem pk_small (v : Nat) (h : v < 2 ^ 131) : ∀ x ∈ pk v, x < 266 := pk_lt v _ (by decide) (by omega)
theorem pk_dig (v : Nat) (h : v < 2 ^ 130) : pk v = dig 256 17 v := by
  have e : dig 256 17 v = dig 256 16 v ++ [v / 256 ^ 16 % 256] := dig_snoc 256 16 v
  have e2 : (dig 256 16 v).set 0 (v % 256) = dig 256 16 v := by rw [dig]; rfl
  rw [e, pk, show v / 2 ^ 130 = 0 by omega, Nat.mul_zero, Nat.add_zero, e2]
  congr 2
  omega

/-! ### The product -/
def rot (r : Nat → Nat) (j i : Nat) : Nat := if j ≤ i then r (i - j) else 320 * r (i + 17 - j)
theorem rot_step (r : Nat → Nat) (j : Nat) (h : j ≤ 16) : sm 17 (fun i => 256 ^ i * rot r (j + 1) i) + 64 * (2 ^ 130 - 5) * rot r j 16 = 256 * sm 17 (fun i => 256 ^ i * rot r j i) := by
  have e1 : sm 17 (fun i => 256 ^ i * rot r (j + 1) i) = 256 ^ 0 * rot r (j + 1) 0 + sm 16 (fun i => 256 ^ (i + 1) * rot r (j + 1) (i + 1)) := sm_shift 16 _
  have e2 : sm 16 (fun i => 256 ^ (i + 1) * rot r (j + 1) (i + 1)) = 256 * sm 16 (fun i => 256 ^ i * rot r j i) := by
    rw [← sm_mul]
    apply sm_congr
    intro i hi
    rw [Nat.pow_succ, Nat.mul_comm (256 ^ i) 256, Nat.mul_assoc]
    congr 2
    unfold rot
    by_cases hj : j ≤ i
    · rw [if_pos (by omega), if_pos hj]
      congr 1
      omega
    · rw [if_neg (by omega), if_neg hj]
      congr 2
      omega
  have e3 : sm 17 (fun i => 256 ^ i * rot r j i) = sm 16 (fun i => 256 ^ i * rot r j i) + 256 ^ 16 * rot r j 16 := rfl
  have e4 : rot r (j + 1) 0 = 320 * rot r j 16 := by
    unfold rot
    rw [if_neg (by omega), if_pos h]
    congr 2
    omega
  rw [e1, e2, e3, e4]
  omega
theorem rot_mod (r : Nat → Nat) : ∀ j, j ≤ 17 → sm 17 (fun i => 256 ^ i * rot r j i) % (2 ^ 130 - 5) = 256 ^ j * sm 17 (fun i => 256 ^ i * r i) % (2 ^ 130 - 5)
  | 0, _ => by
    rw [Nat.pow_zero, Nat.one_mul]
    refine congrArg (· % (2 ^ 130 - 5)) ?_
    apply sm_congr
    intro i _
    unfold rot
    rw [if_pos (Nat.zero_le _), Nat.sub_zero]
  | j + 1, h => by
    have ih := rot_mod r j (by omega)
    have hs := rot_step r j (by omega)
    have h1 : (256 * sm 17 (fun i => 256 ^ i * rot r j i)) % (2 ^ 130 - 5) = sm 17 (fun i => 256 ^ i * rot r (j + 1) i) % (2 ^ 130 - 5) := by
      rw [← hs]
      generalize 2 ^ 130 - 5 = P
      rw [Nat.mul_comm 64 P, Nat.mul_assoc, Nat.add_mul_mod_self_left]
    rw [← h1, Nat.mul_mod, ih, ← Nat.mul_mod, show 256 ^ (j + 1) = 256 * 256 ^ j from Nat.pow_succ', Nat.mul_assoc]
theorem sm_mod (P n : Nat) (f g : Nat → Nat) (h : ∀ i, i < n → f i % P = g i % P) : sm n f % P = sm n g % P := by
  induction n with
  | zero => rfl
  | succ n ih => rw [sm, sm, Nat.add_mod, ih (fun i hi => h i (by omega)), h n (by omega), ← Nat.add_mod]
/-- Place i of the product. -/
def conv (h r : Nat → Nat) (i : Nat) : Nat := sm 17 (fun j => h j * rot r j i)
theorem conv_mod (h r : Nat → Nat) : val 256 (tabl 17 (conv h r)) % (2 ^ 130 - 5) = val 256 (tabl 17 h) * val 256 (tabl 17 r) % (2 ^ 130 - 5) := by
  rw [val_tabl, val_tabl, val_tabl]
  have e1 : sm 17 (fun i => 256 ^ i * conv h r i) = sm 17 (fun j => h j * sm 17 (fun i => 256 ^ i * rot r j i)) := by
    have e2 : sm 17 (fun i => 256 ^ i * conv h r i) = sm 17 (fun i => sm 17 (fun j => h j * (256 ^ i * rot r j i))) := by
      apply sm_congr
      intro i _
      unfold conv
      rw [← sm_mul]
      apply sm_congr
      intro j _
      rw [← Nat.mul_assoc, Nat.mul_comm (256 ^ i), Nat.mul_assoc]
    rw [e2, sm_comm]
    apply sm_congr
    intro j _
    rw [sm_mul]
  rw [e1, sm_mod (2 ^ 130 - 5) 17 _ (fun j => h j * (256 ^ j * sm 17 (fun i => 256 ^ i * r i)))]
  · congr 1
    rw [Nat.mul_comm, ← sm_mul]
    apply sm_congr
    intro j _
    rw [Nat.mul_comm (256 ^ j), ← Nat.mul_assoc, Nat.mul_comm (h j), Nat.mul_assoc, Nat.mul_comm (h j)]
  · intro j hj
    rw [Nat.mul_mod, rot_mod r j (by omega), ← Nat.mul_mod]
theorem conv_lt (h r : Nat → Nat) (i : Nat) (hh : ∀ j, j < 17 → h j < 2 ^ 20) (hr : ∀ j, j < 17 → r j < 256) (hi : i < 17) : conv h r i < 2 ^ 45 := by
  have : conv h r i ≤ 17 * (2 ^ 20 * (320 * 256)) := sm_le _ _ _ (fun j hj => by
    refine Nat.mul_le_mul (Nat.le_of_lt (hh j hj)) ?_
    unfold rot
    split
    · have := hr (i - j) (by omega); omega
    · have := hr (i + 17 - j) (by omega); omega)
  omega
end Go.Proofs.Ytdaaigodpglnnaa.Po
