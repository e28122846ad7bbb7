/- The document's numbers modulo p, sixteen digits to the base 65536, in plain words. No program here; no condition. -/
import Derived.Test.YtanjhngehfbpbaaDoorFdP
namespace Go.Proofs.YtanjhngehfbpbaaDoor.Rd
open Go.RowKit Lm Fp

/-! ### Rows of integers by a rule -/
def tb (n : Nat) (f : Nat → Int) : List Int := (List.range n).map f
theorem tb_len (n : Nat) (f : Nat → Int) : (tb n f).length = n := by simp [tb]
theorem tb_get (n : Nat) (f : Nat → Int) (i : Nat) (h : i < n) : (tb n f).getD i 0 = f i := by simp [tb, List.getD, h]
theorem tb_set (n : Nat) (f : Nat → Int) (j : Nat) (x : Int) : (tb n f).set j x = tb n (fun i => if i = j then x else f i) := by
  apply List.ext_getElem
  · simp [tb]
  · intro i h1 h2
    simp only [tb, List.getElem_set, List.getElem_map, List.getElem_range]
    by_cases e : j = i
    · rw [if_pos e, if_pos e.symm]
    · rw [if_neg e, if_neg (fun h => e h.symm)]
theorem tb_congr (n : Nat) (f g : Nat → Int) (h : ∀ i, i < n → f i = g i) : tb n f = tb n g := by
  apply List.map_congr_left
  intro i hi
  exact h i (by simpa using hi)
theorem tb_of (n : Nat) (xs : List Int) (h : xs.length = n) : xs = tb n (fun i => xs.getD i 0) := by
  apply List.ext_getElem
  · rw [tb_len, h]
  · intro i h1 h2
    simp [tb, List.getD, h1]
theorem tb_mem (n : Nat) (f : Nat → Int) (P : Int → Prop) (h : ∀ i, i < n → P (f i)) : ∀ x ∈ tb n f, P x := by
  intro x hx
  simp only [tb, List.mem_map, List.mem_range] at hx
  obtain ⟨i, hi, rfl⟩ := hx
  exact h i hi
theorem tb_zero (n : Nat) : List.replicate n 0 = tb n (fun _ => 0) := by
  apply List.ext_getElem <;> simp [tb]
def si : Nat → (Nat → Int) → Int
  | 0, _ => 0
  | n + 1, f => si n f + f n
theorem si_congr (n : Nat) (f g : Nat → Int) (h : ∀ i, i < n → f i = g i) : si n f = si n g := by
  induction n with
  | zero => rfl
  | succ n ih => rw [si, si, ih (fun i hi => h i (by omega)), h n (by omega)]
theorem si_add (n : Nat) (f g : Nat → Int) : si n (fun i => f i + g i) = si n f + si n g := by
  induction n with
  | zero => rfl
  | succ n ih => rw [si, si, si, ih]; omega
theorem si_sub (n : Nat) (f g : Nat → Int) : si n (fun i => f i - g i) = si n f - si n g := by
  induction n with
  | zero => rfl
  | succ n ih => rw [si, si, si, ih]; omega
theorem si_mul (n : Nat) (c : Int) (f : Nat → Int) : si n (fun i => c * f i) = c * si n f := by
  induction n with
  | zero => simp [si]
  | succ n ih => rw [si, si, ih, Int.mul_add]
theorem si_split (n m : Nat) (f : Nat → Int) : si (n + m) f = si n f + si m (fun i => f (n + i)) := by
  induction m with
  | zero => simp [si]
  | succ m ih => rw [Nat.add_succ, si, si, ih]; omega
/-- What a row of digits is worth. -/
def vi (xs : List Int) : Int := si xs.length (fun i => 65536 ^ i * xs.getD i 0)
theorem vi_tb (n : Nat) (f : Nat → Int) : vi (tb n f) = si n (fun i => 65536 ^ i * f i) := by
  unfold vi
  rw [tb_len]
  exact si_congr _ _ _ fun i hi => by rw [tb_get _ _ _ hi]
theorem si_set (n i : Nat) (f : Nat → Int) (v : Int) (hi : i < n) : si n (fun k => if k = i then v else f k) = si n f - f i + v := by
  induction n with
  | zero => omega
  | succ n ih =>
    rw [si, si]
    by_cases e : i = n
    · subst e
      rw [if_pos rfl, si_congr i _ f (fun k hk => by rw [if_neg (by omega)])]
      omega
    · rw [ih (by omega), if_neg (by omega)]
      omega
theorem vi_set (xs : List Int) (i : Nat) (v : Int) (hi : i < xs.length) : vi (xs.set i v) = vi xs + 65536 ^ i * (v - xs.getD i 0) := by
  rw [tb_of xs.length xs rfl, tb_set, vi_tb, vi_tb, tb_get _ _ _ hi]
  have := si_set xs.length i (fun k => 65536 ^ k * xs.getD k 0) (65536 ^ i * v) hi
  rw [si_congr _ (fun k => 65536 ^ k * if k = i then v else xs.getD k 0) (fun k => if k = i then 65536 ^ i * v else 65536 ^ k * xs.getD k 0) (fun k _ => by by_cases e : k = i <;> simp [e]), this, Int.mul_sub]
  omega

/-! ### A pass of carrying -/
/-- What is carried into a place. -/
def cr (xs : List Int) : Nat → Int
  | 0 => 0
  | j + 1 => (xs.getD j 0 + cr xs j) / 65536
def mid (xs : List Int) (i : Nat) : List Int := tb 16 fun j => if j < i then (xs.getD j 0 + cr xs j) % 65536 else if j = i then xs.getD j 0 + cr xs j else xs.getD j 0
def carry (xs : List Int) : List Int := tb 16 fun j => (xs.getD j 0 + cr xs j) % 65536 + if j = 0 then 38 * cr xs 16 else 0
theorem mid_zero (xs : List Int) (h : xs.length = 16) : mid xs 0 = xs := by
  refine Eq.trans (tb_congr _ _ _ fun i _ => ?_) (tb_of 16 xs h).symm
  rw [if_neg (by omega)]
  by_cases e : i = 0
  · subst e; rw [if_pos rfl, cr]; omega
  · rw [if_neg e]
theorem mid_get (xs : List Int) (i : Nat) (h : i < 16) : (mid xs i).getD i 0 = xs.getD i 0 + cr xs i := by
  rw [mid, tb_get _ _ _ h, if_neg (by omega), if_pos rfl]
theorem mid_next (xs : List Int) (i j : Nat) (h : j < 16) (hi : i < j) : (mid xs i).getD j 0 = xs.getD j 0 := by
  rw [mid, tb_get _ _ _ h, if_neg (by omega), if_neg (by omega)]
theorem mid_step (xs : List Int) (i : Nat) (x : Int) (h : i < 15) (hx : xs.getD i 0 + cr xs i = x) :
    ((mid xs i).set i (x % 65536)).set (i + 1) (xs.getD (i + 1) 0 + x / 65536) = mid xs (i + 1) := by
  subst hx
  rw [mid, tb_set, tb_set]
  refine tb_congr _ _ _ fun j hj => ?_
  by_cases e : j = i + 1
  · subst e
    rw [if_pos rfl, if_neg (by omega), if_pos rfl]
    rfl
  · rw [if_neg e]
    by_cases e2 : j = i
    · subst e2; rw [if_pos rfl, if_pos (by omega)]
    · rw [if_neg e2]
      by_cases e3 : j < i
      · rw [if_pos e3, if_pos (by omega)]
      · rw [if_neg e3, if_neg e2, if_neg (by omega), if_neg e]
theorem mid_first (xs : List Int) : ((mid xs 15).set 15 ((xs.getD 15 0 + cr xs 15) % 65536)).getD 0 0 = (xs.getD 0 0 + cr xs 0) % 65536 := by
  rw [mid, tb_set, tb_get _ _ _ (by omega), if_neg (by omega), if_pos (by omega)]
theorem mid_end (xs : List Int) (x : Int) (hx : xs.getD 15 0 + cr xs 15 = x) :
    ((mid xs 15).set 15 (x % 65536)).set 0 ((xs.getD 0 0 + cr xs 0) % 65536 + 38 * (x / 65536)) = carry xs := by
  subst hx
  rw [mid, tb_set, tb_set]
  refine tb_congr _ _ _ fun j hj => ?_
  by_cases e : j = 0
  · subst e
    rw [if_pos rfl, if_pos rfl]
    rfl
  · rw [if_neg e, if_neg e]
    by_cases e2 : j = 15
    · subst e2; rw [if_pos rfl]; omega
    · rw [if_neg e2, if_pos (by omega)]; omega
theorem carry_len (xs : List Int) : (carry xs).length = 16 := tb_len _ _
theorem tele (xs : List Int) (n : Nat) : si n (fun j => 65536 ^ j * ((xs.getD j 0 + cr xs j) % 65536)) = si n (fun j => 65536 ^ j * xs.getD j 0) - 65536 ^ n * cr xs n := by
  induction n with
  | zero => simp [si, cr]
  | succ n ih =>
    rw [si, si, ih, cr]
    have := Int.emod_add_mul_ediv (xs.getD n 0 + cr xs n) 65536
    generalize (xs.getD n 0 + cr xs n) / 65536 = d at this ⊢
    generalize (xs.getD n 0 + cr xs n) % 65536 = r at this ⊢
    have e : (65536 : Int) ^ (n + 1) = 65536 ^ n * 65536 := Int.pow_succ _ _
    have e2 : (65536 : Int) ^ n * (r + 65536 * d) = 65536 ^ n * (xs.getD n 0 + cr xs n) := by rw [this]
    rw [e]
    grind
theorem vi_carry (xs : List Int) (h : xs.length = 16) : vi (carry xs) = vi xs - (65536 ^ 16 - 38) * cr xs 16 := by
  have e : vi xs = si 16 (fun j => 65536 ^ j * xs.getD j 0) := by unfold vi; rw [h]
  rw [e, carry, vi_tb]
  have e1 : si 16 (fun i => 65536 ^ i * ((xs.getD i 0 + cr xs i) % 65536 + if i = 0 then 38 * cr xs 16 else 0)) = si 16 (fun i => 65536 ^ i * ((xs.getD i 0 + cr xs i) % 65536)) + si 16 (fun i => if i = 0 then 38 * cr xs 16 else 0) := by
    rw [← si_add]
    refine si_congr _ _ _ fun i _ => ?_
    by_cases e : i = 0
    · subst e; simp
    · simp [e]
  rw [e1, tele]
  have e2 : si 16 (fun i => if i = 0 then 38 * cr xs 16 else 0) = 38 * cr xs 16 := by
    rw [si_set 16 0 (fun _ => 0) _ (by decide)]
    have : si 16 (fun _ => (0 : Int)) = 0 := by decide
    rw [this]; omega
  rw [e2, Int.sub_mul]
  omega
theorem cr_bound (xs : List Int) (M C : Int) (hM : ∀ j, -M ≤ xs.getD j 0 ∧ xs.getD j 0 ≤ M) (hC : M + C ≤ 65536 * C) (h0 : 0 ≤ C) : ∀ j, -C ≤ cr xs j ∧ cr xs j ≤ C
  | 0 => by rw [cr]; omega
  | j + 1 => by
    have ih := cr_bound xs M C hM hC h0 j
    have := hM j
    rw [cr]
    omega
theorem getD_bound (xs : List Int) (M : Int) (h : ∀ x ∈ xs, -M ≤ x ∧ x ≤ M) (h0 : 0 ≤ M) (j : Nat) : -M ≤ xs.getD j 0 ∧ xs.getD j 0 ≤ M := by
  simp only [List.getD]
  cases e : xs[j]? with
  | none => simp; omega
  | some y => simpa using h y (List.mem_of_getElem? e)
/-- All digits but the first are digits; the first is at most D away. -/
def Near (D : Int) (xs : List Int) : Prop := xs.length = 16 ∧ (-D ≤ xs.getD 0 0 ∧ xs.getD 0 0 ≤ 65535 + D) ∧ ∀ j, 0 ≤ xs.getD (j + 1) 0 ∧ xs.getD (j + 1) 0 ≤ 65535
theorem tb_out (n : Nat) (f : Nat → Int) (j : Nat) (h : n ≤ j) : (tb n f).getD j 0 = 0 := by
  simp only [List.getD]
  rw [List.getElem?_eq_none (by rw [tb_len]; exact h)]
  rfl
theorem carry_near (xs : List Int) (C : Int) (h : -C ≤ cr xs 16 ∧ cr xs 16 ≤ C) : Near (38 * C) (carry xs) := by
  refine ⟨carry_len xs, ?_, fun j => ?_⟩
  · rw [carry, tb_get _ _ _ (by decide), if_pos rfl]
    omega
  · rw [carry]
    rcases Nat.lt_or_ge (j + 1) 16 with hj | hj
    · rw [tb_get _ _ _ hj, if_neg (by omega)]
      omega
    · rw [tb_out _ _ _ hj]
      omega
theorem carry_any (xs : List Int) (M C : Int) (hM : ∀ j, -M ≤ xs.getD j 0 ∧ xs.getD j 0 ≤ M) (hC : M + C ≤ 65536 * C) (h0 : 0 ≤ C) : Near (38 * C) (carry xs) := carry_near xs C (cr_bound xs M C hM hC h0 16)
/-- What a second pass carries. -/
theorem cr_near (xs : List Int) (D : Int) (h : Near D xs) (h0 : 0 ≤ D) (h1 : D ≤ 1099511627776) : ∀ j, 3 ≤ j → -1 ≤ cr xs j ∧ cr xs j ≤ 1 := by
  obtain ⟨_, h2, h3⟩ := h
  have c1 : cr xs 1 = (xs.getD 0 0 + 0) / 65536 := rfl
  have c2 : cr xs 2 = (xs.getD 1 0 + cr xs 1) / 65536 := rfl
  have q1 := h3 0
  intro j hj
  induction j with
  | zero => omega
  | succ j ih =>
    have qj := h3 (j - 1)
    rcases Nat.lt_or_ge j 3 with hlt | hge
    · obtain rfl : j = 2 := by omega
      rw [show (2 - 1 + 1 : Nat) = 2 from rfl] at qj
      rw [show (0 + 1 : Nat) = 1 from rfl] at q1
      rw [cr]
      omega
    · have := ih hge
      rw [show j - 1 + 1 = j by omega] at qj
      rw [cr]
      omega
theorem carry_twice (xs : List Int) (D : Int) (h : Near D xs) (h0 : 0 ≤ D) (h1 : D ≤ 1099511627776) : Near 38 (carry xs) := carry_near xs 1 (cr_near xs D h h0 h1 16 (by decide))
theorem near_mem {D : Int} {xs : List Int} (h : Near D xs) (h0 : 0 ≤ D) : ∀ x ∈ xs, -D ≤ x ∧ x ≤ 65535 + D := by
  intro x hx
  obtain ⟨i, hi, rfl⟩ := List.getElem_of_mem hx
  have e : xs[i] = xs.getD i 0 := by simp [List.getD, hi]
  rw [e]
  cases i with
  | zero => exact h.2.1
  | succ i => have := h.2.2 i; omega
/-- A third pass leaves digits. -/
theorem carry_third (xs : List Int) (h : Near 38 xs) : Near 0 (carry xs) := by
  have key : ∀ j, cr xs (j + 1) = 0 ∨ (cr xs (j + 1) = -1 ∧ xs.getD 0 0 < 0) ∨ (cr xs (j + 1) = 1 ∧ 65536 ≤ xs.getD 0 0) := by
    intro j
    induction j with
    | zero =>
      have c1 : cr xs (0 + 1) = (xs.getD 0 0 + 0) / 65536 := rfl
      have := h.2.1
      rw [c1]
      omega
    | succ j ih =>
      have c1 : cr xs (j + 1 + 1) = (xs.getD (j + 1) 0 + cr xs (j + 1)) / 65536 := rfl
      have := h.2.2 j
      rw [c1]
      omega
  have k16 := key 15
  have hf := h.2.1
  refine ⟨carry_len xs, ?_, fun j => ?_⟩
  · rw [carry, tb_get _ _ _ (by decide), if_pos rfl, cr]
    rw [show (15 + 1 : Nat) = 16 from rfl] at k16
    omega
  · have := (carry_near xs 1 (by rw [show (15 + 1 : Nat) = 16 from rfl] at k16; omega)).2.2 j
    exact this
theorem near_mono {D E : Int} {xs : List Int} (h : Near D xs) (hd : D ≤ E) : Near E xs := ⟨h.1, ⟨by have := h.2.1; omega, by have := h.2.1; omega⟩, h.2.2⟩

/-! ### Numbers modulo p -/
/-- The row xs stands for the number a below p. -/
def El (xs : List Int) (a : Nat) : Prop := xs.length = 16 ∧ (∀ x ∈ xs, -1048576 ≤ x ∧ x ≤ 1048576) ∧ vi xs % (p : Int) = (a : Int)
theorem pz : (0 : Int) < (p : Int) := by decide +kernel
theorem El.lt {xs : List Int} {a : Nat} (h : El xs a) : a < p := by
  have h1 := Int.emod_lt_of_pos (vi xs) pz
  rw [h.2.2] at h1
  omega
theorem top_p : (65536 : Int) ^ 16 - 38 = (p : Int) * 2 := by decide +kernel
theorem emod_sub_mul (x k : Int) : (x - (p : Int) * k) % (p : Int) = x % (p : Int) := by
  rw [show x - (p : Int) * k = x + (p : Int) * (-k) by grind, Int.add_mul_emod_self_left]
theorem carry_mod (xs : List Int) (h : xs.length = 16) : vi (carry xs) % (p : Int) = vi xs % (p : Int) := by
  rw [vi_carry xs h, top_p, Int.mul_assoc, emod_sub_mul]
theorem near_el {D : Int} {xs : List Int} (h : Near D xs) (h0 : 0 ≤ D) (h1 : D ≤ 900000) (a : Nat) (ha : vi xs % (p : Int) = (a : Int)) : El xs a :=
  ⟨h.1, fun x hx => by have := near_mem h h0 x hx; omega, ha⟩
theorem vi_len (n : Nat) (xs : List Int) (h : xs.length = n) : vi xs = si n (fun i => 65536 ^ i * xs.getD i 0) := by unfold vi; rw [h]
def sumr (xs ys : List Int) : List Int := tb 16 fun i => xs.getD i 0 + ys.getD i 0
def difr (xs ys : List Int) : List Int := tb 16 fun i => xs.getD i 0 - ys.getD i 0
theorem vi_sumr (xs ys : List Int) (hx : xs.length = 16) (hy : ys.length = 16) : vi (sumr xs ys) = vi xs + vi ys := by
  rw [sumr, vi_tb, vi_len 16 xs hx, vi_len 16 ys hy, ← si_add]
  exact si_congr _ _ _ fun i _ => Int.mul_add _ _ _
theorem vi_difr (xs ys : List Int) (hx : xs.length = 16) (hy : ys.length = 16) : vi (difr xs ys) = vi xs - vi ys := by
  rw [difr, vi_tb, vi_len 16 xs hx, vi_len 16 ys hy, ← si_sub]
  exact si_congr _ _ _ fun i _ => Int.mul_sub _ _ _
theorem tb_bound (n : Nat) (f : Nat → Int) (M : Int) (h : ∀ i, i < n → -M ≤ f i ∧ f i ≤ M) (h0 : 0 ≤ M) (j : Nat) : -M ≤ (tb n f).getD j 0 ∧ (tb n f).getD j 0 ≤ M :=
  getD_bound _ M (tb_mem n f (fun x => -M ≤ x ∧ x ≤ M) h) h0 j
theorem nat_mod (z : Int) (a : Nat) (h : z % (p : Int) = ((a : Nat) : Int) % (p : Int)) : z % (p : Int) = ((a % p : Nat) : Int) := by rw [h]; exact (Int.natCast_emod a p).symm
theorem El.add {xs ys : List Int} {a b : Nat} (hx : El xs a) (hy : El ys b) : El (carry (sumr xs ys)) (fadd a b) := by
  refine near_el (D := 38 * 33) (carry_any _ 2097152 33 (tb_bound _ _ _ (fun i _ => ?_) (by decide)) (by decide) (by decide)) (by decide) (by decide) _ ?_
  · have h1 := getD_bound xs 1048576 hx.2.1 (by decide) i
    have h2 := getD_bound ys 1048576 hy.2.1 (by decide) i
    omega
  · show vi (carry (sumr xs ys)) % (p : Int) = _
    rw [carry_mod _ (show (sumr xs ys).length = 16 from tb_len _ _), vi_sumr _ _ hx.1 hy.1]
    refine nat_mod _ _ ?_
    rw [Int.add_emod, hx.2.2, hy.2.2, Int.natCast_add]
theorem El.sub {xs ys : List Int} {a b : Nat} (hx : El xs a) (hy : El ys b) : El (carry (difr xs ys)) (fsub a b) := by
  refine near_el (D := 38 * 33) (carry_any _ 2097152 33 (tb_bound _ _ _ (fun i _ => ?_) (by decide)) (by decide) (by decide)) (by decide) (by decide) _ ?_
  · have h1 := getD_bound xs 1048576 hx.2.1 (by decide) i
    have h2 := getD_bound ys 1048576 hy.2.1 (by decide) i
    omega
  · show vi (carry (difr xs ys)) % (p : Int) = _
    rw [carry_mod _ (show (difr xs ys).length = 16 from tb_len _ _), vi_difr _ _ hx.1 hy.1]
    refine nat_mod _ _ ?_
    have hb := hy.lt
    rw [Int.sub_emod, hx.2.2, hy.2.2, show ((a + p - b : Nat) : Int) = ((a : Int) - (b : Int)) + (p : Int) * 1 by omega, Int.add_mul_emod_self_left]

/-! ### Products -/
def foldr (ts : List Int) : List Int := tb 16 fun i => if i < 15 then ts.getD i 0 + 38 * ts.getD (i + 16) 0 else ts.getD i 0
theorem foldr_mod (ts : List Int) (h : ts.length = 31) : vi (foldr ts) % (p : Int) = vi ts % (p : Int) := by
  have e1 : vi (foldr ts) = si 16 (fun i => 65536 ^ i * ts.getD i 0) + 38 * si 15 (fun i => 65536 ^ i * ts.getD (i + 16) 0) := by
    have a1 : si 16 (fun i => 65536 ^ i * ts.getD i 0) = si 15 (fun i => 65536 ^ i * ts.getD i 0) + 65536 ^ 15 * ts.getD 15 0 := rfl
    have a2 : si 16 (fun i => 65536 ^ i * (if i < 15 then ts.getD i 0 + 38 * ts.getD (i + 16) 0 else ts.getD i 0)) = si 15 (fun i => 65536 ^ i * (if i < 15 then ts.getD i 0 + 38 * ts.getD (i + 16) 0 else ts.getD i 0)) + 65536 ^ 15 * ts.getD 15 0 := rfl
    rw [foldr, vi_tb, a1, a2, ← si_mul, si_congr 15 (fun i => 65536 ^ i * (if i < 15 then ts.getD i 0 + 38 * ts.getD (i + 16) 0 else ts.getD i 0)) (fun i => 65536 ^ i * ts.getD i 0 + 38 * (65536 ^ i * ts.getD (i + 16) 0)) (fun i hi => by rw [if_pos hi]; grind), si_add]
    omega
  have e2 : vi ts = si 16 (fun i => 65536 ^ i * ts.getD i 0) + 65536 ^ 16 * si 15 (fun i => 65536 ^ i * ts.getD (i + 16) 0) := by
    rw [vi_len 31 ts h, show 31 = 16 + 15 from rfl, si_split, ← si_mul]
    congr 1
    refine si_congr _ _ _ fun i _ => ?_
    rw [Int.pow_add, Nat.add_comm 16 i]
    grind
  generalize si 15 (fun i => 65536 ^ i * ts.getD (i + 16) 0) = H at e1 e2
  have e3 := emod_sub_mul (vi ts) (2 * H)
  rw [show vi ts - (p : Int) * (2 * H) = vi (foldr ts) by rw [← Int.mul_assoc, ← top_p, e1, e2]; grind] at e3
  exact e3
theorem El.mul {xs ys ts : List Int} {a b : Nat} (hx : El xs a) (hy : El ys b) (hl : ts.length = 31) (hb : ∀ j, -17592186044416 ≤ ts.getD j 0 ∧ ts.getD j 0 ≤ 17592186044416) (hv : vi ts = vi xs * vi ys) :
    El (carry (carry (foldr ts))) (fmul a b) := by
  have n1 : Near (38 * 17180200000) (carry (foldr ts)) := carry_any _ 1125899906842624 17180200000 (tb_bound _ _ _ (fun i _ => by
    have h1 := hb i
    have h2 := hb (i + 16)
    split <;> omega) (by decide)) (by decide) (by decide)
  refine near_el (D := 38) (carry_twice _ _ n1 (by decide) (by decide)) (by decide) (by decide) _ ?_
  rw [carry_mod _ n1.1, carry_mod _ (show (foldr ts).length = 16 from tb_len _ _), foldr_mod _ hl, hv]
  refine nat_mod _ _ ?_
  rw [Int.mul_emod, hx.2.2, hy.2.2, Int.natCast_mul]
/-- One step of a product. -/
theorem prod_step (xs ys ts : List Int) (i k : Nat) (hi : i < 16) (hk : k < 16) (ht : ts.length = 31) (V : Int) (hV : vi ts = V + 65536 ^ i * xs.getD i 0 * si k (fun j => 65536 ^ j * ys.getD j 0)) :
    vi (ts.set (i + k) (ts.getD (i + k) 0 + xs.getD i 0 * ys.getD k 0)) = V + 65536 ^ i * xs.getD i 0 * si (k + 1) (fun j => 65536 ^ j * ys.getD j 0) := by
  rw [vi_set _ _ _ (by omega), hV, si, Int.pow_add]
  grind
theorem prod_bound (xs ys ts : List Int) (i k : Nat) (hx : ∀ j, -1048576 ≤ xs.getD j 0 ∧ xs.getD j 0 ≤ 1048576) (hy : ∀ j, -1048576 ≤ ys.getD j 0 ∧ ys.getD j 0 ≤ 1048576) (hi : i < 16) (hk : k < 16) (ht : ts.length = 31)
    (hb : ∀ n, -(1099511627776 * ((i : Int) + if i ≤ n ∧ n < i + k then 1 else 0)) ≤ ts.getD n 0 ∧ ts.getD n 0 ≤ 1099511627776 * ((i : Int) + if i ≤ n ∧ n < i + k then 1 else 0)) :
    (∀ n, -(1099511627776 * ((i : Int) + if i ≤ n ∧ n < i + (k + 1) then 1 else 0)) ≤ (ts.set (i + k) (ts.getD (i + k) 0 + xs.getD i 0 * ys.getD k 0)).getD n 0 ∧ (ts.set (i + k) (ts.getD (i + k) 0 + xs.getD i 0 * ys.getD k 0)).getD n 0 ≤ 1099511627776 * ((i : Int) + if i ≤ n ∧ n < i + (k + 1) then 1 else 0)) := by
  intro n
  have hp : -1099511627776 ≤ xs.getD i 0 * ys.getD k 0 ∧ xs.getD i 0 * ys.getD k 0 ≤ 1099511627776 := by
    have h1 := hx i
    have h2 := hy k
    generalize xs.getD i 0 = x at h1
    generalize ys.getD k 0 = y at h2
    have e := Int.natAbs_mul x y
    have a1 : x.natAbs ≤ 1048576 := by omega
    have a2 : y.natAbs ≤ 1048576 := by omega
    have := Nat.mul_le_mul a1 a2
    omega
  by_cases e : n = i + k
  · subst e
    have h := hb (i + k)
    have eg : (ts.set (i + k) (ts.getD (i + k) 0 + xs.getD i 0 * ys.getD k 0)).getD (i + k) 0 = ts.getD (i + k) 0 + xs.getD i 0 * ys.getD k 0 := by
      simp [List.getD, show i + k < ts.length by omega]
    rw [eg]
    rw [if_neg (by omega)] at h
    rw [if_pos (by omega)]
    omega
  · have h := hb n
    have eg : (ts.set (i + k) (ts.getD (i + k) 0 + xs.getD i 0 * ys.getD k 0)).getD n 0 = ts.getD n 0 := by
      simp only [List.getD]
      rw [List.getElem?_set_ne (fun e' => e e'.symm)]
    rw [eg]
    by_cases e2 : i ≤ n ∧ n < i + k
    · rw [if_pos e2] at h
      rw [if_pos (by omega)]
      exact h
    · rw [if_neg e2] at h
      rw [if_neg (by omega)]
      exact h
end Go.Proofs.YtanjhngehfbpbaaDoor.Rd
