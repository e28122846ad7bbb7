/- Prime numbers by Pocklington's and Lucas' tests; Fermat's little theorem. No program here; no condition. Edwards' curve over a field of Fin n in which -1 is a square and d is none: the sum is whole, stays on the curve, and is a group's. No program here; no condition. Four numbers for a point; its multiples: a group of order q. No program here; no condition. The field of 2^255-19 as Fin: its laws, the curve as a group. No program here; no condition. The plain words of the curve are the group: sums, multiples, bytes. No program here; no condition. A ladder from 0, and from 1, leads to nothing. No program here; no condition. -/
import Derived.Test.YtogebegdgfdijaaFa
namespace Go.Proofs.Ytogebegdgfdijaa.Pri
def Pr (p : Nat) : Prop := 1 < p ∧ ∀ m, m ∣ p → m = 1 ∨ m = p
/-- The power by the highest k of 256 bits. -/
def pw (n a e : Nat) : Nat → Nat
  | 0 => 1
  | k + 1 => if e / 2 ^ (255 - k) % 2 = 1 then pw n a e k * pw n a e k % n * a % n else pw n a e k * pw n a e k % n
theorem pw_mod (n a e : Nat) (he : e < 2 ^ 256) : ∀ k, k ≤ 256 → pw n a e k % n = a ^ (e / 2 ^ (256 - k)) % n
  | 0, _ => by
    rw [Nat.sub_zero, Nat.div_eq_of_lt he]
    rfl
  | k + 1, hk => by
    have ih := pw_mod n a e he k (by omega)
    have h1 : 256 - k = (255 - k) + 1 := by omega
    have h2 : 256 - (k + 1) = 255 - k := by omega
    have h3 : e / 2 ^ (256 - k) = e / 2 ^ (255 - k) / 2 := by rw [h1, Nat.pow_succ, Nat.div_div_eq_div_mul]
    have h4 : pw n a e k * pw n a e k % n = a ^ (e / 2 ^ (255 - k) / 2 * 2) % n := by
      rw [Nat.mul_mod, ih, ← Nat.mul_mod, h3, ← Nat.pow_add]
      congr 2
      omega
    rw [h2]
    unfold pw
    split
    · rename_i hb
      rw [Nat.mod_mod, Nat.mul_mod, h4, Nat.mod_mod, ← Nat.mul_mod, ← Nat.pow_succ]
      congr 2
      omega
    · rename_i hb
      rw [Nat.mod_mod, h4]
      congr 2
      omega
theorem pw_full (n a e : Nat) (he : e < 2 ^ 256) : pw n a e 256 % n = a ^ e % n := by
  rw [pw_mod n a e he 256 (Nat.le_refl _)]
  simp

/-- As many boxes as letters. -/
theorem pigeon : ∀ (m d : Nat) (f : Nat → Nat), (∀ i, i < d → f i < m) → (∀ i j, i < j → j < d → f i ≠ f j) → d ≤ m
  | 0, d, f, h, _ => by
    rcases Nat.eq_zero_or_pos d with h0 | h0
    · omega
    · exact absurd (h 0 h0) (Nat.not_lt_zero _)
  | m + 1, d, f, h, hi => by
    by_cases hx : ∃ i, i < d ∧ f i = m
    · obtain ⟨i0, h0, e0⟩ := hx
      have := pigeon m (d - 1) (fun i => if i < i0 then f i else f (i + 1)) (fun i hid => by
        show (if i < i0 then f i else f (i + 1)) < m
        split
        · rename_i hlt
          have a1 := h i (by omega)
          have a2 := hi i i0 hlt h0
          omega
        · rename_i hlt
          have a1 := h (i + 1) (by omega)
          have a2 := hi i0 (i + 1) (by omega) (by omega)
          omega) (fun i j hij hj => by
        show (if i < i0 then f i else f (i + 1)) ≠ (if j < i0 then f j else f (j + 1))
        split <;> split
        · exact hi i j hij (by omega)
        · exact hi i (j + 1) (by omega) (by omega)
        · omega
        · exact hi (i + 1) (j + 1) (by omega) (by omega))
      omega
    · have := pigeon m d f (fun i hid => by
        have a1 := h i hid
        have a2 : f i ≠ m := fun e => hx ⟨i, hid, e⟩
        omega) hi
      omega

/-- The order. -/
def Ord (l a d : Nat) : Prop := 0 < d ∧ a ^ d % l = 1 ∧ ∀ e, 0 < e → e < d → a ^ e % l ≠ 1
theorem ord_ex (l a : Nat) : ∀ (n : Nat), 0 < n → a ^ n % l = 1 → ∃ d, Ord l a d := by
  intro n
  induction n using Nat.strongRecOn with
  | _ n ih =>
    intro hn h
    by_cases hx : ∃ e, 0 < e ∧ e < n ∧ a ^ e % l = 1
    · obtain ⟨e, e0, e1, e2⟩ := hx
      exact ih e e1 e0 e2
    · exact ⟨n, hn, h, fun e e0 e1 e2 => hx ⟨e, e0, e1, e2⟩⟩
theorem pow_mul_mod {l a d : Nat} (hl : 1 < l) (h : a ^ d % l = 1) (c : Nat) : a ^ (d * c) % l = 1 := by
  rw [Nat.pow_mul, Nat.pow_mod, h, Nat.one_pow, Nat.mod_eq_of_lt hl]
theorem Ord.dvd {l a d n : Nat} (hl : 1 < l) (o : Ord l a d) (h : a ^ n % l = 1) : d ∣ n := by
  rcases Nat.eq_zero_or_pos (n % d) with h0 | h0
  · exact Nat.dvd_of_mod_eq_zero h0
  · refine absurd ?_ (o.2.2 (n % d) h0 (Nat.mod_lt _ o.1))
    have e1 : a ^ n = a ^ (d * (n / d)) * a ^ (n % d) := by rw [← Nat.pow_add, Nat.div_add_mod]
    rw [e1, Nat.mul_mod, pow_mul_mod hl o.2.1, Nat.one_mul, Nat.mod_mod] at h
    exact h
theorem Ord.ne {l a d i j : Nat} (o : Ord l a d) (hij : i < j) (hj : j < d) : a ^ i % l ≠ a ^ j % l := by
  intro h
  refine o.2.2 (j - i) (by omega) (by omega) ?_
  have e1 : a ^ i * a ^ (d - i) % l = 1 := by rw [← Nat.pow_add, show i + (d - i) = d by omega]; exact o.2.1
  have e2 : a ^ j * a ^ (d - i) % l = a ^ (j - i) % l := by
    rw [← Nat.pow_add, show j + (d - i) = d + (j - i) by omega, Nat.pow_add, Nat.mul_mod, o.2.1, Nat.one_mul, Nat.mod_mod]
  rw [← e2, Nat.mul_mod, ← h, ← Nat.mul_mod, e1]
theorem Ord.pos {l a d : Nat} (hl : 1 < l) (o : Ord l a d) (i : Nat) : 0 < a ^ i % l := by
  rcases Nat.eq_zero_or_pos (a ^ i % l) with h | h
  · have h1 : a ^ (d * i) % l = 1 := pow_mul_mod hl o.2.1 i
    have h2 : a ^ (d * i) = a ^ i * a ^ ((d - 1) * i) := by
      rw [← Nat.pow_add]
      congr 1
      have : d = 1 + (d - 1) := by have := o.1; omega
      rw [this]
      simp [Nat.add_mul]
    rw [h2, Nat.mul_mod, h, Nat.zero_mul, Nat.zero_mod] at h1
    omega
  · exact h
theorem Ord.le {l a d : Nat} (hl : 1 < l) (o : Ord l a d) : d ≤ l - 1 :=
  pigeon (l - 1) d (fun i => a ^ i % l - 1) (fun i _ => by
    show a ^ i % l - 1 < l - 1
    have := Nat.mod_lt (a ^ i) (show l > 0 by omega)
    have := o.pos hl i
    omega) (fun i j hij hj => by
    show a ^ i % l - 1 ≠ a ^ j % l - 1
    have := o.ne hij hj
    have := o.pos hl i
    have := o.pos hl j
    omega)
def mul : List Nat → Nat
  | [] => 1
  | r :: rs => r * mul rs
theorem cop {r c : Nat} (hr : Pr r) (h : ¬ r ∣ c) : Nat.Coprime r c := by
  rcases hr.2 _ (Nat.gcd_dvd_left r c) with h1 | h1
  · exact h1
  · exact absurd (h1 ▸ Nat.gcd_dvd_right r c) h
theorem cop_mul {c : Nat} : ∀ (rs : List Nat), (∀ r ∈ rs, Nat.Coprime r c) → Nat.Coprime (mul rs) c
  | [], _ => Nat.gcd_one_left c
  | r :: rs, h => Nat.Coprime.mul_left (h r (List.mem_cons_self ..)) (cop_mul rs fun x hx => h x (List.mem_cons_of_mem _ hx))
/-- What both tests ask. -/
structure Test (N a : Nat) (rs : List Nat) : Prop where
  big : 1 < N
  lt : N - 1 < 2 ^ 256
  pr : ∀ r ∈ rs, Pr r
  dv : N - 1 = mul rs * ((N - 1) / mul rs)
  one : pw N a (N - 1) 256 % N = 1
  gc : ∀ r ∈ rs, Nat.gcd (pw N a ((N - 1) / r) 256 % N + (N - 1)) N = 1
theorem Test.ord {N a l : Nat} {rs : List Nat} (T : Test N a rs) (hl : 1 < l) (hd : l ∣ N) : ∃ d, Ord l a d ∧ mul rs ∣ d := by
  have hN : 0 < N := by have := T.big; omega
  have h1 : a ^ (N - 1) % l = 1 := by
    rw [← Nat.mod_mod_of_dvd _ hd, ← pw_full N a _ T.lt, T.one, Nat.mod_eq_of_lt hl]
  obtain ⟨d, o⟩ := ord_ex l a (N - 1) (by have := T.big; omega) h1
  refine ⟨d, o, ?_⟩
  obtain ⟨c, hc⟩ := o.dvd hl h1
  have hcop : Nat.Coprime (mul rs) c := cop_mul rs fun r hr => cop (T.pr r hr) fun hrc => by
    obtain ⟨c', rfl⟩ := hrc
    have hr0 : 0 < r := by have := (T.pr r hr).1; omega
    have e1 : (N - 1) / r = d * c' := by
      rw [hc, show d * (r * c') = r * (d * c') by rw [Nat.mul_left_comm], Nat.mul_div_cancel_left _ hr0]
    have e2 : pw N a ((N - 1) / r) 256 % N % l = 1 := by
      rw [pw_full N a _ (Nat.lt_of_le_of_lt (Nat.div_le_self _ _) T.lt), Nat.mod_mod_of_dvd _ hd, e1]
      exact pow_mul_mod hl o.2.1 c'
    have e3 : l ∣ pw N a ((N - 1) / r) 256 % N + (N - 1) := by
      apply Nat.dvd_of_mod_eq_zero
      obtain ⟨k, hk⟩ := hd
      rw [Nat.add_mod, e2, ← Nat.mod_eq_of_lt hl, ← Nat.add_mod, Nat.mod_eq_of_lt hl, show 1 + (N - 1) = N by omega, hk, Nat.mul_mod_right]
    have e4 : l ∣ 1 := T.gc r hr ▸ Nat.dvd_gcd e3 hd
    have := Nat.le_of_dvd (by decide) e4
    omega
  exact hcop.dvd_of_dvd_mul_right (hc ▸ ⟨_, T.dv⟩)
theorem Test.prime {N a : Nat} {rs : List Nat} (T : Test N a rs) (hF : N < (mul rs + 1) * (mul rs + 1)) : Pr N := by
  have key : ∀ l, 1 < l → l ∣ N → l * l ≤ N → False := by
    intro l hl hd hs
    obtain ⟨d, o, h⟩ := T.ord hl hd
    have h1 := Nat.le_of_dvd o.1 h
    have h2 := o.le hl
    have h3 : mul rs + 1 ≤ l := by omega
    have := Nat.mul_le_mul h3 h3
    omega
  have hN : 0 < N := by have := T.big; omega
  refine ⟨T.big, fun m hm => ?_⟩
  obtain ⟨k, hk⟩ := hm
  rcases Nat.eq_or_lt_of_le (Nat.one_le_iff_ne_zero.2 (show m ≠ 0 by rintro rfl; simp at hk; omega)) with h | hm1
  · exact Or.inl h.symm
  rcases Nat.eq_or_lt_of_le (Nat.one_le_iff_ne_zero.2 (show k ≠ 0 by rintro rfl; simp at hk; omega)) with h | hk1
  · right; rw [hk, ← h, Nat.mul_one]
  exfalso
  rcases Nat.le_total m k with h | h
  · exact key m hm1 ⟨k, hk⟩ (by rw [hk]; exact Nat.mul_le_mul_left _ h)
  · exact key k hk1 ⟨m, by rw [hk, Nat.mul_comm]⟩ (by rw [hk]; exact Nat.mul_le_mul_right _ h)
theorem Pr.dvd_mul {p a b : Nat} (h : Pr p) (hd : p ∣ a * b) : p ∣ a ∨ p ∣ b := by
  by_cases ha : p ∣ a
  · exact Or.inl ha
  · exact Or.inr ((cop h ha).dvd_of_dvd_mul_left hd)
/-- Fermat's little theorem, where a root is known. -/
theorem Test.fermat {N a : Nat} {rs : List Nat} (T : Test N a rs) (hF : mul rs = N - 1) (b : Nat) (hb : b % N ≠ 0) : b ^ (N - 1) % N = 1 := by
  have hN := T.big
  obtain ⟨d, o, h⟩ := T.ord T.big (Nat.dvd_refl N)
  rw [hF] at h
  have h1 := Nat.le_of_dvd o.1 h
  have h2 := o.le T.big
  have hd : d = N - 1 := by omega
  subst hd
  by_cases hx : ∃ i, i < N - 1 ∧ a ^ i % N = b % N
  · obtain ⟨i, _, hi⟩ := hx
    rw [Nat.pow_mod, ← hi, ← Nat.pow_mod, ← Nat.pow_mul, Nat.mul_comm]
    exact pow_mul_mod T.big o.2.1 i
  · exfalso
    have := pigeon (N - 1) N (fun i => if i < N - 1 then a ^ i % N - 1 else b % N - 1) (fun i hi => by
      show (if i < N - 1 then a ^ i % N - 1 else b % N - 1) < N - 1
      have := Nat.mod_lt (a ^ i) (show N > 0 by omega)
      have := Nat.mod_lt b (show N > 0 by omega)
      have := o.pos T.big i
      split <;> omega) (fun i j hij hj => by
      show (if i < N - 1 then a ^ i % N - 1 else b % N - 1) ≠ (if j < N - 1 then a ^ j % N - 1 else b % N - 1)
      rw [if_pos (show i < N - 1 by omega)]
      split
      · rename_i hjl
        have := o.ne hij hjl
        have := o.pos T.big i
        have := o.pos T.big j
        omega
      · have : a ^ i % N ≠ b % N := fun e => hx ⟨i, by omega, e⟩
        have := o.pos T.big i
        omega)
    omega
theorem trial {n k : Nat} (hn : 1 < n) (hk : n < k * k) (h : (List.range k).all (fun m => decide (m < 2) || n % m != 0) = true) : Pr n := by
  have key : ∀ m, 1 < m → m ∣ n → m * m ≤ n → False := by
    intro m h1 hd hs
    have hlt : m < k := by
      rcases Nat.lt_or_ge m k with h2 | h2
      · exact h2
      · have := Nat.mul_le_mul h2 h2
        omega
    have := List.all_eq_true.1 h m (List.mem_range.2 hlt)
    simp only [Bool.or_eq_true, decide_eq_true_eq, bne_iff_ne, ne_eq] at this
    rcases this with h3 | h3
    · omega
    · exact h3 (Nat.mod_eq_zero_of_dvd hd)
  refine ⟨hn, fun m hm => ?_⟩
  obtain ⟨c, hc⟩ := hm
  rcases Nat.eq_or_lt_of_le (Nat.one_le_iff_ne_zero.2 (show m ≠ 0 by rintro rfl; simp at hc; omega)) with h1 | hm1
  · exact Or.inl h1.symm
  rcases Nat.eq_or_lt_of_le (Nat.one_le_iff_ne_zero.2 (show c ≠ 0 by rintro rfl; simp at hc; omega)) with h1 | hk1
  · right; rw [hc, ← h1, Nat.mul_one]
  exfalso
  rcases Nat.le_total m c with h1 | h1
  · exact key m hm1 ⟨c, hc⟩ (by rw [hc]; exact Nat.mul_le_mul_left _ h1)
  · exact key c hk1 ⟨m, by rw [hc, Nat.mul_comm]⟩ (by rw [hc]; exact Nat.mul_le_mul_right _ h1)
set_option maxRecDepth 100000
theorem pr2 : Pr 2 := trial (k := 2) (by decide) (by decide) (by decide)
theorem pr3 : Pr 3 := trial (k := 2) (by decide) (by decide) (by decide)
theorem pr127 : Pr 127 := trial (k := 12) (by decide) (by decide) (by decide +kernel)
theorem pr4153 : Pr 4153 := trial (k := 65) (by decide) (by decide) (by decide +kernel)
theorem pr65147 : Pr 65147 := trial (k := 256) (by decide) (by decide) (by decide +kernel)
theorem pr430751 : Pr 430751 := trial (k := 657) (by decide) (by decide) (by decide +kernel)
theorem pr569003 : Pr 569003 := trial (k := 755) (by decide) (by decide) (by decide +kernel)
theorem pr8574133 : Pr 8574133 := trial (k := 2929) (by decide) (by decide) (by decide +kernel)
theorem prG : Pr 2773320623 := Test.prime (a := 5) (rs := [569003]) ⟨by decide, by decide +kernel, by simpa using pr569003, by decide +kernel, by decide +kernel, by decide +kernel⟩ (by decide +kernel)
theorem prC : Pr 31757755568855353 := Test.prime (a := 2) (rs := [4153, 430751]) ⟨by decide, by decide +kernel, by simpa using ⟨pr4153, pr430751⟩, by decide +kernel, by decide +kernel, by decide +kernel⟩ (by decide +kernel)
theorem prE : Pr 1919519569386763 := Test.prime (a := 2) (rs := [127, 8574133]) ⟨by decide, by decide +kernel, by simpa using ⟨pr127, pr8574133⟩, by decide +kernel, by decide +kernel, by decide +kernel⟩ (by decide +kernel)
theorem prD : Pr 72106336199 := Test.prime (a := 2) (rs := [2773320623]) ⟨by decide, by decide +kernel, by simpa using prG, by decide +kernel, by decide +kernel, by decide +kernel⟩ (by decide +kernel)
theorem prM : Pr 75445702479781427272750846543864801 := Test.prime (a := 2) (rs := [72106336199, 1919519569386763]) ⟨by decide, by decide +kernel, by simpa using ⟨prD, prE⟩, by decide +kernel, by decide +kernel, by decide +kernel⟩ (by decide +kernel)
theorem prB : Pr 74058212732561358302231226437062788676166966415465897661863160754340907 := Test.prime (a := 2) (rs := [31757755568855353, 75445702479781427272750846543864801]) ⟨by decide, by decide +kernel, by simpa using ⟨prC, prM⟩, by decide +kernel, by decide +kernel, by decide +kernel⟩ (by decide +kernel)
/-- The field's number. -/
def P0 : Nat := 57896044618658097711785492504343953926634992332820282019728792003956564819949
def fs : List Nat := [2, 2, 3, 65147, 74058212732561358302231226437062788676166966415465897661863160754340907]
theorem tP : Test P0 2 fs := ⟨by decide +kernel, by decide +kernel, by
  intro r hr
  simp only [fs, List.mem_cons, List.not_mem_nil, or_false] at hr
  rcases hr with rfl | rfl | rfl | rfl | rfl
  · exact pr2
  · exact pr2
  · exact pr3
  · exact pr65147
  · exact prB, by decide +kernel, by decide +kernel, by decide +kernel⟩
theorem prP : Pr P0 := tP.prime (by decide +kernel)
theorem fermat (b : Nat) (hb : b % P0 ≠ 0) : b ^ (P0 - 1) % P0 = 1 := tP.fermat (by decide +kernel) b hb
end Go.Proofs.Ytogebegdgfdijaa.Pri
namespace Go.Proofs.Ytogebegdgfdijaa.Ed
section
variable {n : Nat} [NeZero n]
/-- The curve. -/
def On (d x y : Fin n) : Prop := y*y = x*x + 1 + d*(x*x)*(y*y)
structure Fld (d : Fin n) : Prop where
  int : ∀ a b : Fin n, a * b = 0 → a = 0 ∨ b = 0
  im : ∃ i : Fin n, i * i = -1
  non : ∀ a b : Fin n, a * a = d * (b * b) → b = 0
  two : (2 : Fin n) ≠ 0
  one : (1 : Fin n) ≠ 0
theorem half (d x1 y1 x2 y2 i e : Fin n) (hi : i * i = -1) (h1 : On d x1 y1) (h2 : On d x2 y2) (he : d*x1*x2*y1*y2 = e) (hee : e * e = 1) :
    (i*x1 + e*y1)*(i*x1 + e*y1) = d*((i*(i*x1)*y1*(i*x2 + y2))*(i*(i*x1)*y1*(i*x2 + y2))) := by
  unfold On at *
  grind
theorem half' (d x1 y1 x2 y2 i e : Fin n) (hi : i * i = -1) (h1 : On d x1 y1) (h2 : On d x2 y2) (he : d*x1*x2*y1*y2 = e) (hee : e * e = 1) :
    (i*x1 - e*y1)*(i*x1 - e*y1) = d*((i*(i*x1)*y1*(i*x2 - y2))*(i*(i*x1)*y1*(i*x2 - y2))) := by
  unfold On at *
  grind
theorem no_unit {d x1 y1 x2 y2 e : Fin n} (F : Fld d) (h1 : On d x1 y1) (h2 : On d x2 y2) (he : d*x1*x2*y1*y2 = e) (hee : e * e = 1) : False := by
  obtain ⟨i, hi⟩ := F.im
  have a1 := F.non _ _ (half d x1 y1 x2 y2 i e hi h1 h2 he hee)
  have a2 := F.non _ _ (half' d x1 y1 x2 y2 i e hi h1 h2 he hee)
  have hxy : ¬ x1 * y1 = 0 := fun h => F.one (by
    have : e = d * x2 * y2 * (x1 * y1) := by rw [← he]; grind
    rw [h] at this
    grind)
  have b1 : (x1 * y1) * (i*x2 + y2) = 0 := by grind
  have b2 : (x1 * y1) * (i*x2 - y2) = 0 := by grind
  have c1 := (F.int _ _ b1).resolve_left hxy
  have c2 := (F.int _ _ b2).resolve_left hxy
  have c3 : 2 * y2 = 0 := by grind
  have c4 := (F.int _ _ c3).resolve_left F.two
  exact F.one (by rw [c4] at he; grind)
theorem whole {d x1 y1 x2 y2 : Fin n} (F : Fld d) (h1 : On d x1 y1) (h2 : On d x2 y2) : 1 + d*x1*x2*y1*y2 ≠ 0 ∧ 1 - d*x1*x2*y1*y2 ≠ 0 := by
  constructor
  · intro h
    exact no_unit F h1 h2 rfl (by grind)
  · intro h
    exact no_unit F h1 h2 rfl (by grind)
theorem closed (d x1 y1 x2 y2 u v : Fin n) (h1 : On d x1 y1) (h2 : On d x2 y2) (hu : (1 + d*x1*x2*y1*y2)*u = 1) (hv : (1 - d*x1*x2*y1*y2)*v = 1) : On d ((x1*y2+y1*x2)*u) ((y1*y2+x1*x2)*v) := by
  unfold On at *
  grind
set_option maxHeartbeats 4000000 in
theorem as_x (d x1 y1 x2 y2 x3 y3 : Fin n) (h1 : On d x1 y1) (h2 : On d x2 y2) (h3 : On d x3 y3) :
    ((x1*y2+y1*x2)*(1-d*x1*x2*y1*y2)*y3 + (y1*y2+x1*x2)*(1+d*x1*x2*y1*y2)*x3)*((1+d*x2*x3*y2*y3)*(1-d*x2*x3*y2*y3) + d*(x2*y3+y2*x3)*(y2*y3+x2*x3)*x1*y1) = (x1*(y2*y3+x2*x3)*(1+d*x2*x3*y2*y3) + y1*(x2*y3+y2*x3)*(1-d*x2*x3*y2*y3))*((1+d*x1*x2*y1*y2)*(1-d*x1*x2*y1*y2) + d*(x1*y2+y1*x2)*(y1*y2+x1*x2)*x3*y3) := by
  unfold On at *
  grind
set_option maxHeartbeats 4000000 in
theorem as_y (d x1 y1 x2 y2 x3 y3 : Fin n) (h1 : On d x1 y1) (h2 : On d x2 y2) (h3 : On d x3 y3) :
    ((y1*y2+x1*x2)*(1+d*x1*x2*y1*y2)*y3 + (x1*y2+y1*x2)*(1-d*x1*x2*y1*y2)*x3)*((1+d*x2*x3*y2*y3)*(1-d*x2*x3*y2*y3) - d*(x2*y3+y2*x3)*(y2*y3+x2*x3)*x1*y1) = (y1*(y2*y3+x2*x3)*(1+d*x2*x3*y2*y3) + x1*(x2*y3+y2*x3)*(1-d*x2*x3*y2*y3))*((1+d*x1*x2*y1*y2)*(1-d*x1*x2*y1*y2) - d*(x1*y2+y1*x2)*(y1*y2+x1*x2)*x3*y3) := by
  unfold On at *
  grind
/-- A way to divide. -/
def Inv (inv : Fin n → Fin n) : Prop := ∀ a : Fin n, a ≠ 0 → a * inv a = 1
def eadd (d : Fin n) (inv : Fin n → Fin n) (P Q : Fin n × Fin n) : Fin n × Fin n :=
  ((P.1*Q.2 + P.2*Q.1) * inv (1 + d*P.1*Q.1*P.2*Q.2), (P.2*Q.2 + P.1*Q.1) * inv (1 - d*P.1*Q.1*P.2*Q.2))
def OnP (d : Fin n) (P : Fin n × Fin n) : Prop := On d P.1 P.2
theorem cross {L R N N' D D' : Fin n} (hL : L * D = N) (hR : R * D' = N') (h : N * D' = N' * D) : (L - R) * (D * D') = 0 := by grind
theorem zsub {L R : Fin n} (h : L - R = 0) : L = R := by grind
theorem frac {d L R N N' D D' : Fin n} (F : Fld d) (hL : L * D = N) (hR : R * D' = N') (h : N * D' = N' * D) (hD : D ≠ 0) (hD' : D' ≠ 0) : L = R := by
  rcases F.int _ _ (cross hL hR h) with h2 | h2
  · exact zsub h2
  · rcases F.int _ _ h2 with h3 | h3
    · exact absurd h3 hD
    · exact absurd h3 hD'
theorem mul_ne {d a b : Fin n} (F : Fld d) (ha : a ≠ 0) (hb : b ≠ 0) : a * b ≠ 0 := fun h => (F.int _ _ h).elim ha hb
theorem on_add {d : Fin n} {inv : Fin n → Fin n} (F : Fld d) (I : Inv inv) {P Q : Fin n × Fin n} (h1 : OnP d P) (h2 : OnP d Q) : OnP d (eadd d inv P Q) := by
  obtain ⟨a, b⟩ := whole F h1 h2
  exact closed d P.1 P.2 Q.1 Q.2 _ _ h1 h2 (I _ a) (I _ b)
theorem cm1 (d a b c e : Fin n) : d*a*b*c*e = d*b*a*e*c := by grind
theorem cm2 (a b c e : Fin n) : a*b + c*e = e*c + b*a := by grind
theorem cm3 (a b c e : Fin n) : a*b + c*e = b*a + e*c := by grind
theorem add_comm {d : Fin n} {inv : Fin n → Fin n} (P Q : Fin n × Fin n) : eadd d inv P Q = eadd d inv Q P := by
  unfold eadd
  rw [cm1 d P.1 Q.1 P.2 Q.2, cm2 P.1 Q.2 P.2 Q.1, cm3 P.2 Q.2 P.1 Q.1]
theorem cl1 (d A B u v p m x y : Fin n) (hu : p*u = 1) (hv : m*v = 1) : p*m*(1 + d*(A*u)*x*(B*v)*y) = p*m + d*A*B*x*y := by grind
theorem cl2 (d A B u v p m x y : Fin n) (hu : p*u = 1) (hv : m*v = 1) : p*m*(1 + d*x*(A*u)*y*(B*v)) = p*m + d*A*B*x*y := by grind
theorem cl3 (d A B u v p m x y : Fin n) (hu : p*u = 1) (hv : m*v = 1) : p*m*(1 - d*(A*u)*x*(B*v)*y) = p*m - d*A*B*x*y := by grind
theorem cl4 (d A B u v p m x y : Fin n) (hu : p*u = 1) (hv : m*v = 1) : p*m*(1 - d*x*(A*u)*y*(B*v)) = p*m - d*A*B*x*y := by grind
theorem nm1 (A B u v p m x y w X : Fin n) (hu : p*u = 1) (hv : m*v = 1) (hw : X*w = 1) : ((A*u)*y + (B*v)*x)*w*(p*m*X) = A*m*y + B*p*x := by grind
theorem nm2 (A B u v p m x y w X : Fin n) (hu : p*u = 1) (hv : m*v = 1) (hw : X*w = 1) : (x*(B*v) + y*(A*u))*w*(p*m*X) = x*B*p + y*A*m := by grind
theorem nm3 (A B u v p m x y w X : Fin n) (hu : p*u = 1) (hv : m*v = 1) (hw : X*w = 1) : ((B*v)*y + (A*u)*x)*w*(p*m*X) = B*p*y + A*m*x := by grind
theorem add_assoc {d : Fin n} {inv : Fin n → Fin n} (F : Fld d) (I : Inv inv) {P Q R : Fin n × Fin n} (h1 : OnP d P) (h2 : OnP d Q) (h3 : OnP d R) : eadd d inv (eadd d inv P Q) R = eadd d inv P (eadd d inv Q R) := by
  have h12 := on_add F I h1 h2
  have h23 := on_add F I h2 h3
  obtain ⟨p1, m1⟩ := whole F h1 h2
  obtain ⟨p2, m2⟩ := whole F h2 h3
  obtain ⟨p3, m3⟩ := whole F h12 h3
  obtain ⟨p4, m4⟩ := whole F h1 h23
  obtain ⟨x1, y1⟩ := P
  obtain ⟨x2, y2⟩ := Q
  obtain ⟨x3, y3⟩ := R
  have u1 := I _ p1
  have v1 := I _ m1
  have u2 := I _ p2
  have v2 := I _ m2
  have u3 := I _ p3
  have v3 := I _ m3
  have u4 := I _ p4
  have v4 := I _ m4
  simp only [eadd] at *
  generalize inv (1 + d*x1*x2*y1*y2) = u at *
  generalize inv (1 - d*x1*x2*y1*y2) = v at *
  generalize inv (1 + d*x2*x3*y2*y3) = u' at *
  generalize inv (1 - d*x2*x3*y2*y3) = v' at *
  have k1 := as_x d x1 y1 x2 y2 x3 y3 h1 h2 h3
  have k2 := as_y d x1 y1 x2 y2 x3 y3 h1 h2 h3
  have q1 := mul_ne F (mul_ne F p1 m1) p3
  have q2 := mul_ne F (mul_ne F p2 m2) p4
  have q3 := mul_ne F (mul_ne F p1 m1) m3
  have q4 := mul_ne F (mul_ne F p2 m2) m4
  have e1 := cl1 d (x1*y2 + y1*x2) (y1*y2 + x1*x2) u v _ _ x3 y3 u1 v1
  have e2 := cl2 d (x2*y3 + y2*x3) (y2*y3 + x2*x3) u' v' _ _ x1 y1 u2 v2
  have e3 := cl3 d (x1*y2 + y1*x2) (y1*y2 + x1*x2) u v _ _ x3 y3 u1 v1
  have e4 := cl4 d (x2*y3 + y2*x3) (y2*y3 + x2*x3) u' v' _ _ x1 y1 u2 v2
  rw [← e1, ← e2] at k1
  rw [← e3, ← e4] at k2
  apply Prod.ext
  · exact frac F (nm1 _ _ _ _ _ _ _ _ _ _ u1 v1 u3) (nm2 _ _ _ _ _ _ _ _ _ _ u2 v2 u4) k1 q1 q2
  · exact frac F (nm3 _ _ _ _ _ _ _ _ _ _ u1 v1 v3) (nm2 _ _ _ _ _ _ _ _ _ _ u2 v2 v4) k2 q3 q4
theorem o1 (d a b : Fin n) : 1 + d*a*0*b*1 = 1 := by grind
theorem o2 (d a b : Fin n) : 1 - d*a*0*b*1 = 1 := by grind
theorem o3 (a b k : Fin n) (h : 1 * k = 1) : (a * 1 + b * 0) * k = a := by grind
theorem add_zero {d : Fin n} {inv : Fin n → Fin n} (I : Inv inv) (h1 : (1 : Fin n) ≠ 0) (P : Fin n × Fin n) : eadd d inv P (0, 1) = P := by
  have k := I 1 h1
  simp only [eadd]
  rw [o1, o2]
  exact Prod.ext (o3 _ _ _ k) (o3 _ _ _ k)
end
end Go.Proofs.Ytogebegdgfdijaa.Ed
namespace Go.Proofs.Ytogebegdgfdijaa.Ed
section
variable {n : Nat} [NeZero n]
theorem xa (a1 a2 b1 b2 z1 z2 : Fin n) : (a2*z1 + a1*z1)*(b2*z2 + b1*z2) - (a2*z1 - a1*z1)*(b2*z2 - b1*z2) = 2*z1*z2*(a1*b2 + a2*b1) := by grind
theorem xb (a1 a2 b1 b2 z1 z2 : Fin n) : (a2*z1 + a1*z1)*(b2*z2 + b1*z2) + (a2*z1 - a1*z1)*(b2*z2 - b1*z2) = 2*z1*z2*(a2*b2 + a1*b1) := by grind
theorem xc (d a1 a2 b1 b2 z1 z2 : Fin n) : z1*(z2+z2) - (a1*a2*z1)*(d+d)*(b1*b2*z2) = 2*z1*z2*(1 - d*a1*b1*a2*b2) := by grind
theorem xd (d a1 a2 b1 b2 z1 z2 : Fin n) : z1*(z2+z2) + (a1*a2*z1)*(d+d)*(b1*b2*z2) = 2*z1*z2*(1 + d*a1*b1*a2*b2) := by grind
theorem xe (w A u m p : Fin n) (h : p*u = 1) : (w*A)*(w*m) = (A*u)*((w*m)*(w*p)) := by grind
theorem xf (w B v m p : Fin n) (h : m*v = 1) : (w*p)*(w*B) = (B*v)*((w*m)*(w*p)) := by grind
theorem xg (w A B u v m p : Fin n) (h : p*u = 1) (h' : m*v = 1) : (w*A)*(w*B) = (A*u)*(B*v)*((w*m)*(w*p)) := by grind
/-- Four numbers that stand for a pair. -/
structure Ext (x y z t : Fin n) (A : Fin n × Fin n) : Prop where
  ez : z ≠ 0
  ex : x = A.1 * z
  ey : y = A.2 * z
  et : t = A.1 * A.2 * z
theorem Ext.add {d : Fin n} {inv : Fin n → Fin n} (F : Fld d) (I : Inv inv) {x1 y1 z1 t1 x2 y2 z2 t2 : Fin n} {A B : Fin n × Fin n} (hA : OnP d A) (hB : OnP d B)
    (E1 : Ext x1 y1 z1 t1 A) (E2 : Ext x2 y2 z2 t2 B) {a b c z : Fin n} (ha : a = (y1 - x1)*(y2 - x2)) (hb : b = (y1 + x1)*(y2 + x2)) (hc : c = t1*(d+d)*t2) (hz : z = z1*(z2+z2)) :
    Ext ((b - a)*(z - c)) ((z + c)*(b + a)) ((z - c)*(z + c)) ((b - a)*(b + a)) (eadd d inv A B) := by
  obtain ⟨p1, m1⟩ := whole F hA hB
  have u1 := I _ p1
  have v1 := I _ m1
  have n1 := E1.ez
  have n2 := E2.ez
  have e1 : b - a = 2*z1*z2*(A.1*B.2 + A.2*B.1) := by rw [ha, hb, E1.ex, E1.ey, E2.ex, E2.ey]; exact xa _ _ _ _ _ _
  have e2 : b + a = 2*z1*z2*(A.2*B.2 + A.1*B.1) := by rw [ha, hb, E1.ex, E1.ey, E2.ex, E2.ey]; exact xb _ _ _ _ _ _
  have e3 : z - c = 2*z1*z2*(1 - d*A.1*B.1*A.2*B.2) := by rw [hc, hz, E1.et, E2.et]; exact xc _ _ _ _ _ _ _
  have e4 : z + c = 2*z1*z2*(1 + d*A.1*B.1*A.2*B.2) := by rw [hc, hz, E1.et, E2.et]; exact xd _ _ _ _ _ _ _
  have hw : (2*z1*z2 : Fin n) ≠ 0 := mul_ne F (mul_ne F F.two n1) n2
  rw [e1, e2, e3, e4]
  exact ⟨mul_ne F (mul_ne F hw m1) (mul_ne F hw p1), xe _ _ _ _ _ u1, xf _ _ _ _ _ v1, xg _ _ _ _ _ _ _ u1 v1⟩
/-- k times, doubling and adding: as the addition is a group's. -/
def times (d : Fin n) (inv : Fin n → Fin n) (A : Fin n × Fin n) : Nat → Fin n × Fin n
  | 0 => (0, 1)
  | k + 1 => eadd d inv (times d inv A k) A
theorem on_zero (d : Fin n) : OnP d (0, 1) := by
  show (1:Fin n)*1 = 0*0 + 1 + d*(0*0)*(1*1)
  grind
theorem on_times {d : Fin n} {inv : Fin n → Fin n} (F : Fld d) (I : Inv inv) {A : Fin n × Fin n} (hA : OnP d A) : ∀ k, OnP d (times d inv A k)
  | 0 => on_zero d
  | k + 1 => on_add F I (on_times F I hA k) hA
theorem times_add {d : Fin n} {inv : Fin n → Fin n} (F : Fld d) (I : Inv inv) {A : Fin n × Fin n} (hA : OnP d A) (j : Nat) : ∀ k, times d inv A (j + k) = eadd d inv (times d inv A j) (times d inv A k)
  | 0 => (add_zero I F.one _).symm
  | k + 1 => by
    show eadd d inv (times d inv A (j + k)) A = eadd d inv _ (eadd d inv (times d inv A k) A)
    rw [times_add F I hA j k, add_assoc F I (on_times F I hA j) (on_times F I hA k) hA]
theorem zero_add {d : Fin n} {inv : Fin n → Fin n} (F : Fld d) (I : Inv inv) (A : Fin n × Fin n) : eadd d inv (0, 1) A = A := by
  rw [add_comm]; exact add_zero I F.one A
theorem times_mul {d : Fin n} {inv : Fin n → Fin n} (F : Fld d) (I : Inv inv) {A : Fin n × Fin n} (hA : OnP d A) (j : Nat) : ∀ k, times d inv A (j * k) = times d inv (times d inv A j) k
  | 0 => rfl
  | k + 1 => by
    show times d inv A (j * k + j) = eadd d inv (times d inv (times d inv A j) k) _
    rw [times_add F I hA, times_mul F I hA j k]
theorem times_zero {d : Fin n} {inv : Fin n → Fin n} (F : Fld d) (I : Inv inv) : ∀ k, times d inv (0, 1) k = (0, 1)
  | 0 => rfl
  | k + 1 => by
    show eadd d inv (times d inv (0, 1) k) (0, 1) = (0, 1)
    rw [times_zero F I k, add_zero I F.one]
/-- A point of order q: the multiples go by the rest. -/
theorem times_mod {d : Fin n} {inv : Fin n → Fin n} (F : Fld d) (I : Inv inv) {A : Fin n × Fin n} (hA : OnP d A) {q : Nat} (hq : times d inv A q = (0, 1)) (k : Nat) : times d inv A (k % q) = times d inv A k := by
  have h : times d inv A k = eadd d inv (times d inv A (q * (k / q))) (times d inv A (k % q)) := by
    rw [← times_add F I hA, Nat.div_add_mod]
  rw [h, times_mul F I hA, hq, times_zero F I, zero_add F I]
end
end Go.Proofs.Ytogebegdgfdijaa.Ed
namespace Go.Proofs.Ytogebegdgfdijaa.Ed
open Pri
abbrev K := Fin P0
instance : NeZero P0 := ⟨by decide +kernel⟩
theorem P0_pos : 0 < P0 := by decide +kernel
/-- A number as one of the field. -/
def toK (x : Nat) : K := Fin.ofNat P0 x
theorem to_val (x : Nat) : (toK x).val = x % P0 := rfl
theorem to_mod (x : Nat) : toK (x % P0) = toK x := Fin.ext (by rw [to_val, to_val, Nat.mod_mod])
theorem val_to (a : K) : toK a.val = a := Fin.ext (by rw [to_val]; exact Nat.mod_eq_of_lt a.isLt)
theorem to_add (x y : Nat) : toK (x + y) = toK x + toK y := Fin.ext (by rw [Fin.val_add, to_val, to_val, to_val, ← Nat.add_mod])
theorem to_mul (x y : Nat) : toK (x * y) = toK x * toK y := Fin.ext (by rw [Fin.val_mul, to_val, to_val, to_val, ← Nat.mul_mod])
theorem to_sub {x y : Nat} (h : y < P0) : toK (x + P0 - y) = toK x - toK y := by
  have h1 : toK (x + P0 - y) + toK y = toK x := by
    rw [← to_add, show x + P0 - y + y = x + P0 by omega]
    exact Fin.ext (by rw [to_val, to_val, Nat.add_mod_right])
  grind
theorem to_eq {x y : Nat} : toK x = toK y ↔ x % P0 = y % P0 := ⟨fun h => by have := congrArg Fin.val h; rwa [to_val, to_val] at this, fun h => Fin.ext h⟩
theorem to_zero {x : Nat} : toK x = 0 ↔ x % P0 = 0 := by
  rw [show (0 : K) = toK 0 from rfl, to_eq, Nat.zero_mod]
theorem int {a b : K} (h : a * b = 0) : a = 0 ∨ b = 0 := by
  rw [← val_to a, ← val_to b, ← to_mul, to_zero] at h
  rcases prP.dvd_mul (Nat.dvd_of_mod_eq_zero h) with h1 | h1
  · left; rw [← val_to a]; exact to_zero.2 (Nat.mod_eq_zero_of_dvd h1)
  · right; rw [← val_to b]; exact to_zero.2 (Nat.mod_eq_zero_of_dvd h1)
def D0 : Nat := 37095705934669439343138083508754565189542113879843219016388785533085940283555
def I0 : Nat := 19681161376707505956807079304988542015446066515923890162744021073123829784752
def H0 : Nat := (P0 - 1) / 2
theorem d_half : D0 ^ H0 % P0 = P0 - 1 := by
  rw [← pw_full P0 D0 H0 (by decide +kernel)]
  decide +kernel
theorem non {a b : K} (h : a * a = toK D0 * (b * b)) : b = 0 := by
  rcases Classical.em (b = 0) with hb | hb
  · exact hb
  exfalso
  have hb' : b.val % P0 ≠ 0 := fun e => hb (by rw [← val_to b]; exact to_zero.2 e)
  have e1 : (a.val * a.val) % P0 = (D0 * (b.val * b.val)) % P0 := by
    rw [← to_eq, to_mul, to_mul, to_mul, val_to, val_to]; exact h
  have e2 : (a.val * a.val) ^ H0 % P0 = (D0 * (b.val * b.val)) ^ H0 % P0 := by
    rw [Nat.pow_mod, e1, ← Nat.pow_mod]
  have h2 : H0 + H0 = P0 - 1 := by decide +kernel
  rw [Nat.mul_pow, Nat.mul_pow, Nat.mul_pow, ← Nat.pow_add, ← Nat.pow_add, h2, Nat.mul_mod, d_half, fermat _ hb', Nat.mul_one, Nat.mod_eq_of_lt (show P0 - 1 < P0 by decide +kernel)] at e2
  by_cases ha : a.val % P0 = 0
  · rw [Nat.pow_mod, ha, Nat.zero_pow (by decide +kernel)] at e2
    exact absurd e2 (by decide +kernel)
  · rw [fermat _ ha] at e2
    exact absurd e2 (by decide +kernel)
theorem fld : Fld (toK D0) where
  int _ _ h := int h
  im := ⟨toK I0, by decide +kernel⟩
  non _ _ h := non h
  two := by decide +kernel
  one := by decide +kernel
/-- The inverse. -/
def inv (a : K) : K := toK (a.val ^ (P0 - 2))
theorem inv_ok : Inv inv := by
  intro a ha
  have h1 : a.val % P0 ≠ 0 := fun e => ha (by rw [← val_to a]; exact to_zero.2 e)
  unfold inv
  rw [← congrArg (· * toK (a.val ^ (P0 - 2))) (val_to a)]
  show toK a.val * toK (a.val ^ (P0 - 2)) = 1
  rw [← to_mul, Nat.mul_comm, ← Nat.pow_succ, show (P0 - 2).succ = P0 - 1 by decide +kernel]
  show toK _ = toK 1
  rw [to_eq, fermat _ h1]
  decide +kernel
end Go.Proofs.Ytogebegdgfdijaa.Ed
namespace Go.Proofs.Ytogebegdgfdijaa.Ed
open Go.RowKit Lm Fp Cu Pri

theorem p_is : Fp.p = P0 := rfl
theorem to_fadd (x y : Nat) : toK (fadd x y) = toK x + toK y := by rw [fadd, p_is, to_mod, to_add]
theorem to_fmul (x y : Nat) : toK (fmul x y) = toK x * toK y := by rw [fmul, p_is, to_mod, to_mul]
theorem to_fsub (x : Nat) {y : Nat} (h : y < Fp.p) : toK (fsub x y) = toK x - toK y := by rw [fsub, p_is, to_mod, to_sub h]
/-- A point's numbers stand for a pair. -/
structure Is (P : Pt) (A : K × K) : Prop where
  ok : P.Ok
  ext : Ext (toK P.x) (toK P.y) (toK P.z) (toK P.t) A
abbrev add (A B : K × K) : K × K := eadd (toK D0) inv A B
abbrev on (A : K × K) : Prop := OnP (toK D0) A
abbrev tm (A : K × K) (k : Nat) : K × K := times (toK D0) inv A k
theorem d_is : dd = D0 := rfl
theorem Is.add {P Q : Pt} {A B : K × K} (hP : Is P A) (hQ : Is Q B) (hA : on A) (hB : on B) : Is (Cu.eadd P Q) (add A B) := by
  refine ⟨eadd_ok P Q, ?_⟩
  have h := Ext.add fld inv_ok hA hB hP.ext hQ.ext rfl rfl rfl rfl
  simp only [Cu.eadd, to_fmul, to_fadd, to_fsub _ (fmul_lt _ _), to_fsub _ hP.ok.x, to_fsub _ hQ.ok.x, d_is]
  exact h
theorem Is.nought : Is nought (0, 1) := ⟨nought_ok, ⟨by decide +kernel, by decide +kernel, by decide +kernel, by decide +kernel⟩⟩
theorem Is.mul {P : Pt} {A : K × K} (hP : Is P A) (hA : on A) (k : Nat) (hk : k < 2 ^ 256) : ∀ n, n ≤ 256 → Is (emul P k n) (tm A (k / 2 ^ (256 - n)))
  | 0, _ => by
    rw [Nat.sub_zero, Nat.div_eq_of_lt hk]
    exact Is.nought
  | n + 1, hn => by
    have ih := Is.mul hP hA k hk n (by omega)
    have ho := on_times fld inv_ok hA (k / 2 ^ (256 - n))
    have h2 := ih.add ih ho ho
    have h1 : 256 - n = (255 - n) + 1 := by omega
    have h3 : k / 2 ^ (256 - n) = k / 2 ^ (255 - n) / 2 := by rw [h1, Nat.pow_succ, Nat.div_div_eq_div_mul]
    rw [show 256 - (n + 1) = 255 - n by omega]
    rw [show Ed.add (tm A (k / 2 ^ (256 - n))) (tm A (k / 2 ^ (256 - n))) = tm A (k / 2 ^ (256 - n) + k / 2 ^ (256 - n)) from (times_add fld inv_ok hA _ _).symm, h3] at h2
    unfold emul
    split
    · rename_i hb
      have e : k / 2 ^ (255 - n) = k / 2 ^ (255 - n) / 2 + k / 2 ^ (255 - n) / 2 + 1 := by omega
      rw [e]
      exact h2.add hP (on_times fld inv_ok hA _) hA
    · rename_i hb
      have e : k / 2 ^ (255 - n) = k / 2 ^ (255 - n) / 2 + k / 2 ^ (255 - n) / 2 := by omega
      rw [e]
      exact h2
theorem Is.mul_full {P : Pt} {A : K × K} (hP : Is P A) (hA : on A) (k : Nat) (hk : k < 2 ^ 256) : Is (emul P k 256) (tm A k) := by
  have h := hP.mul hA k hk 256 (Nat.le_refl _)
  rwa [show 256 - 256 = 0 from rfl, Nat.pow_zero, Nat.div_one] at h
/-- The base. -/
def B0 : K × K := (toK bx, toK bY)
theorem Is.base : Is base B0 := ⟨base_ok, ⟨by decide +kernel, by decide +kernel, by decide +kernel, by decide +kernel⟩⟩
theorem on_base : on B0 := by
  show toK bY * toK bY = toK bx * toK bx + 1 + toK D0 * (toK bx * toK bx) * (toK bY * toK bY)
  decide +kernel
theorem Ext.zero {x y z t : K} {A : K × K} (h : Ext x y z t A) (hx : x = 0) (hy : y = z) : A = (0, 1) := by
  have h1 : A.1 * z = 0 := by rw [← h.ex, hx]
  have h2 : (A.2 - 1) * z = 0 := by
    have := h.ey
    rw [hy] at this
    grind
  refine Prod.ext ((int h1).resolve_right h.ez) ?_
  have := (int h2).resolve_right h.ez
  show A.2 = 1
  grind
set_option maxRecDepth 100000 in
theorem base_q : tm B0 Sc.q = (0, 1) := by
  have h := Is.base.mul_full on_base Sc.q (by decide +kernel)
  have e : (emul base Sc.q 256).x = 0 ∧ (emul base Sc.q 256).y = (emul base Sc.q 256).z := by decide +kernel
  exact h.ext.zero (by rw [e.1]; rfl) (by rw [e.2])
/-- The base's multiples go by the rest. -/
theorem base_mod (k : Nat) : tm B0 (k % Sc.q) = tm B0 k := times_mod fld inv_ok on_base base_q k
end Go.Proofs.Ytogebegdgfdijaa.Ed
namespace Go.Proofs.Ytogebegdgfdijaa.Ed
open Go.RowKit Lm Fp Cu Pri

def LtP (s : La) : Prop := s.a < p ∧ s.b < p ∧ s.c < p ∧ s.d < p
theorem lstep_lt (x : Nat) (s : La) : LtP (lstep x s) := ⟨fmul_lt _ _, fmul_lt _ _, fmul_lt _ _, fmul_lt _ _⟩
theorem swap_lt {s : La} (h : LtP s) (b : Nat) : LtP (s.swap b) := by
  unfold La.swap
  split
  · exact ⟨h.2.2.1, h.2.2.2, h.1, h.2.1⟩
  · exact h
theorem lstep_k (x : Nat) (s : La) (h : LtP s) :
    toK (lstep x s).a = (toK s.a + toK s.b) * (toK s.a + toK s.b) * ((toK s.a - toK s.b) * (toK s.a - toK s.b)) ∧
    toK (lstep x s).b = ((toK s.a + toK s.b) * (toK s.a + toK s.b) - (toK s.a - toK s.b) * (toK s.a - toK s.b)) * ((toK s.a + toK s.b) * (toK s.a + toK s.b) + toK 121665 * ((toK s.a + toK s.b) * (toK s.a + toK s.b) - (toK s.a - toK s.b) * (toK s.a - toK s.b))) ∧
    toK (lstep x s).c = ((toK s.c - toK s.d) * (toK s.a + toK s.b) + (toK s.c + toK s.d) * (toK s.a - toK s.b)) * ((toK s.c - toK s.d) * (toK s.a + toK s.b) + (toK s.c + toK s.d) * (toK s.a - toK s.b)) ∧
    toK (lstep x s).d = toK x * (((toK s.c - toK s.d) * (toK s.a + toK s.b) - (toK s.c + toK s.d) * (toK s.a - toK s.b)) * ((toK s.c - toK s.d) * (toK s.a + toK s.b) - (toK s.c + toK s.d) * (toK s.a - toK s.b))) := by
  unfold lstep
  simp only [to_fmul, to_fadd, to_fsub _ h.2.1, to_fsub _ h.2.2.2, to_fsub _ (fmul_lt _ _)]
  exact ⟨trivial, trivial, trivial, trivial⟩
/-- Where a ladder from 1 stands behind a number that is m, modulo 4. -/
def Cl (m : Nat) (a b c d : K) : Prop := (m = 0 ∧ b = 0 ∧ c = d) ∨ (m = 1 ∧ a = b ∧ c = 0) ∨ (m = 2 ∧ a = 0 ∧ c = d) ∨ (m = 3 ∧ a = b ∧ d = 0)
def Cz (m : Nat) (a b c d : K) : Prop := (m % 2 = 0 ∧ b = 0 ∧ c = 0) ∨ (m % 2 = 1 ∧ a = 0 ∧ d = 0)
def Sta (C : Nat → K → K → K → K → Prop) (m : Nat) (s : La) : Prop := C m (toK s.a) (toK s.b) (toK s.c) (toK s.d)
theorem one_k : toK 1 = 1 := rfl
theorem zero_k : toK 0 = 0 := rfl
theorem ring_a (a b : K) (h : a = b) : (a + b) * (a + b) * ((a - b) * (a - b)) = 0 := by subst h; grind
theorem ring_a0 (a b : K) (h : a = 0) : (a + b) * (a + b) - (a - b) * (a - b) = 0 := by subst h; grind
theorem ring_b0 (a b : K) (h : b = 0) : (a + b) * (a + b) - (a - b) * (a - b) = 0 := by subst h; grind
theorem ring_c (a b c d : K) (h : c = d ∨ a = b ∨ c = 0 ∧ a = b) : ((c - d) * (a + b) + (c + d) * (a - b)) * ((c - d) * (a + b) + (c + d) * (a - b)) = 1 * (((c - d) * (a + b) - (c + d) * (a - b)) * ((c - d) * (a + b) - (c + d) * (a - b))) := by
  rcases h with h | h | ⟨h, h2⟩
  · subst h; grind
  · subst h; grind
  · subst h; subst h2; grind
theorem ring_z (a b c d : K) (h : b = 0 ∧ c = 0 ∨ a = 0 ∧ d = 0) : ((c - d) * (a + b) + (c + d) * (a - b)) * ((c - d) * (a + b) + (c + d) * (a - b)) = 0 := by
  rcases h with ⟨h, h2⟩ | ⟨h, h2⟩
  · subst h; subst h2; grind
  · subst h; subst h2; grind
theorem zero_mul_k (a : K) : (0 : K) * a = 0 := by grind
theorem cl_step {s : La} {m β : Nat} (hβ : β < 2) (hl : LtP s) (h : Sta Cl m s) : Sta Cl ((2 * m + β) % 4) ((lstep 1 (s.swap β)).swap β) := by
  have hk := lstep_k 1 (s.swap β) (swap_lt hl β)
  obtain ⟨k1, k2, k3, k4⟩ := hk
  have hβ2 : β = 0 ∨ β = 1 := by omega
  unfold Sta at h ⊢
  rw [one_k] at k4
  rcases hβ2 with rfl | rfl
  · have e1 : s.swap 0 = s := rfl
    have e2 : ∀ t : La, t.swap 0 = t := fun _ => rfl
    rw [e1] at k1 k2 k3 k4
    rw [e1, e2]
    unfold Cl at h ⊢
    rw [k1, k2, k3, k4]
    rcases h with ⟨rfl, h1, h2⟩ | ⟨rfl, h1, h2⟩ | ⟨rfl, h1, h2⟩ | ⟨rfl, h1, h2⟩
    · exact Or.inl ⟨rfl, by rw [ring_b0 _ _ h1, zero_mul_k], ring_c _ _ _ _ (Or.inl h2)⟩
    · exact Or.inr (Or.inr (Or.inl ⟨rfl, ring_a _ _ h1, ring_c _ _ _ _ (Or.inr (Or.inl h1))⟩))
    · exact Or.inl ⟨rfl, by rw [ring_a0 _ _ h1, zero_mul_k], ring_c _ _ _ _ (Or.inl h2)⟩
    · exact Or.inr (Or.inr (Or.inl ⟨rfl, ring_a _ _ h1, ring_c _ _ _ _ (Or.inr (Or.inl h1))⟩))
  · have e1 : s.swap 1 = ⟨s.c, s.d, s.a, s.b⟩ := rfl
    have e2 : ∀ t : La, t.swap 1 = ⟨t.c, t.d, t.a, t.b⟩ := fun _ => rfl
    rw [e1] at k1 k2 k3 k4
    rw [e1, e2]
    unfold Cl at h ⊢
    simp only at k1 k2 k3 k4 ⊢
    rw [k1, k2, k3, k4]
    rcases h with ⟨rfl, h1, h2⟩ | ⟨rfl, h1, h2⟩ | ⟨rfl, h1, h2⟩ | ⟨rfl, h1, h2⟩
    · exact Or.inr (Or.inl ⟨rfl, ring_c _ _ _ _ (Or.inr (Or.inl h2)), ring_a _ _ h2⟩)
    · exact Or.inr (Or.inr (Or.inr ⟨rfl, ring_c _ _ _ _ (Or.inl h1), by rw [ring_a0 _ _ h2, zero_mul_k]⟩))
    · exact Or.inr (Or.inl ⟨rfl, ring_c _ _ _ _ (Or.inr (Or.inl h2)), ring_a _ _ h2⟩)
    · exact Or.inr (Or.inr (Or.inr ⟨rfl, ring_c _ _ _ _ (Or.inl h1), by rw [ring_b0 _ _ h2, zero_mul_k]⟩))
theorem cz_step {s : La} {m β : Nat} (hβ : β < 2) (hl : LtP s) (h : Sta Cz m s) : Sta Cz ((2 * m + β) % 4) ((lstep 0 (s.swap β)).swap β) := by
  have hk := lstep_k 0 (s.swap β) (swap_lt hl β)
  obtain ⟨k1, k2, k3, k4⟩ := hk
  have hβ2 : β = 0 ∨ β = 1 := by omega
  unfold Sta at h ⊢
  rw [zero_k, zero_mul_k] at k4
  rcases hβ2 with rfl | rfl
  · have e1 : s.swap 0 = s := rfl
    have e2 : ∀ t : La, t.swap 0 = t := fun _ => rfl
    rw [e1] at k1 k2 k3 k4
    rw [e1, e2]
    unfold Cz at h ⊢
    rw [k1, k2, k3, k4]
    rcases h with ⟨_, h1, h2⟩ | ⟨_, h1, h2⟩
    · exact Or.inl ⟨by omega, by rw [ring_b0 _ _ h1, zero_mul_k], ring_z _ _ _ _ (Or.inl ⟨h1, h2⟩)⟩
    · exact Or.inl ⟨by omega, by rw [ring_a0 _ _ h1, zero_mul_k], ring_z _ _ _ _ (Or.inr ⟨h1, h2⟩)⟩
  · have e1 : s.swap 1 = ⟨s.c, s.d, s.a, s.b⟩ := rfl
    have e2 : ∀ t : La, t.swap 1 = ⟨t.c, t.d, t.a, t.b⟩ := fun _ => rfl
    rw [e1] at k1 k2 k3 k4
    rw [e1, e2]
    unfold Cz at h ⊢
    simp only at k1 k2 k3 k4 ⊢
    rw [k1, k2, k3, k4]
    rcases h with ⟨_, h1, h2⟩ | ⟨_, h1, h2⟩
    · exact Or.inr ⟨by omega, ring_z _ _ _ _ (Or.inr ⟨h2, h1⟩), by rw [ring_a0 _ _ h2, zero_mul_k]⟩
    · exact Or.inr ⟨by omega, ring_z _ _ _ _ (Or.inl ⟨h2, h1⟩), by rw [ring_b0 _ _ h2, zero_mul_k]⟩
def cidx (k : Nat) : Nat → Nat
  | 0 => 0
  | n + 1 => (2 * cidx k n + k / 2 ^ (254 - n) % 2) % 4
theorem lgo_lt (x k : Nat) (hx : x < p) : ∀ n, LtP (lgo x k n)
  | 0 => ⟨show 1 < p by decide, show 0 < p by decide, hx, show 1 < p by decide⟩
  | n + 1 => swap_lt (lstep_lt _ _) _
theorem lgo_cl (k : Nat) : ∀ n, Sta Cl (cidx k n) (lgo 1 k n)
  | 0 => Or.inl ⟨rfl, rfl, rfl⟩
  | n + 1 => cl_step (Nat.mod_lt _ (by decide)) (lgo_lt 1 k (by decide) n) (lgo_cl k n)
theorem lgo_cz (k : Nat) : ∀ n, Sta Cz (cidx k n) (lgo 0 k n)
  | 0 => Or.inl ⟨rfl, rfl, rfl⟩
  | n + 1 => cz_step (Nat.mod_lt _ (by decide)) (lgo_lt 0 k (by decide) n) (lgo_cz k n)
theorem cidx_end (k : Nat) (h : k % 4 = 0) : cidx k 255 = 0 := by
  show (2 * ((2 * cidx k 253 + k / 2 ^ 1 % 2) % 4) + k / 2 ^ 0 % 2) % 4 = 0
  rw [Nat.pow_one, Nat.pow_zero, Nat.div_one]
  omega
theorem clamp4 (k : Nat) : clamp k % 4 = 0 := by
  unfold clamp
  have : (2 : Nat) ^ 254 = 4 * 2 ^ 252 := by decide
  have h2 : k / 8 * 8 % 2 ^ 254 % 4 = 0 := by
    rw [Nat.mod_mod_of_dvd _ (show 4 ∣ 2 ^ 254 from ⟨2 ^ 252, this⟩)]
    omega
  omega
theorem finv_zero : finv 0 = 0 := by decide +kernel
theorem end_zero {s : La} (hl : LtP s) (h : toK s.b = 0) : fmul s.a (finv s.b) = 0 := by
  have h1 := to_zero.1 h
  have h2 : s.b = 0 := by rw [← p_is] at h1; rwa [Nat.mod_eq_of_lt hl.2.1] at h1
  rw [h2, finv_zero, fmul, Nat.mul_zero, Nat.zero_mod]
/-- From 0 and from 1 a ladder leads to nothing. -/
theorem x_zero (k : Nat) : x25519 k 0 = 0 := by
  have h := lgo_cz (clamp k) 255
  rw [cidx_end _ (clamp4 k)] at h
  rcases h with ⟨_, h1, _⟩ | ⟨h1, _⟩
  · exact end_zero (lgo_lt 0 _ (by decide) 255) h1
  · exact absurd h1 (by decide)
theorem x_one (k : Nat) : x25519 k 1 = 0 := by
  have h := lgo_cl (clamp k) 255
  rw [cidx_end _ (clamp4 k)] at h
  rcases h with ⟨_, h1, _⟩ | ⟨h1, _⟩ | ⟨h1, _⟩ | ⟨h1, _⟩
  · exact end_zero (lgo_lt 1 _ (by decide) 255) h1
  · exact absurd h1 (by decide)
  · exact absurd h1 (by decide)
  · exact absurd h1 (by decide)
end Go.Proofs.Ytogebegdgfdijaa.Ed
