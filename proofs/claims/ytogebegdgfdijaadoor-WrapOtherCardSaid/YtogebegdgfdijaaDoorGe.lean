/- Prime numbers by Pocklington's and Lucas' tests; Fermat's little theorem. Condition: as each theorem says. -/
import Derived.Test.YtogebegdgfdijaaDoorFa
set_option maxRecDepth 100000
set_option maxHeartbeats 16000000
set_option linter.unusedSimpArgs false
set_option linter.unusedVariables false
namespace Go.Proofs.YtogebegdgfdijaaDoor.Pri
def Pr (p : Nat) : Prop := 1 < p ∧ ∀ m, m ∣ p → m = 1 ∨ m = p
/-- The power by the highest k of 256 bits. -/
def pw (n a e : Nat) : Nat → Nat
  | 0 => 1
  | k + 1 => if e / 2 ^ (255 - k) % 2 = 1 then pw n a e k * pw n a e k % n * a % n else pw n a e k * pw n a e k % n
theorem pw_mod (n a e : Nat) (he : e < 2 ^ 256) : ∀ k, k ≤ 256 → pw n a e k % n = a ^ (e / 2 ^ (256 - k)) % n
  | 0, _ => by
    rw [Nat.sub_zero, Nat.div_eq_of_lt he]
    rfl
  | k + 1, hk => by
    have ih := pw_mod n a e he k (by omega)
    have h1 : 256 - k = (255 - k) + 1 := by omega
    have h2 : 256 - (k + 1) = 255 - k := by omega
    have h3 : e / 2 ^ (256 - k) = e / 2 ^ (255 - k) / 2 := by rw [h1, Nat.pow_succ, Nat.div_div_eq_div_mul]
    have h4 : pw n a e k * pw n a e k % n = a ^ (e / 2 ^ (255 - k) / 2 * 2) % n := by
      rw [Nat.mul_mod, ih, ← Nat.mul_mod, h3, ← Nat.pow_add]
      congr 2
      omega
    rw [h2]
    unfold pw
    split
    · rename_i hb
      rw [Nat.mod_mod, Nat.mul_mod, h4, Nat.mod_mod, ← Nat.mul_mod, ← Nat.pow_succ]
      congr 2
      omega
    · rename_i hb
      rw [Nat.mod_mod, h4]
      congr 2
      omega
theorem pw_full (n a e : Nat) (he : e < 2 ^ 256) : pw n a e 256 % n = a ^ e % n := by
  rw [pw_mod n a e he 256 (Nat.le_refl _)]
  simp
/-- As many boxes as letters. -/
theorem pigeon : ∀ (m d : Nat) (f : Nat → Nat), (∀ i, i < d → f i < m) → (∀ i j, i < j → j < d → f i ≠ f j) → d ≤ m
  | 0, d, f, h, _ => by
    rcases Nat.eq_zero_or_pos d with h0 | h0
    · omega
    · exact absurd (h 0 h0) (Nat.not_lt_zero _)
  | m + 1, d, f, h, hi => by
    by_cases hx : ∃ i, i < d ∧ f i = m
    · obtain ⟨i0, h0, e0⟩ := hx
      have := pigeon m (d - 1) (fun i => if i < i0 then f i else f (i + 1)) (fun i hid => by
        show (if i < i0 then f i else f (i + 1)) < m
        split
        · rename_i hlt
          have a1 := h i (by omega)
          have a2 := hi i i0 hlt h0
          omega
        · rename_i hlt
          have a1 := h (i + 1) (by omega)
          have a2 := hi i0 (i + 1) (by omega) (by omega)
          omega) (fun i j hij hj => by
        show (if i < i0 then f i else f (i + 1)) ≠ (if j < i0 then f j else f (j + 1))
        split <;> split
        · exact hi i j hij (by omega)
        · exact hi i (j + 1) (by omega) (by omega)
        · omega
        · exact hi (i + 1) (j + 1) (by omega) (by omega))
      omega
    · have := pigeon m d f (fun i hid => by
        have a1 := h i hid
        have a2 : f i ≠ m := fun e => hx ⟨i, hid, e⟩
        omega) hi
      omega
/-- The order. -/
def Ord (l a d : Nat) : Prop := 0 < d ∧ a ^ d % l = 1 ∧ ∀ e, 0 < e → e < d → a ^ e % l ≠ 1
theorem ord_ex (l a : Nat) : ∀ (n : Nat), 0 < n → a ^ n % l = 1 → ∃ d, Ord l a d := by
  intro n
  induction n using Nat.strongRecOn with
  | _ n ih =>
    intro hn h
    by_cases hx : ∃ e, 0 < e ∧ e < n ∧ a ^ e % l = 1
    · obtain ⟨e, e0, e1, e2⟩ := hx
      exact ih e e1 e0 e2
    · exact ⟨n, hn, h, fun e e0 e1 e2 => hx ⟨e, e0, e1, e2⟩⟩
theorem pow_mul_mod {l a d : Nat} (hl : 1 < l) (h : a ^ d % l = 1) (c : Nat) : a ^ (d * c) % l = 1 := by
  rw [Nat.pow_mul, Nat.pow_mod, h, Nat.one_pow, Nat.mod_eq_of_lt hl]
theorem Ord.dvd {l a d n : Nat} (hl : 1 < l) (o : Ord l a d) (h : a ^ n % l = 1) : d ∣ n := by
  rcases Nat.eq_zero_or_pos (n % d) with h0 | h0
  · exact Nat.dvd_of_mod_eq_zero h0
  · refine absurd ?_ (o.2.2 (n % d) h0 (Nat.mod_lt _ o.1))
    have e1 : a ^ n = a ^ (d * (n / d)) * a ^ (n % d) := by rw [← Nat.pow_add, Nat.div_add_mod]
    rw [e1, Nat.mul_mod, pow_mul_mod hl o.2.1, Nat.one_mul, Nat.mod_mod] at h
    exact h
theorem Ord.ne {l a d i j : Nat} (o : Ord l a d) (hij : i < j) (hj : j < d) : a ^ i % l ≠ a ^ j % l := by
  intro h
  refine o.2.2 (j - i) (by omega) (by omega) ?_
  have e1 : a ^ i * a ^ (d - i) % l = 1 := by rw [← Nat.pow_add, show i + (d - i) = d by omega]; exact o.2.1
  have e2 : a ^ j * a ^ (d - i) % l = a ^ (j - i) % l := by
    rw [← Nat.pow_add, show j + (d - i) = d + (j - i) by omega, Nat.pow_add, Nat.mul_mod, o.2.1, Nat.one_mul, Nat.mod_mod]
  rw [← e2, Nat.mul_mod, ← h, ← Nat.mul_mod, e1]
theorem Ord.pos {l a d : Nat} (hl : 1 < l) (o : Ord l a d) (i : Nat) : 0 < a ^ i % l := by
  rcases Nat.eq_zero_or_pos (a ^ i % l) with h | h
  · have h1 : a ^ (d * i) % l = 1 := pow_mul_mod hl o.2.1 i
    have h2 : a ^ (d * i) = a ^ i * a ^ ((d - 1) * i) := by
      rw [← Nat.pow_add]
      congr 1
      have : d = 1 + (d - 1) := by have := o.1; omega
      rw [this]
      simp [Nat.add_mul]
    rw [h2, Nat.mul_mod, h, Nat.zero_mul, Nat.zero_mod] at h1
    omega
  · exact h
theorem Ord.le {l a d : Nat} (hl : 1 < l) (o : Ord l a d) : d ≤ l - 1 :=
  pigeon (l - 1) d (fun i => a ^ i % l - 1) (fun i _ => by
    show a ^ i % l - 1 < l - 1
    have := Nat.mod_lt (a ^ i) (show l > 0 by omega)
    have := o.pos hl i
    omega) (fun i j hij hj => by
    show a ^ i % l - 1 ≠ a ^ j % l - 1
    have := o.ne hij hj
    have := o.pos hl i
    have := o.pos hl j
    omega)
def mul : List Nat → Nat
  | [] => 1
  | r :: rs => r * mul rs
theorem cop {r c : Nat} (hr : Pr r) (h : ¬ r ∣ c) : Nat.Coprime r c := by
  rcases hr.2 _ (Nat.gcd_dvd_left r c) with h1 | h1
  · exact h1
  · exact absurd (h1 ▸ Nat.gcd_dvd_right r c) h
theorem cop_mul {c : Nat} : ∀ (rs : List Nat), (∀ r ∈ rs, Nat.Coprime r c) → Nat.Coprime (mul rs) c
  | [], _ => Nat.gcd_one_left c
  | r :: rs, h => Nat.Coprime.mul_left (h r (List.mem_cons_self ..)) (cop_mul rs fun x hx => h x (List.mem_cons_of_mem _ hx))
/-- What both tests ask. -/
structure Test (N a : Nat) (rs : List Nat) : Prop where
  big : 1 < N
  lt : N - 1 < 2 ^ 256
  pr : ∀ r ∈ rs, Pr r
  dv : N - 1 = mul rs * ((N - 1) / mul rs)
  one : pw N a (N - 1) 256 % N = 1
  gc : ∀ r ∈ rs, Nat.gcd (pw N a ((N - 1) / r) 256 % N + (N - 1)) N = 1
theorem Test.ord {N a l : Nat} {rs : List Nat} (T : Test N a rs) (hl : 1 < l) (hd : l ∣ N) : ∃ d, Ord l a d ∧ mul rs ∣ d := by
  have hN : 0 < N := by have := T.big; omega
  have h1 : a ^ (N - 1) % l = 1 := by
    rw [← Nat.mod_mod_of_dvd _ hd, ← pw_full N a _ T.lt, T.one, Nat.mod_eq_of_lt hl]
  obtain ⟨d, o⟩ := ord_ex l a (N - 1) (by have := T.big; omega) h1
  refine ⟨d, o, ?_⟩
  obtain ⟨c, hc⟩ := o.dvd hl h1
  have hcop : Nat.Coprime (mul rs) c := cop_mul rs fun r hr => cop (T.pr r hr) fun hrc => by
    obtain ⟨c', rfl⟩ := hrc
    have hr0 : 0 < r := by have := (T.pr r hr).1; omega
    have e1 : (N - 1) / r = d * c' := by
      rw [hc, show d * (r * c') = r * (d * c') by rw [Nat.mul_left_comm], Nat.mul_div_cancel_left _ hr0]
    have e2 : pw N a ((N - 1) / r) 256 % N % l = 1 := by
      rw [pw_full N a _ (Nat.lt_of_le_of_lt (Nat.div_le_self _ _) T.lt), Nat.mod_mod_of_dvd _ hd, e1]
      exact pow_mul_mod hl o.2.1 c'
    have e3 : l ∣ pw N a ((N - 1) / r) 256 % N + (N - 1) := by
      apply Nat.dvd_of_mod_eq_zero
      obtain ⟨k, hk⟩ := hd
      rw [Nat.add_mod, e2, ← Nat.mod_eq_of_lt hl, ← Nat.add_mod, Nat.mod_eq_of_lt hl, show 1 + (N - 1) = N by omega, hk, Nat.mul_mod_right]
    have e4 : l ∣ 1 := T.gc r hr ▸ Nat.dvd_gcd e3 hd
    have := Nat.le_of_dvd (by decide) e4
    omega
  exact hcop.dvd_of_dvd_mul_right (hc ▸ ⟨_, T.dv⟩)
theorem Test.prime {N a : Nat} {rs : List Nat} (T : Test N a rs) (hF : N < (mul rs + 1) * (mul rs + 1)) : Pr N := by
  have key : ∀ l, 1 < l → l ∣ N → l * l ≤ N → False := by
    intro l hl hd hs
    obtain ⟨d, o, h⟩ := T.ord hl hd
    have h1 := Nat.le_of_dvd o.1 h
    have h2 := o.le hl
    have h3 : mul rs + 1 ≤ l := by omega
    have := Nat.mul_le_mul h3 h3
    omega
  have hN : 0 < N := by have := T.big; omega
  refine ⟨T.big, fun m hm => ?_⟩
  obtain ⟨k, hk⟩ := hm
  rcases Nat.eq_or_lt_of_le (Nat.one_le_iff_ne_zero.2 (show m ≠ 0 by rintro rfl; simp at hk; omega)) with h | hm1
  · exact Or.inl h.symm
  rcases Nat.eq_or_lt_of_le (Nat.one_le_iff_ne_zero.2 (show k ≠ 0 by rintro rfl; simp at hk; omega)) with h | hk1
  · right; rw [hk, ← h, Nat.mul_one]
  exfalso
  rcases Nat.le_total m k with h | h
  · exact key m hm1 ⟨k, hk⟩ (by rw [hk]; exact Nat.mul_le_mul_left _ h)
  · exact key k hk1 ⟨m, by rw [hk, Nat.mul_comm]⟩ (by rw [hk]; exact Nat.mul_le_mul_right _ h)
theorem Pr.dvd_mul {p a b : Nat} (h : Pr p) (hd : p ∣ a * b) : p ∣ a ∨ p ∣ b := by
  by_cases ha : p ∣ a
  · exact Or.inl ha
  · exact Or.inr ((cop h ha).dvd_of_dvd_mul_left hd)
/-- Fermat's little theorem, where a root is known. -/
theorem Test.fermat {N a : Nat} {rs : List Nat} (T : Test N a rs) (hF : mul rs = N - 1) (b : Nat) (hb : b % N ≠ 0) : b ^ (N - 1) % N = 1 := by
  have hN := T.big
  obtain ⟨d, o, h⟩ := T.ord T.big (Nat.dvd_refl N)
  rw [hF] at h
  have h1 := Nat.le_of_dvd o.1 h
  have h2 := o.le T.big
  have hd : d = N - 1 := by omega
  subst hd
  by_cases hx : ∃ i, i < N - 1 ∧ a ^ i % N = b % N
  · obtain ⟨i, _, hi⟩ := hx
    rw [Nat.pow_mod, ← hi, ← Nat.pow_mod, ← Nat.pow_mul, Nat.mul_comm]
    exact pow_mul_mod T.big o.2.1 i
  · exfalso
    have := pigeon (N - 1) N (fun i => if i < N - 1 then a ^ i % N - 1 else b % N - 1) (fun i hi => by
      show (if i < N - 1 then a ^ i % N - 1 else b % N - 1) < N - 1
      have := Nat.mod_lt (a ^ i) (show N > 0 by omega)
      have := Nat.mod_lt b (show N > 0 by omega)
      have := o.pos T.big i
      split <;> omega) (fun i j hij hj => by
      show (if i < N - 1 then a ^ i % N - 1 else b % N - 1) ≠ (if j < N - 1 then a ^ j % N - 1 else b % N - 1)
      rw [if_pos (show i < N - 1 by omega)]
      split
      · rename_i hjl
        have := o.ne hij hjl
        have := o.pos T.big i
        have := o.pos T.big j
        omega
      · have : a ^ i % N ≠ b % N := fun e => hx ⟨i, by omega, e⟩
        have := o.pos T.big i
        omega)
    omega
theorem trial {n k : Nat} (hn : 1 < n) (hk : n < k * k) (h : (List.range k).all (fun m => decide (m < 2) || n % m != 0) = true) : Pr n := by
  have key : ∀ m, 1 < m → m ∣ n → m * m ≤ n → False := by
    intro m h1 hd hs
    have hlt : m < k := by
      rcases Nat.lt_or_ge m k with h2 | h2
      · exact h2
      · have := Nat.mul_le_mul h2 h2
        omega
    have := List.all_eq_true.1 h m (List.mem_range.2 hlt)
    simp only [Bool.or_eq_true, decide_eq_true_eq, bne_iff_ne, ne_eq] at this
    rcases this with h3 | h3
    · omega
    · exact h3 (Nat.mod_eq_zero_of_dvd hd)
  refine ⟨hn, fun m hm => ?_⟩
  obtain ⟨c, hc⟩ := hm
  rcases Nat.eq_or_lt_of_le (Nat.one_le_iff_ne_zero.2 (show m ≠ 0 by rintro rfl; simp at hc; omega)) with h1 | hm1
  · exact Or.inl h1.symm
  rcases Nat.eq_or_lt_of_le (Nat.one_le_iff_ne_zero.2 (show c ≠ 0 by rintro rfl; simp at hc; omega)) with h1 | hk1
  · right; rw [hc, ← h1, Nat.mul_one]
  exfalso
  rcases Nat.le_total m c with h1 | h1
  · exact key m hm1 ⟨c, hc⟩ (by rw [hc]; exact Nat.mul_le_mul_left _ h1)
  · exact key c hk1 ⟨m, by rw [hc, Nat.mul_comm]⟩ (by rw [hc]; exact Nat.mul_le_mul_right _ h1)
set_option maxRecDepth 100000
theorem pr2 : Pr 2 := trial (k := 2) (by decide) (by decide) (by decide)
theorem pr3 : Pr 3 := trial (k := 2) (by decide) (by decide) (by decide)
theorem pr127 : Pr 127 := trial (k := 12) (by decide) (by decide) (by decide +kernel)
theorem pr4153 : Pr 4153 := trial (k := 65) (by decide) (by decide) (by decide +kernel)
theorem pr65147 : Pr 65147 := trial (k := 256) (by decide) (by decide) (by decide +kernel)
theorem pr430751 : Pr 430751 := trial (k := 657) (by decide) (by decide) (by decide +kernel)
theorem pr569003 : Pr 569003 := trial (k := 755) (by decide) (by decide) (by decide +kernel)
theorem pr8574133 : Pr 8574133 := trial (k := 2929) (by decide) (by decide) (by decide +kernel)
theorem prG : Pr 2773320623 := Test.prime (a := 5) (rs := [569003]) ⟨by decide, by decide +kernel, by simpa using pr569003, by decide +kernel, by decide +kernel, by decide +kernel⟩ (by decide +kernel)
theorem prC : Pr 31757755568855353 := Test.prime (a := 2) (rs := [4153, 430751]) ⟨by decide, by decide +kernel, by simpa using ⟨pr4153, pr430751⟩, by decide +kernel, by decide +kernel, by decide +kernel⟩ (by decide +kernel)
theorem prE : Pr 1919519569386763 := Test.prime (a := 2) (rs := [127, 8574133]) ⟨by decide, by decide +kernel, by simpa using ⟨pr127, pr8574133⟩, by decide +kernel, by decide +kernel, by decide +kernel⟩ (by decide +kernel)
theorem prD : Pr 72106336199 := Test.prime (a := 2) (rs := [2773320623]) ⟨by decide, by decide +kernel, by simpa using prG, by decide +kernel, by decide +kernel, by decide +kernel⟩ (by decide +kernel)
theorem prM : Pr 75445702479781427272750846543864801 := Test.prime (a := 2) (rs := [72106336199, 1919519569386763]) ⟨by decide, by decide +kernel, by simpa using ⟨prD, prE⟩, by decide +kernel, by decide +kernel, by decide +kernel⟩ (by decide +kernel)
theorem prB : Pr 74058212732561358302231226437062788676166966415465897661863160754340907 := Test.prime (a := 2) (rs := [31757755568855353, 75445702479781427272750846543864801]) ⟨by decide, by decide +kernel, by simpa using ⟨prC, prM⟩, by decide +kernel, by decide +kernel, by decide +kernel⟩ (by decide +kernel)
/-- The field's number. -/
def P0 : Nat := 57896044618658097711785492504343953926634992332820282019728792003956564819949
def fs : List Nat := [2, 2, 3, 65147, 74058212732561358302231226437062788676166966415465897661863160754340907]
theorem tP : Test P0 2 fs := ⟨by decide +kernel, by decide +kernel, by
  intro r hr
  simp only [fs, List.mem_cons, List.not_mem_nil, or_false] at hr
  rcases hr with rfl | rfl | rfl | rfl | rfl
  · exact pr2
  · exact pr2
  · exact pr3
  · exact pr65147
  · exact prB, by decide +kernel, by decide +kernel, by decide +kernel⟩
theorem prP : Pr P0 := tP.prime (by decide +kernel)
theorem fermat (b : Nat) (hb : b % P0 ≠ 0) : b ^ (P0 - 1) % P0 = 1 := tP.fermat (by decide +kernel) b hb
end Go.Proofs.YtogebegdgfdijaaDoor.Pri
namespace Go.Proofs.YtogebegdgfdijaaDoor.Ed
section
variable {n : Nat} [NeZero n]
/-- The curve. -/
def On (d x y : Fin n) : Prop := y*y = x*x + 1 + d*(x*x)*(y*y)
structure Fld (d : Fin n) : Prop where
  int : ∀ a b : Fin n, a * b = 0 → a = 0 ∨ b = 0
  im : ∃ i : Fin n, i * i = -1
  non : ∀ a b : Fin n, a * a = d * (b * b) → b = 0
  two : (2 : Fin n) ≠ 0
  one : (1 : Fin n) ≠ 0
theorem half (d x1 y1 x2 y2 i e : Fin n) (hi : i * i = -1) (h1 : On d x1 y1) (h2 : On d x2 y2) (he : d*x1*x2*y1*y2 = e) (hee : e * e = 1) :
    (i*x1 + e*y1)*(i*x1 + e*y1) = d*((i*(i*x1)*y1*(i*x2 + y2))*(i*(i*x1)*y1*(i*x2 + y2))) := by
  unfold On at *
  grind
theorem half' (d x1 y1 x2 y2 i e : Fin n) (hi : i * i = -1) (h1 : On d x1 y1) (h2 : On d x2 y2) (he : d*x1*x2*y1*y2 = e) (hee : e * e = 1) :
    (i*x1 - e*y1)*(i*x1 - e*y1) = d*((i*(i*x1)*y1*(i*x2 - y2))*(i*(i*x1)*y1*(i*x2 - y2))) := by
  unfold On at *
  grind
theorem no_unit {d x1 y1 x2 y2 e : Fin n} (F : Fld d) (h1 : On d x1 y1) (h2 : On d x2 y2) (he : d*x1*x2*y1*y2 = e) (hee : e * e = 1) : False := by
  obtain ⟨i, hi⟩ := F.im
  have a1 := F.non _ _ (half d x1 y1 x2 y2 i e hi h1 h2 he hee)
  have a2 := F.non _ _ (half' d x1 y1 x2 y2 i e hi h1 h2 he hee)
  have hxy : ¬ x1 * y1 = 0 := fun h => F.one (by
    have : e = d * x2 * y2 * (x1 * y1) := by rw [← he]; grind
    rw [h] at this
    grind)
  have b1 : (x1 * y1) * (i*x2 + y2) = 0 := by grind
  have b2 : (x1 * y1) * (i*x2 - y2) = 0 := by grind
  have c1 := (F.int _ _ b1).resolve_left hxy
  have c2 := (F.int _ _ b2).resolve_left hxy
  have c3 : 2 * y2 = 0 := by grind
  have c4 := (F.int _ _ c3).resolve_left F.two
  exact F.one (by rw [c4] at he; grind)
theorem whole {d x1 y1 x2 y2 : Fin n} (F : Fld d) (h1 : On d x1 y1) (h2 : On d x2 y2) : 1 + d*x1*x2*y1*y2 ≠ 0 ∧ 1 - d*x1*x2*y1*y2 ≠ 0 := by
  constructor
  · intro h
    exact no_unit F h1 h2 rfl (by grind)
  · intro h
    exact no_unit F h1 h2 rfl (by grind)
theorem closed (d x1 y1 x2 y2 u v : Fin n) (h1 : On d x1 y1) (h2 : On d x2 y2) (hu : (1 + d*x1*x2*y1*y2)*u = 1) (hv : (1 - d*x1*x2*y1*y2)*v = 1) : On d ((x1*y2+y1*x2)*u) ((y1*y2+x1*x2)*v) := by
  unfold On at *
  grind
theorem as_x (d x1 y1 x2 y2 x3 y3 : Fin n) (h1 : On d x1 y1) (h2 : On d x2 y2) (h3 : On d x3 y3) :
    ((x1*y2+y1*x2)*(1-d*x1*x2*y1*y2)*y3 + (y1*y2+x1*x2)*(1+d*x1*x2*y1*y2)*x3)*((1+d*x2*x3*y2*y3)*(1-d*x2*x3*y2*y3) + d*(x2*y3+y2*x3)*(y2*y3+x2*x3)*x1*y1) = (x1*(y2*y3+x2*x3)*(1+d*x2*x3*y2*y3) + y1*(x2*y3+y2*x3)*(1-d*x2*x3*y2*y3))*((1+d*x1*x2*y1*y2)*(1-d*x1*x2*y1*y2) + d*(x1*y2+y1*x2)*(y1*y2+x1*x2)*x3*y3) := by
  unfold On at *
  grind
theorem as_y (d x1 y1 x2 y2 x3 y3 : Fin n) (h1 : On d x1 y1) (h2 : On d x2 y2) (h3 : On d x3 y3) :
    ((y1*y2+x1*x2)*(1+d*x1*x2*y1*y2)*y3 + (x1*y2+y1*x2)*(1-d*x1*x2*y1*y2)*x3)*((1+d*x2*x3*y2*y3)*(1-d*x2*x3*y2*y3) - d*(x2*y3+y2*x3)*(y2*y3+x2*x3)*x1*y1) = (y1*(y2*y3+x2*x3)*(1+d*x2*x3*y2*y3) + x1*(x2*y3+y2*x3)*(1-d*x2*x3*y2*y3))*((1+d*x1*x2*y1*y2)*(1-d*x1*x2*y1*y2) - d*(x1*y2+y1*x2)*(y1*y2+x1*x2)*x3*y3) := by
  unfold On at *
  grind
/-- A way to divide. -/
def Inv (inv : Fin n → Fin n) : Prop := ∀ a : Fin n, a ≠ 0 → a * inv a = 1
def eadd (d : Fin n) (inv : Fin n → Fin n) (P Q : Fin n × Fin n) : Fin n × Fin n :=
  ((P.1*Q.2 + P.2*Q.1) * inv (1 + d*P.1*Q.1*P.2*Q.2), (P.2*Q.2 + P.1*Q.1) * inv (1 - d*P.1*Q.1*P.2*Q.2))
def OnP (d : Fin n) (P : Fin n × Fin n) : Prop := On d P.1 P.2
theorem cross {L R N N' D D' : Fin n} (hL : L * D = N) (hR : R * D' = N') (h : N * D' = N' * D) : (L - R) * (D * D') = 0 := by grind
theorem zsub {L R : Fin n} (h : L - R = 0) : L = R := by grind
theorem frac {d L R N N' D D' : Fin n} (F : Fld d) (hL : L * D = N) (hR : R * D' = N') (h : N * D' = N' * D) (hD : D ≠ 0) (hD' : D' ≠ 0) : L = R := by
  rcases F.int _ _ (cross hL hR h) with h2 | h2
  · exact zsub h2
  · rcases F.int _ _ h2 with h3 | h3
    · exact absurd h3 hD
    · exact absurd h3 hD'
theorem mul_ne {d a b : Fin n} (F : Fld d) (ha : a ≠ 0) (hb : b ≠ 0) : a * b ≠ 0 := fun h => (F.int _ _ h).elim ha hb
theorem on_add {d : Fin n} {inv : Fin n → Fin n} (F : Fld d) (I : Inv inv) {P Q : Fin n × Fin n} (h1 : OnP d P) (h2 : OnP d Q) : OnP d (eadd d inv P Q) := by
  obtain ⟨a, b⟩ := whole F h1 h2
  exact closed d P.1 P.2 Q.1 Q.2 _ _ h1 h2 (I _ a) (I _ b)
theorem cm1 (d a b c e : Fin n) : d*a*b*c*e = d*b*a*e*c := by grind
theorem cm2 (a b c e : Fin n) : a*b + c*e = e*c + b*a := by grind
theorem cm3 (a b c e : Fin n) : a*b + c*e = b*a + e*c := by grind
theorem add_comm {d : Fin n} {inv : Fin n → Fin n} (P Q : Fin n × Fin n) : eadd d inv P Q = eadd d inv Q P := by
  unfold eadd
  rw [cm1 d P.1 Q.1 P.2 Q.2, cm2 P.1 Q.2 P.2 Q.1, cm3 P.2 Q.2 P.1 Q.1]
theorem cl1 (d A B u v p m x y : Fin n) (hu : p*u = 1) (hv : m*v = 1) : p*m*(1 + d*(A*u)*x*(B*v)*y) = p*m + d*A*B*x*y := by grind
theorem cl2 (d A B u v p m x y : Fin n) (hu : p*u = 1) (hv : m*v = 1) : p*m*(1 + d*x*(A*u)*y*(B*v)) = p*m + d*A*B*x*y := by grind
theorem cl3 (d A B u v p m x y : Fin n) (hu : p*u = 1) (hv : m*v = 1) : p*m*(1 - d*(A*u)*x*(B*v)*y) = p*m - d*A*B*x*y := by grind
theorem cl4 (d A B u v p m x y : Fin n) (hu : p*u = 1) (hv : m*v = 1) : p*m*(1 - d*x*(A*u)*y*(B*v)) = p*m - d*A*B*x*y := by grind
theorem nm1 (A B u v p m x y w X : Fin n) (hu : p*u = 1) (hv : m*v = 1) (hw : X*w = 1) : ((A*u)*y + (B*v)*x)*w*(p*m*X) = A*m*y + B*p*x := by grind
theorem nm2 (A B u v p m x y w X : Fin n) (hu : p*u = 1) (hv : m*v = 1) (hw : X*w = 1) : (x*(B*v) + y*(A*u))*w*(p*m*X) = x*B*p + y*A*m := by grind
theorem nm3 (A B u v p m x y w X : Fin n) (hu : p*u = 1) (hv : m*v = 1) (hw : X*w = 1) : ((B*v)*y + (A*u)*x)*w*(p*m*X) = B*p*y + A*m*x := by grind
theorem add_assoc {d : Fin n} {inv : Fin n → Fin n} (F : Fld d) (I : Inv inv) {P Q R : Fin n × Fin n} (h1 : OnP d P) (h2 : OnP d Q) (h3 : OnP d R) : eadd d inv (eadd d inv P Q) R = eadd d inv P (eadd d inv Q R) := by
  have h12 := on_add F I h1 h2
  have h23 := on_add F I h2 h3
  obtain ⟨p1, m1⟩ := whole F h1 h2
  obtain ⟨p2, m2⟩ := whole F h2 h3
  obtain ⟨p3, m3⟩ := whole F h12 h3
  obtain ⟨p4, m4⟩ := whole F h1 h23
  obtain ⟨x1, y1⟩ := P
  obtain ⟨x2, y2⟩ := Q
  obtain ⟨x3, y3⟩ := R
  have u1 := I _ p1
  have v1 := I _ m1
  have u2 := I _ p2
  have v2 := I _ m2
  have u3 := I _ p3
  have v3 := I _ m3
  have u4 := I _ p4
  have v4 := I _ m4
  simp only [eadd] at *
  generalize inv (1 + d*x1*x2*y1*y2) = u at *
  generalize inv (1 - d*x1*x2*y1*y2) = v at *
  generalize inv (1 + d*x2*x3*y2*y3) = u' at *
  generalize inv (1 - d*x2*x3*y2*y3) = v' at *
  have k1 := as_x d x1 y1 x2 y2 x3 y3 h1 h2 h3
  have k2 := as_y d x1 y1 x2 y2 x3 y3 h1 h2 h3
  have q1 := mul_ne F (mul_ne F p1 m1) p3
  have q2 := mul_ne F (mul_ne F p2 m2) p4
  have q3 := mul_ne F (mul_ne F p1 m1) m3
  have q4 := mul_ne F (mul_ne F p2 m2) m4
  have e1 := cl1 d (x1*y2 + y1*x2) (y1*y2 + x1*x2) u v _ _ x3 y3 u1 v1
  have e2 := cl2 d (x2*y3 + y2*x3) (y2*y3 + x2*x3) u' v' _ _ x1 y1 u2 v2
  have e3 := cl3 d (x1*y2 + y1*x2) (y1*y2 + x1*x2) u v _ _ x3 y3 u1 v1
  have e4 := cl4 d (x2*y3 + y2*x3) (y2*y3 + x2*x3) u' v' _ _ x1 y1 u2 v2
  rw [← e1, ← e2] at k1
  rw [← e3, ← e4] at k2
  apply Prod.ext
  · exact frac F (nm1 _ _ _ _ _ _ _ _ _ _ u1 v1 u3) (nm2 _ _ _ _ _ _ _ _ _ _ u2 v2 u4) k1 q1 q2
  · exact frac F (nm3 _ _ _ _ _ _ _ _ _ _ u1 v1 v3) (nm2 _ _ _ _ _ _ _ _ _ _ u2 v2 v4) k2 q3 q4
theorem o1 (d a b : Fin n) : 1 + d*a*0*b*1 = 1 := by grind
theorem o2 (d a b : Fin n) : 1 - d*a*0*b*1 = 1 := by grind
theorem o3 (a b k : Fin n) (h : 1 * k = 1) : (a * 1 + b * 0) * k = a := by grind
theorem add_zero {d : Fin n} {inv : Fin n → Fin n} (I : Inv inv) (h1 : (1 : Fin n) ≠ 0) (P : Fin n × Fin n) : eadd d inv P (0, 1) = P := by
  have k := I 1 h1
  simp only [eadd]
  rw [o1, o2]
  exact Prod.ext (o3 _ _ _ k) (o3 _ _ _ k)
end
end Go.Proofs.YtogebegdgfdijaaDoor.Ed
namespace Go.Proofs.YtogebegdgfdijaaDoor.Ed
section
variable {n : Nat} [NeZero n]
theorem xa (a1 a2 b1 b2 z1 z2 : Fin n) : (a2*z1 + a1*z1)*(b2*z2 + b1*z2) - (a2*z1 - a1*z1)*(b2*z2 - b1*z2) = 2*z1*z2*(a1*b2 + a2*b1) := by grind
theorem xb (a1 a2 b1 b2 z1 z2 : Fin n) : (a2*z1 + a1*z1)*(b2*z2 + b1*z2) + (a2*z1 - a1*z1)*(b2*z2 - b1*z2) = 2*z1*z2*(a2*b2 + a1*b1) := by grind
theorem xc (d a1 a2 b1 b2 z1 z2 : Fin n) : z1*(z2+z2) - (a1*a2*z1)*(d+d)*(b1*b2*z2) = 2*z1*z2*(1 - d*a1*b1*a2*b2) := by grind
theorem xd (d a1 a2 b1 b2 z1 z2 : Fin n) : z1*(z2+z2) + (a1*a2*z1)*(d+d)*(b1*b2*z2) = 2*z1*z2*(1 + d*a1*b1*a2*b2) := by grind
theorem xe (w A u m p : Fin n) (h : p*u = 1) : (w*A)*(w*m) = (A*u)*((w*m)*(w*p)) := by grind
theorem xf (w B v m p : Fin n) (h : m*v = 1) : (w*p)*(w*B) = (B*v)*((w*m)*(w*p)) := by grind
theorem xg (w A B u v m p : Fin n) (h : p*u = 1) (h' : m*v = 1) : (w*A)*(w*B) = (A*u)*(B*v)*((w*m)*(w*p)) := by grind
/-- Four numbers that stand for a pair. -/
structure Ext (x y z t : Fin n) (A : Fin n × Fin n) : Prop where
  ez : z ≠ 0
  ex : x = A.1 * z
  ey : y = A.2 * z
  et : t = A.1 * A.2 * z
theorem Ext.add {d : Fin n} {inv : Fin n → Fin n} (F : Fld d) (I : Inv inv) {x1 y1 z1 t1 x2 y2 z2 t2 : Fin n} {A B : Fin n × Fin n} (hA : OnP d A) (hB : OnP d B)
    (E1 : Ext x1 y1 z1 t1 A) (E2 : Ext x2 y2 z2 t2 B) {a b c z : Fin n} (ha : a = (y1 - x1)*(y2 - x2)) (hb : b = (y1 + x1)*(y2 + x2)) (hc : c = t1*(d+d)*t2) (hz : z = z1*(z2+z2)) :
    Ext ((b - a)*(z - c)) ((z + c)*(b + a)) ((z - c)*(z + c)) ((b - a)*(b + a)) (eadd d inv A B) := by
  obtain ⟨p1, m1⟩ := whole F hA hB
  have u1 := I _ p1
  have v1 := I _ m1
  have n1 := E1.ez
  have n2 := E2.ez
  have e1 : b - a = 2*z1*z2*(A.1*B.2 + A.2*B.1) := by rw [ha, hb, E1.ex, E1.ey, E2.ex, E2.ey]; exact xa _ _ _ _ _ _
  have e2 : b + a = 2*z1*z2*(A.2*B.2 + A.1*B.1) := by rw [ha, hb, E1.ex, E1.ey, E2.ex, E2.ey]; exact xb _ _ _ _ _ _
  have e3 : z - c = 2*z1*z2*(1 - d*A.1*B.1*A.2*B.2) := by rw [hc, hz, E1.et, E2.et]; exact xc _ _ _ _ _ _ _
  have e4 : z + c = 2*z1*z2*(1 + d*A.1*B.1*A.2*B.2) := by rw [hc, hz, E1.et, E2.et]; exact xd _ _ _ _ _ _ _
  have hw : (2*z1*z2 : Fin n) ≠ 0 := mul_ne F (mul_ne F F.two n1) n2
  rw [e1, e2, e3, e4]
  exact ⟨mul_ne F (mul_ne F hw m1) (mul_ne F hw p1), xe _ _ _ _ _ u1, xf _ _ _ _ _ v1, xg _ _ _ _ _ _ _ u1 v1⟩
/-- k times, doubling and adding: as the addition is a group's. -/
def times (d : Fin n) (inv : Fin n → Fin n) (A : Fin n × Fin n) : Nat → Fin n × Fin n
  | 0 => (0, 1)
  | k + 1 => eadd d inv (times d inv A k) A
theorem on_zero (d : Fin n) : OnP d (0, 1) := by
  show (1:Fin n)*1 = 0*0 + 1 + d*(0*0)*(1*1)
  grind
theorem on_times {d : Fin n} {inv : Fin n → Fin n} (F : Fld d) (I : Inv inv) {A : Fin n × Fin n} (hA : OnP d A) : ∀ k, OnP d (times d inv A k)
  | 0 => on_zero d
  | k + 1 => on_add F I (on_times F I hA k) hA
theorem times_add {d : Fin n} {inv : Fin n → Fin n} (F : Fld d) (I : Inv inv) {A : Fin n × Fin n} (hA : OnP d A) (j : Nat) : ∀ k, times d inv A (j + k) = eadd d inv (times d inv A j) (times d inv A k)
  | 0 => (add_zero I F.one _).symm
  | k + 1 => by
    show eadd d inv (times d inv A (j + k)) A = eadd d inv _ (eadd d inv (times d inv A k) A)
    rw [times_add F I hA j k, add_assoc F I (on_times F I hA j) (on_times F I hA k) hA]
theorem zero_add {d : Fin n} {inv : Fin n → Fin n} (F : Fld d) (I : Inv inv) (A : Fin n × Fin n) : eadd d inv (0, 1) A = A := by
  rw [add_comm]; exact add_zero I F.one A
theorem times_mul {d : Fin n} {inv : Fin n → Fin n} (F : Fld d) (I : Inv inv) {A : Fin n × Fin n} (hA : OnP d A) (j : Nat) : ∀ k, times d inv A (j * k) = times d inv (times d inv A j) k
  | 0 => rfl
  | k + 1 => by
    show times d inv A (j * k + j) = eadd d inv (times d inv (times d inv A j) k) _
    rw [times_add F I hA, times_mul F I hA j k]
theorem times_zero {d : Fin n} {inv : Fin n → Fin n} (F : Fld d) (I : Inv inv) : ∀ k, times d inv (0, 1) k = (0, 1)
  | 0 => rfl
  | k + 1 => by
    show eadd d inv (times d inv (0, 1) k) (0, 1) = (0, 1)
    rw [times_zero F I k, add_zero I F.one]
/-- A point of order q: the multiples go by the rest. -/
theorem times_mod {d : Fin n} {inv : Fin n → Fin n} (F : Fld d) (I : Inv inv) {A : Fin n × Fin n} (hA : OnP d A) {q : Nat} (hq : times d inv A q = (0, 1)) (k : Nat) : times d inv A (k % q) = times d inv A k := by
  have h : times d inv A k = eadd d inv (times d inv A (q * (k / q))) (times d inv A (k % q)) := by
    rw [← times_add F I hA, Nat.div_add_mod]
  rw [h, times_mul F I hA, hq, times_zero F I, zero_add F I]
end
end Go.Proofs.YtogebegdgfdijaaDoor.Ed
namespace Go.Proofs.YtogebegdgfdijaaDoor.Ed
open Pri
abbrev K := Fin P0
instance : NeZero P0 := ⟨by decide +kernel⟩
theorem P0_pos : 0 < P0 := by decide +kernel
/-- A number as one of the field. -/
def toK (x : Nat) : K := Fin.ofNat P0 x
theorem to_val (x : Nat) : (toK x).val = x % P0 := rfl
theorem to_mod (x : Nat) : toK (x % P0) = toK x := Fin.ext (by rw [to_val, to_val, Nat.mod_mod])
theorem val_to (a : K) : toK a.val = a := Fin.ext (by rw [to_val]; exact Nat.mod_eq_of_lt a.isLt)
theorem to_add (x y : Nat) : toK (x + y) = toK x + toK y := Fin.ext (by rw [Fin.val_add, to_val, to_val, to_val, ← Nat.add_mod])
theorem to_mul (x y : Nat) : toK (x * y) = toK x * toK y := Fin.ext (by rw [Fin.val_mul, to_val, to_val, to_val, ← Nat.mul_mod])
theorem to_sub {x y : Nat} (h : y < P0) : toK (x + P0 - y) = toK x - toK y := by
  have h1 : toK (x + P0 - y) + toK y = toK x := by
    rw [← to_add, show x + P0 - y + y = x + P0 by omega]
    exact Fin.ext (by rw [to_val, to_val, Nat.add_mod_right])
  grind
theorem to_eq {x y : Nat} : toK x = toK y ↔ x % P0 = y % P0 := ⟨fun h => by have := congrArg Fin.val h; rwa [to_val, to_val] at this, fun h => Fin.ext h⟩
theorem to_zero {x : Nat} : toK x = 0 ↔ x % P0 = 0 := by
  rw [show (0 : K) = toK 0 from rfl, to_eq, Nat.zero_mod]
theorem int {a b : K} (h : a * b = 0) : a = 0 ∨ b = 0 := by
  rw [← val_to a, ← val_to b, ← to_mul, to_zero] at h
  rcases prP.dvd_mul (Nat.dvd_of_mod_eq_zero h) with h1 | h1
  · left; rw [← val_to a]; exact to_zero.2 (Nat.mod_eq_zero_of_dvd h1)
  · right; rw [← val_to b]; exact to_zero.2 (Nat.mod_eq_zero_of_dvd h1)
def D0 : Nat := 37095705934669439343138083508754565189542113879843219016388785533085940283555
def I0 : Nat := 19681161376707505956807079304988542015446066515923890162744021073123829784752
def H0 : Nat := (P0 - 1) / 2
theorem d_half : D0 ^ H0 % P0 = P0 - 1 := by
  rw [← pw_full P0 D0 H0 (by decide +kernel)]
  decide +kernel
theorem non {a b : K} (h : a * a = toK D0 * (b * b)) : b = 0 := by
  rcases Classical.em (b = 0) with hb | hb
  · exact hb
  exfalso
  have hb' : b.val % P0 ≠ 0 := fun e => hb (by rw [← val_to b]; exact to_zero.2 e)
  have e1 : (a.val * a.val) % P0 = (D0 * (b.val * b.val)) % P0 := by
    rw [← to_eq, to_mul, to_mul, to_mul, val_to, val_to]; exact h
  have e2 : (a.val * a.val) ^ H0 % P0 = (D0 * (b.val * b.val)) ^ H0 % P0 := by
    rw [Nat.pow_mod, e1, ← Nat.pow_mod]
  have h2 : H0 + H0 = P0 - 1 := by decide +kernel
  rw [Nat.mul_pow, Nat.mul_pow, Nat.mul_pow, ← Nat.pow_add, ← Nat.pow_add, h2, Nat.mul_mod, d_half, fermat _ hb', Nat.mul_one, Nat.mod_eq_of_lt (show P0 - 1 < P0 by decide +kernel)] at e2
  by_cases ha : a.val % P0 = 0
  · rw [Nat.pow_mod, ha, Nat.zero_pow (by decide +kernel)] at e2
    exact absurd e2 (by decide +kernel)
  · rw [fermat _ ha] at e2
    exact absurd e2 (by decide +kernel)
theorem fld : Fld (toK D0) where
  int _ _ h := int h
  im := ⟨toK I0, by decide +kernel⟩
  non _ _ h := non h
  two := by decide +kernel
  one := by decide +kernel
/-- The inverse. -/
def inv (a : K) : K := toK (a.val ^ (P0 - 2))
theorem inv_ok : Inv inv := by
  intro a ha
  have h1 : a.val % P0 ≠ 0 := fun e => ha (by rw [← val_to a]; exact to_zero.2 e)
  unfold inv
  rw [← congrArg (· * toK (a.val ^ (P0 - 2))) (val_to a)]
  show toK a.val * toK (a.val ^ (P0 - 2)) = 1
  rw [← to_mul, Nat.mul_comm, ← Nat.pow_succ, show (P0 - 2).succ = P0 - 1 by decide +kernel]
  show toK _ = toK 1
  rw [to_eq, fermat _ h1]
  decide +kernel
end Go.Proofs.YtogebegdgfdijaaDoor.Ed
namespace Go.Proofs.YtogebegdgfdijaaDoor.Ed
open Go.RowKit Lm Fp Cu Pri
theorem p_is : Fp.p = P0 := rfl
theorem to_fadd (x y : Nat) : toK (fadd x y) = toK x + toK y := by rw [fadd, p_is, to_mod, to_add]
theorem to_fmul (x y : Nat) : toK (fmul x y) = toK x * toK y := by rw [fmul, p_is, to_mod, to_mul]
theorem to_fsub (x : Nat) {y : Nat} (h : y < Fp.p) : toK (fsub x y) = toK x - toK y := by rw [fsub, p_is, to_mod, to_sub h]
/-- A point's numbers stand for a pair. -/
structure Is (P : Pt) (A : K × K) : Prop where
  ok : P.Ok
  ext : Ext (toK P.x) (toK P.y) (toK P.z) (toK P.t) A
abbrev add (A B : K × K) : K × K := eadd (toK D0) inv A B
abbrev on (A : K × K) : Prop := OnP (toK D0) A
abbrev tm (A : K × K) (k : Nat) : K × K := times (toK D0) inv A k
theorem d_is : dd = D0 := rfl
theorem Is.add {P Q : Pt} {A B : K × K} (hP : Is P A) (hQ : Is Q B) (hA : on A) (hB : on B) : Is (Cu.eadd P Q) (add A B) := by
  refine ⟨eadd_ok P Q, ?_⟩
  have h := Ext.add fld inv_ok hA hB hP.ext hQ.ext rfl rfl rfl rfl
  simp only [Cu.eadd, to_fmul, to_fadd, to_fsub _ (fmul_lt _ _), to_fsub _ hP.ok.x, to_fsub _ hQ.ok.x, d_is]
  exact h
theorem Is.nought : Is nought (0, 1) := ⟨nought_ok, ⟨by decide +kernel, by decide +kernel, by decide +kernel, by decide +kernel⟩⟩
theorem Is.mul {P : Pt} {A : K × K} (hP : Is P A) (hA : on A) (k : Nat) (hk : k < 2 ^ 256) : ∀ n, n ≤ 256 → Is (emul P k n) (tm A (k / 2 ^ (256 - n)))
  | 0, _ => by
    rw [Nat.sub_zero, Nat.div_eq_of_lt hk]
    exact Is.nought
  | n + 1, hn => by
    have ih := Is.mul hP hA k hk n (by omega)
    have ho := on_times fld inv_ok hA (k / 2 ^ (256 - n))
    have h2 := ih.add ih ho ho
    have h1 : 256 - n = (255 - n) + 1 := by omega
    have h3 : k / 2 ^ (256 - n) = k / 2 ^ (255 - n) / 2 := by rw [h1, Nat.pow_succ, Nat.div_div_eq_div_mul]
    rw [show 256 - (n + 1) = 255 - n by omega]
    rw [show Ed.add (tm A (k / 2 ^ (256 - n))) (tm A (k / 2 ^ (256 - n))) = tm A (k / 2 ^ (256 - n) + k / 2 ^ (256 - n)) from (times_add fld inv_ok hA _ _).symm, h3] at h2
    unfold emul
    split
    · rename_i hb
      have e : k / 2 ^ (255 - n) = k / 2 ^ (255 - n) / 2 + k / 2 ^ (255 - n) / 2 + 1 := by omega
      rw [e]
      exact h2.add hP (on_times fld inv_ok hA _) hA
    · rename_i hb
      have e : k / 2 ^ (255 - n) = k / 2 ^ (255 - n) / 2 + k / 2 ^ (255 - n) / 2 := by omega
      rw [e]
      exact h2
theorem Is.mul_full {P : Pt} {A : K × K} (hP : Is P A) (hA : on A) (k : Nat) (hk : k < 2 ^ 256) : Is (emul P k 256) (tm A k) := by
  have h := hP.mul hA k hk 256 (Nat.le_refl _)
  rwa [show 256 - 256 = 0 from rfl, Nat.pow_zero, Nat.div_one] at h
/-- The base. -/
def B0 : K × K := (toK bx, toK bY)
theorem Is.base : Is base B0 := ⟨base_ok, ⟨by decide +kernel, by decide +kernel, by decide +kernel, by decide +kernel⟩⟩
theorem on_base : on B0 := by
  show toK bY * toK bY = toK bx * toK bx + 1 + toK D0 * (toK bx * toK bx) * (toK bY * toK bY)
  decide +kernel
theorem Ext.zero {x y z t : K} {A : K × K} (h : Ext x y z t A) (hx : x = 0) (hy : y = z) : A = (0, 1) := by
  have h1 : A.1 * z = 0 := by rw [← h.ex, hx]
  have h2 : (A.2 - 1) * z = 0 := by
    have := h.ey
    rw [hy] at this
    grind
  refine Prod.ext ((int h1).resolve_right h.ez) ?_
  have := (int h2).resolve_right h.ez
  show A.2 = 1
  grind
theorem base_q : tm B0 Sc.q = (0, 1) := by
  have h := Is.base.mul_full on_base Sc.q (by decide +kernel)
  have e : (emul base Sc.q 256).x = 0 ∧ (emul base Sc.q 256).y = (emul base Sc.q 256).z := by decide +kernel
  exact h.ext.zero (by rw [e.1]; rfl) (by rw [e.2])
/-- The base's multiples go by the rest. -/
theorem base_mod (k : Nat) : tm B0 (k % Sc.q) = tm B0 k := times_mod fld inv_ok on_base base_q k
end Go.Proofs.YtogebegdgfdijaaDoor.Ed
namespace Go.Proofs.YtogebegdgfdijaaDoor.Ed
open Go.RowKit Lm Fp Cu Pri
def LtP (s : La) : Prop := s.a < p ∧ s.b < p ∧ s.c < p ∧ s.d < p
theorem lstep_lt (x : Nat) (s : La) : LtP (lstep x s) := ⟨fmul_lt _ _, fmul_lt _ _, fmul_lt _ _, fmul_lt _ _⟩
theorem swap_lt {s : La} (h : LtP s) (b : Nat) : LtP (s.swap b) := by
  unfold La.swap
  split
  · exact ⟨h.2.2.1, h.2.2.2, h.1, h.2.1⟩
  · exact h
theorem lstep_k (x : Nat) (s : La) (h : LtP s) :
    toK (lstep x s).a = (toK s.a + toK s.b) * (toK s.a + toK s.b) * ((toK s.a - toK s.b) * (toK s.a - toK s.b)) ∧
    toK (lstep x s).b = ((toK s.a + toK s.b) * (toK s.a + toK s.b) - (toK s.a - toK s.b) * (toK s.a - toK s.b)) * ((toK s.a + toK s.b) * (toK s.a + toK s.b) + toK 121665 * ((toK s.a + toK s.b) * (toK s.a + toK s.b) - (toK s.a - toK s.b) * (toK s.a - toK s.b))) ∧
    toK (lstep x s).c = ((toK s.c - toK s.d) * (toK s.a + toK s.b) + (toK s.c + toK s.d) * (toK s.a - toK s.b)) * ((toK s.c - toK s.d) * (toK s.a + toK s.b) + (toK s.c + toK s.d) * (toK s.a - toK s.b)) ∧
    toK (lstep x s).d = toK x * (((toK s.c - toK s.d) * (toK s.a + toK s.b) - (toK s.c + toK s.d) * (toK s.a - toK s.b)) * ((toK s.c - toK s.d) * (toK s.a + toK s.b) - (toK s.c + toK s.d) * (toK s.a - toK s.b))) := by
  unfold lstep
  simp only [to_fmul, to_fadd, to_fsub _ h.2.1, to_fsub _ h.2.2.2, to_fsub _ (fmul_lt _ _)]
  exact ⟨trivial, trivial, trivial, trivial⟩
/-- Where a ladder from 1 stands behind a number that is m, modulo 4. -/
def Cl (m : Nat) (a b c d : K) : Prop := (m = 0 ∧ b = 0 ∧ c = d) ∨ (m = 1 ∧ a = b ∧ c = 0) ∨ (m = 2 ∧ a = 0 ∧ c = d) ∨ (m = 3 ∧ a = b ∧ d = 0)
def Cz (m : Nat) (a b c d : K) : Prop := (m % 2 = 0 ∧ b = 0 ∧ c = 0) ∨ (m % 2 = 1 ∧ a = 0 ∧ d = 0)
def Sta (C : Nat → K → K → K → K → Prop) (m : Nat) (s : La) : Prop := C m (toK s.a) (toK s.b) (toK s.c) (toK s.d)
theorem one_k : toK 1 = 1 := rfl
theorem zero_k : toK 0 = 0 := rfl
theorem ring_a (a b : K) (h : a = b) : (a + b) * (a + b) * ((a - b) * (a - b)) = 0 := by subst h; grind
theorem ring_a0 (a b : K) (h : a = 0) : (a + b) * (a + b) - (a - b) * (a - b) = 0 := by subst h; grind
theorem ring_b0 (a b : K) (h : b = 0) : (a + b) * (a + b) - (a - b) * (a - b) = 0 := by subst h; grind
theorem ring_c (a b c d : K) (h : c = d ∨ a = b ∨ c = 0 ∧ a = b) : ((c - d) * (a + b) + (c + d) * (a - b)) * ((c - d) * (a + b) + (c + d) * (a - b)) = 1 * (((c - d) * (a + b) - (c + d) * (a - b)) * ((c - d) * (a + b) - (c + d) * (a - b))) := by
  rcases h with h | h | ⟨h, h2⟩
  · subst h; grind
  · subst h; grind
  · subst h; subst h2; grind
theorem ring_z (a b c d : K) (h : b = 0 ∧ c = 0 ∨ a = 0 ∧ d = 0) : ((c - d) * (a + b) + (c + d) * (a - b)) * ((c - d) * (a + b) + (c + d) * (a - b)) = 0 := by
  rcases h with ⟨h, h2⟩ | ⟨h, h2⟩
  · subst h; subst h2; grind
  · subst h; subst h2; grind
theorem zero_mul_k (a : K) : (0 : K) * a = 0 := by grind
theorem cl_step {s : La} {m β : Nat} (hβ : β < 2) (hl : LtP s) (h : Sta Cl m s) : Sta Cl ((2 * m + β) % 4) ((lstep 1 (s.swap β)).swap β) := by
  have hk := lstep_k 1 (s.swap β) (swap_lt hl β)
  obtain ⟨k1, k2, k3, k4⟩ := hk
  have hβ2 : β = 0 ∨ β = 1 := by omega
  unfold Sta at h ⊢
  rw [one_k] at k4
  rcases hβ2 with rfl | rfl
  · have e1 : s.swap 0 = s := rfl
    have e2 : ∀ t : La, t.swap 0 = t := fun _ => rfl
    rw [e1] at k1 k2 k3 k4
    rw [e1, e2]
    unfold Cl at h ⊢
    rw [k1, k2, k3, k4]
    rcases h with ⟨rfl, h1, h2⟩ | ⟨rfl, h1, h2⟩ | ⟨rfl, h1, h2⟩ | ⟨rfl, h1, h2⟩
    · exact Or.inl ⟨rfl, by rw [ring_b0 _ _ h1, zero_mul_k], ring_c _ _ _ _ (Or.inl h2)⟩
    · exact Or.inr (Or.inr (Or.inl ⟨rfl, ring_a _ _ h1, ring_c _ _ _ _ (Or.inr (Or.inl h1))⟩))
    · exact Or.inl ⟨rfl, by rw [ring_a0 _ _ h1, zero_mul_k], ring_c _ _ _ _ (Or.inl h2)⟩
    · exact Or.inr (Or.inr (Or.inl ⟨rfl, ring_a _ _ h1, ring_c _ _ _ _ (Or.inr (Or.inl h1))⟩))
  · have e1 : s.swap 1 = ⟨s.c, s.d, s.a, s.b⟩ := rfl
    have e2 : ∀ t : La, t.swap 1 = ⟨t.c, t.d, t.a, t.b⟩ := fun _ => rfl
    rw [e1] at k1 k2 k3 k4
    rw [e1, e2]
    unfold Cl at h ⊢
    simp only at k1 k2 k3 k4 ⊢
    rw [k1, k2, k3, k4]
    rcases h with ⟨rfl, h1, h2⟩ | ⟨rfl, h1, h2⟩ | ⟨rfl, h1, h2⟩ | ⟨rfl, h1, h2⟩
    · exact Or.inr (Or.inl ⟨rfl, ring_c _ _ _ _ (Or.inr (Or.inl h2)), ring_a _ _ h2⟩)
    · exact Or.inr (Or.inr (Or.inr ⟨rfl, ring_c _ _ _ _ (Or.inl h1), by rw [ring_a0 _ _ h2, zero_mul_k]⟩))
    · exact Or.inr (Or.inl ⟨rfl, ring_c _ _ _ _ (Or.inr (Or.inl h2)), ring_a _ _ h2⟩)
    · exact Or.inr (Or.inr (Or.inr ⟨rfl, ring_c _ _ _ _ (Or.inl h1), by rw [ring_b0 _ _ h2, zero_mul_k]⟩))
theorem cz_step {s : La} {m β : Nat} (hβ : β < 2) (hl : LtP s) (h : Sta Cz m s) : Sta Cz ((2 * m + β) % 4) ((lstep 0 (s.swap β)).swap β) := by
  have hk := lstep_k 0 (s.swap β) (swap_lt hl β)
  obtain ⟨k1, k2, k3, k4⟩ := hk
  have hβ2 : β = 0 ∨ β = 1 := by omega
  unfold Sta at h ⊢
  rw [zero_k, zero_mul_k] at k4
  rcases hβ2 with rfl | rfl
  · have e1 : s.swap 0 = s := rfl
    have e2 : ∀ t : La, t.swap 0 = t := fun _ => rfl
    rw [e1] at k1 k2 k3 k4
    rw [e1, e2]
    unfold Cz at h ⊢
    rw [k1, k2, k3, k4]
    rcases h with ⟨_, h1, h2⟩ | ⟨_, h1, h2⟩
    · exact Or.inl ⟨by omega, by rw [ring_b0 _ _ h1, zero_mul_k], ring_z _ _ _ _ (Or.inl ⟨h1, h2⟩)⟩
    · exact Or.inl ⟨by omega, by rw [ring_a0 _ _ h1, zero_mul_k], ring_z _ _ _ _ (Or.inr ⟨h1, h2⟩)⟩
  · have e1 : s.swap 1 = ⟨s.c, s.d, s.a, s.b⟩ := rfl
    have e2 : ∀ t : La, t.swap 1 = ⟨t.c, t.d, t.a, t.b⟩ := fun _ => rfl
    rw [e1] at k1 k2 k3 k4
    rw [e1, e2]
    unfold Cz at h ⊢
    simp only at k1 k2 k3 k4 ⊢
    rw [k1, k2, k3, k4]
    rcases h with ⟨_, h1, h2⟩ | ⟨_, h1, h2⟩
    · exact Or.inr ⟨by omega, ring_z _ _ _ _ (Or.inr ⟨h2, h1⟩), by rw [ring_a0 _ _ h2, zero_mul_k]⟩
    · exact Or.inr ⟨by omega, ring_z _ _ _ _ (Or.inl ⟨h2, h1⟩), by rw [ring_b0 _ _ h2, zero_mul_k]⟩
def cidx (k : Nat) : Nat → Nat
  | 0 => 0
  | n + 1 => (2 * cidx k n + k / 2 ^ (254 - n) % 2) % 4
theorem lgo_lt (x k : Nat) (hx : x < p) : ∀ n, LtP (lgo x k n)
  | 0 => ⟨show 1 < p by decide, show 0 < p by decide, hx, show 1 < p by decide⟩
  | n + 1 => swap_lt (lstep_lt _ _) _
theorem lgo_cl (k : Nat) : ∀ n, Sta Cl (cidx k n) (lgo 1 k n)
  | 0 => Or.inl ⟨rfl, rfl, rfl⟩
  | n + 1 => cl_step (Nat.mod_lt _ (by decide)) (lgo_lt 1 k (by decide) n) (lgo_cl k n)
theorem lgo_cz (k : Nat) : ∀ n, Sta Cz (cidx k n) (lgo 0 k n)
  | 0 => Or.inl ⟨rfl, rfl, rfl⟩
  | n + 1 => cz_step (Nat.mod_lt _ (by decide)) (lgo_lt 0 k (by decide) n) (lgo_cz k n)
theorem cidx_end (k : Nat) (h : k % 4 = 0) : cidx k 255 = 0 := by
  show (2 * ((2 * cidx k 253 + k / 2 ^ 1 % 2) % 4) + k / 2 ^ 0 % 2) % 4 = 0
  rw [Nat.pow_one, Nat.pow_zero, Nat.div_one]
  omega
theorem clamp4 (k : Nat) : clamp k % 4 = 0 := by
  unfold clamp
  have : (2 : Nat) ^ 254 = 4 * 2 ^ 252 := by decide
  have h2 : k / 8 * 8 % 2 ^ 254 % 4 = 0 := by
    rw [Nat.mod_mod_of_dvd _ (show 4 ∣ 2 ^ 254 from ⟨2 ^ 252, this⟩)]
    omega
  omega
theorem finv_zero : finv 0 = 0 := by decide +kernel
theorem end_zero {s : La} (hl : LtP s) (h : toK s.b = 0) : fmul s.a (finv s.b) = 0 := by
  have h1 := to_zero.1 h
  have h2 : s.b = 0 := by rw [← p_is] at h1; rwa [Nat.mod_eq_of_lt hl.2.1] at h1
  rw [h2, finv_zero, fmul, Nat.mul_zero, Nat.zero_mod]
/-- From 0 and from 1 a ladder leads to nothing. -/
theorem x_zero (k : Nat) : x25519 k 0 = 0 := by
  have h := lgo_cz (clamp k) 255
  rw [cidx_end _ (clamp4 k)] at h
  rcases h with ⟨_, h1, _⟩ | ⟨h1, _⟩
  · exact end_zero (lgo_lt 0 _ (by decide) 255) h1
  · exact absurd h1 (by decide)
theorem x_one (k : Nat) : x25519 k 1 = 0 := by
  have h := lgo_cl (clamp k) 255
  rw [cidx_end _ (clamp4 k)] at h
  rcases h with ⟨_, h1, _⟩ | ⟨h1, _⟩ | ⟨h1, _⟩ | ⟨h1, _⟩
  · exact end_zero (lgo_lt 1 _ (by decide) 255) h1
  · exact absurd h1 (by decide)
  · exact absurd h1 (by decide)
  · exact absurd h1 (by decide)
end Go.Proofs.YtogebegdgfdijaaDoor.Ed
namespace Go.Proofs.YtogebegdgfdijaaDoor.Ed
open Go.RowKit Lm Fp Cu Pri
theorem fpow_pw (a e : Nat) : ∀ n, fpow a e n = pw P0 a e n
  | 0 => rfl
  | n + 1 => by
    unfold fpow pw
    rw [fpow_pw a e n]
    rfl
theorem toK_fpow (a e : Nat) (he : e < 2 ^ 256) : toK (fpow a e 256) = toK (a ^ e) := by
  rw [fpow_pw, to_eq, pw_full P0 a e he]
theorem toK_finv (a : Nat) : toK (finv a) = inv (toK a) := by
  unfold finv inv
  rw [toK_fpow _ _ (by decide +kernel), to_eq, to_val, p_is, ← Nat.pow_mod]
theorem toK_lt {x y : Nat} (hx : x < Fp.p) (hy : y < Fp.p) (h : toK x = toK y) : x = y := by
  rw [to_eq, ← p_is, Nat.mod_eq_of_lt hx, Nat.mod_eq_of_lt hy] at h
  exact h
theorem toK_is {x : Nat} (hx : x < Fp.p) {a : K} (h : toK x = a) : x = a.val := by
  rw [← h, to_val, ← p_is, Nat.mod_eq_of_lt hx]
theorem mul_inv (a z : K) (hz : z ≠ 0) : a * z * inv z = a := by
  have := inv_ok z hz
  grind
theorem Is.bytes {P : Pt} {A : K × K} (h : Is P A) : ebytes P = A.2.val + 2 ^ 255 * (A.1.val % 2) := by
  have e1 : fmul P.y (finv P.z) = A.2.val := toK_is (fmul_lt _ _) (by rw [to_fmul, toK_finv, h.ext.ey]; exact mul_inv _ _ h.ext.ez)
  have e2 : fmul P.x (finv P.z) = A.1.val := toK_is (fmul_lt _ _) (by rw [to_fmul, toK_finv, h.ext.ex]; exact mul_inv _ _ h.ext.ez)
  unfold ebytes
  rw [e1, e2]
theorem pm_one {t : K} (h : t * t = 1) : t = 1 ∨ t = -1 := by
  have h1 : (t - 1) * (t + 1) = 0 := by grind
  rcases int h1 with h2 | h2
  · left; grind
  · right; grind
theorem pm {r x : K} (h : r * r = x * x) : r = x ∨ r = -x := by
  have h1 : (r - x) * (r + x) = 0 := by grind
  rcases int h1 with h2 | h2
  · left; grind
  · right; grind
theorem im_k : toK im * toK im = -1 := by decide +kernel
/-- The root of a square is found. -/
theorem root_k {s : Nat} (hs : s < Fp.p) {X : K} (h : toK s = X * X) : (fsqrt s).2 = true ∧ toK (fsqrt s).1 * toK (fsqrt s).1 = X * X ∧ (fsqrt s).1 % 2 = 0 ∧ (fsqrt s).1 < Fp.p := by
  have hT : ∃ T : K, toK (fpow s eighth 256) * toK (fpow s eighth 256) = toK s * T ∧ (X ≠ 0 → T * T = 1) := by
    refine ⟨toK (s ^ (2 * eighth - 1)), ?_, fun hX => ?_⟩
    · rw [toK_fpow _ _ (by decide +kernel), ← to_mul, ← to_mul, ← Nat.pow_add, ← Nat.pow_succ', show (2 * eighth - 1).succ = eighth + eighth by decide +kernel]
    · have hX' : X.val % P0 ≠ 0 := fun e => hX (by rw [← val_to X]; exact to_zero.2 e)
      rw [← to_mul, ← Nat.pow_add]
      show _ = toK 1
      rw [to_eq, show 1 % P0 = 1 by decide +kernel]
      refine Eq.trans ?_ (fermat _ hX')
      have e1 : s % P0 = (X.val * X.val) % P0 := by rw [← to_eq, h, to_mul, val_to]
      rw [Nat.pow_mod, e1, ← Nat.pow_mod, Nat.mul_pow, ← Nat.pow_add]
      congr 2
  obtain ⟨T, hT1, hT2⟩ := hT
  have hy : ∃ y, y < Fp.p ∧ fmul y y = s ∧ fsqrt s = (if y % 2 = 1 then fsub 0 y else y, true) := by
    by_cases h1 : fmul (fpow s eighth 256) (fpow s eighth 256) = s
    · exact ⟨fpow s eighth 256, fpow_lt _ _ _, h1, by unfold fsqrt; simp only [if_pos h1]⟩
    · have h2 : T ≠ 1 := fun e => h1 (toK_lt (fmul_lt _ _) hs (by rw [to_fmul, hT1, e]; grind))
      have h0 : X ≠ 0 := fun e => h1 (toK_lt (fmul_lt _ _) hs (by rw [to_fmul, hT1, h, e]; grind))
      have h3 := (pm_one (hT2 h0)).resolve_left h2
      have h4 : fmul (fmul (fpow s eighth 256) im) (fmul (fpow s eighth 256) im) = s := toK_lt (fmul_lt _ _) hs (by
        rw [to_fmul, to_fmul]
        have := im_k
        rw [h3] at hT1
        grind)
      exact ⟨fmul (fpow s eighth 256) im, fmul_lt _ _, h4, by unfold fsqrt; simp only [if_neg h1, if_pos h4]⟩
  obtain ⟨y, y1, y2, y3⟩ := hy
  have y4 : toK y * toK y = X * X := by rw [← to_fmul, y2, h]
  have hp2 : Fp.p % 2 = 1 := by decide +kernel
  rw [y3]
  refine ⟨rfl, ?_⟩
  show toK (if y % 2 = 1 then fsub 0 y else y) * toK (if y % 2 = 1 then fsub 0 y else y) = _ ∧ (if y % 2 = 1 then fsub 0 y else y) % 2 = 0 ∧ (if y % 2 = 1 then fsub 0 y else y) < Fp.p
  split
  · rename_i ho
    have e1 : fsub 0 y = Fp.p - y := by
      rw [fsub, Nat.zero_add, Nat.mod_eq_of_lt (by omega)]
    refine ⟨?_, by rw [e1]; omega, fsub_lt _ _⟩
    rw [to_fsub 0 y1]
    have : toK 0 = 0 := rfl
    rw [this]
    grind
  · exact ⟨y4, by omega, y1⟩
theorem o4 {n : Nat} [NeZero n] (d : Fin n) : d * (0 * 0) + 1 = 1 := by grind
theorem den (A : K × K) : toK D0 * (A.2 * A.2) + 1 ≠ 0 := by
  intro h
  obtain ⟨i, hi⟩ := fld.im
  have h1 : i * i = toK D0 * (A.2 * A.2) := by rw [hi]; grind
  have h2 := non h1
  rw [h2] at h
  have h3 : toK D0 * ((0 : K) * 0) + 1 = 1 := o4 _
  exact fld.one (h3.symm.trans h)
theorem num {A : K × K} (hA : on A) : (A.2 * A.2 - 1) * inv (toK D0 * (A.2 * A.2) + 1) = A.1 * A.1 := by
  have h1 := inv_ok _ (den A)
  have h2 : A.2 * A.2 - 1 = A.1 * A.1 * (toK D0 * (A.2 * A.2) + 1) := by
    have h3 : A.2 * A.2 = A.1 * A.1 + 1 + toK D0 * (A.1 * A.1) * (A.2 * A.2) := hA
    grind
  rw [h2]
  grind
theorem read_back {A : K × K} (hA : on A) : ∃ Q, eread (A.2.val + 2 ^ 255 * (A.1.val % 2)) = some Q ∧ Is Q A := by
  have hp := p_eq
  have hy : A.2.val < Fp.p := A.2.isLt
  have hx : A.1.val < Fp.p := A.1.isLt
  have hb : A.1.val % 2 < 2 := Nat.mod_lt _ (by decide)
  have e1 : (A.2.val + 2 ^ 255 * (A.1.val % 2)) % 2 ^ 255 = A.2.val := by omega
  have e2 : (A.2.val + 2 ^ 255 * (A.1.val % 2)) / 2 ^ 255 = A.1.val % 2 := by omega
  have hp2 : Fp.p % 2 = 1 := by decide +kernel
  obtain ⟨r1, r2, r3, r4⟩ := root_k (s := fmul (fsub (fmul A.2.val A.2.val) 1) (finv (fadd (fmul dd (fmul A.2.val A.2.val)) 1))) (fmul_lt _ _) (X := A.1) (by
    rw [to_fmul, toK_finv, to_fsub _ one_lt, to_fadd, to_fmul, to_fmul, to_fmul, val_to, d_is]
    exact num hA)
  unfold eread
  simp only [e1, e2]
  rw [if_pos hy]
  generalize fsqrt (fmul (fsub (fmul A.2.val A.2.val) 1) (finv (fadd (fmul dd (fmul A.2.val A.2.val)) 1))) = R at *
  have hx0 : A.1.val % 2 = 1 → R.1 ≠ 0 := fun ho h0 => by
    rw [h0] at r2
    have h1 : A.1 * A.1 = 0 := by rw [← r2]; rfl
    have h2 : A.1 = 0 := (int h1).elim id id
    rw [h2] at ho
    exact absurd ho (by decide +kernel)
  rw [if_pos ⟨r1, hx0⟩]
  refine ⟨_, rfl, ?_⟩
  have key : toK (if A.1.val % 2 = 1 then fsub 0 R.1 else R.1) = A.1 := by
    have v1 : toK A.1.val = A.1 := val_to _
    split
    · rename_i ho
      rw [to_fsub 0 r4]
      rcases pm r2 with h | h
      · have := toK_is r4 h
        omega
      · rw [h]
        show toK 0 - -A.1 = A.1
        have : toK 0 = 0 := rfl
        rw [this]
        grind
    · rename_i ho
      rcases pm r2 with h | h
      · exact h
      · have h1 : toK (R.1 + A.1.val) = 0 := by rw [to_add, h, v1]; grind
        rw [to_zero] at h1
        have h2 : R.1 = 0 ∧ A.1.val = 0 := by
          have h1' : (R.1 + A.1.val) % Fp.p = 0 := h1
          obtain ⟨c, hc⟩ := Nat.dvd_of_mod_eq_zero h1'
          have : c < 2 := by
            rcases Nat.lt_or_ge c 2 with h3 | h3
            · exact h3
            · have := Nat.mul_le_mul_left Fp.p h3
              omega
          rcases (show c = 0 ∨ c = 1 by omega) with rfl | rfl <;> omega
        rw [h2.1]
        rw [h2.2] at v1
        exact v1
  have hlt : (if A.1.val % 2 = 1 then fsub 0 R.1 else R.1) < Fp.p := by
    split
    · exact fsub_lt _ _
    · exact r4
  have t1 : toK 1 = 1 := rfl
  exact ⟨⟨hlt, hy, one_lt, fmul_lt _ _⟩, ⟨by show toK 1 ≠ 0; exact fld.one, by show toK _ = A.1 * toK 1; rw [key, t1]; grind, by show toK _ = A.2 * toK 1; rw [val_to, t1]; grind, by show toK (fmul _ _) = A.1 * A.2 * toK 1; rw [to_fmul, key, val_to, t1]; grind⟩⟩
end Go.Proofs.YtogebegdgfdijaaDoor.Ed
namespace Go.Proofs.YtogebegdgfdijaaDoor.Ed
section
variable {n : Nat} [NeZero n]
theorem mon_dbl (c d x y : Fin n) (hE : y * y = x * x + 1 + d * (x * x) * (y * y)) (hd : (c + 1) * d = -c) : y * y = (1 + c * (1 - y * y)) * (1 + x * x) := by grind
theorem mon_sq (d x1 y1 x2 y2 : Fin n) (h1 : y1 * y1 = x1 * x1 + 1 + d * (x1 * x1) * (y1 * y1)) (h2 : y2 * y2 = x2 * x2 + 1 + d * (x2 * x2) * (y2 * y2)) :
  ((1 - y1 * y2) * (1 - y1 * y2) - x1 * x2 * (x1 * x2) * ((1 + d * (y1 * y2)) * (1 + d * (y1 * y2)))) * ((y1 + y2) * (y1 + y2)) = ((1 + y1 * y2) * (1 + y1 * y2) - x1 * x2 * (x1 * x2) * ((1 - d * (y1 * y2)) * (1 - d * (y1 * y2)))) * ((y1 - y2) * (y1 - y2)) := by grind
theorem mden (d x y : Fin n) (hE : y * y = x * x + 1 + d * (x * x) * (y * y)) : 1 - d * x * x * y * y = 2 - y * y + x * x := by grind
theorem du1 (g p x y s v : Fin n) (hd : y * y = g * (1 + x * x)) (hp : p = 2 - y * y + x * x) (hv : p * v = 1) :
  (s * (1 + y) + s * (1 - y)) * (s * (1 + y) + s * (1 - y)) * ((s * (1 + y) - s * (1 - y)) * (s * (1 + y) - s * (1 - y))) = 8 * (s * s * s * s) * g * p * (1 + (y * y + x * x) * v) := by grind
theorem du2 (c g p x y s v : Fin n) (hg : g = 1 + c * (1 - y * y)) (hp : p = 2 - y * y + x * x) (hv : p * v = 1) :
  ((s * (1 + y) + s * (1 - y)) * (s * (1 + y) + s * (1 - y)) - (s * (1 + y) - s * (1 - y)) * (s * (1 + y) - s * (1 - y))) * ((s * (1 + y) + s * (1 - y)) * (s * (1 + y) + s * (1 - y)) + c * ((s * (1 + y) + s * (1 - y)) * (s * (1 + y) + s * (1 - y)) - (s * (1 + y) - s * (1 - y)) * (s * (1 + y) - s * (1 - y)))) = 8 * (s * s * s * s) * g * p * (1 - (y * y + x * x) * v) := by grind
theorem ng1 (x y w : Fin n) : (-x * y + y * x) * w = 0 := by grind
theorem ng2 (d x y : Fin n) (hE : y * y = x * x + 1 + d * (x * x) * (y * y)) : y * y + -x * x = 1 - d * -x * x * y * y := by grind
theorem ng3 (d x y : Fin n) (hE : y * y = x * x + 1 + d * (x * x) * (y * y)) : y * y = -x * -x + 1 + d * (-x * -x) * (y * y) := by grind
theorem df1 (d x1 y1 x2 y2 w ya : Fin n) (hv : (1 - d * -x1 * x2 * y1 * y2) * w = 1) (h : (y1 * y2 + -x1 * x2) * w = ya) : ya * (1 + d * x1 * x2 * y1 * y2) = y1 * y2 - x1 * x2 := by grind
theorem df2 (d x1 y1 x2 y2 ya : Fin n) (h : ya * (1 + d * x1 * x2 * y1 * y2) = y1 * y2 - x1 * x2) : ya * (1 + d * x2 * x1 * y2 * y1) = y2 * y1 - x2 * x1 := by grind
theorem au1 (s1 s2 y1 y2 : Fin n) : ((s2 * (1 + y2) - s2 * (1 - y2)) * (s1 * (1 + y1) + s1 * (1 - y1)) + (s2 * (1 + y2) + s2 * (1 - y2)) * (s1 * (1 + y1) - s1 * (1 - y1))) * ((s2 * (1 + y2) - s2 * (1 - y2)) * (s1 * (1 + y1) + s1 * (1 - y1)) + (s2 * (1 + y2) + s2 * (1 - y2)) * (s1 * (1 + y1) - s1 * (1 - y1))) = 8 * (s1 * s2 * (s1 * s2)) * (2 * ((y1 + y2) * (y1 + y2))) := by grind
theorem au2 (x s1 s2 y1 y2 : Fin n) : x * (((s2 * (1 + y2) - s2 * (1 - y2)) * (s1 * (1 + y1) + s1 * (1 - y1)) - (s2 * (1 + y2) + s2 * (1 - y2)) * (s1 * (1 + y1) - s1 * (1 - y1))) * ((s2 * (1 + y2) - s2 * (1 - y2)) * (s1 * (1 + y1) + s1 * (1 - y1)) - (s2 * (1 + y2) + s2 * (1 - y2)) * (s1 * (1 + y1) - s1 * (1 - y1)))) = 8 * (s1 * s2 * (s1 * s2)) * (2 * (x * ((y1 - y2) * (y1 - y2)))) := by grind
theorem kya (p1 p2 m1 m2 ya Y C E : Fin n) (h1 : ya * p1 = m1) (h2 : p2 * Y = m2) : p1 * p2 * ((1 - ya) * (1 - Y) * C - (1 + ya) * (1 + Y) * E) = (p1 - m1) * (p2 - m2) * C - (p1 + m1) * (p2 + m2) * E := by subst h1; subst h2; grind
theorem kyb (d x1 y1 x2 y2 : Fin n) : (1 + d * x1 * x2 * y1 * y2 - (y1 * y2 - x1 * x2)) * (1 - d * x1 * x2 * y1 * y2 - (y1 * y2 + x1 * x2)) = (1 - y1 * y2) * (1 - y1 * y2) - x1 * x2 * (x1 * x2) * ((1 + d * (y1 * y2)) * (1 + d * (y1 * y2))) := by grind
theorem kyc (d x1 y1 x2 y2 : Fin n) : (1 + d * x1 * x2 * y1 * y2 + (y1 * y2 - x1 * x2)) * (1 - d * x1 * x2 * y1 * y2 + (y1 * y2 + x1 * x2)) = (1 + y1 * y2) * (1 + y1 * y2) - x1 * x2 * (x1 * x2) * ((1 - d * (y1 * y2)) * (1 - d * (y1 * y2))) := by grind
theorem kyd (N v p Y : Fin n) (hv : p * v = 1) (hY : Y = N * v) : p * Y = N := by subst hY; grind
theorem kye (a b : Fin n) (h : a = b) : a - b = 0 := by subst h; grind
theorem ky1 (d x1 y1 x2 y2 ya Y v : Fin n) (hs : ((1 - y1 * y2) * (1 - y1 * y2) - x1 * x2 * (x1 * x2) * ((1 + d * (y1 * y2)) * (1 + d * (y1 * y2)))) * ((y1 + y2) * (y1 + y2)) = ((1 + y1 * y2) * (1 + y1 * y2) - x1 * x2 * (x1 * x2) * ((1 - d * (y1 * y2)) * (1 - d * (y1 * y2)))) * ((y1 - y2) * (y1 - y2)))
  (hm : ya * (1 + d * x1 * x2 * y1 * y2) = y1 * y2 - x1 * x2) (hv : (1 - d * x1 * x2 * y1 * y2) * v = 1) (hY : Y = (y1 * y2 + x1 * x2) * v) :
  (1 + d * x1 * x2 * y1 * y2) * (1 - d * x1 * x2 * y1 * y2) * ((1 - ya) * (1 - Y) * ((y1 + y2) * (y1 + y2)) - (1 + ya) * (1 + Y) * ((y1 - y2) * (y1 - y2))) = 0 := by
  rw [kya _ _ _ _ ya Y _ _ hm (kyd _ _ _ _ hv hY), kyb, kyc]
  exact kye _ _ hs
theorem ky2 (ya Y x C E : Fin n) (h : (1 - ya) * (1 - Y) * C - (1 + ya) * (1 + Y) * E = 0) (hx : x * (1 - ya) = 1 + ya) : (1 - ya) * ((1 - Y) * C - (1 + Y) * (x * E)) = 0 := by grind
theorem ky3 (Y C E : Fin n) (h : (1 - Y) * C - (1 + Y) * E = 0) : 2 * C = (C + E) * (1 + Y) ∧ 2 * E = (C + E) * (1 - Y) := by constructor <;> grind
theorem assoc_n (a b c : Fin n) : a * b * c = a * (b * c) := by grind
theorem zmul_n (a : Fin n) : 0 * a = 0 := by grind
theorem zz1 (y1 y2 : Fin n) (h1 : y1 + y2 = 0) (h2 : y1 - y2 = 0) : 2 * y1 = 0 := by grind
theorem zz3 (y : Fin n) (h : 0 + y = 0) : y = 0 := by grind
theorem zz2 (d x1 x2 ya : Fin n) (h1 : (0 : Fin n) * 0 = x1 * x1 + 1 + d * (x1 * x1) * (0 * 0)) (h2 : (0 : Fin n) * 0 = x2 * x2 + 1 + d * (x2 * x2) * (0 * 0)) (hm : ya * (1 + d * x1 * x2 * 0 * 0) = 0 * 0 - x1 * x2) : (1 - ya) * (1 + ya) = 0 := by grind
theorem ue1 (s y u : Fin n) (h : u * (1 - y) = 1 + y) : s * (1 + y) = u * (s * (1 - y)) := by grind
theorem ue2 (v a b : Fin n) (h : v * a = 1) : b * v * a = b := by grind
theorem ue3 (u v a : Fin n) (h : u * a = v * a) : (u - v) * a = 0 := by grind
theorem ue4 (u v : Fin n) (h : u - v = 0) : u = v := by grind
theorem ue5 (h : Fin n) (e : h * 2 = 1) : (1 : Fin n) = h * (1 + 1) ∧ (0 : Fin n) = h * (1 - 1) := by constructor <;> grind
theorem ue6 (x v y : Fin n) (hx : x * (1 - y) = 1 + y) (hv : (1 - y) * v = 1) : x = v * (1 + y) ∧ 1 = v * (1 - y) := by constructor <;> grind
theorem one0 (d x y : Fin n) (hE : y * y = x * x + 1 + d * (x * x) * (y * y)) (h : 1 - y = 0) : y = 1 ∧ x * x * (1 + d) = 0 := by
  have hy : y = 1 := by grind
  subst hy
  exact ⟨rfl, by grind⟩
theorem one1 (d x y : Fin n) (hE : y * y = x * x + 1 + d * (x * x) * (y * y)) (h : 1 + y = 0) : y = -1 ∧ x * x * (1 + d) = 0 := by
  have hy : y = -1 := by grind
  subst hy
  exact ⟨rfl, by grind⟩
theorem ue7 (t a b v : Fin n) : t * a * v * b = a * (t * b * v) := by grind
theorem mul_one_n (a : Fin n) : a * 1 = a := by grind
theorem mulz_n (a : Fin n) : a * 0 = 0 := by grind
theorem neg0 : -(0 : Fin n) = 0 := by grind
end
end Go.Proofs.YtogebegdgfdijaaDoor.Ed
namespace Go.Proofs.YtogebegdgfdijaaDoor.Ed
open Go.RowKit Lm Fp Cu Pri
def C0 : K := toK 121665
theorem c_d : (C0 + 1) * toK D0 = -C0 := by decide +kernel
theorem c_one : ¬ (1 + C0 * (1 - 0) = (0 : K)) := by decide +kernel
theorem eight_k : (8 : K) ≠ 0 := by decide +kernel
theorem two_k : (2 : K) ≠ 0 := by decide +kernel
theorem mne {a b : K} (ha : a ≠ 0) (hb : b ≠ 0) : a * b ≠ 0 := mul_ne fld ha hb
/-- (a : b) is the number of A. -/
def Uo (a b : K) (A : K × K) : Prop := ∃ s : K, s ≠ 0 ∧ a = s * (1 + A.2) ∧ b = s * (1 - A.2)
theorem u_dbl {a b : K} {A : K × K} (hA : on A) (h : Uo a b A) :
    Uo ((a + b) * (a + b) * ((a - b) * (a - b))) (((a + b) * (a + b) - (a - b) * (a - b)) * ((a + b) * (a + b) + C0 * ((a + b) * (a + b) - (a - b) * (a - b)))) (add A A) := by
  obtain ⟨s, hs, rfl, rfl⟩ := h
  obtain ⟨_, w2⟩ := whole fld hA hA
  have hv := inv_ok _ w2
  obtain ⟨x, y⟩ := A
  have hE : y * y = x * x + 1 + toK D0 * (x * x) * (y * y) := hA
  have hd := mon_dbl C0 (toK D0) x y hE c_d
  have hp := mden (toK D0) x y hE
  have hg : 1 + C0 * (1 - y * y) ≠ 0 := by
    intro h
    rw [h, zero_mul_k] at hd
    rw [hd] at h
    exact c_one h
  simp only at hv w2
  refine ⟨8 * (s * s * s * s) * (1 + C0 * (1 - y * y)) * (1 - toK D0 * x * x * y * y), mne (mne (mne eight_k (mne (mne (mne hs hs) hs) hs)) hg) w2, ?_, ?_⟩
  · exact du1 _ _ x y s _ hd hp hv
  · exact du2 C0 _ _ x y s _ rfl hp hv
def ng (A : K × K) : K × K := (-A.1, A.2)
theorem on_ng {A : K × K} (h : on A) : on (ng A) := ng3 (toK D0) A.1 A.2 h
theorem ng_add {A : K × K} (h : on A) : add (ng A) A = (0, 1) := by
  obtain ⟨_, w2⟩ := whole fld (on_ng h) h
  have hv := inv_ok _ w2
  obtain ⟨x, y⟩ := A
  have hE : y * y = x * x + 1 + toK D0 * (x * x) * (y * y) := h
  show (_, _) = ((0 : K), (1 : K))
  refine Prod.ext ?_ ?_
  · exact ng1 x y _
  · show (y * y + -x * x) * inv (1 - toK D0 * -x * x * y * y) = 1
    rw [ng2 (toK D0) x y hE]
    exact hv
theorem diff {A B : K × K} (hA : on A) (hB : on B) : B.2 * (1 + toK D0 * A.1 * (add A B).1 * A.2 * (add A B).2) = A.2 * (add A B).2 - A.1 * (add A B).1 := by
  have h1 : add (ng A) (add A B) = B := by
    show eadd (toK D0) inv (ng A) (eadd (toK D0) inv A B) = B
    rw [← add_assoc fld inv_ok (on_ng hA) hA hB]
    have : eadd (toK D0) inv (ng A) A = (0, 1) := ng_add hA
    rw [this, zero_add fld inv_ok]
  obtain ⟨_, w2⟩ := whole fld (on_ng hA) (on_add fld inv_ok hA hB)
  have hv := inv_ok _ w2
  have h2 := congrArg Prod.snd h1
  exact df1 _ _ _ _ _ _ _ hv h2
theorem sq0 {a : K} (h : a * a = 0) : a = 0 := (fld.int _ _ h).elim id id
/-- The differential addition: A and B, of which the difference's number is x. -/
theorem u_add {a b c d : K} {A B : K × K} {x ya : K} (hA : on A) (hB : on B) (h1 : Uo a b A) (h2 : Uo c d B) (hx : x * (1 - ya) = 1 + ya) (hn1 : 1 - ya ≠ 0) (hn2 : 1 + ya ≠ 0)
    (hm : ya * (1 + toK D0 * A.1 * B.1 * A.2 * B.2) = A.2 * B.2 - A.1 * B.1) :
    Uo (((c - d) * (a + b) + (c + d) * (a - b)) * ((c - d) * (a + b) + (c + d) * (a - b))) (x * (((c - d) * (a + b) - (c + d) * (a - b)) * ((c - d) * (a + b) - (c + d) * (a - b)))) (add A B) := by
  obtain ⟨s1, hs1, rfl, rfl⟩ := h1
  obtain ⟨s2, hs2, rfl, rfl⟩ := h2
  obtain ⟨w1, w2⟩ := whole fld hA hB
  have hv := inv_ok _ w2
  have hs := mon_sq (toK D0) A.1 A.2 B.1 B.2 hA hB
  have hY : (add A B).2 = (A.2 * B.2 + A.1 * B.1) * inv (1 - toK D0 * A.1 * B.1 * A.2 * B.2) := rfl
  have k1 := ky1 (toK D0) A.1 A.2 B.1 B.2 ya _ _ hs hm hv hY
  have k2 := (fld.int _ _ k1).resolve_left (mne w1 w2)
  have k3 := (fld.int _ _ (ky2 ya _ x _ _ k2 hx)).resolve_left hn1
  obtain ⟨k4, k5⟩ := ky3 _ _ _ k3
  refine ⟨8 * (s1 * s2 * (s1 * s2)) * ((A.2 + B.2) * (A.2 + B.2) + x * ((A.2 - B.2) * (A.2 - B.2))), mne (mne eight_k (mne (mne hs1 hs2) (mne hs1 hs2))) ?_, ?_, ?_⟩
  · intro h0
    rw [h0, zmul_n] at k4 k5
    have c1 := (fld.int _ _ k4).resolve_left two_k
    have c2 := (fld.int _ _ k5).resolve_left two_k
    have e1 := sq0 c1
    rcases fld.int _ _ c2 with e2 | e2
    · rw [e2, zmul_n] at hx
      exact hn2 hx.symm
    · have e3 := sq0 e2
      have e4 := (fld.int _ _ (zz1 _ _ e1 e3)).resolve_left two_k
      have e5 : B.2 = 0 := by
        rw [e4] at e1
        exact zz3 _ e1
      have hA' : A.2 * A.2 = A.1 * A.1 + 1 + toK D0 * (A.1 * A.1) * (A.2 * A.2) := hA
      have hB' : B.2 * B.2 = B.1 * B.1 + 1 + toK D0 * (B.1 * B.1) * (B.2 * B.2) := hB
      rw [e4] at hA' hm
      rw [e5] at hB' hm
      exact (fld.int _ _ (zz2 _ _ _ _ hA' hB' hm)).elim hn1 hn2
  · rw [au1, k4, assoc_n (8 * _)]
  · rw [au2, k5, assoc_n (8 * _)]
/-! ### The ladder -/
def Lad (A : K × K) (m : Nat) (s : La) : Prop := Uo (toK s.a) (toK s.b) (tm A m) ∧ Uo (toK s.c) (toK s.d) (tm A (m + 1))
theorem lad_step {A : K × K} {x m β : Nat} {s : La} (hA : on A) (hβ : β < 2) (hl : LtP s) (hx : toK x * (1 - A.2) = 1 + A.2) (hn1 : 1 - A.2 ≠ 0) (hn2 : 1 + A.2 ≠ 0) (h : Lad A m s) : Lad A (2 * m + β) ((lstep x (s.swap β)).swap β) := by
  obtain ⟨k1, k2, k3, k4⟩ := lstep_k x (s.swap β) (swap_lt hl β)
  obtain ⟨u1, u2⟩ := h
  have o1 := on_times fld inv_ok hA m
  have o2 := on_times fld inv_ok hA (m + 1)
  have df := diff o1 hA
  have df' := df2 _ _ _ _ _ _ df
  have hβ2 : β = 0 ∨ β = 1 := by omega
  have t1 : add (tm A m) (tm A (m + 1)) = tm A (2 * m + 1) := by
    rw [show 2 * m + 1 = m + (m + 1) by omega]
    exact (times_add fld inv_ok hA _ _).symm
  rcases hβ2 with rfl | rfl
  · have e1 : s.swap 0 = s := rfl
    have e2 : ∀ t : La, t.swap 0 = t := fun _ => rfl
    rw [e1] at k1 k2 k3 k4
    rw [e1, e2]
    refine ⟨?_, ?_⟩
    · rw [k1, k2, show 2 * m + 0 = m + m by omega, show tm A (m + m) = add (tm A m) (tm A m) from times_add fld inv_ok hA _ _]
      exact u_dbl o1 u1
    · rw [k3, k4, show 2 * m + 0 + 1 = 2 * m + 1 from rfl, ← t1]
      exact u_add o1 o2 u1 u2 hx hn1 hn2 df
  · have e1 : s.swap 1 = ⟨s.c, s.d, s.a, s.b⟩ := rfl
    have e2 : ∀ t : La, t.swap 1 = ⟨t.c, t.d, t.a, t.b⟩ := fun _ => rfl
    rw [e1] at k1 k2 k3 k4
    rw [e1, e2]
    simp only at k1 k2 k3 k4
    refine ⟨?_, ?_⟩
    · show Uo (toK (lstep x ⟨s.c, s.d, s.a, s.b⟩).c) (toK (lstep x ⟨s.c, s.d, s.a, s.b⟩).d) _
      rw [k3, k4, ← t1, show add (tm A m) (tm A (m + 1)) = add (tm A (m + 1)) (tm A m) from add_comm _ _]
      exact u_add o2 o1 u2 u1 hx hn1 hn2 df'
    · show Uo (toK (lstep x ⟨s.c, s.d, s.a, s.b⟩).a) (toK (lstep x ⟨s.c, s.d, s.a, s.b⟩).b) _
      rw [k1, k2, show 2 * m + 1 + 1 = (m + 1) + (m + 1) by omega, show tm A ((m + 1) + (m + 1)) = add (tm A (m + 1)) (tm A (m + 1)) from times_add fld inv_ok hA _ _]
      exact u_dbl o2 u2
theorem lad_zero {A : K × K} {x : Nat} (hx : toK x * (1 - A.2) = 1 + A.2) (hn1 : 1 - A.2 ≠ 0) : Lad A 0 ⟨1, 0, x, 1⟩ := by
  have hv := inv_ok _ hn1
  have hi : inv (1 - A.2) ≠ 0 := by
    intro e
    rw [e] at hv
    exact fld.one (by rw [← hv, mulz_n])
  have ha : tm A 1 = A := zero_add fld inv_ok A
  refine ⟨⟨toK ((P0 + 1) / 2), by decide +kernel, ?_⟩, ⟨inv (1 - A.2), hi, ?_⟩⟩
  · exact ue5 (toK ((P0 + 1) / 2)) (by decide +kernel)
  · show _ ∧ toK 1 = inv (1 - A.2) * (1 - (tm A 1).2)
    rw [show tm A (0 + 1) = A from ha]
    exact ue6 _ _ _ hx hv
theorem lad_go {A : K × K} {x k : Nat} (hA : on A) (hp : x < p) (hk : k < 2 ^ 255) (hx : toK x * (1 - A.2) = 1 + A.2) (hn1 : 1 - A.2 ≠ 0) (hn2 : 1 + A.2 ≠ 0) : ∀ n, n ≤ 255 → Lad A (k / 2 ^ (255 - n)) (lgo x k n)
  | 0, _ => by
    rw [Nat.sub_zero, Nat.div_eq_of_lt hk]
    exact lad_zero hx hn1
  | n + 1, hn => by
    have ih := lad_go hA hp hk hx hn1 hn2 n (by omega)
    have h1 : 255 - n = (254 - n) + 1 := by omega
    have h3 : k / 2 ^ (255 - n) = k / 2 ^ (254 - n) / 2 := by rw [h1, Nat.pow_succ, Nat.div_div_eq_div_mul]
    have h := lad_step hA (Nat.mod_lt (k / 2 ^ (254 - n)) (by decide : 0 < 2)) (lgo_lt x k hp n) hx hn1 hn2 ih
    rw [h3] at h
    rw [show 255 - (n + 1) = 254 - n by omega, show k / 2 ^ (254 - n) = 2 * (k / 2 ^ (254 - n) / 2) + k / 2 ^ (254 - n) % 2 by omega]
    have e : (2 * (k / 2 ^ (254 - n) / 2) + k / 2 ^ (254 - n) % 2) = k / 2 ^ (254 - n) := by omega
    rw [e] at h ⊢
    exact h
theorem clamp_lt (k : Nat) : clamp k < 2 ^ 255 := by
  unfold clamp
  have : k / 8 * 8 % 2 ^ 254 < 2 ^ 254 := Nat.mod_lt _ (by decide)
  omega
/-- What a ladder leads to. -/
theorem x_mul {A : K × K} {u : Nat} (hA : on A) (hu : u < p) (hx : toK u * (1 - A.2) = 1 + A.2) (hn1 : 1 - A.2 ≠ 0) (hn2 : 1 + A.2 ≠ 0) (k : Nat) (hk : 1 - (tm A (clamp k)).2 ≠ 0) :
    toK (x25519 k u) * (1 - (tm A (clamp k)).2) = 1 + (tm A (clamp k)).2 := by
  have hp : p < 2 ^ 255 := by decide +kernel
  have h := (lad_go hA hu (clamp_lt k) hx hn1 hn2 255 (Nat.le_refl _)).1
  rw [show 255 - 255 = 0 from rfl, Nat.pow_zero, Nat.div_one] at h
  unfold x25519
  rw [Nat.mod_eq_of_lt (Nat.lt_trans hu hp), Nat.mod_eq_of_lt hu]
  simp only
  generalize lgo u (clamp k) 255 = s at h ⊢
  generalize tm A (clamp k) = B at h hk ⊢
  obtain ⟨t, ht, ha, hb⟩ := h
  rw [to_fmul, toK_finv, ha, hb]
  have hv := inv_ok _ (mne ht hk)
  rw [show t * (1 + B.2) * inv (t * (1 - B.2)) * (1 - B.2) = (1 + B.2) * (t * (1 - B.2) * inv (t * (1 - B.2))) from ue7 _ _ _ _, hv, mul_one_n]
end Go.Proofs.YtogebegdgfdijaaDoor.Ed
namespace Go.Proofs.YtogebegdgfdijaaDoor.Ed
open Go.RowKit Lm Fp Cu Pri
set_option maxRecDepth 100000
theorem q1 : Pr 1224481 := trial (k := 1107) (by decide) (by decide) (by decide +kernel)
theorem q2 : Pr 531581 := trial (k := 730) (by decide) (by decide) (by decide +kernel)
theorem q3 : Pr 1257559732178653 := Test.prime (a := 2) (rs := [1224481, 531581]) ⟨by decide, by decide +kernel, by simpa using ⟨q1, q2⟩, by decide +kernel, by decide +kernel, by decide +kernel⟩ (by decide +kernel)
theorem q4 : Pr 4434155615661930479 := Test.prime (a := 2) (rs := [1257559732178653]) ⟨by decide, by decide +kernel, by simpa using q3, by decide +kernel, by decide +kernel, by decide +kernel⟩ (by decide +kernel)
theorem q5 : Pr 172054593956031949258510691 := Test.prime (a := 2) (rs := [4434155615661930479]) ⟨by decide, by decide +kernel, by simpa using q4, by decide +kernel, by decide +kernel, by decide +kernel⟩ (by decide +kernel)
theorem q6 : Pr 19757330305831588566944191468367130476339 := Test.prime (a := 2) (rs := [172054593956031949258510691]) ⟨by decide, by decide +kernel, by simpa using q5, by decide +kernel, by decide +kernel, by decide +kernel⟩ (by decide +kernel)
theorem q7 : Pr 276602624281642239937218680557139826668747 := Test.prime (a := 2) (rs := [19757330305831588566944191468367130476339]) ⟨by decide, by decide +kernel, by simpa using q6, by decide +kernel, by decide +kernel, by decide +kernel⟩ (by decide +kernel)
theorem prQ : Pr Sc.q := Test.prime (a := 2) (rs := [276602624281642239937218680557139826668747]) ⟨by decide +kernel, by decide +kernel, by simpa using q7, by decide +kernel, by decide +kernel, by decide +kernel⟩ (by decide +kernel)
theorem tm_gcd (a b : Nat) : tm B0 a = (0, 1) → tm B0 b = (0, 1) → tm B0 (Nat.gcd a b) = (0, 1) := by
  induction a, b using Nat.gcd.induction with
  | H0 n => intro _ h; rwa [Nat.gcd_zero_left]
  | H1 m n hm ih =>
    intro h1 h2
    rw [Nat.gcd_rec]
    refine ih ?_ h1
    rw [show tm B0 (n % m) = tm B0 n from times_mod fld inv_ok on_base h1 n]
    exact h2
theorem base_ne : B0 ≠ (0, 1) := by
  intro h
  exact absurd (congrArg Prod.snd h) (by decide +kernel)
theorem no_ord {m : Nat} (hm : ¬ Sc.q ∣ m) : tm B0 m ≠ (0, 1) := by
  intro h
  have h1 := tm_gcd Sc.q m base_q h
  have h2 : Nat.gcd Sc.q m = 1 := cop prQ hm
  rw [h2] at h1
  have h3 : tm B0 1 = B0 := zero_add fld inv_ok B0
  exact base_ne (h3.symm.trans h1)
theorem d_one : 1 + toK D0 ≠ 0 := by decide +kernel
theorem neg_k : ng ((0 : K), -1) = (0, -1) := by decide +kernel
theorem y_ne {m : Nat} (hm : ¬ Sc.q ∣ m) : 1 - (tm B0 m).2 ≠ 0 ∧ 1 + (tm B0 m).2 ≠ 0 := by
  have ho : on (tm B0 m) := on_times fld inv_ok on_base m
  have key : ∀ A : K × K, A.1 * A.1 * (1 + toK D0) = 0 → A.1 = 0 := fun A h => sq0 ((fld.int _ _ h).resolve_right d_one)
  constructor
  · intro h
    obtain ⟨h1, h2⟩ := one0 (toK D0) _ _ ho h
    exact no_ord hm (Prod.ext (key _ h2) h1)
  · intro h
    obtain ⟨h1, h2⟩ := one1 (toK D0) _ _ ho h
    have e : tm B0 m = (0, -1) := Prod.ext (key _ h2) h1
    have hn := ng_add ho
    rw [e, neg_k, ← e] at hn
    have h3 : tm B0 (m + m) = (0, 1) := (times_add fld inv_ok on_base m m).trans hn
    refine no_ord (m := m + m) ?_ h3
    intro hd
    rw [show m + m = 2 * m by omega] at hd
    rcases prQ.dvd_mul hd with h4 | h4
    · exact absurd (Nat.le_of_dvd (by decide) h4) (by decide +kernel)
    · exact hm h4
theorem clamp_q (k : Nat) : ¬ Sc.q ∣ clamp k := by
  intro h
  have h1 : clamp k = 8 * (clamp k / 8) := by
    have : (2 : Nat) ^ 254 = 8 * 2 ^ 251 := by decide
    have h2 : k / 8 * 8 % 2 ^ 254 % 8 = 0 := by
      rw [Nat.mod_mod_of_dvd _ (show 8 ∣ 2 ^ 254 from ⟨2 ^ 251, this⟩)]
      omega
    have h3 : clamp k % 8 = 0 := by unfold clamp; omega
    omega
  have h0 : 2 ^ 254 ≤ clamp k := by unfold clamp; omega
  have h4 := clamp_lt k
  have hq : 2 ^ 252 < Sc.q := by decide +kernel
  rw [h1] at h
  rcases prQ.dvd_mul h with h5 | h5
  · have := Nat.le_of_dvd (by decide) h5
    omega
  · have := Nat.le_of_dvd (by omega) h5
    omega
theorem prod_q (k l : Nat) : ¬ Sc.q ∣ clamp k * clamp l := fun h => (prQ.dvd_mul h).elim (clamp_q k) (clamp_q l)
theorem one_q : ¬ Sc.q ∣ 1 := fun h => absurd (Nat.le_of_dvd (by decide) h) (by decide +kernel)
theorem nine_b : toK 9 * (1 - B0.2) = 1 + B0.2 := by decide +kernel
theorem nine_ne : 1 - B0.2 ≠ 0 ∧ 1 + B0.2 ≠ 0 := by
  have h := y_ne one_q
  rwa [show tm B0 1 = B0 from zero_add fld inv_ok B0] at h
/-- A public number's. -/
theorem x_pub (k : Nat) : toK (x25519 k 9) * (1 - (tm B0 (clamp k)).2) = 1 + (tm B0 (clamp k)).2 :=
  x_mul on_base (by decide +kernel) nine_b nine_ne.1 nine_ne.2 k (y_ne (clamp_q k)).1
theorem x_both (k l : Nat) : toK (x25519 l (x25519 k 9)) * (1 - (tm B0 (clamp k * clamp l)).2) = 1 + (tm B0 (clamp k * clamp l)).2 := by
  have e : tm B0 (clamp k * clamp l) = tm (tm B0 (clamp k)) (clamp l) := times_mul fld inv_ok on_base _ _
  have h := (y_ne (prod_q k l)).1
  rw [e] at h ⊢
  exact x_mul (on_times fld inv_ok on_base _) (x25519_lt k 9) (x_pub k) (y_ne (clamp_q k)).1 (y_ne (clamp_q k)).2 l h
/-- What two share is the same, and is something. -/
theorem x_same (k l : Nat) : x25519 l (x25519 k 9) = x25519 k (x25519 l 9) := by
  have h1 := x_both k l
  have h2 := x_both l k
  rw [Nat.mul_comm (clamp l)] at h2
  refine toK_lt (x25519_lt _ _) (x25519_lt _ _) (ue4 _ _ ((fld.int _ _ (ue3 _ _ _ (h1.trans h2.symm))).resolve_right (y_ne (prod_q k l)).1))
theorem x_ne (k l : Nat) : x25519 l (x25519 k 9) ≠ 0 := by
  intro h
  have h1 := x_both k l
  rw [h, show toK 0 = 0 from rfl, zmul_n] at h1
  exact (y_ne (prod_q k l)).2 h1.symm
end Go.Proofs.YtogebegdgfdijaaDoor.Ed
