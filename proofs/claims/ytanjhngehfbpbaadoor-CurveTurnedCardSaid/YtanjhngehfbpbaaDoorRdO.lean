/- The document's numbers modulo p, sixteen digits to the base 65536: bytes in and out, in plain words. No program here; no condition. -/
import Derived.Test.YtanjhngehfbpbaaDoorRdP
namespace Go.Proofs.YtanjhngehfbpbaaDoor.Rd
open Go.RowKit Lm Fp

theorem vi_nar (ns : List Nat) : vi (nar ns) = (val 65536 ns : Int) := by
  induction ns with
  | nil => rfl
  | cons n ns ih =>
    have e1 : vi (nar (n :: ns)) = (n : Int) + 65536 * vi (nar ns) := by
      rw [vi_len (1 + ns.length) (nar (n :: ns)) (by simp [nar]; omega), si_split, vi_len ns.length (nar ns) (by simp [nar]), ← si_mul]
      have : si 1 (fun i => (65536 : Int) ^ i * (nar (n :: ns)).getD i 0) = n := by simp [si, nar]
      rw [this]
      congr 1
      refine si_congr _ _ _ fun i _ => ?_
      rw [nar_get, nar_get, Nat.add_comm 1 i, List.getD_cons_succ, Int.pow_succ]
      grind
    rw [e1, ih, val]
    omega
theorem near0_nar {xs : List Int} (h : Near 0 xs) : ∃ ns : List Nat, xs = nar ns ∧ ns.length = 16 ∧ (∀ n ∈ ns, n < 65536) := by
  have hm := near_mem h (by decide)
  refine ⟨xs.map Int.toNat, (nar_of xs fun x hx => by have := hm x hx; omega).symm, by simpa using h.1, fun n hn => ?_⟩
  obtain ⟨x, hx, rfl⟩ := List.mem_map.1 hn
  have := hm x hx
  omega
/-- Digits that are digits are those of their number. -/
theorem near0_dig {xs : List Int} (h : Near 0 xs) (V : Nat) (hv : vi xs = V) : xs = nar (dig 65536 16 V) ∧ V < 65536 ^ 16 := by
  obtain ⟨ns, rfl, hl, hb⟩ := near0_nar h
  rw [vi_nar] at hv
  have hv' : val 65536 ns = V := by omega
  refine ⟨by rw [← dig_eq 65536 (by decide) 16 V ns hl hb hv'], ?_⟩
  have := val_lt 65536 ns hb
  rw [hl, hv'] at this
  exact this
theorem near0_nat {xs : List Int} (h : Near 0 xs) : ∃ V : Nat, vi xs = V := by
  obtain ⟨ns, rfl, _, _⟩ := near0_nar h
  exact ⟨_, vi_nar ns⟩

/-! ### p is taken off -/
def P16 : List Int := [65517, 65535, 65535, 65535, 65535, 65535, 65535, 65535, 65535, 65535, 65535, 65535, 65535, 65535, 65535, 32767]
theorem vi_P : vi P16 = (p : Int) := by decide +kernel
def sb (ds : List Int) (i : Nat) : List Int := tb 16 fun j => if j + 1 < i then (ds.getD j 0 + cr ds j) % 65536 else if j + 1 = i then ds.getD j 0 + cr ds j else 0
theorem sb_one (ds : List Int) : (List.replicate 16 (0 : Int)).set 0 (ds.getD 0 0) = sb ds 1 := by
  rw [tb_zero, tb_set]
  refine tb_congr _ _ _ fun j _ => ?_
  by_cases e : j = 0
  · subst e; rw [if_pos rfl, if_neg (by omega), if_pos rfl, cr]; omega
  · rw [if_neg e, if_neg (by omega), if_neg (by omega)]
theorem sb_get (ds : List Int) (i : Nat) (h : i < 16) : (sb ds (i + 1)).getD i 0 = ds.getD i 0 + cr ds i := by
  rw [sb, tb_get _ _ _ h, if_neg (by omega), if_pos rfl]
theorem sb_step (ds : List Int) (i : Nat) (x : Int) (_h : i < 15) (hx : ds.getD i 0 + cr ds i = x) :
    ((sb ds (i + 1)).set (i + 1) (ds.getD (i + 1) 0 + x / 65536)).set i (x % 65536) = sb ds (i + 2) := by
  subst hx
  rw [sb, tb_set, tb_set]
  refine tb_congr _ _ _ fun j hj => ?_
  by_cases e : j = i
  · subst e
    rw [if_pos rfl, if_pos (by omega)]
  · rw [if_neg e]
    by_cases e2 : j = i + 1
    · subst e2
      rw [if_pos rfl, if_neg (by omega), if_pos (by omega)]
      rfl
    · rw [if_neg e2]
      by_cases e3 : j < i
      · rw [if_pos (by omega), if_pos (by omega)]
      · rw [if_neg (by omega), if_neg (by omega), if_neg (by omega), if_neg (by omega)]
theorem sb_set_get (ds : List Int) (i : Nat) (y : Int) (h : i < 15) : ((sb ds (i + 1)).set (i + 1) y).getD i 0 = ds.getD i 0 + cr ds i := by
  rw [sb, tb_set, tb_get _ _ _ (by omega), if_neg (by omega), if_neg (by omega), if_pos rfl]
theorem sb_last (ds : List Int) : sb ds 16 = mid ds 15 := by
  refine tb_congr _ _ _ fun j hj => ?_
  by_cases e : j < 15
  · rw [if_pos (by omega), if_pos e]
  · rw [if_neg (by omega), if_neg e, if_pos (by omega), if_pos (by omega)]
/-- What is there less p. -/
def dsub (us : List Int) : List Int := difr us P16
theorem dsub_get (us : List Int) (j : Nat) (hj : j < 16) : (dsub us).getD j 0 = us.getD j 0 - P16.getD j 0 := by rw [dsub, difr, tb_get _ _ _ hj]
theorem P16_get (j : Nat) (h : 0 < j) (h2 : j < 15) : P16.getD j 0 = 65535 := by
  match j, h, h2 with
  | 1, _, _ | 2, _, _ | 3, _, _ | 4, _, _ | 5, _, _ | 6, _, _ | 7, _, _ | 8, _, _ | 9, _, _ | 10, _, _ | 11, _, _ | 12, _, _ | 13, _, _ | 14, _, _ => rfl
theorem P16_bound (j : Nat) : 0 ≤ P16.getD j 0 ∧ P16.getD j 0 ≤ 65535 := by
  simp only [List.getD]
  cases e : P16[j]? with
  | none => simp
  | some y =>
    have h : ∀ x ∈ P16, 0 ≤ x ∧ x ≤ 65535 := by decide
    simpa using h y (List.mem_of_getElem? e)
theorem near0_get {us : List Int} (h : Near 0 us) (j : Nat) : 0 ≤ us.getD j 0 ∧ us.getD j 0 ≤ 65535 := by
  cases j with
  | zero => have := h.2.1; omega
  | succ j => exact h.2.2 j
theorem dsub_cr {us : List Int} (h : Near 0 us) : ∀ j, j ≤ 16 → -1 ≤ cr (dsub us) j ∧ cr (dsub us) j ≤ 0
  | 0, _ => by rw [cr]; omega
  | j + 1, hj => by
    have ih := dsub_cr h j (by omega)
    have h1 := near0_get h j
    have h2 := P16_bound j
    rw [cr, dsub_get us j (by omega)]
    omega
theorem vi_mid (ds : List Int) : vi (mid ds 15) = si 15 (fun j => 65536 ^ j * ((ds.getD j 0 + cr ds j) % 65536)) + 65536 ^ 15 * (ds.getD 15 0 + cr ds 15) := by
  have a1 : ∀ f : Nat → Int, si 16 f = si 15 f + f 15 := fun _ => rfl
  rw [mid, vi_tb, a1]
  congr 1
theorem vi_mid2 (ds : List Int) (h : ds.length = 16) : vi (mid ds 15) = vi ds := by
  have a1 : ∀ f : Nat → Int, si 16 f = si 15 f + f 15 := fun _ => rfl
  rw [vi_mid, tele, vi_len 16 ds h, a1, Int.mul_add]
  omega
theorem si_low (f : Nat → Int) (h : ∀ j, 0 ≤ f j ∧ f j ≤ 65535) : ∀ n, 0 ≤ si n (fun j => 65536 ^ j * f j) ∧ si n (fun j => 65536 ^ j * f j) < 65536 ^ n
  | 0 => by simp [si]
  | n + 1 => by
    have ih := si_low f h n
    have hf := h n
    have hp : (0 : Int) < 65536 ^ n := Int.pow_pos (by decide)
    have e1 : (65536 : Int) ^ n * f n ≤ 65536 ^ n * 65535 := Int.mul_le_mul_of_nonneg_left hf.2 (by omega)
    have e2 : 0 ≤ (65536 : Int) ^ n * f n := Int.mul_nonneg (by omega) hf.1
    have e3 : (65536 : Int) ^ (n + 1) = 65536 ^ n * 65536 := Int.pow_succ _ _
    rw [si]
    omega
/-- Is there enough? then it is taken off. -/
theorem sub_dec {us : List Int} (h : Near 0 us) (V : Nat) (hv : vi us = V) :
    ((dsub us).getD 15 0 + cr (dsub us) 15 < 0 ∧ V < p) ∨ (0 ≤ (dsub us).getD 15 0 + cr (dsub us) 15 ∧ p ≤ V ∧ Near 0 (mid (dsub us) 15) ∧ vi (mid (dsub us) 15) = ((V - p : Nat) : Int)) := by
  have e : vi (mid (dsub us) 15) = (V : Int) - (p : Int) := by rw [vi_mid2 _ (show (dsub us).length = 16 from tb_len _ _), dsub, vi_difr _ _ h.1 rfl, hv, vi_P]
  have e2 := vi_mid (dsub us)
  have e3 := si_low (fun j => ((dsub us).getD j 0 + cr (dsub us) j) % 65536) (fun j => by omega) 15
  have e4 : (65536 : Int) ^ 15 = 1766847064778384329583297500742918515827483896875618958121606201292619776 := by decide
  have h15 := near0_get h 15
  have p15 := P16_bound 15
  have c15 := dsub_cr h 15 (by decide)
  have d15 := dsub_get us 15 (by decide)
  by_cases hs : (dsub us).getD 15 0 + cr (dsub us) 15 < 0
  · refine .inl ⟨hs, ?_⟩
    rw [e, e4] at e2
    rw [e4] at e3
    generalize si 15 (fun j => 65536 ^ j * (((dsub us).getD j 0 + cr (dsub us) j) % 65536)) = L at e2 e3
    omega
  · refine .inr ⟨by omega, ?_, ⟨tb_len _ _, ?_, fun j => ?_⟩, ?_⟩
    · rw [e, e4] at e2
      rw [e4] at e3
      generalize si 15 (fun j => 65536 ^ j * (((dsub us).getD j 0 + cr (dsub us) j) % 65536)) = L at e2 e3
      omega
    · rw [mid, tb_get _ _ _ (by decide), if_pos (by decide)]
      omega
    · rcases Nat.lt_or_ge (j + 1) 16 with hj | hj
      · rw [mid, tb_get _ _ _ hj]
        by_cases e5 : j + 1 < 15
        · rw [if_pos e5]; omega
        · rw [if_neg e5, if_pos (by omega), show j + 1 = 15 by omega]
          omega
      · rw [mid, tb_out _ _ _ hj]; omega
    · rw [e]
      have : p ≤ V := by
        rw [e, e4] at e2
        rw [e4] at e3
        generalize si 15 (fun j => 65536 ^ j * (((dsub us).getD j 0 + cr (dsub us) j) % 65536)) = L at e2 e3
        omega
      omega

/-! ### Bytes -/
def byt (us : List Int) (j : Nat) : Int := us.getD (j / 2) 0 / 256 ^ (j % 2) % 256
def outs (us : List Int) (i : Nat) : List Int := tb 32 fun j => if j < 2 * i then byt us j else 0
theorem outs_zero (us : List Int) : List.replicate 32 0 = outs us 0 := by
  rw [tb_zero]
  exact tb_congr _ _ _ fun j _ => by rw [if_neg (by omega)]
theorem outs_step (us : List Int) (i : Nat) (x : Int) (hx : us.getD i 0 = x) : ((outs us i).set (2 * i) (x % 256)).set (2 * i + 1) (x / 256 % 256) = outs us (i + 1) := by
  subst hx
  rw [outs, tb_set, tb_set]
  refine tb_congr _ _ _ fun j _ => ?_
  by_cases e : j = 2 * i + 1
  · subst e
    rw [if_pos rfl, if_pos (by omega), byt, show (2 * i + 1) / 2 = i by omega, show (2 * i + 1) % 2 = 1 by omega]
    simp
  · rw [if_neg e]
    by_cases e2 : j = 2 * i
    · subst e2
      rw [if_pos rfl, if_pos (by omega), byt, show 2 * i / 2 = i by omega, show 2 * i % 2 = 0 by omega]
      simp
    · rw [if_neg e2]
      by_cases e3 : j < 2 * i
      · rw [if_pos e3, if_pos (by omega)]
      · rw [if_neg e3, if_neg (by omega)]
theorem outs_all (V : Nat) : outs (nar (dig 65536 16 V)) 16 = nar (dig 256 32 V) := by
  rw [tb_of 32 (nar (dig 256 32 V)) (by rw [nar_len, dig_len])]
  refine tb_congr _ _ _ fun j hj => ?_
  rw [if_pos (by omega), nar_get, dig_get _ _ _ _ hj, byt, nar_get, dig_get _ _ _ _ (by omega)]
  have e : 256 ^ j = 65536 ^ (j / 2) * 256 ^ (j % 2) := by
    rw [show (65536 : Nat) = 256 ^ 2 by rfl, ← Nat.pow_mul, ← Nat.pow_add]
    congr 1
    omega
  rw [e, ← Nat.div_div_eq_div_mul]
  generalize V / 65536 ^ (j / 2) = y
  have : j % 2 = 0 ∨ j % 2 = 1 := by omega
  rcases this with h | h
  · rw [h]; simp only [Int.pow_zero, Nat.pow_zero, Nat.div_one, Int.ediv_one]; omega
  · rw [h]; simp only [Nat.pow_one]; omega
def ins (ns : List Int) (i : Nat) : List Int := tb 16 fun j => if j < i then ns.getD (2 * j) 0 + 256 * ns.getD (2 * j + 1) 0 else 0
theorem ins_zero (ns : List Int) : List.replicate 16 0 = ins ns 0 := by
  rw [tb_zero]
  exact tb_congr _ _ _ fun j _ => by rw [if_neg (by omega)]
theorem ins_step (ns : List Int) (i : Nat) : (ins ns i).set i (ns.getD (2 * i) 0 + 256 * ns.getD (2 * i + 1) 0) = ins ns (i + 1) := by
  rw [ins, tb_set]
  refine tb_congr _ _ _ fun j _ => ?_
  by_cases e : j = i
  · subst e; rw [if_pos rfl, if_pos (by omega)]
  · rw [if_neg e]
    by_cases e3 : j < i
    · rw [if_pos e3, if_pos (by omega)]
    · rw [if_neg e3, if_neg (by omega)]
theorem vi_pairs : ∀ (n : Nat) (ns : List Nat), ns.length = 2 * n → si n (fun j => (65536 : Int) ^ j * ((nar ns).getD (2 * j) 0 + 256 * (nar ns).getD (2 * j + 1) 0)) = (val 256 ns : Int)
  | 0, [], _ => rfl
  | n + 1, a :: b :: ns, h => by
    have ih := vi_pairs n ns (by simp at h; omega)
    rw [Nat.add_comm n 1, si_split, val, val]
    have e1 : si 1 (fun j => (65536 : Int) ^ j * ((nar (a :: b :: ns)).getD (2 * j) 0 + 256 * (nar (a :: b :: ns)).getD (2 * j + 1) 0)) = (a : Int) + 256 * (b : Int) := by simp [si, nar]
    have e2 : si n (fun i => (65536 : Int) ^ (1 + i) * ((nar (a :: b :: ns)).getD (2 * (1 + i)) 0 + 256 * (nar (a :: b :: ns)).getD (2 * (1 + i) + 1) 0)) = 65536 * (val 256 ns : Int) := by
      rw [← ih, ← si_mul]
      refine si_congr _ _ _ fun i _ => ?_
      rw [show 2 * (1 + i) = 2 * i + 1 + 1 by omega, show 2 * i + 1 + 1 + 1 = (2 * i + 1) + 1 + 1 by omega]
      simp only [nar_get, List.getD_cons_succ]
      rw [Nat.add_comm 1 i, Int.pow_succ]
      grind
    rw [e1, e2]
    omega
theorem ins_el (ns : List Nat) (hl : ns.length = 32) (hb : ∀ n ∈ ns, n < 256) : El (ins (nar ns) 16) (val 256 ns % p) := by
  refine ⟨tb_len _ _, ?_, ?_⟩
  · refine tb_mem _ _ _ fun i hi => ?_
    have h1 := lt_getD hb (by decide) (2 * i)
    have h2 := lt_getD hb (by decide) (2 * i + 1)
    rw [if_pos hi, nar_get, nar_get]
    omega
  · have e := vi_pairs 16 ns hl
    rw [ins, vi_tb, si_congr 16 _ (fun j => (65536 : Int) ^ j * ((nar ns).getD (2 * j) 0 + 256 * (nar ns).getD (2 * j + 1) 0)) (fun i hi => by rw [if_pos hi]), e]
    exact (Int.natCast_emod _ _).symm
/-- Four passes make digits of a number that is the same modulo p. -/
theorem four_pass {xs : List Int} {a : Nat} (h : El xs a) : Near 0 (carry (carry (carry (carry xs)))) ∧ vi (carry (carry (carry (carry xs)))) % (p : Int) = (a : Int) := by
  have n1 : Near (38 * 17) (carry xs) := carry_any xs 1048576 17 (getD_bound xs 1048576 h.2.1 (by decide)) (by decide) (by decide)
  have n2 : Near 38 (carry (carry xs)) := carry_twice _ _ n1 (by decide) (by decide)
  have n3 := carry_third _ n2
  refine ⟨carry_third _ (near_mono n3 (by decide)), ?_⟩
  rw [carry_mod _ n3.1, carry_mod _ n2.1, carry_mod _ n1.1, carry_mod _ h.1, h.2.2]
theorem el_small (n : Nat) (hn : n ≤ 1048576) : El ((List.replicate 16 (0 : Int)).set 0 n) n := by
  have hp : n < p := Nat.lt_of_le_of_lt hn (by decide +kernel)
  refine ⟨by simp, ?_, ?_⟩
  · intro x hx
    rcases List.mem_or_eq_of_mem_set hx with h | rfl
    · have := List.eq_of_mem_replicate h
      omega
    · omega
  · rw [vi_set _ _ _ (by simp)]
    have e : vi (List.replicate 16 (0 : Int)) = 0 := by decide
    rw [e]
    simp only [List.getD_eq_getElem?_getD]
    have : ((List.replicate 16 (0 : Int))[0]?.getD 0) = 0 := by decide
    rw [this]
    simp only [Int.pow_zero, Int.sub_zero, Int.one_mul, Int.zero_add]
    rw [← Int.natCast_emod, Nat.mod_eq_of_lt hp]
theorem el_zero : El (List.replicate 16 (0 : Int)) 0 := by
  have := el_small 0 (by decide)
  exact this
end Go.Proofs.YtanjhngehfbpbaaDoor.Rd
