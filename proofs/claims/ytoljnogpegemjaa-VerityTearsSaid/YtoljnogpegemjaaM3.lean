/- Poly1305's numbers, in plain words. No program here; no condition. poly.prime, poly.fold: what they answer. Condition: four limbs. poly.clamped: what it answers. Condition: 32 bytes. poly.state: how it lies in memory. No condition. One step of a region that draws its order: a long array made, a long array stored over a whole block. Over any program; no condition. -/
import Derived.Test.YtoljnogpegemjaaM2
import Derived.Deep.MidRow
import Derived.Deep.RegionHeld3
import Derived.Deep.DeepCutAuto
import Derived.StillTailTactics
import Derived.Laws.CopyOwn
import Derived.Test.YtoljnogpegemjaaM1
namespace Go.Proofs.Ytoljnogpegemjaa.Po
open Go.RowKit Lm

/-- A number of the same rest by 2^130 - 5. -/
def fold (v : Nat) : Nat := v % 2 ^ 130 + 5 * (v / 2 ^ 130)
theorem fold_mod (v : Nat) : fold v % (2 ^ 130 - 5) = v % (2 ^ 130 - 5) := by
  have h : v = fold v + (2 ^ 130 - 5) * (v / 2 ^ 130) := by unfold fold; omega
  have : (fold v + (2 ^ 130 - 5) * (v / 2 ^ 130)) % (2 ^ 130 - 5) = fold v % (2 ^ 130 - 5) := Nat.add_mul_mod_self_left _ _ _
  rw [← h] at this
  exact this.symm
theorem fold_lt (v : Nat) (h : v < 2 ^ 256) : fold v < 2 ^ 131 := by unfold fold; omega
theorem fold3 (v : Nat) (h : v < 2 ^ 131) : fold (fold (fold v)) < 2 ^ 130 := by unfold fold; omega
theorem val4 (a b c d : Nat) : val 18446744073709551616 [a, b, c, d] = a + 18446744073709551616 * b + 18446744073709551616 ^ 2 * c + 18446744073709551616 ^ 3 * d := by simp only [val]; omega
/-- What the code's fold adds. -/
theorem fold_code (a b c d p q : Nat) (ha : a < 18446744073709551616) (hb : b < 18446744073709551616) (hc : c < 18446744073709551616) (hd : d < 18446744073709551616) (hp : p = c / 4 + d % 4 * 4611686018427387904) (hq : q = d / 4) :
    p < 18446744073709551616 ∧
    (q * 5 / 18446744073709551616 + (q * 5 % 18446744073709551616 + p * 5 / 18446744073709551616) / 18446744073709551616 < 18446744073709551616) ∧
    (val 18446744073709551616 [a, b, c % 4, 0] + val 18446744073709551616 [p * 5 % 18446744073709551616, (q * 5 % 18446744073709551616 + p * 5 / 18446744073709551616) % 18446744073709551616, q * 5 / 18446744073709551616 + (q * 5 % 18446744073709551616 + p * 5 / 18446744073709551616) / 18446744073709551616, 0]) % 18446744073709551616 ^ 4 = fold (val 18446744073709551616 [a, b, c, d]) := by
  rw [val4, val4, val4]
  have hr : a + 18446744073709551616 * b + 18446744073709551616 ^ 2 * (c % 4) < 2 ^ 130 := by omega
  have hV : a + 18446744073709551616 * b + 18446744073709551616 ^ 2 * c + 18446744073709551616 ^ 3 * d = (a + 18446744073709551616 * b + 18446744073709551616 ^ 2 * (c % 4)) + 2 ^ 130 * (p + 18446744073709551616 * q) := by subst hp hq; omega
  have hp1 : p < 18446744073709551616 := by subst hp; omega
  have hq1 : q < 4611686018427387904 := by subst hq; omega
  unfold fold
  rw [hV, Nat.add_mul_mod_self_left, Nat.mod_eq_of_lt hr, Nat.add_mul_div_left _ _ (by decide), Nat.div_eq_of_lt hr, Nat.zero_add]
  clear hV hp hq
  generalize c % 4 = c4 at hr ⊢
  refine ⟨hp1, by omega, ?_⟩
  have e1 : p * 5 % 18446744073709551616 + 18446744073709551616 * ((q * 5 % 18446744073709551616 + p * 5 / 18446744073709551616) % 18446744073709551616) + 18446744073709551616 ^ 2 * (q * 5 / 18446744073709551616 + (q * 5 % 18446744073709551616 + p * 5 / 18446744073709551616) / 18446744073709551616) + 18446744073709551616 ^ 3 * 0 = 5 * (p + 18446744073709551616 * q) := by omega
  rw [e1, Nat.mul_zero, Nat.add_zero]
  exact Nat.mod_eq_of_lt (by omega)

/-! ### The key's first half, with the bits that fall -/
theorem and_split (k a b : Nat) : a &&& b = (a % 2 ^ k &&& b % 2 ^ k) + 2 ^ k * (a / 2 ^ k &&& b / 2 ^ k) := by
  have h1 : (a &&& b) % 2 ^ k = a % 2 ^ k &&& b % 2 ^ k := Nat.and_mod_two_pow
  have h2 : (a &&& b) / 2 ^ k = a / 2 ^ k &&& b / 2 ^ k := Nat.and_div_two_pow
  rw [← h1, ← h2]
  exact (Nat.mod_add_div _ _).symm
/-- The bits that stay. -/
def mask : Nat := 21267647620597763993911028882763415551
/-- The number of the key's first half. -/
def rv (ks : List Nat) : Nat := val 256 ks &&& mask
theorem rv_lt (ks : List Nat) : rv ks < 2 ^ 124 := Nat.lt_of_le_of_lt Nat.and_le_right (by decide)
theorem rv_code (ks : List Nat) (v : Nat) (hv : v = val 256 ks) : val 18446744073709551616 [v % 18446744073709551616 &&& 1152921487695413247, v / 18446744073709551616 % 18446744073709551616 &&& 1152921487695413244, 0, 0] = rv ks := by
  rw [val4, rv, and_split 64 (val 256 ks) mask, and_split 64 (val 256 ks / 2 ^ 64) (mask / 2 ^ 64), ← hv]
  rw [show mask % 2 ^ 64 = 1152921487695413247 by decide, show mask / 2 ^ 64 % 2 ^ 64 = 1152921487695413244 by decide, show mask / 2 ^ 64 / 2 ^ 64 = 0 by decide, Nat.and_zero, show (2 : Nat) ^ 64 = 18446744073709551616 by rfl]
  omega
def masks : List Nat := [255, 255, 255, 15, 252, 255, 255, 15, 252, 255, 255, 15, 252, 255, 255, 15]
theorem val_and : ∀ xs ms : List Nat, (∀ x ∈ xs, x < 256) → (∀ x ∈ ms, x < 256) → val 256 xs &&& val 256 ms = val 256 (List.zipWith (· &&& ·) xs ms)
  | [], _, _, _ => by simp [val]
  | _ :: _, [], _, _ => by simp [val]
  | x :: xs, m :: ms, hx, hm => by
    have h1 := hx x (by simp)
    have h2 := hm m (by simp)
    have ih := val_and xs ms (fun y hy => hx y (by simp [hy])) (fun y hy => hm y (by simp [hy]))
    rw [List.zipWith_cons_cons, val, val, val, ← ih, and_split 8]
    rw [show (2 : Nat) ^ 8 = 256 by rfl, Nat.add_mul_mod_self_left, Nat.add_mul_mod_self_left, Nat.mod_eq_of_lt h1, Nat.mod_eq_of_lt h2, Nat.add_mul_div_left _ _ (by decide), Nat.add_mul_div_left _ _ (by decide), Nat.div_eq_of_lt h1, Nat.div_eq_of_lt h2, Nat.zero_add, Nat.zero_add]
/-- The same, byte by byte. -/
theorem rv_bytes (ks : List Nat) (hb : ∀ x ∈ ks, x < 256) : rv ks = val 256 (List.zipWith (· &&& ·) ks masks) := by
  rw [← val_and ks masks hb (by decide)]
  rfl

/-! ### Digits of digits -/
theorem val_div (b : Nat) (hb : 0 < b) : ∀ (i : Nat) (xs : List Nat), (∀ x ∈ xs, x < b) → val b xs / b ^ i = val b (xs.drop i)
  | 0, xs, _ => by simp
  | i + 1, [], _ => by simp [val]
  | i + 1, x :: xs, h => by
    rw [Nat.pow_succ, Nat.mul_comm, ← Nat.div_div_eq_div_mul, val, Nat.add_mul_div_left _ _ hb, Nat.div_eq_of_lt (h x (by simp)), Nat.zero_add, List.drop_succ_cons]
    exact val_div b hb i xs (fun y hy => h y (by simp [hy]))
theorem val_mod (b : Nat) : ∀ (i : Nat) (xs : List Nat), (∀ x ∈ xs, x < b) → val b xs % b ^ i = val b (xs.take i)
  | 0, xs, _ => by simp [val, Nat.mod_one]
  | i + 1, [], _ => by simp [val]
  | i + 1, x :: xs, h => by
    rw [Nat.pow_succ, Nat.mul_comm, Nat.mod_mul, val, Nat.add_mul_mod_self_left, Nat.mod_eq_of_lt (h x (by simp)), Nat.add_mul_div_left _ _ (Nat.lt_of_le_of_lt (Nat.zero_le _) (h x (by simp))), Nat.div_eq_of_lt (h x (by simp)), Nat.zero_add, List.take_succ_cons, val]
    rw [val_mod b i xs (fun y hy => h y (by simp [hy]))]
theorem dig_take (b : Nat) : ∀ (n k v : Nat), (dig b (n + k) v).take n = dig b n v
  | 0, _, _ => by simp [dig]
  | n + 1, k, v => by
    rw [show n + 1 + k = (n + k) + 1 by omega, dig, dig, List.take_succ_cons, dig_take b n k]

/-! ### The sum -/
/-- What the first q blocks of sixteen sum up to. -/
def acc (r : Nat) (m : List Nat) : Nat → Nat
  | 0 => 0
  | q + 1 => (acc r m q + val 256 ((m.drop (16 * q)).take 16 ++ [1])) * r % (2 ^ 130 - 5)
/-- The document's tag. -/
def tagP (ks m : List Nat) : List Nat := dig 256 16 (acc (rv ks) m ((m.length + 15) / 16) + val 256 (ks.drop 16))
/-- One block in the code. -/
theorem turn_mod (h v r a : Nat) (hh : h % (2 ^ 130 - 5) = a) : fold ((h + v) * r) % (2 ^ 130 - 5) = (a + v) * r % (2 ^ 130 - 5) := by
  rw [fold_mod, Nat.mul_mod, Nat.add_mod, hh, Nat.mul_mod (a + v), Nat.add_mod a v]
  congr 3
  rw [← hh, Nat.mod_mod]
theorem turn_lt (h v r : Nat) (hh : h < 2 ^ 131) (hv : v < 2 ^ 129) (hr : r < 2 ^ 124) : (h + v) * r < 2 ^ 256 := by
  have h1 : h + v < 2 ^ 132 := by omega
  calc (h + v) * r ≤ 2 ^ 132 * r := Nat.mul_le_mul (by omega) (Nat.le_refl _)
    _ < 2 ^ 132 * 2 ^ 124 := Nat.mul_lt_mul_of_pos_left hr (by decide)
    _ = 2 ^ 256 := by decide
end Go.Proofs.Ytoljnogpegemjaa.Po
namespace Go.Proofs.Ytoljnogpegemjaa.Po
open Go.RowKit Lm

theorem and3 (x : Nat) (h : x < 18446744073709551616) : bits .and .u64 (x : Int) 3 = ((x % 4 : Nat) : Int) := by
  have e : x &&& 3 = x % 4 := Nat.and_two_pow_sub_one_eq_mod x 2
  have h1 : (BitVec.ofInt 64 (x : Int)).toNat = x := by rw [BitVec.ofInt_natCast, BitVec.toNat_ofNat]; exact Nat.mod_eq_of_lt (by omega)
  have h2 : (BitVec.ofInt 64 (3 : Int)).toNat = 3 := by decide
  show IntKind.u64.wrap ((BitVec.ofInt 64 (x : Int) &&& BitVec.ofInt 64 (3 : Int)).toNat : Int) = _
  rw [BitVec.toNat_and, h1, h2, e, IntKind.wrap_u64]
  omega
theorem or62 (c d : Nat) (hc : c < 18446744073709551616) : bits .or .u64 ((c : Int) / 4) (IntKind.u64.wrap ((d : Int) * 4611686018427387904)) = ((c / 4 + d % 4 * 4611686018427387904 : Nat) : Int) := by
  have hx : c / 4 < 2 ^ 62 := by omega
  have e1 : IntKind.u64.wrap ((d : Int) * 4611686018427387904) = ((d % 4 * 4611686018427387904 : Nat) : Int) := by rw [IntKind.wrap_u64]; omega
  have e2 : (c : Int) / 4 = ((c / 4 : Nat) : Int) := by omega
  rw [e1, e2]
  have hx1 : (BitVec.ofInt 64 ((c / 4 : Nat) : Int)).toNat = c / 4 := by rw [BitVec.ofInt_natCast, BitVec.toNat_ofNat]; exact Nat.mod_eq_of_lt (by omega)
  have hx2 : (BitVec.ofInt 64 ((d % 4 * 4611686018427387904 : Nat) : Int)).toNat = d % 4 * 4611686018427387904 := by rw [BitVec.ofInt_natCast, BitVec.toNat_ofNat]; exact Nat.mod_eq_of_lt (by omega)
  show IntKind.u64.wrap ((BitVec.ofInt 64 ((c / 4 : Nat) : Int) ||| BitVec.ofInt 64 ((d % 4 * 4611686018427387904 : Nat) : Int)).toNat : Int) = _
  have h4 : c / 4 ||| d % 4 * 4611686018427387904 = c / 4 + d % 4 * 4611686018427387904 := by
    have := Nat.two_pow_add_eq_or_of_lt hx (d % 4)
    rw [Nat.or_comm, Nat.mul_comm, show (4611686018427387904 : Nat) = 2 ^ 62 by rfl, ← this, Nat.add_comm]
  rw [BitVec.toNat_or, hx1, hx2, h4, IntKind.wrap_u64]
  omega
theorem four (xs : List Nat) (h : xs.length = 4) : ∃ a b c d, xs = [a, b, c, d] := by
  match xs, h with
  | [a, b, c, d], _ => exact ⟨a, b, c, d, rfl⟩
theorem nar4b (a b c d : Nat) : (#[.int .u64 (a : Int), .int .u64 (b : Int), .int .u64 (c : Int), .int .u64 (d : Int)] : Array Value) = arr .u64 (nar [a, b, c, d]) := rfl

set_option maxRecDepth 100000 in
theorem prime_any (w : World) :
    Calls Try.prog 64 #[] w fun e w' => e = .returned (.agg (arr .u64 (nar (dig 18446744073709551616 4 (2 ^ 130 - 5))))) ∧ Below w.heap.size w w' := by
  have e0 : dig 18446744073709551616 4 (2 ^ 130 - 5) = [18446744073709551611, 18446744073709551615, 3, 0] := by decide
  rw [e0]
  obtain ⟨zs, hzs⟩ : ∃ zs : List Nat, zs = List.replicate 4 0 := ⟨_, rfl⟩
  have hz : ∀ w, (zeroValue 99).run Try.prog w = .ok (.agg (arr .u64 (nar zs))) w := by intro w; rw [hzs, nar_zeros]; exact zero4 w
  have hzl : zs.length = 4 := by rw [hzs]; rfl
  obtain ⟨ps, hps⟩ : ∃ ps : List Nat, ps = [18446744073709551611, 18446744073709551615, 3, 0] := ⟨_, rfl⟩
  have hpl : ps.length = 4 := by rw [hps]; rfl
  have hpn : (#[.int .u64 18446744073709551611, .int .u64 18446744073709551615, .int .u64 3, .int .u64 0] : Array Value) = arr .u64 (nar ps) := by rw [hps]; rfl
  rw [← hps]
  have b0 := blk_new w (.cells (arr .u64 (nar zs)) 99)
  have k0 : Below w.heap.size w (w.alloc (.cells (arr .u64 (nar zs)) 99)) := (Below.refl _ w).alloc (Nat.le_refl _) _
  have B0 := Lib.hid b0
  have K0 := Lib.hid k0
  have HZ := Lib.hid hz
  have HZL := Lib.hid hzl
  have HPL := Lib.hid hpl
  have HPN := Lib.hid hpn
  clear b0 k0 hz hzl hpl hpn hps hzs e0
  go_enter Try.func64, Try.ntmps64
  go_wp2_with (first | ((with_reducible show wpList _ _ _ (Oper.mk (some 0) _ _ _ _ _ :: _) _ _); refine wpList_alloc_row rfl 99 rfl _ (HZ.out _) ?_) | ((with_reducible show wpList _ _ _ (Oper.mk none _ _ _ _ _ :: _) _ _); rw [HPN.out]; refine wpList_store_whole rfl 99 _ _ rfl w.heap.size _ _ 99 B0.out rfl rfl ((nar4 ps HPL.out).trans (nar4 zs HZL.out).symm) (nar4s ps HPL.out) (all_arr _ _) ?_; intro w7 hb7 hk7 hz7; have HB7 := Lib.hid hb7; have HK7 := Lib.hid (K0.out.trans (hk7.toBelow (by simp) (by rintro i rfl; exact Nat.le_refl _))); clear hb7 hk7 hz7))
  (try simp only [Exit.inBlock, Exit.then])
  refine bodyPost_ret (results_cell_row rfl _ _ w.heap.size 99 _ (0, 0) _ rfl HB7.out Try.underlying99 rfl (nar4s ps HPL.out)) rfl ?_
  exact ⟨rfl, HK7.out⟩

set_option maxRecDepth 100000 in
set_option maxHeartbeats 1000000 in
theorem fold_any (xs : List Nat) (w : World) (lx : xs.length = 4) (bx : ∀ x ∈ xs, x < 18446744073709551616) :
    Calls Try.prog 62 #[.agg (arr .u64 (nar xs))] w fun e w' => e = .returned (.agg (arr .u64 (nar (dig 18446744073709551616 4 (fold (val 18446744073709551616 xs)))))) ∧ Below w.heap.size w w' := by
  obtain ⟨a, b, c, d, rfl⟩ := four xs lx
  have ha := bx a (by simp)
  have hb := bx b (by simp)
  have hc := bx c (by simp)
  have hd := bx d (by simp)
  obtain ⟨p, hp⟩ : ∃ p, p = c / 4 + d % 4 * 4611686018427387904 := ⟨_, rfl⟩
  obtain ⟨q, hq⟩ : ∃ q, q = d / 4 := ⟨_, rfl⟩
  obtain ⟨f1, f2, f3⟩ := fold_code a b c d p q ha hb hc hd hp hq
  have hq1 : q < 18446744073709551616 := by omega
  obtain ⟨xs, hxs⟩ : ∃ xs, xs = [a, b, c, d] := ⟨_, rfl⟩
  obtain ⟨V, hV⟩ : ∃ V, V = fold (val 18446744073709551616 [a, b, c, d]) := ⟨_, rfl⟩
  rw [← hV] at f3 ⊢
  rw [← hxs]
  have g0 : (nar xs).getD 0 0 = a := by rw [hxs]; rfl
  have g1 : (nar xs).getD 1 0 = b := by rw [hxs]; rfl
  have g2 : (nar xs).getD 2 0 = c := by rw [hxs]; rfl
  have g3 : (nar xs).getD 3 0 = d := by rw [hxs]; rfl
  have hxl : (nar xs).length = 4 := by rw [hxs]; rfl
  have M1 := fun w => mul64 p 5 f1 (by decide) w
  have M2 := fun w => mul64 q 5 hq1 (by decide) w
  have a1 := add64 (q * 5 % 18446744073709551616) (p * 5 / 18446744073709551616) 0 (by omega)
  have e0 : ((0 : Nat) : Int) = 0 := rfl
  have e5 : ((5 : Nat) : Int) = 5 := rfl
  rw [Nat.add_zero, e0] at a1
  rw [e5] at M1 M2
  generalize p * 5 / 18446744073709551616 = c1 at M1 a1 f2 f3
  have hx1 : p * 5 % 18446744073709551616 < 18446744073709551616 := Nat.mod_lt _ (by decide)
  generalize p * 5 % 18446744073709551616 = x1 at M1 f3 hx1
  generalize q * 5 / 18446744073709551616 = d1 at M2 f2 f3
  generalize q * 5 % 18446744073709551616 = y1 at M2 a1 f2 f3
  have hy2 : (y1 + c1) % 18446744073709551616 < 18446744073709551616 := Nat.mod_lt _ (by decide)
  generalize (y1 + c1) % 18446744073709551616 = y2 at a1 f3 hy2
  generalize (y1 + c1) / 18446744073709551616 = z2 at a1 f2 f3
  have hor := or62 c d hc
  rw [← hp] at hor
  have hand := and3 c hc
  have hq2 : (d : Int) / 4 = (q : Int) := by omega
  have A1 := fun w => ladd_any [a, b, c % 4, 0] [x1, y2, d1 + z2, 0] w rfl rfl (by intro x hx; simp at hx; omega) (by intro x hx; simp at hx; omega)
  rw [f3] at A1
  obtain ⟨zs, hzs⟩ : ∃ zs : List Nat, zs = List.replicate 4 0 := ⟨_, rfl⟩
  have hz : ∀ w, (zeroValue 99).run Try.prog w = .ok (.agg (arr .u64 (nar zs))) w := by intro w; rw [hzs, nar_zeros]; exact zero4 w
  have hzl : zs.length = 4 := by rw [hzs]; rfl
  obtain ⟨ls, hls⟩ : ∃ ls, ls = [a, b, c % 4, 0] := ⟨_, rfl⟩
  obtain ⟨ms, hms⟩ : ∃ ms, ms = [x1, y2, d1 + z2, 0] := ⟨_, rfl⟩
  rw [← hls, ← hms] at A1
  obtain ⟨os, hos⟩ : ∃ os, os = dig 18446744073709551616 4 V := ⟨_, rfl⟩
  rw [← hos] at A1 ⊢
  have HOL : Hid (os.length = 4) := Lib.hid (by rw [hos, dig_len])
  have HLS : Hid ((#[.int .u64 (a : Int), .int .u64 (b : Int), .int .u64 ((c % 4 : Nat) : Int), .int .u64 0] : Array Value) = arr .u64 (nar ls)) := Lib.hid (by rw [hls]; rfl)
  have HMS : Hid ((#[.int .u64 (x1 : Int), .int .u64 (y2 : Int), .int .u64 ((d1 : Int) + (z2 : Int)), .int .u64 0] : Array Value) = arr .u64 (nar ms)) := Lib.hid (by rw [hms]; rfl)
  have HLL : Hid (ls.length = 4) := Lib.hid (by rw [hls]; rfl)
  have S0 := B3.start w (arr .u64 (nar xs)) (arr .u64 (nar zs)) (arr .u64 (nar zs)) 99 99 99
  have S1 := B2.start w (arr .u64 (nar xs)) (arr .u64 (nar zs)) 99 99
  have q0 := blk_arr' S1.b0 0 (by omega)
  have q1 := blk_arr' S1.b0 1 (by omega)
  have q2 := blk_arr' S1.b0 2 (by omega)
  rw [g0] at q0
  rw [g1] at q1
  rw [g2] at q2
  have HS := Lib.hid S0
  have HZ := Lib.hid hz
  have HZL := Lib.hid hzl
  have HM1 := Lib.hid M1
  have HM2 := Lib.hid M2
  have HA1 := Lib.hid A1
  have HOR := Lib.hid hor
  have HAND := Lib.hid hand
  have HQ2 := Lib.hid hq2
  have HXL := Lib.hid hxl
  have G2 := Lib.hid g2
  have G3 := Lib.hid g3
  clear S0 S1 hz hzl M1 M2 A1 hor hand hq2 hxl g0 g1 g2 g3 hls hms hzs hxs hV f3 hp hq hos
  go_enter Try.func62, Try.ntmps62
  go_wp2_with (first | ((with_reducible show wpList _ _ _ (Oper.mk (some 2) _ _ _ _ _ :: _) _ _); refine wpList_alloc_row rfl 99 rfl _ (HZ.out _) ?_) | ((with_reducible show wpList _ _ _ (Oper.mk (some 3) _ _ _ _ _ :: _) _ _); rw [HAND.out, HLS.out]; refine wpList_alloc_row rfl 99 rfl _ (HZ.out _) ?_; go_simp) | ((with_reducible show wpList _ _ _ (Oper.mk none (Op.store _ (Operand.tmp 3) _) _ _ _ _ :: _) _ _); refine wpList_store_whole rfl 99 _ _ rfl (w.heap.size + 1 + 1) _ _ 99 HS.out.b2 rfl rfl ((nar4 ls HLL.out).trans (nar4 zs HZL.out).symm) (nar4s ls HLL.out) (all_arr _ _) ?_; intro w7 hb7 hk7 hz7; have HB7 := Lib.hid (HS.out.put2 hk7 hb7); clear hb7 hk7 hz7; have r2 := blk_arr' HB7.out.b0 2 (by rw [HXL.out]; omega); have r3 := blk_arr' HB7.out.b0 3 (by rw [HXL.out]; omega); rw [G2.out] at r2; rw [G3.out] at r3) | ((with_reducible show Calls _ _ #[.int .u64 (bits _ _ _ _), _] w7 _); go_at_call 43; rw [HOR.out]; refine (HM1.out _).mono ?_; rintro e w8 ⟨rfl, h8⟩; rw [h8]; clear h8 w8) | ((with_reducible show Calls _ _ #[.int .u64 (_ / _), _] w7 _); go_at_call 43; rw [HQ2.out]; refine (HM2.out _).mono ?_; rintro e w8 ⟨rfl, h8⟩; rw [h8]; clear h8 w8) | ((with_reducible show wpList _ _ _ (Oper.mk (some 44) _ _ _ _ _ :: _) _ _); refine wpList_load_part rfl 99 _ rfl (w.heap.size + 1 + 1) 0 _ 99 (0, 0) _ HB7.out.b2 rfl .u64 (nar ls) (arr_part _ _) Try.underlying99 rfl (nar4i ls HLL.out) ?_) | ((with_reducible show Calls _ _ #[.agg _, .agg _] w7 _); go_at_call 66; rw [HMS.out]; refine (HA1.out _).mono ?_; rintro e w8 ⟨rfl, hbw⟩; have HB8 := Lib.hid (HB7.out.after hbw); have hlt8 := blk_lt HB8.out.b2; clear hbw) | ((with_reducible show wpList _ _ _ (Oper.mk (some 9) _ _ _ _ _ :: _) _ _); refine wpList_alloc_row rfl 99 rfl _ (HZ.out _) ?_; go_simp) | ((with_reducible show wpList _ _ _ (Oper.mk none (Op.store _ (Operand.tmp 9) _) _ _ _ _ :: _) _ _); refine wpList_store_whole rfl 99 _ _ rfl w8.heap.size _ _ 99 (blk_new _ _) rfl rfl ((nar4 os HOL.out).trans (nar4 zs HZL.out).symm) (nar4s os HOL.out) (all_arr _ _) ?_; intro w9 hb9 hk9 hz9; have HB9 := Lib.hid ((HB8.out.alloc (.cells (arr .u64 (nar zs)) 99)).farK hk9 (by rintro i rfl; omega)); have HO9 := Lib.hid hb9; clear hb9 hk9 hz9) | ((with_reducible show wpList _ _ _ (Oper.mk (some 54) _ _ _ _ _ :: _) _ _); refine wpList_load_part rfl 99 _ rfl w8.heap.size 0 _ 99 (0, 0) _ HO9.out rfl .u64 (nar os) (arr_part _ _) Try.underlying99 rfl (nar4i os HOL.out) ?_) | ((with_reducible show wpList _ _ _ (Oper.mk none (Op.store _ (Operand.tmp 2) _) _ _ _ _ :: _) _ _); refine wpList_store_whole rfl 99 _ _ rfl (w.heap.size + 1) _ _ 99 HB9.out.b1 rfl rfl ((nar4 os HOL.out).trans (nar4 zs HZL.out).symm) (nar4s os HOL.out) (all_arr _ _) ?_; intro w6 hb6 hk6 hz6; have HB6 := Lib.hid (HB9.out.put1 hk6 hb6); clear hb6 hk6 hz6))
  (try simp only [Exit.inBlock, Exit.then])
  refine bodyPost_ret (results_cell_row rfl _ _ (w.heap.size + 1) 99 _ (0, 0) _ rfl HB6.out.b1 Try.underlying99 rfl (nar4s os HOL.out)) rfl ?_
  exact ⟨rfl, HB6.out.below⟩
end Go.Proofs.Ytoljnogpegemjaa.Po
namespace Go.Proofs.Ytoljnogpegemjaa.Po
open Go.RowKit Lm

theorem and_nat (x m : Nat) (hx : x < 18446744073709551616) (hm : m < 18446744073709551616) : bits .and .u64 (x : Int) (m : Int) = ((x &&& m : Nat) : Int) := by
  have h1 : (BitVec.ofInt 64 (x : Int)).toNat = x := by rw [BitVec.ofInt_natCast, BitVec.toNat_ofNat]; exact Nat.mod_eq_of_lt (by omega)
  have h2 : (BitVec.ofInt 64 (m : Int)).toNat = m := by rw [BitVec.ofInt_natCast, BitVec.toNat_ofNat]; exact Nat.mod_eq_of_lt (by omega)
  show IntKind.u64.wrap ((BitVec.ofInt 64 (x : Int) &&& BitVec.ofInt 64 (m : Int)).toNat : Int) = _
  have h3 : x &&& m ≤ x := Nat.and_le_left
  rw [BitVec.toNat_and, h1, h2, IntKind.wrap_u64]
  omega

set_option maxRecDepth 100000 in
set_option maxHeartbeats 1000000 in
theorem clamped_any (ks : List Nat) (w : World) (lk : ks.length = 32) (bk : ∀ x ∈ ks, x < 256) :
    Calls Try.prog 59 #[.agg (arr .u8 (nar ks))] w fun e w' => e = .returned (.agg (arr .u64 (nar (dig 18446744073709551616 4 (rv ks))))) ∧ Below w.heap.size w w' := by
  obtain ⟨v, hv⟩ : ∃ v, v = val 256 ks := ⟨_, rfl⟩
  have hrc := rv_code ks v hv
  obtain ⟨ns, hns⟩ : ∃ ns, ns = dig 18446744073709551616 4 v := ⟨_, rfl⟩
  have hnl : ns.length = 4 := by rw [hns, dig_len]
  obtain ⟨a, ha⟩ : ∃ a, a = v % 18446744073709551616 := ⟨_, rfl⟩
  obtain ⟨b, hb⟩ : ∃ b, b = v / 18446744073709551616 % 18446744073709551616 := ⟨_, rfl⟩
  have g0 : (nar ns).getD 0 0 = a := by rw [nar_get, hns, dig_get _ _ _ _ (by decide), ha]; simp
  have g1 : (nar ns).getD 1 0 = b := by rw [nar_get, hns, dig_get _ _ _ _ (by decide), hb]
  have ha1 : a < 18446744073709551616 := by rw [ha]; exact Nat.mod_lt _ (by decide)
  have hb1 : b < 18446744073709551616 := by rw [hb]; exact Nat.mod_lt _ (by decide)
  have n0 := and_nat a 1152921487695413247 ha1 (by decide)
  have n1 := and_nat b 1152921487695413244 hb1 (by decide)
  rw [← ha, ← hb] at hrc
  have hc0 : a &&& 1152921487695413247 < 18446744073709551616 := Nat.lt_of_le_of_lt Nat.and_le_left ha1
  have hc1 : b &&& 1152921487695413244 < 18446744073709551616 := Nat.lt_of_le_of_lt Nat.and_le_left hb1
  generalize a &&& 1152921487695413247 = c0 at n0 hrc hc0
  generalize b &&& 1152921487695413244 = c1 at n1 hrc hc1
  obtain ⟨os, hos⟩ : ∃ os, os = [c0, c1, 0, 0] := ⟨_, rfl⟩
  have hol : os.length = 4 := by rw [hos]; rfl
  have hod : os = dig 18446744073709551616 4 (rv ks) := dig_eq _ (by decide) 4 _ _ hol (by rw [hos]; intro x hx; simp at hx; omega) (by rw [hos]; exact hrc)
  rw [← hod]
  have HLS : Hid ((#[.int .u64 (c0 : Int), .int .u64 (c1 : Int), .int .u64 0, .int .u64 0] : Array Value) = arr .u64 (nar os)) := Lib.hid (by rw [hos]; rfl)
  have M1 := fun w => of_any ks w lk bk
  rw [← hv, ← hns] at M1
  obtain ⟨zs, hzs⟩ : ∃ zs : List Nat, zs = List.replicate 4 0 := ⟨_, rfl⟩
  have hz : ∀ w, (zeroValue 99).run Try.prog w = .ok (.agg (arr .u64 (nar zs))) w := by intro w; rw [hzs, nar_zeros]; exact zero4 w
  have hzl : zs.length = 4 := by rw [hzs]; rfl
  have S0 := B2.start w (arr .u8 (nar ks)) (arr .u64 (nar zs)) 23 99
  have HS := Lib.hid S0
  have HZ := Lib.hid hz
  have HZL := Lib.hid hzl
  have HM1 := Lib.hid M1
  have HN0 := Lib.hid n0
  have HN1 := Lib.hid n1
  have HNL := Lib.hid hnl
  have HOL := Lib.hid hol
  have G0 := Lib.hid g0
  have G1 := Lib.hid g1
  have LK := Lib.hid lk
  clear S0 hz hzl M1 n0 n1 hnl hol g0 g1 hos hod hns hv hrc hzs ha hb lk bk
  go_enter Try.func59, Try.ntmps59
  go_wp2_with (first | ((with_reducible show wpList _ _ _ (Oper.mk (some 2) _ _ _ _ _ :: _) _ _); refine wpList_alloc_row rfl 99 rfl _ (HZ.out _) ?_) | ((with_reducible show wpList _ _ _ (Oper.mk (some 4) _ _ _ _ _ :: _) _ _); refine wpList_load_part rfl 23 _ rfl w.heap.size 0 _ 23 (0, 0) _ HS.out.b0 rfl .u8 (nar ks) (arr_part _ _) Try.underlying23 rfl (nar32i ks LK.out) ?_) | ((with_reducible show Calls _ _ _ _ _); go_at_call 65; refine (HM1.out _).mono ?_; rintro e w8 ⟨rfl, hbw⟩; have HB8 := Lib.hid (HS.out.after hbw); have hlt8 := blk_lt HB8.out.b1; clear hbw) | ((with_reducible show wpList _ _ _ (Oper.mk (some 3) _ _ _ _ _ :: _) _ _); refine wpList_alloc_row rfl 99 rfl _ (HZ.out _) ?_; go_simp) | ((with_reducible show wpList _ _ _ (Oper.mk none (Op.store _ (Operand.tmp 3) _) _ _ _ _ :: _) _ _); refine wpList_store_whole rfl 99 _ _ rfl w8.heap.size _ _ 99 (blk_new _ _) rfl rfl ((nar4 ns HNL.out).trans (nar4 zs HZL.out).symm) (nar4s ns HNL.out) (all_arr _ _) ?_; intro w9 hb9 hk9 hz9; have HB9 := Lib.hid ((HB8.out.alloc (.cells (arr .u64 (nar zs)) 99)).farK hk9 (by rintro i rfl; omega)); have q0 := blk_arr' hb9 0 (by rw [nar_len, HNL.out]; omega); have q1 := blk_arr' hb9 1 (by rw [nar_len, HNL.out]; omega); rw [G0.out] at q0; rw [G1.out] at q1; clear hb9 hk9 hz9) | ((with_reducible show wpList _ _ _ (Oper.mk none (Op.store _ (Operand.tmp 2) _) _ _ _ _ :: _) _ _); rw [show (1152921487695413247 : Int) = ((1152921487695413247 : Nat) : Int) from rfl, show (1152921487695413244 : Int) = ((1152921487695413244 : Nat) : Int) from rfl, HN0.out, HN1.out, HLS.out]; refine wpList_store_whole rfl 99 _ _ rfl (w.heap.size + 1) _ _ 99 HB9.out.b1 rfl rfl ((nar4 os HOL.out).trans (nar4 zs HZL.out).symm) (nar4s os HOL.out) (all_arr _ _) ?_; intro w6 hb6 hk6 hz6; have HB6 := Lib.hid (HB9.out.put1 hk6 hb6); clear hb6 hk6 hz6))
  (try simp only [Exit.inBlock, Exit.then])
  refine bodyPost_ret (results_cell_row rfl _ _ (w.heap.size + 1) 99 _ (0, 0) _ rfl HB6.out.b1 Try.underlying99 rfl (nar4s os HOL.out)) rfl ?_
  exact ⟨rfl, HB6.out.below⟩
end Go.Proofs.Ytoljnogpegemjaa.Po
namespace Go.Proofs.Ytoljnogpegemjaa.Po
open Go.RowKit Lm

def stC (h r b : List Nat) (n : Nat) : Array Value := ((nar h).map (Value.int .u64) ++ ((nar r).map (Value.int .u64) ++ ((nar b).map (Value.int .u8) ++ [Value.int .i64 (n : Int)]))).toArray
/-- Block p is a state. -/
structure IsSt (w : World) (p : Nat) (h r b : List Nat) (n : Nat) : Prop where
  blk : w.heap[p]? = some (.cells (stC h r b n) 102 (0, 0))
  hl : h.length = 4
  rl : r.length = 4
  bl : b.length = 16
theorem IsSt.fr {w : World} {p n : Nat} {h r b : List Nat} (s : IsSt w p h r b n) (o : Nat) : w.frozen? ⟨p, o, none⟩ = false := free_blk s.blk o
theorem IsSt.kept {T : Nat → Prop} {w w' : World} {p n : Nat} {h r b : List Nat} (s : IsSt w p h r b n) (k : Kept T w w') (hp : ¬ T p) : IsSt w' p h r b n := ⟨k.blk s.blk hp, s.hl, s.rl, s.bl⟩
theorem IsSt.below {w w' : World} {p n : Nat} {h r b : List Nat} (s : IsSt w p h r b n) (k : Below w.heap.size w w') : IsSt w' p h r b n := ⟨Below.blk k s.blk (blk_lt s.blk), s.hl, s.rl, s.bl⟩
theorem IsSt.drewN {w : World} {p n : Nat} {h r b : List Nat} (s : IsSt w p h r b n) (k : Nat) : IsSt (w.drewN k) p h r b n := ⟨s.blk, s.hl, s.rl, s.bl⟩
theorem IsSt.drew {w : World} {p n : Nat} {h r b : List Nat} (s : IsSt w p h r b n) : IsSt w.drew p h r b n := ⟨s.blk, s.hl, s.rl, s.bl⟩
theorem IsSt.alloc {w : World} {p n : Nat} {h r b : List Nat} (s : IsSt w p h r b n) (o : Obj) : IsSt (w.alloc o) p h r b n := ⟨blk_alloc s.blk o, s.hl, s.rl, s.bl⟩
theorem mapget (k : IntKind) (xs : List Nat) (i : Nat) (hi : i < xs.length) : ((nar xs).map (Value.int k))[i]? = some (.int k ((xs.getD i 0 : Nat) : Int)) := by
  rw [← nar_get]
  have : i < (nar xs).length := by rw [nar_len]; exact hi
  simp [List.getD, this]
theorem stC_toList (h r b : List Nat) (n : Nat) : (stC h r b n).toList = (nar h).map (Value.int .u64) ++ ((nar r).map (Value.int .u64) ++ ((nar b).map (Value.int .u8) ++ [Value.int .i64 (n : Int)])) := rfl
theorem stC_size {h r b : List Nat} (n : Nat) (hl : h.length = 4) (rl : r.length = 4) (bl : b.length = 16) : (stC h r b n).size = 25 := by simp [stC, nar_len, hl, rl, bl]
theorem stC_b {h r b : List Nat} (n : Nat) (hl : h.length = 4) (rl : r.length = 4) (bl : b.length = 16) (i : Nat) (hi : i < 16) : (stC h r b n)[8 + i]? = some (.int .u8 ((b.getD i 0 : Nat) : Int)) := by
  unfold stC
  rw [List.getElem?_toArray, List.getElem?_append_right (by simp [nar_len]; omega), List.getElem?_append_right (by simp [nar_len]; omega), List.getElem?_append_left (by simp [nar_len]; omega), List.length_map, List.length_map, nar_len, nar_len, hl, rl, show 8 + i - 4 - 4 = i by omega, mapget _ _ _ (by omega)]
theorem stC_n {h r b : List Nat} (n : Nat) (hl : h.length = 4) (rl : r.length = 4) (bl : b.length = 16) : (stC h r b n)[24]? = some (.int .i64 (n : Int)) := by
  unfold stC
  rw [List.getElem?_toArray, List.getElem?_append_right (by simp [nar_len]; omega), List.getElem?_append_right (by simp [nar_len]; omega), List.getElem?_append_right (by simp [nar_len]; omega)]
  simp [nar_len, hl, rl, bl]
theorem setA (cs : List Value) (i : Nat) (v : Value) : cs.toArray.setIfInBounds i v = (cs.set i v).toArray := by simp
theorem stC_setb {h r b : List Nat} (n : Nat) (hl : h.length = 4) (rl : r.length = 4) (bl : b.length = 16) (i : Nat) (hi : i < 16) (x : Nat) : (stC h r b n).setIfInBounds (8 + i) (.int .u8 (x : Int)) = stC h r (b.set i x) n := by
  unfold stC
  rw [setA, List.set_append_right _ _ (by simp [nar_len]; omega), List.set_append_right _ _ (by simp [nar_len]; omega), List.set_append_left _ _ (by simp [nar_len]; omega), nar_set, List.map_set, List.length_map, List.length_map, nar_len, nar_len, hl, rl, show 8 + i - 4 - 4 = i by omega]
theorem stC_setn {h r b : List Nat} (n : Nat) (hl : h.length = 4) (rl : r.length = 4) (bl : b.length = 16) (x : Nat) : (stC h r b n).setIfInBounds 24 (.int .i64 (x : Int)) = stC h r b x := by
  unfold stC
  rw [setA, List.set_append_right _ _ (by simp [nar_len]; omega), List.set_append_right _ _ (by simp [nar_len]; omega), List.set_append_right _ _ (by simp [nar_len]; omega)]
  simp [nar_len, hl, rl, bl]
theorem stC_seth {h r b : List Nat} (n : Nat) (hl : h.length = 4) (h' : List Nat) (hl' : h'.length = 4) : ((stC h r b n).toList.take 0 ++ (arr .u64 (nar h')).toList ++ (stC h r b n).toList.drop (0 + (arr .u64 (nar h')).size)).toArray = stC h' r b n := by
  rw [arr_size, nar_len, hl', stC_toList, arr_toList, List.take_zero, List.nil_append, Nat.zero_add, List.drop_append_of_le_length (by simp [nar_len, hl]), List.drop_eq_nil_of_le (by simp [nar_len, hl]), List.nil_append]
  rfl
theorem stC_partr {h r b : List Nat} (n : Nat) (hl : h.length = 4) : ((stC h r b n).toList.drop 4).take (nar r).length = (nar r).map (Value.int .u64) := by
  rw [stC_toList, List.drop_append_of_le_length (by simp [nar_len, hl]), List.drop_eq_nil_of_le (by simp [nar_len, hl]), List.nil_append]
  simp
theorem stC_parth {h r b : List Nat} (n : Nat) : ((stC h r b n).toList.drop 0).take (nar h).length = (nar h).map (Value.int .u64) := by
  rw [stC_toList, List.drop_zero]
  simp
theorem stC_partb {h r b : List Nat} (n : Nat) (hl : h.length = 4) (rl : r.length = 4) (bl : b.length = 16) (k : Nat) (hk : k ≤ 16) : ((stC h r b n).toList.drop 8).take k = (nar (b.take k)).map (Value.int .u8) := by
  rw [stC_toList, ← List.append_assoc, List.drop_append_of_le_length (by simp [nar_len, hl, rl]), List.drop_eq_nil_of_le (by simp [nar_len, hl, rl]), List.nil_append, List.take_append_of_le_length (by simp [nar_len, bl]; omega), ← List.map_take]
  simp only [nar, List.map_take]
theorem IsSt.at_n {w : World} {p n : Nat} {h r b : List Nat} (s : IsSt w p h r b n) : w.cell? ⟨p, 24, none⟩ = some (.int .i64 (n : Int)) := by rw [cell_blk s.blk, stC_n n s.hl s.rl s.bl]
theorem IsSt.at_b {w : World} {p n : Nat} {h r b : List Nat} (s : IsSt w p h r b n) (i : Nat) (hi : i < 16) : w.cell? ⟨p, 8 + i, none⟩ = some (.int .u8 ((b.getD i 0 : Nat) : Int)) := by rw [cell_blk s.blk, stC_b n s.hl s.rl s.bl i hi]
theorem IsSt.set_b {w : World} {p n : Nat} {h r b : List Nat} (s : IsSt w p h r b n) (i : Nat) (hi : i < 16) (x : Nat) : IsSt (w.setCell ⟨p, 8 + i, none⟩ (.int .u8 (x : Int))) p h r (b.set i x) n :=
  ⟨by rw [blk_setCell s.blk, stC_setb n s.hl s.rl s.bl i hi], s.hl, s.rl, by rw [List.length_set]; exact s.bl⟩
theorem IsSt.set_n {w : World} {p n : Nat} {h r b : List Nat} (s : IsSt w p h r b n) (x : Nat) : IsSt (w.setCell ⟨p, 24, none⟩ (.int .i64 (x : Int))) p h r b x :=
  ⟨by rw [blk_setCell s.blk, stC_setn n s.hl s.rl s.bl], s.hl, s.rl, s.bl⟩

/-- What a call has that works at block p and makes blocks of its own. -/
structure OfSt (p : Nat) (w wr : World) (h r b : List Nat) (n : Nat) : Prop where
  st : IsSt wr p h r b n
  kept : Kept (fun x => x = p) w wr
theorem OfSt.after {p n : Nat} {w wr w' : World} {h r b : List Nat} (s : OfSt p w wr h r b n) (k : Below wr.heap.size wr w') : OfSt p w w' h r b n :=
  ⟨s.st.below k, s.kept.trans ((Kept.of_below (T := fun _ => False) k).mono (fun _ _ hf => hf.elim))⟩
theorem OfSt.alloc {p n : Nat} {w wr : World} {h r b : List Nat} (s : OfSt p w wr h r b n) (o : Obj) : OfSt p w (wr.alloc o) h r b n := ⟨s.st.alloc o, s.kept.alloc o⟩
theorem OfSt.drew {p n : Nat} {w wr : World} {h r b : List Nat} (s : OfSt p w wr h r b n) : OfSt p w wr.drew h r b n := ⟨s.st.drew, s.kept.drew⟩
theorem OfSt.far {p n : Nat} {w wr w' : World} {h r b : List Nat} {g : Nat} (s : OfSt p w wr h r b n) (k : Kept (fun i => i = g) wr w') (hg : p < g) (hw : w.heap.size ≤ g) : OfSt p w w' h r b n :=
  ⟨s.st.kept k (by omega), s.kept.trans_new k (fun i hi e => by omega)⟩
end Go.Proofs.Ytoljnogpegemjaa.Po
namespace Go.Proofs.Ytoljnogpegemjaa
open Go.RowKit
section
variable {P : Program}
theorem step_alloc_row {ops : Array Oper} {o : Oper} {a : Act} {w : World} {K : Act → World → Prop} {Q : Exit → Act → World → Prop} {E : Prop} (hgd : o.guard = none) (t : TypeId) (ho : o.op = .alloc t)
    (z : Array Value) (hz : (zeroValue t).run P w = .ok (.agg z) w) (h : K (a.put o.dst (.pointer (some ⟨w.heap.size, 0, none⟩))) (w.alloc (.cells z t))) :
    if Region.wanted o (yielded ops a.tmps) = true then Oper.wp P o a w K Q else E := by
  have hw : Region.wanted o (yielded ops a.tmps) = true := by simp [Region.wanted, hgd]
  rw [if_pos hw]
  unfold Oper.wp execOp
  simp only [ho, Instr.alloc, Sem.run_bind, hz, Result.andThen_ok]
  exact h
theorem step_store_whole {ops : Array Oper} {o : Oper} {a : Act} {w : World} {K : Act → World → Prop} {Q : Exit → Act → World → Prop} {E : Prop} (hgd : o.guard = none) (ty : TypeId) (x y : Operand) (ho : o.op = .store ty x y)
    (g : Nat) (cs ds : Array Value) (t : TypeId) (hb : w.heap[g]? = some (.cells cs t (0, 0))) (hx : a.eval x = .pointer (some ⟨g, 0, none⟩)) (hy : a.eval y = .agg ds)
    (hs : ds.size = cs.size) (hi : (P.info? ty).map (·.size) = some ds.size) (h1 : ds.all (·.oneCell') = true)
    (h : ∀ w', w'.heap[g]? = some (.cells ds t (0, 0)) → Kept (fun i => i = g) w w' → w'.heap.size = w.heap.size → K (a.put o.dst undef) w') :
    if Region.wanted o (yielded ops a.tmps) = true then Oper.wp P o a w K Q else E := by
  have hw : Region.wanted o (yielded ops a.tmps) = true := by simp [Region.wanted, hgd]
  rw [if_pos hw]
  refine wp_store_mid ty x y ho g 0 ds hx hy (fun j hj => ?_) hi h1 (h _ ?_ ?_ ?_)
  · rw [cell_blk hb]
    exact ⟨by rw [Array.getElem?_eq_getElem (by omega)]; rfl, free_blk hb _⟩
  · rw [blk_setCells _ _ _ _ _ _ _ hb (by simp [hs])]
    have e : cs.toList.drop (0 + ds.toList.length) = [] := List.drop_eq_nil_of_le (by simp [hs])
    rw [e]
    simp
  · exact kept_setCells g _ _ _ (Kept.refl _ _) (.inl rfl)
  · have : ∀ (vs : List Value) (o : Nat) (w : World), (w.setCells g o vs).heap.size = w.heap.size := by
      intro vs
      induction vs with
      | nil => intro o w; rfl
      | cons v vs ih => intro o w; rw [World.setCells, ih]; simp [World.setCell]
    exact this _ _ _
theorem step_load_part {ops : Array Oper} {o : Oper} {a : Act} {w : World} {K : Act → World → Prop} {Q : Exit → Act → World → Prop} {E : Prop} (hgd : o.guard = none) (ty : TypeId) (x : Operand) (ho : o.op = .load ty x)
    (g off : Nat) (cs : Array Value) (t : TypeId) (fr : Nat × Nat) (d : TypeDesc) (hb : w.heap[g]? = some (.cells cs t fr)) (hx : a.eval x = .pointer (some ⟨g, off, none⟩)) (k : IntKind) (xs : List Int)
    (hp : (cs.toList.drop off).take xs.length = xs.map (Value.int k)) (hu : P.underlying ty = some d) (hd : d.isRow = true) (hi : (P.info? ty).map (·.size) = some xs.length)
    (h : K (a.put o.dst (.agg (arr k xs))) w) : if Region.wanted o (yielded ops a.tmps) = true then Oper.wp P o a w K Q else E := by
  have hw : Region.wanted o (yielded ops a.tmps) = true := by simp [Region.wanted, hgd]
  rw [if_pos hw]
  exact wp_load_mid ty x ho g off hx (xs.map (Value.int k)) d (range_part hb off _ (by rw [List.length_map]; exact hp)) hu hd (by rw [List.length_map]; exact hi) h
end
end Go.Proofs.Ytoljnogpegemjaa
