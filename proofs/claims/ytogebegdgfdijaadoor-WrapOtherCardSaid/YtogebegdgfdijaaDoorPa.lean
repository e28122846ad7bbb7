/- Poly1305's numbers, in plain words. Condition: as each theorem says. -/
import Derived.Test.YtogebegdgfdijaaDoorMa
import Derived.Deep.MidRow
import Derived.Deep.RegionHeld3
import Derived.Deep.DeepCutAuto
import Derived.StillTailTactics
import Derived.Laws.CopyOwn
import Derived.Laws.Cover3
import Derived.BigRegion
set_option maxRecDepth 100000
set_option maxHeartbeats 16000000
set_option linter.unusedSimpArgs false
set_option linter.unusedVariables false
namespace Go.Proofs.YtogebegdgfdijaaDoor.Po
open Go.RowKit Lm
/-- A number of the same rest by 2^130 - 5. -/
def fold (v : Nat) : Nat := v % 2 ^ 130 + 5 * (v / 2 ^ 130)
theorem fold_mod (v : Nat) : fold v % (2 ^ 130 - 5) = v % (2 ^ 130 - 5) := by
  have h : v = fold v + (2 ^ 130 - 5) * (v / 2 ^ 130) := by unfold fold; omega
  have : (fold v + (2 ^ 130 - 5) * (v / 2 ^ 130)) % (2 ^ 130 - 5) = fold v % (2 ^ 130 - 5) := Nat.add_mul_mod_self_left _ _ _
  rw [← h] at this
  exact this.symm
theorem fold_lt (v : Nat) (h : v < 2 ^ 256) : fold v < 2 ^ 131 := by unfold fold; omega
theorem fold3 (v : Nat) (h : v < 2 ^ 131) : fold (fold (fold v)) < 2 ^ 130 := by unfold fold; omega
theorem val4 (a b c d : Nat) : val 18446744073709551616 [a, b, c, d] = a + 18446744073709551616 * b + 18446744073709551616 ^ 2 * c + 18446744073709551616 ^ 3 * d := by simp only [val]; omega
/-- What the code's fold adds. -/
theorem fold_code (a b c d p q : Nat) (ha : a < 18446744073709551616) (hb : b < 18446744073709551616) (hc : c < 18446744073709551616) (hd : d < 18446744073709551616) (hp : p = c / 4 + d % 4 * 4611686018427387904) (hq : q = d / 4) :
    p < 18446744073709551616 ∧
    (q * 5 / 18446744073709551616 + (q * 5 % 18446744073709551616 + p * 5 / 18446744073709551616) / 18446744073709551616 < 18446744073709551616) ∧
    (val 18446744073709551616 [a, b, c % 4, 0] + val 18446744073709551616 [p * 5 % 18446744073709551616, (q * 5 % 18446744073709551616 + p * 5 / 18446744073709551616) % 18446744073709551616, q * 5 / 18446744073709551616 + (q * 5 % 18446744073709551616 + p * 5 / 18446744073709551616) / 18446744073709551616, 0]) % 18446744073709551616 ^ 4 = fold (val 18446744073709551616 [a, b, c, d]) := by
  rw [val4, val4, val4]
  have hr : a + 18446744073709551616 * b + 18446744073709551616 ^ 2 * (c % 4) < 2 ^ 130 := by omega
  have hV : a + 18446744073709551616 * b + 18446744073709551616 ^ 2 * c + 18446744073709551616 ^ 3 * d = (a + 18446744073709551616 * b + 18446744073709551616 ^ 2 * (c % 4)) + 2 ^ 130 * (p + 18446744073709551616 * q) := by subst hp hq; omega
  have hp1 : p < 18446744073709551616 := by subst hp; omega
  have hq1 : q < 4611686018427387904 := by subst hq; omega
  unfold fold
  rw [hV, Nat.add_mul_mod_self_left, Nat.mod_eq_of_lt hr, Nat.add_mul_div_left _ _ (by decide), Nat.div_eq_of_lt hr, Nat.zero_add]
  clear hV hp hq
  generalize c % 4 = c4 at hr ⊢
  refine ⟨hp1, by omega, ?_⟩
  have e1 : p * 5 % 18446744073709551616 + 18446744073709551616 * ((q * 5 % 18446744073709551616 + p * 5 / 18446744073709551616) % 18446744073709551616) + 18446744073709551616 ^ 2 * (q * 5 / 18446744073709551616 + (q * 5 % 18446744073709551616 + p * 5 / 18446744073709551616) / 18446744073709551616) + 18446744073709551616 ^ 3 * 0 = 5 * (p + 18446744073709551616 * q) := by omega
  rw [e1, Nat.mul_zero, Nat.add_zero]
  exact Nat.mod_eq_of_lt (by omega)
/-! ### The key's first half, with the bits that fall -/
theorem and_split (k a b : Nat) : a &&& b = (a % 2 ^ k &&& b % 2 ^ k) + 2 ^ k * (a / 2 ^ k &&& b / 2 ^ k) := by
  have h1 : (a &&& b) % 2 ^ k = a % 2 ^ k &&& b % 2 ^ k := Nat.and_mod_two_pow
  have h2 : (a &&& b) / 2 ^ k = a / 2 ^ k &&& b / 2 ^ k := Nat.and_div_two_pow
  rw [← h1, ← h2]
  exact (Nat.mod_add_div _ _).symm
/-- The bits that stay. -/
def mask : Nat := 21267647620597763993911028882763415551
/-- The number of the key's first half. -/
def rv (ks : List Nat) : Nat := val 256 ks &&& mask
theorem rv_lt (ks : List Nat) : rv ks < 2 ^ 124 := Nat.lt_of_le_of_lt Nat.and_le_right (by decide)
theorem rv_code (ks : List Nat) (v : Nat) (hv : v = val 256 ks) : val 18446744073709551616 [v % 18446744073709551616 &&& 1152921487695413247, v / 18446744073709551616 % 18446744073709551616 &&& 1152921487695413244, 0, 0] = rv ks := by
  rw [val4, rv, and_split 64 (val 256 ks) mask, and_split 64 (val 256 ks / 2 ^ 64) (mask / 2 ^ 64), ← hv]
  rw [show mask % 2 ^ 64 = 1152921487695413247 by decide, show mask / 2 ^ 64 % 2 ^ 64 = 1152921487695413244 by decide, show mask / 2 ^ 64 / 2 ^ 64 = 0 by decide, Nat.and_zero, show (2 : Nat) ^ 64 = 18446744073709551616 by rfl]
  omega
def masks : List Nat := [255, 255, 255, 15, 252, 255, 255, 15, 252, 255, 255, 15, 252, 255, 255, 15]
theorem val_and : ∀ xs ms : List Nat, (∀ x ∈ xs, x < 256) → (∀ x ∈ ms, x < 256) → val 256 xs &&& val 256 ms = val 256 (List.zipWith (· &&& ·) xs ms)
  | [], _, _, _ => by simp [val]
  | _ :: _, [], _, _ => by simp [val]
  | x :: xs, m :: ms, hx, hm => by
    have h1 := hx x (by simp)
    have h2 := hm m (by simp)
    have ih := val_and xs ms (fun y hy => hx y (by simp [hy])) (fun y hy => hm y (by simp [hy]))
    rw [List.zipWith_cons_cons, val, val, val, ← ih, and_split 8]
    rw [show (2 : Nat) ^ 8 = 256 by rfl, Nat.add_mul_mod_self_left, Nat.add_mul_mod_self_left, Nat.mod_eq_of_lt h1, Nat.mod_eq_of_lt h2, Nat.add_mul_div_left _ _ (by decide), Nat.add_mul_div_left _ _ (by decide), Nat.div_eq_of_lt h1, Nat.div_eq_of_lt h2, Nat.zero_add, Nat.zero_add]
/-- The same, byte by byte. -/
theorem rv_bytes (ks : List Nat) (hb : ∀ x ∈ ks, x < 256) : rv ks = val 256 (List.zipWith (· &&& ·) ks masks) := by
  rw [← val_and ks masks hb (by decide)]
  rfl
/-! ### Digits of digits -/
theorem val_div (b : Nat) (hb : 0 < b) : ∀ (i : Nat) (xs : List Nat), (∀ x ∈ xs, x < b) → val b xs / b ^ i = val b (xs.drop i)
  | 0, xs, _ => by simp
  | i + 1, [], _ => by simp [val]
  | i + 1, x :: xs, h => by
    rw [Nat.pow_succ, Nat.mul_comm, ← Nat.div_div_eq_div_mul, val, Nat.add_mul_div_left _ _ hb, Nat.div_eq_of_lt (h x (by simp)), Nat.zero_add, List.drop_succ_cons]
    exact val_div b hb i xs (fun y hy => h y (by simp [hy]))
theorem val_mod (b : Nat) : ∀ (i : Nat) (xs : List Nat), (∀ x ∈ xs, x < b) → val b xs % b ^ i = val b (xs.take i)
  | 0, xs, _ => by simp [val, Nat.mod_one]
  | i + 1, [], _ => by simp [val]
  | i + 1, x :: xs, h => by
    rw [Nat.pow_succ, Nat.mul_comm, Nat.mod_mul, val, Nat.add_mul_mod_self_left, Nat.mod_eq_of_lt (h x (by simp)), Nat.add_mul_div_left _ _ (Nat.lt_of_le_of_lt (Nat.zero_le _) (h x (by simp))), Nat.div_eq_of_lt (h x (by simp)), Nat.zero_add, List.take_succ_cons, val]
    rw [val_mod b i xs (fun y hy => h y (by simp [hy]))]
theorem dig_take (b : Nat) : ∀ (n k v : Nat), (dig b (n + k) v).take n = dig b n v
  | 0, _, _ => by simp [dig]
  | n + 1, k, v => by
    rw [show n + 1 + k = (n + k) + 1 by omega, dig, dig, List.take_succ_cons, dig_take b n k]
/-! ### The sum -/
/-- What the first q blocks of sixteen sum up to. -/
def acc (r : Nat) (m : List Nat) : Nat → Nat
  | 0 => 0
  | q + 1 => (acc r m q + val 256 ((m.drop (16 * q)).take 16 ++ [1])) * r % (2 ^ 130 - 5)
/-- The document's tag. -/
def tagP (ks m : List Nat) : List Nat := dig 256 16 (acc (rv ks) m ((m.length + 15) / 16) + val 256 (ks.drop 16))
/-- One block in the code. -/
theorem turn_mod (h v r a : Nat) (hh : h % (2 ^ 130 - 5) = a) : fold ((h + v) * r) % (2 ^ 130 - 5) = (a + v) * r % (2 ^ 130 - 5) := by
  rw [fold_mod, Nat.mul_mod, Nat.add_mod, hh, Nat.mul_mod (a + v), Nat.add_mod a v]
  congr 3
  rw [← hh, Nat.mod_mod]
theorem turn_lt (h v r : Nat) (hh : h < 2 ^ 131) (hv : v < 2 ^ 129) (hr : r < 2 ^ 124) : (h + v) * r < 2 ^ 256 := by
  have h1 : h + v < 2 ^ 132 := by omega
  calc (h + v) * r ≤ 2 ^ 132 * r := Nat.mul_le_mul (by omega) (Nat.le_refl _)
    _ < 2 ^ 132 * 2 ^ 124 := Nat.mul_lt_mul_of_pos_left hr (by decide)
    _ = 2 ^ 256 := by decide
end Go.Proofs.YtogebegdgfdijaaDoor.Po
namespace Go.Proofs.YtogebegdgfdijaaDoor.Po
open Go.RowKit Lm
theorem and3 (x : Nat) (h : x < 18446744073709551616) : bits .and .u64 (x : Int) 3 = ((x % 4 : Nat) : Int) := by
  have e : x &&& 3 = x % 4 := Nat.and_two_pow_sub_one_eq_mod x 2
  have h1 : (BitVec.ofInt 64 (x : Int)).toNat = x := by rw [BitVec.ofInt_natCast, BitVec.toNat_ofNat]; exact Nat.mod_eq_of_lt (by omega)
  have h2 : (BitVec.ofInt 64 (3 : Int)).toNat = 3 := by decide
  show IntKind.u64.wrap ((BitVec.ofInt 64 (x : Int) &&& BitVec.ofInt 64 (3 : Int)).toNat : Int) = _
  rw [BitVec.toNat_and, h1, h2, e, IntKind.wrap_u64]
  omega
theorem or62 (c d : Nat) (hc : c < 18446744073709551616) : bits .or .u64 ((c : Int) / 4) (IntKind.u64.wrap ((d : Int) * 4611686018427387904)) = ((c / 4 + d % 4 * 4611686018427387904 : Nat) : Int) := by
  have hx : c / 4 < 2 ^ 62 := by omega
  have e1 : IntKind.u64.wrap ((d : Int) * 4611686018427387904) = ((d % 4 * 4611686018427387904 : Nat) : Int) := by rw [IntKind.wrap_u64]; omega
  have e2 : (c : Int) / 4 = ((c / 4 : Nat) : Int) := by omega
  rw [e1, e2]
  have hx1 : (BitVec.ofInt 64 ((c / 4 : Nat) : Int)).toNat = c / 4 := by rw [BitVec.ofInt_natCast, BitVec.toNat_ofNat]; exact Nat.mod_eq_of_lt (by omega)
  have hx2 : (BitVec.ofInt 64 ((d % 4 * 4611686018427387904 : Nat) : Int)).toNat = d % 4 * 4611686018427387904 := by rw [BitVec.ofInt_natCast, BitVec.toNat_ofNat]; exact Nat.mod_eq_of_lt (by omega)
  show IntKind.u64.wrap ((BitVec.ofInt 64 ((c / 4 : Nat) : Int) ||| BitVec.ofInt 64 ((d % 4 * 4611686018427387904 : Nat) : Int)).toNat : Int) = _
  have h4 : c / 4 ||| d % 4 * 4611686018427387904 = c / 4 + d % 4 * 4611686018427387904 := by
    have := Nat.two_pow_add_eq_or_of_lt hx (d % 4)
    rw [Nat.or_comm, Nat.mul_comm, show (4611686018427387904 : Nat) = 2 ^ 62 by rfl, ← this, Nat.add_comm]
  rw [BitVec.toNat_or, hx1, hx2, h4, IntKind.wrap_u64]
  omega
theorem four (xs : List Nat) (h : xs.length = 4) : ∃ a b c d, xs = [a, b, c, d] := by
  match xs, h with
  | [a, b, c, d], _ => exact ⟨a, b, c, d, rfl⟩
theorem nar4b (a b c d : Nat) : (#[.int .u64 (a : Int), .int .u64 (b : Int), .int .u64 (c : Int), .int .u64 (d : Int)] : Array Value) = arr .u64 (nar [a, b, c, d]) := rfl
theorem prime_any (w : World) :
    Calls Tryd.prog 72 #[] w fun e w' => e = .returned (.agg (arr .u64 (nar (dig 18446744073709551616 4 (2 ^ 130 - 5))))) ∧ Below w.heap.size w w' := by
  have e0 : dig 18446744073709551616 4 (2 ^ 130 - 5) = [18446744073709551611, 18446744073709551615, 3, 0] := by decide
  rw [e0]
  obtain ⟨zs, hzs⟩ : ∃ zs : List Nat, zs = List.replicate 4 0 := ⟨_, rfl⟩
  have hz : ∀ w, (zeroValue 53).run Tryd.prog w = .ok (.agg (arr .u64 (nar zs))) w := by intro w; rw [hzs, nar_zeros]; exact zero4 w
  have hzl : zs.length = 4 := by rw [hzs]; rfl
  obtain ⟨ps, hps⟩ : ∃ ps : List Nat, ps = [18446744073709551611, 18446744073709551615, 3, 0] := ⟨_, rfl⟩
  have hpl : ps.length = 4 := by rw [hps]; rfl
  have hpn : (#[.int .u64 18446744073709551611, .int .u64 18446744073709551615, .int .u64 3, .int .u64 0] : Array Value) = arr .u64 (nar ps) := by rw [hps]; rfl
  rw [← hps]
  have b0 := blk_new w (.cells (arr .u64 (nar zs)) 53)
  have k0 : Below w.heap.size w (w.alloc (.cells (arr .u64 (nar zs)) 53)) := (Below.refl _ w).alloc (Nat.le_refl _) _
  have B0 := Lib.hid b0
  have K0 := Lib.hid k0
  have HZ := Lib.hid hz
  have HZL := Lib.hid hzl
  have HPL := Lib.hid hpl
  have HPN := Lib.hid hpn
  clear b0 k0 hz hzl hpl hpn hps hzs e0
  go_enter Tryd.func72, Tryd.ntmps72
  go_wp2_with (first | ((with_reducible refine aS 0 ?_); refine wpList_alloc_row rfl 53 rfl _ (HZ.out _) ?_) | ((with_reducible show wpList _ _ _ (Oper.mk none _ _ _ _ _ :: _) _ _); rw [HPN.out]; refine wpList_store_whole rfl 53 _ _ rfl w.heap.size _ _ 53 B0.out rfl rfl ((nar4 ps HPL.out).trans (nar4 zs HZL.out).symm) (nar4s ps HPL.out) (all_arr _ _) ?_; intro w7 hb7 hk7 hz7; have HB7 := Lib.hid hb7; have HK7 := Lib.hid (K0.out.trans (hk7.toBelow (by simp) (by rintro i rfl; exact Nat.le_refl _))); clear hb7 hk7 hz7))
  (try simp only [Exit.inBlock, Exit.then])
  refine bodyPost_ret (results_cell_row rfl _ _ w.heap.size 53 _ (0, 0) _ rfl HB7.out Tryd.underlying53 rfl (nar4s ps HPL.out)) rfl ?_
  exact ⟨rfl, HK7.out⟩
theorem fold_any (xs : List Nat) (w : World) (lx : xs.length = 4) (bx : ∀ x ∈ xs, x < 18446744073709551616) :
    Calls Tryd.prog 71 #[.agg (arr .u64 (nar xs))] w fun e w' => e = .returned (.agg (arr .u64 (nar (dig 18446744073709551616 4 (fold (val 18446744073709551616 xs)))))) ∧ Below w.heap.size w w' := by
  obtain ⟨a, b, c, d, rfl⟩ := four xs lx
  have ha := bx a (by simp)
  have hb := bx b (by simp)
  have hc := bx c (by simp)
  have hd := bx d (by simp)
  obtain ⟨p, hp⟩ : ∃ p, p = c / 4 + d % 4 * 4611686018427387904 := ⟨_, rfl⟩
  obtain ⟨q, hq⟩ : ∃ q, q = d / 4 := ⟨_, rfl⟩
  obtain ⟨f1, f2, f3⟩ := fold_code a b c d p q ha hb hc hd hp hq
  have hq1 : q < 18446744073709551616 := by omega
  obtain ⟨xs, hxs⟩ : ∃ xs, xs = [a, b, c, d] := ⟨_, rfl⟩
  obtain ⟨V, hV⟩ : ∃ V, V = fold (val 18446744073709551616 [a, b, c, d]) := ⟨_, rfl⟩
  rw [← hV] at f3 ⊢
  rw [← hxs]
  have g0 : (nar xs).getD 0 0 = a := by rw [hxs]; rfl
  have g1 : (nar xs).getD 1 0 = b := by rw [hxs]; rfl
  have g2 : (nar xs).getD 2 0 = c := by rw [hxs]; rfl
  have g3 : (nar xs).getD 3 0 = d := by rw [hxs]; rfl
  have hxl : (nar xs).length = 4 := by rw [hxs]; rfl
  have M1 := fun w => mul64 p 5 f1 (by decide) w
  have M2 := fun w => mul64 q 5 hq1 (by decide) w
  have a1 := add64 (q * 5 % 18446744073709551616) (p * 5 / 18446744073709551616) 0 (by omega)
  have e0 : ((0 : Nat) : Int) = 0 := rfl
  have e5 : ((5 : Nat) : Int) = 5 := rfl
  rw [Nat.add_zero, e0] at a1
  rw [e5] at M1 M2
  generalize p * 5 / 18446744073709551616 = c1 at M1 a1 f2 f3
  have hx1 : p * 5 % 18446744073709551616 < 18446744073709551616 := Nat.mod_lt _ (by decide)
  generalize p * 5 % 18446744073709551616 = x1 at M1 f3 hx1
  generalize q * 5 / 18446744073709551616 = d1 at M2 f2 f3
  generalize q * 5 % 18446744073709551616 = y1 at M2 a1 f2 f3
  have hy2 : (y1 + c1) % 18446744073709551616 < 18446744073709551616 := Nat.mod_lt _ (by decide)
  generalize (y1 + c1) % 18446744073709551616 = y2 at a1 f3 hy2
  generalize (y1 + c1) / 18446744073709551616 = z2 at a1 f2 f3
  have hor := or62 c d hc
  rw [← hp] at hor
  have hand := and3 c hc
  have hq2 : (d : Int) / 4 = (q : Int) := by omega
  have A1 := fun w => ladd_any [a, b, c % 4, 0] [x1, y2, d1 + z2, 0] w rfl rfl (by intro x hx; simp at hx; omega) (by intro x hx; simp at hx; omega)
  rw [f3] at A1
  obtain ⟨zs, hzs⟩ : ∃ zs : List Nat, zs = List.replicate 4 0 := ⟨_, rfl⟩
  have hz : ∀ w, (zeroValue 53).run Tryd.prog w = .ok (.agg (arr .u64 (nar zs))) w := by intro w; rw [hzs, nar_zeros]; exact zero4 w
  have hzl : zs.length = 4 := by rw [hzs]; rfl
  obtain ⟨ls, hls⟩ : ∃ ls, ls = [a, b, c % 4, 0] := ⟨_, rfl⟩
  obtain ⟨ms, hms⟩ : ∃ ms, ms = [x1, y2, d1 + z2, 0] := ⟨_, rfl⟩
  rw [← hls, ← hms] at A1
  obtain ⟨os, hos⟩ : ∃ os, os = dig 18446744073709551616 4 V := ⟨_, rfl⟩
  rw [← hos] at A1 ⊢
  have HOL : Hid (os.length = 4) := Lib.hid (by rw [hos, dig_len])
  have HLS : Hid ((#[.int .u64 (a : Int), .int .u64 (b : Int), .int .u64 ((c % 4 : Nat) : Int), .int .u64 0] : Array Value) = arr .u64 (nar ls)) := Lib.hid (by rw [hls]; rfl)
  have HMS : Hid ((#[.int .u64 (x1 : Int), .int .u64 (y2 : Int), .int .u64 ((d1 : Int) + (z2 : Int)), .int .u64 0] : Array Value) = arr .u64 (nar ms)) := Lib.hid (by rw [hms]; rfl)
  have HLL : Hid (ls.length = 4) := Lib.hid (by rw [hls]; rfl)
  have S0 := B3.start w (arr .u64 (nar xs)) (arr .u64 (nar zs)) (arr .u64 (nar zs)) 53 53 53
  have S1 := B2.start w (arr .u64 (nar xs)) (arr .u64 (nar zs)) 53 53
  have q0 := blk_arr' S1.b0 0 (by omega)
  have q1 := blk_arr' S1.b0 1 (by omega)
  have q2 := blk_arr' S1.b0 2 (by omega)
  rw [g0] at q0
  rw [g1] at q1
  rw [g2] at q2
  have HS := Lib.hid S0
  have HZ := Lib.hid hz
  have HZL := Lib.hid hzl
  have HM1 := Lib.hid M1
  have HM2 := Lib.hid M2
  have HA1 := Lib.hid A1
  have HOR := Lib.hid hor
  have HAND := Lib.hid hand
  have HQ2 := Lib.hid hq2
  have HXL := Lib.hid hxl
  have G2 := Lib.hid g2
  have G3 := Lib.hid g3
  clear S0 S1 hz hzl M1 M2 A1 hor hand hq2 hxl g0 g1 g2 g3 hls hms hzs hxs hV f3 hp hq hos
  go_enter Tryd.func71, Tryd.ntmps71
  go_wp2_with (first | ((with_reducible refine aS 2 ?_); refine wpList_alloc_row rfl 53 rfl _ (HZ.out _) ?_) | ((with_reducible refine aS 3 ?_); rw [HAND.out, HLS.out]; refine wpList_alloc_row rfl 53 rfl _ (HZ.out _) ?_; go_simp) | ((with_reducible refine aT 3 ?_); refine wpList_store_whole rfl 53 _ _ rfl (w.heap.size + 1 + 1) _ _ 53 HS.out.b2 rfl rfl ((nar4 ls HLL.out).trans (nar4 zs HZL.out).symm) (nar4s ls HLL.out) (all_arr _ _) ?_; intro w7 hb7 hk7 hz7; have HB7 := Lib.hid (HS.out.put2 hk7 hb7); clear hb7 hk7 hz7; have r2 := blk_arr' HB7.out.b0 2 (by rw [HXL.out]; omega); have r3 := blk_arr' HB7.out.b0 3 (by rw [HXL.out]; omega); rw [G2.out] at r2; rw [G3.out] at r3) | ((with_reducible show Calls _ _ #[.int .u64 (bits _ _ _ _), _] w7 _); go_at_call 49; rw [HOR.out]; refine (HM1.out _).mono ?_; rintro e w8 ⟨rfl, h8⟩; rw [h8]; clear h8 w8) | ((with_reducible show Calls _ _ #[.int .u64 (_ / _), _] w7 _); go_at_call 49; rw [HQ2.out]; refine (HM2.out _).mono ?_; rintro e w8 ⟨rfl, h8⟩; rw [h8]; clear h8 w8) | ((with_reducible refine aS 44 ?_); refine wpList_load_part rfl 53 _ rfl (w.heap.size + 1 + 1) 0 _ 53 (0, 0) _ HB7.out.b2 rfl .u64 (nar ls) (arr_part _ _) Tryd.underlying53 rfl (nar4i ls HLL.out) ?_) | ((with_reducible show Calls _ _ #[.agg _, .agg _] w7 _); go_at_call 73; rw [HMS.out]; refine (HA1.out _).mono ?_; rintro e w8 ⟨rfl, hbw⟩; have HB8 := Lib.hid (HB7.out.after hbw); have hlt8 := blk_lt HB8.out.b2; clear hbw) | ((with_reducible refine aS 9 ?_); refine wpList_alloc_row rfl 53 rfl _ (HZ.out _) ?_; go_simp) | ((with_reducible refine aT 9 ?_); refine wpList_store_whole rfl 53 _ _ rfl w8.heap.size _ _ 53 (blk_new _ _) rfl rfl ((nar4 os HOL.out).trans (nar4 zs HZL.out).symm) (nar4s os HOL.out) (all_arr _ _) ?_; intro w9 hb9 hk9 hz9; have HB9 := Lib.hid ((HB8.out.alloc (.cells (arr .u64 (nar zs)) 53)).farK hk9 (by rintro i rfl; omega)); have HO9 := Lib.hid hb9; clear hb9 hk9 hz9) | ((with_reducible refine aS 54 ?_); refine wpList_load_part rfl 53 _ rfl w8.heap.size 0 _ 53 (0, 0) _ HO9.out rfl .u64 (nar os) (arr_part _ _) Tryd.underlying53 rfl (nar4i os HOL.out) ?_) | ((with_reducible refine aT 2 ?_); refine wpList_store_whole rfl 53 _ _ rfl (w.heap.size + 1) _ _ 53 HB9.out.b1 rfl rfl ((nar4 os HOL.out).trans (nar4 zs HZL.out).symm) (nar4s os HOL.out) (all_arr _ _) ?_; intro w6 hb6 hk6 hz6; have HB6 := Lib.hid (HB9.out.put1 hk6 hb6); clear hb6 hk6 hz6))
  (try simp only [Exit.inBlock, Exit.then])
  refine bodyPost_ret (results_cell_row rfl _ _ (w.heap.size + 1) 53 _ (0, 0) _ rfl HB6.out.b1 Tryd.underlying53 rfl (nar4s os HOL.out)) rfl ?_
  exact ⟨rfl, HB6.out.below⟩
end Go.Proofs.YtogebegdgfdijaaDoor.Po
namespace Go.Proofs.YtogebegdgfdijaaDoor.Po
open Go.RowKit Lm
theorem and_nat (x m : Nat) (hx : x < 18446744073709551616) (hm : m < 18446744073709551616) : bits .and .u64 (x : Int) (m : Int) = ((x &&& m : Nat) : Int) := by
  have h1 : (BitVec.ofInt 64 (x : Int)).toNat = x := by rw [BitVec.ofInt_natCast, BitVec.toNat_ofNat]; exact Nat.mod_eq_of_lt (by omega)
  have h2 : (BitVec.ofInt 64 (m : Int)).toNat = m := by rw [BitVec.ofInt_natCast, BitVec.toNat_ofNat]; exact Nat.mod_eq_of_lt (by omega)
  show IntKind.u64.wrap ((BitVec.ofInt 64 (x : Int) &&& BitVec.ofInt 64 (m : Int)).toNat : Int) = _
  have h3 : x &&& m ≤ x := Nat.and_le_left
  rw [BitVec.toNat_and, h1, h2, IntKind.wrap_u64]
  omega
theorem clamped_any (ks : List Nat) (w : World) (lk : ks.length = 32) (bk : ∀ x ∈ ks, x < 256) :
    Calls Tryd.prog 68 #[.agg (arr .u8 (nar ks))] w fun e w' => e = .returned (.agg (arr .u64 (nar (dig 18446744073709551616 4 (rv ks))))) ∧ Below w.heap.size w w' := by
  obtain ⟨v, hv⟩ : ∃ v, v = val 256 ks := ⟨_, rfl⟩
  have hrc := rv_code ks v hv
  obtain ⟨ns, hns⟩ : ∃ ns, ns = dig 18446744073709551616 4 v := ⟨_, rfl⟩
  have hnl : ns.length = 4 := by rw [hns, dig_len]
  obtain ⟨a, ha⟩ : ∃ a, a = v % 18446744073709551616 := ⟨_, rfl⟩
  obtain ⟨b, hb⟩ : ∃ b, b = v / 18446744073709551616 % 18446744073709551616 := ⟨_, rfl⟩
  have g0 : (nar ns).getD 0 0 = a := by rw [nar_get, hns, dig_get _ _ _ _ (by decide), ha]; simp
  have g1 : (nar ns).getD 1 0 = b := by rw [nar_get, hns, dig_get _ _ _ _ (by decide), hb]
  have ha1 : a < 18446744073709551616 := by rw [ha]; exact Nat.mod_lt _ (by decide)
  have hb1 : b < 18446744073709551616 := by rw [hb]; exact Nat.mod_lt _ (by decide)
  have n0 := and_nat a 1152921487695413247 ha1 (by decide)
  have n1 := and_nat b 1152921487695413244 hb1 (by decide)
  rw [← ha, ← hb] at hrc
  have hc0 : a &&& 1152921487695413247 < 18446744073709551616 := Nat.lt_of_le_of_lt Nat.and_le_left ha1
  have hc1 : b &&& 1152921487695413244 < 18446744073709551616 := Nat.lt_of_le_of_lt Nat.and_le_left hb1
  generalize a &&& 1152921487695413247 = c0 at n0 hrc hc0
  generalize b &&& 1152921487695413244 = c1 at n1 hrc hc1
  obtain ⟨os, hos⟩ : ∃ os, os = [c0, c1, 0, 0] := ⟨_, rfl⟩
  have hol : os.length = 4 := by rw [hos]; rfl
  have hod : os = dig 18446744073709551616 4 (rv ks) := dig_eq _ (by decide) 4 _ _ hol (by rw [hos]; intro x hx; simp at hx; omega) (by rw [hos]; exact hrc)
  rw [← hod]
  have HLS : Hid ((#[.int .u64 (c0 : Int), .int .u64 (c1 : Int), .int .u64 0, .int .u64 0] : Array Value) = arr .u64 (nar os)) := Lib.hid (by rw [hos]; rfl)
  have M1 := fun w => of_any ks w lk bk
  rw [← hv, ← hns] at M1
  obtain ⟨zs, hzs⟩ : ∃ zs : List Nat, zs = List.replicate 4 0 := ⟨_, rfl⟩
  have hz : ∀ w, (zeroValue 53).run Tryd.prog w = .ok (.agg (arr .u64 (nar zs))) w := by intro w; rw [hzs, nar_zeros]; exact zero4 w
  have hzl : zs.length = 4 := by rw [hzs]; rfl
  have S0 := B2.start w (arr .u8 (nar ks)) (arr .u64 (nar zs)) 23 53
  have HS := Lib.hid S0
  have HZ := Lib.hid hz
  have HZL := Lib.hid hzl
  have HM1 := Lib.hid M1
  have HN0 := Lib.hid n0
  have HN1 := Lib.hid n1
  have HNL := Lib.hid hnl
  have HOL := Lib.hid hol
  have G0 := Lib.hid g0
  have G1 := Lib.hid g1
  have LK := Lib.hid lk
  clear S0 hz hzl M1 n0 n1 hnl hol g0 g1 hos hod hns hv hrc hzs ha hb lk bk
  go_enter Tryd.func68, Tryd.ntmps68
  go_wp2_with (first | ((with_reducible refine aS 2 ?_); refine wpList_alloc_row rfl 53 rfl _ (HZ.out _) ?_) | ((with_reducible refine aS 4 ?_); refine wpList_load_part rfl 23 _ rfl w.heap.size 0 _ 23 (0, 0) _ HS.out.b0 rfl .u8 (nar ks) (arr_part _ _) Tryd.underlying23 rfl (nar32i ks LK.out) ?_) | ((with_reducible show Calls _ _ _ _ _); go_at_call 23; refine (HM1.out _).mono ?_; rintro e w8 ⟨rfl, hbw⟩; have HB8 := Lib.hid (HS.out.after hbw); have hlt8 := blk_lt HB8.out.b1; clear hbw) | ((with_reducible refine aS 3 ?_); refine wpList_alloc_row rfl 53 rfl _ (HZ.out _) ?_; go_simp) | ((with_reducible refine aT 3 ?_); refine wpList_store_whole rfl 53 _ _ rfl w8.heap.size _ _ 53 (blk_new _ _) rfl rfl ((nar4 ns HNL.out).trans (nar4 zs HZL.out).symm) (nar4s ns HNL.out) (all_arr _ _) ?_; intro w9 hb9 hk9 hz9; have HB9 := Lib.hid ((HB8.out.alloc (.cells (arr .u64 (nar zs)) 53)).farK hk9 (by rintro i rfl; omega)); have q0 := blk_arr' hb9 0 (by rw [nar_len, HNL.out]; omega); have q1 := blk_arr' hb9 1 (by rw [nar_len, HNL.out]; omega); rw [G0.out] at q0; rw [G1.out] at q1; clear hb9 hk9 hz9) | ((with_reducible refine aT 2 ?_); rw [show (1152921487695413247 : Int) = ((1152921487695413247 : Nat) : Int) from rfl, show (1152921487695413244 : Int) = ((1152921487695413244 : Nat) : Int) from rfl, HN0.out, HN1.out, HLS.out]; refine wpList_store_whole rfl 53 _ _ rfl (w.heap.size + 1) _ _ 53 HB9.out.b1 rfl rfl ((nar4 os HOL.out).trans (nar4 zs HZL.out).symm) (nar4s os HOL.out) (all_arr _ _) ?_; intro w6 hb6 hk6 hz6; have HB6 := Lib.hid (HB9.out.put1 hk6 hb6); clear hb6 hk6 hz6))
  (try simp only [Exit.inBlock, Exit.then])
  refine bodyPost_ret (results_cell_row rfl _ _ (w.heap.size + 1) 53 _ (0, 0) _ rfl HB6.out.b1 Tryd.underlying53 rfl (nar4s os HOL.out)) rfl ?_
  exact ⟨rfl, HB6.out.below⟩
end Go.Proofs.YtogebegdgfdijaaDoor.Po
namespace Go.Proofs.YtogebegdgfdijaaDoor.Po
open Go.RowKit Lm
def stC (h r b : List Nat) (n : Nat) : Array Value := ((nar h).map (Value.int .u64) ++ ((nar r).map (Value.int .u64) ++ ((nar b).map (Value.int .u8) ++ [Value.int .i64 (n : Int)]))).toArray
/-- Block p is a state. -/
structure IsSt (w : World) (p : Nat) (h r b : List Nat) (n : Nat) : Prop where
  blk : w.heap[p]? = some (.cells (stC h r b n) 98 (0, 0))
  hl : h.length = 4
  rl : r.length = 4
  bl : b.length = 16
theorem IsSt.fr {w : World} {p n : Nat} {h r b : List Nat} (s : IsSt w p h r b n) (o : Nat) : w.frozen? ⟨p, o, none⟩ = false := free_blk s.blk o
theorem IsSt.kept {T : Nat → Prop} {w w' : World} {p n : Nat} {h r b : List Nat} (s : IsSt w p h r b n) (k : Kept T w w') (hp : ¬ T p) : IsSt w' p h r b n := ⟨k.blk s.blk hp, s.hl, s.rl, s.bl⟩
theorem IsSt.below {w w' : World} {p n : Nat} {h r b : List Nat} (s : IsSt w p h r b n) (k : Below w.heap.size w w') : IsSt w' p h r b n := ⟨Below.blk k s.blk (blk_lt s.blk), s.hl, s.rl, s.bl⟩
theorem IsSt.drewN {w : World} {p n : Nat} {h r b : List Nat} (s : IsSt w p h r b n) (k : Nat) : IsSt (w.drewN k) p h r b n := ⟨s.blk, s.hl, s.rl, s.bl⟩
theorem IsSt.drew {w : World} {p n : Nat} {h r b : List Nat} (s : IsSt w p h r b n) : IsSt w.drew p h r b n := ⟨s.blk, s.hl, s.rl, s.bl⟩
theorem IsSt.alloc {w : World} {p n : Nat} {h r b : List Nat} (s : IsSt w p h r b n) (o : Obj) : IsSt (w.alloc o) p h r b n := ⟨blk_alloc s.blk o, s.hl, s.rl, s.bl⟩
theorem mapget (k : IntKind) (xs : List Nat) (i : Nat) (hi : i < xs.length) : ((nar xs).map (Value.int k))[i]? = some (.int k ((xs.getD i 0 : Nat) : Int)) := by
  rw [← nar_get]
  have : i < (nar xs).length := by rw [nar_len]; exact hi
  simp [List.getD, this]
theorem stC_toList (h r b : List Nat) (n : Nat) : (stC h r b n).toList = (nar h).map (Value.int .u64) ++ ((nar r).map (Value.int .u64) ++ ((nar b).map (Value.int .u8) ++ [Value.int .i64 (n : Int)])) := rfl
theorem stC_size {h r b : List Nat} (n : Nat) (hl : h.length = 4) (rl : r.length = 4) (bl : b.length = 16) : (stC h r b n).size = 25 := by simp [stC, nar_len, hl, rl, bl]
theorem stC_b {h r b : List Nat} (n : Nat) (hl : h.length = 4) (rl : r.length = 4) (bl : b.length = 16) (i : Nat) (hi : i < 16) : (stC h r b n)[8 + i]? = some (.int .u8 ((b.getD i 0 : Nat) : Int)) := by
  unfold stC
  rw [List.getElem?_toArray, List.getElem?_append_right (by simp [nar_len]; omega), List.getElem?_append_right (by simp [nar_len]; omega), List.getElem?_append_left (by simp [nar_len]; omega), List.length_map, List.length_map, nar_len, nar_len, hl, rl, show 8 + i - 4 - 4 = i by omega, mapget _ _ _ (by omega)]
theorem stC_n {h r b : List Nat} (n : Nat) (hl : h.length = 4) (rl : r.length = 4) (bl : b.length = 16) : (stC h r b n)[24]? = some (.int .i64 (n : Int)) := by
  unfold stC
  rw [List.getElem?_toArray, List.getElem?_append_right (by simp [nar_len]; omega), List.getElem?_append_right (by simp [nar_len]; omega), List.getElem?_append_right (by simp [nar_len]; omega)]
  simp [nar_len, hl, rl, bl]
theorem setA (cs : List Value) (i : Nat) (v : Value) : cs.toArray.setIfInBounds i v = (cs.set i v).toArray := by simp
theorem stC_setb {h r b : List Nat} (n : Nat) (hl : h.length = 4) (rl : r.length = 4) (bl : b.length = 16) (i : Nat) (hi : i < 16) (x : Nat) : (stC h r b n).setIfInBounds (8 + i) (.int .u8 (x : Int)) = stC h r (b.set i x) n := by
  unfold stC
  rw [setA, List.set_append_right _ _ (by simp [nar_len]; omega), List.set_append_right _ _ (by simp [nar_len]; omega), List.set_append_left _ _ (by simp [nar_len]; omega), nar_set, List.map_set, List.length_map, List.length_map, nar_len, nar_len, hl, rl, show 8 + i - 4 - 4 = i by omega]
theorem stC_setn {h r b : List Nat} (n : Nat) (hl : h.length = 4) (rl : r.length = 4) (bl : b.length = 16) (x : Nat) : (stC h r b n).setIfInBounds 24 (.int .i64 (x : Int)) = stC h r b x := by
  unfold stC
  rw [setA, List.set_append_right _ _ (by simp [nar_len]; omega), List.set_append_right _ _ (by simp [nar_len]; omega), List.set_append_right _ _ (by simp [nar_len]; omega)]
  simp [nar_len, hl, rl, bl]
theorem stC_seth {h r b : List Nat} (n : Nat) (hl : h.length = 4) (h' : List Nat) (hl' : h'.length = 4) : ((stC h r b n).toList.take 0 ++ (arr .u64 (nar h')).toList ++ (stC h r b n).toList.drop (0 + (arr .u64 (nar h')).size)).toArray = stC h' r b n := by
  rw [arr_size, nar_len, hl', stC_toList, arr_toList, List.take_zero, List.nil_append, Nat.zero_add, List.drop_append_of_le_length (by simp [nar_len, hl]), List.drop_eq_nil_of_le (by simp [nar_len, hl]), List.nil_append]
  rfl
theorem stC_partr {h r b : List Nat} (n : Nat) (hl : h.length = 4) : ((stC h r b n).toList.drop 4).take (nar r).length = (nar r).map (Value.int .u64) := by
  rw [stC_toList, List.drop_append_of_le_length (by simp [nar_len, hl]), List.drop_eq_nil_of_le (by simp [nar_len, hl]), List.nil_append]
  simp
theorem stC_parth {h r b : List Nat} (n : Nat) : ((stC h r b n).toList.drop 0).take (nar h).length = (nar h).map (Value.int .u64) := by
  rw [stC_toList, List.drop_zero]
  simp
theorem stC_partb {h r b : List Nat} (n : Nat) (hl : h.length = 4) (rl : r.length = 4) (bl : b.length = 16) (k : Nat) (hk : k ≤ 16) : ((stC h r b n).toList.drop 8).take k = (nar (b.take k)).map (Value.int .u8) := by
  rw [stC_toList, ← List.append_assoc, List.drop_append_of_le_length (by simp [nar_len, hl, rl]), List.drop_eq_nil_of_le (by simp [nar_len, hl, rl]), List.nil_append, List.take_append_of_le_length (by simp [nar_len, bl]; omega), ← List.map_take]
  simp only [nar, List.map_take]
theorem IsSt.at_n {w : World} {p n : Nat} {h r b : List Nat} (s : IsSt w p h r b n) : w.cell? ⟨p, 24, none⟩ = some (.int .i64 (n : Int)) := by rw [cell_blk s.blk, stC_n n s.hl s.rl s.bl]
theorem IsSt.at_b {w : World} {p n : Nat} {h r b : List Nat} (s : IsSt w p h r b n) (i : Nat) (hi : i < 16) : w.cell? ⟨p, 8 + i, none⟩ = some (.int .u8 ((b.getD i 0 : Nat) : Int)) := by rw [cell_blk s.blk, stC_b n s.hl s.rl s.bl i hi]
theorem IsSt.set_b {w : World} {p n : Nat} {h r b : List Nat} (s : IsSt w p h r b n) (i : Nat) (hi : i < 16) (x : Nat) : IsSt (w.setCell ⟨p, 8 + i, none⟩ (.int .u8 (x : Int))) p h r (b.set i x) n :=
  ⟨by rw [blk_setCell s.blk, stC_setb n s.hl s.rl s.bl i hi], s.hl, s.rl, by rw [List.length_set]; exact s.bl⟩
theorem IsSt.set_n {w : World} {p n : Nat} {h r b : List Nat} (s : IsSt w p h r b n) (x : Nat) : IsSt (w.setCell ⟨p, 24, none⟩ (.int .i64 (x : Int))) p h r b x :=
  ⟨by rw [blk_setCell s.blk, stC_setn n s.hl s.rl s.bl], s.hl, s.rl, s.bl⟩
/-- What a call has that works at block p and makes blocks of its own. -/
structure OfSt (p : Nat) (w wr : World) (h r b : List Nat) (n : Nat) : Prop where
  st : IsSt wr p h r b n
  kept : Kept (fun x => x = p) w wr
theorem OfSt.after {p n : Nat} {w wr w' : World} {h r b : List Nat} (s : OfSt p w wr h r b n) (k : Below wr.heap.size wr w') : OfSt p w w' h r b n :=
  ⟨s.st.below k, s.kept.trans ((Kept.of_below (T := fun _ => False) k).mono (fun _ _ hf => hf.elim))⟩
theorem OfSt.alloc {p n : Nat} {w wr : World} {h r b : List Nat} (s : OfSt p w wr h r b n) (o : Obj) : OfSt p w (wr.alloc o) h r b n := ⟨s.st.alloc o, s.kept.alloc o⟩
theorem OfSt.drew {p n : Nat} {w wr : World} {h r b : List Nat} (s : OfSt p w wr h r b n) : OfSt p w wr.drew h r b n := ⟨s.st.drew, s.kept.drew⟩
theorem OfSt.far {p n : Nat} {w wr w' : World} {h r b : List Nat} {g : Nat} (s : OfSt p w wr h r b n) (k : Kept (fun i => i = g) wr w') (hg : p < g) (hw : w.heap.size ≤ g) : OfSt p w w' h r b n :=
  ⟨s.st.kept k (by omega), s.kept.trans_new k (fun i hi e => by omega)⟩
end Go.Proofs.YtogebegdgfdijaaDoor.Po
namespace Go.Proofs.YtogebegdgfdijaaDoor.Po
open Go.RowKit Lm
theorem zero32' (w : World) : (zeroValue 23).run Tryd.prog w = .ok (.agg (arr .u8 (List.replicate 32 0))) w := by kernel_rfl
theorem kval (b : List Nat) (n k : Nat) : val 256 (b.take n ++ 1 :: List.replicate k 0) = val 256 (b.take n ++ [1]) := by
  rw [val_append, val_append, val, val, val_zeros, val]
theorem kset (b : List Nat) (n : Nat) (hb : b.length = 16) (hn : n ≤ 16) : (b.take n ++ List.replicate (32 - n) 0).set n 1 = b.take n ++ 1 :: List.replicate (31 - n) 0 := by
  have hl : (b.take n).length = n := by rw [List.length_take]; omega
  rw [List.set_append_right _ _ (by omega), hl, Nat.sub_self, show 32 - n = (31 - n) + 1 by omega, List.replicate_succ, List.set_cons_zero]
theorem klen (b : List Nat) (n : Nat) (hb : b.length = 16) (hn : n ≤ 16) : (b.take n ++ 1 :: List.replicate (31 - n) 0).length = 32 := by
  rw [List.length_append, List.length_take, List.length_cons, List.length_replicate]; omega
theorem kbytes (b : List Nat) (n : Nat) (hb : ∀ x ∈ b, x < 256) : ∀ x ∈ b.take n ++ 1 :: List.replicate (31 - n) 0, x < 256 := by
  intro x hx
  rw [List.mem_append, List.mem_cons, List.mem_replicate] at hx
  rcases hx with hx | rfl | ⟨-, rfl⟩
  · exact hb x (List.mem_of_mem_take hx)
  · decide
  · decide
theorem kv_lt (b : List Nat) (n : Nat) (hb : b.length = 16) (hby : ∀ x ∈ b, x < 256) (hn : n ≤ 16) : val 256 (b.take n ++ [1]) < 2 ^ 129 := by
  have h1 := val_lt 256 (b.take n) (fun x hx => hby x (List.mem_of_mem_take hx))
  have hl : (b.take n).length = n := by rw [List.length_take]; omega
  rw [val_append, hl]
  rw [hl] at h1
  have h2 : 256 ^ n ≤ 256 ^ 16 := Nat.pow_le_pow_right (by decide) hn
  simp only [val]
  omega
theorem ksplice (b : List Nat) (n : Nat) (hb : b.length = 16) (hn : n ≤ 16) : (Go.splice ((nar (List.replicate 32 0)).map (Value.int .u8)) 0 ((nar (b.take n)).map (Value.int .u8))).toArray = arr .u8 (nar (b.take n ++ List.replicate (32 - n) 0)) := by
  have hl : (b.take n).length = n := by rw [List.length_take]; omega
  unfold Go.splice arr
  rw [List.take_zero, List.nil_append, Nat.zero_add, List.length_map, nar_len, hl, ← List.map_drop, ← List.map_append]
  congr 2
  rw [nar, nar, nar, List.map_append, ← List.map_drop, List.drop_replicate]
theorem turn_any (p : Nat) (h r n : Nat) (b : List Nat) (w : World) (hs : IsSt w p (dig 18446744073709551616 4 h) (dig 18446744073709551616 4 r) b n) (hh : h < 2 ^ 131) (hr : r < 2 ^ 124) (hn : n ≤ 16) (hb : ∀ x ∈ b, x < 256) :
    Calls Tryd.prog 70 #[.pointer (some ⟨p, 0, none⟩)] w fun e w' => e = .returned (.tuple #[]) ∧ IsSt w' p (dig 18446744073709551616 4 (fold ((h + val 256 (b.take n ++ [1])) * r))) (dig 18446744073709551616 4 r) b 0 ∧ Kept (fun x => x = p) w w' := by
  have bl := hs.bl
  have hp := blk_lt hs.blk
  obtain ⟨v, hv⟩ : ∃ v, v = val 256 (b.take n ++ [1]) := ⟨_, rfl⟩
  have hv1 : v < 2 ^ 129 := by rw [hv]; exact kv_lt b n bl hb hn
  have hX := turn_lt h v r hh hv1 hr
  rw [← hv]
  obtain ⟨ks, hks⟩ : ∃ ks, ks = b.take n ++ 1 :: List.replicate (31 - n) 0 := ⟨_, rfl⟩
  have hkl : ks.length = 32 := by rw [hks]; exact klen b n bl hn
  have hkb : ∀ x ∈ ks, x < 256 := by rw [hks]; exact kbytes b n hb
  have hkv : val 256 ks = v := by rw [hks, kval, hv]
  have M1 := fun w => of_any ks w hkl hkb
  rw [hkv] at M1
  have M2 := fun w => ladd_any (dig 18446744073709551616 4 h) (dig 18446744073709551616 4 v) w (dig_len _ _ _) (dig_len _ _ _) (dig_lt _ (by decide) _ _) (dig_lt _ (by decide) _ _)
  rw [val_dig, val_dig, Nat.mod_eq_of_lt (show h < 18446744073709551616 ^ 4 by omega), Nat.mod_eq_of_lt (show v < 18446744073709551616 ^ 4 by omega), Nat.mod_eq_of_lt (show h + v < 18446744073709551616 ^ 4 by omega)] at M2
  have M3 := fun w => lmul_any (dig 18446744073709551616 4 (h + v)) (dig 18446744073709551616 4 r) w (dig_len _ _ _) (dig_len _ _ _) (dig_lt _ (by decide) _ _) (dig_lt _ (by decide) _ _)
  rw [val_dig, val_dig, Nat.mod_eq_of_lt (show r < 18446744073709551616 ^ 4 by omega), Nat.mod_eq_of_lt (show h + v < 18446744073709551616 ^ 4 by omega)] at M3
  have M4 := fun w => fold_any (dig 18446744073709551616 4 ((h + v) * r)) w (dig_len _ _ _) (dig_lt _ (by decide) _ _)
  rw [val_dig, Nat.mod_eq_of_lt (show (h + v) * r < 18446744073709551616 ^ 4 by simpa using hX)] at M4
  generalize (h + v) * r = X at M3 M4 hX ⊢
  have ht8 : (nar (dig 18446744073709551616 8 X)).take 4 = nar (dig 18446744073709551616 4 X) := by rw [nar, ← List.map_take, dig_take 18446744073709551616 4 4]; rfl
  obtain ⟨h4, hh4⟩ : ∃ h4, h4 = dig 18446744073709551616 4 h := ⟨_, rfl⟩
  obtain ⟨r4, hr4⟩ : ∃ r4, r4 = dig 18446744073709551616 4 r := ⟨_, rfl⟩
  obtain ⟨v4, hv4⟩ : ∃ v4, v4 = dig 18446744073709551616 4 v := ⟨_, rfl⟩
  obtain ⟨s4, hs4⟩ : ∃ s4, s4 = dig 18446744073709551616 4 (h + v) := ⟨_, rfl⟩
  obtain ⟨x8, hx8⟩ : ∃ x8, x8 = dig 18446744073709551616 8 X := ⟨_, rfl⟩
  obtain ⟨x4, hx4⟩ : ∃ x4, x4 = dig 18446744073709551616 4 X := ⟨_, rfl⟩
  obtain ⟨f4, hf4⟩ : ∃ f4, f4 = dig 18446744073709551616 4 (fold X) := ⟨_, rfl⟩
  have l4 : s4.length = 4 := by rw [hs4, dig_len]
  have l8 : x8.length = 8 := by rw [hx8, dig_len]
  have lx : x4.length = 4 := by rw [hx4, dig_len]
  have lf : f4.length = 4 := by rw [hf4, dig_len]
  rw [← hh4, ← hr4] at hs
  rw [← hv4] at M1
  rw [← hh4, ← hv4, ← hs4] at M2
  rw [← hs4, ← hr4, ← hx8] at M3
  rw [← hx4, ← hf4] at M4
  rw [← hx8, ← hx4] at ht8
  rw [← hf4, ← hr4]
  clear hh4 hr4 hv4 hs4 hx8 hx4 hf4 hX
  obtain ⟨zs, hzs⟩ : ∃ zs : List Nat, zs = List.replicate 4 0 := ⟨_, rfl⟩
  have hz : ∀ w, (zeroValue 53).run Tryd.prog w = .ok (.agg (arr .u64 (nar zs))) w := by intro w; rw [hzs, nar_zeros]; exact zero4 w
  have hzl : zs.length = 4 := by rw [hzs]; rfl
  obtain ⟨z8, hz8⟩ : ∃ zs : List Nat, zs = List.replicate 8 0 := ⟨_, rfl⟩
  have hy8 : ∀ w, (zeroValue 75).run Tryd.prog w = .ok (.agg (arr .u64 (nar z8))) w := by intro w; rw [hz8, nar_zeros]; exact zero8 w
  have hz8l : z8.length = 8 := by rw [hz8]; rfl
  obtain ⟨zb, hzb⟩ : ∃ zs : List Nat, zs = List.replicate 32 0 := ⟨_, rfl⟩
  have hyb : ∀ w, (zeroValue 23).run Tryd.prog w = .ok (.agg (arr .u8 (nar zb))) w := by intro w; rw [hzb, nar_zeros]; exact zero32' w
  have hzbl : zb.length = 32 := by rw [hzb]; rfl
  obtain ⟨cs, hcs⟩ : ∃ cs, cs = (nar (b.take n)).map (Value.int .u8) := ⟨_, rfl⟩
  have hcl : cs.length = n := by rw [hcs, List.length_map, nar_len, List.length_take]; omega
  have hco : ∀ v ∈ cs, v.oneCell' = true := by
    rw [hcs]; intro v hv; obtain ⟨y, _, rfl⟩ := List.mem_map.1 hv; rfl
  have hspl : (Go.splice ((nar zb).map (Value.int .u8)) 0 cs).toArray = arr .u8 (nar (b.take n ++ List.replicate (32 - n) 0)) := by rw [hzb, hcs]; exact ksplice b n bl hn
  have hks2 : (b.take n ++ List.replicate (32 - n) 0).set n 1 = ks := by rw [hks]; exact kset b n bl hn
  have hrng : ∀ w', IsSt w' p h4 r4 b n → ∀ j v, cs[j]? = some v → w'.cell? (Addr.add ⟨p, 8, none⟩ j) = some v := by
    intro w' hs' j v hj
    have := range_part hs'.blk 8 cs (by rw [hcl, hcs]; exact stC_partb n hs'.hl hs'.rl hs'.bl n hn)
    have e : Addr.add ⟨p, 8, none⟩ j = ⟨p, 8 + j, none⟩ := by
      unfold Addr.add
      split
      · rename_i h0; rw [h0]
      · rfl
    rw [e]
    exact this j v hj
  have b0 := blk_new w (.cells (arr .u8 (nar zb)) 23)
  have w0 : Below w.heap.size w (w.alloc (.cells (arr .u8 (nar zb)) 23)) := (Below.refl _ w).alloc (Nat.le_refl _) _
  have s0 := hs.alloc (.cells (arr .u8 (nar zb)) 23)
  have n0 := s0.at_n
  generalize hW : w.alloc (.cells (arr .u8 (nar zb)) 23) = wA at b0 w0 s0 n0
  have hn2 : (n : Int) ≤ 16 := by omega
  have HW := Lib.hid hW
  have HS := Lib.hid hs
  have HS0 := Lib.hid s0
  have HB0 := Lib.hid b0
  have HW0 := Lib.hid w0
  have HM1 := Lib.hid M1
  have HM2 := Lib.hid M2
  have HM3 := Lib.hid M3
  have HM4 := Lib.hid M4
  have HZ := Lib.hid hz
  have HZL := Lib.hid hzl
  have HY8 := Lib.hid hy8
  have HZ8 := Lib.hid hz8l
  have HYB := Lib.hid hyb
  have HZB := Lib.hid hzbl
  have HCL := Lib.hid hcl
  have HCO := Lib.hid hco
  have HSPL := Lib.hid hspl
  have HKS2 := Lib.hid hks2
  have HRNG := Lib.hid hrng
  have HKL := Lib.hid hkl
  have L4 := Lib.hid l4
  have L8 := Lib.hid l8
  have LX := Lib.hid lx
  have LF := Lib.hid lf
  have HT8 := Lib.hid ht8
  have BL := Lib.hid bl
  clear hW hs s0 b0 w0 M1 M2 M3 M4 hz hzl hy8 hz8l hyb hzbl hcl hco hspl hks2 hrng hkl l4 l8 lx lf ht8 bl hzs hz8 hzb hcs hks hkv hv hkb hb hh hr hv1
  go_enter Tryd.func70, Tryd.ntmps70
  go_wp2_with (first | ((with_reducible refine aS 2 ?_); refine wpList_alloc_row rfl 23 rfl _ (HYB.out _) ?_; rw [HW.out]))
  go_still_tail 9, (by kernel_rfl)
  change wpList _ _ _ _ _ wA.drew
  have HS1 := Lib.hid HS0.out.drew
  have HB1 : Hid (wA.drew.heap[w.heap.size]? = some (.cells (arr .u8 (nar zb)) 23 (0, 0))) := Lib.hid HB0.out
  have HW1 := Lib.hid (show Below w.heap.size w wA.drew from ⟨HW0.out.os, HW0.out.tape, HW0.out.output, HW0.out.size, HW0.out.block⟩)
  clear n0
  generalize wA.drew = w2 at HS1 HB1 HW1 ⊢
  go_upto_region 2 with (first | ((with_reducible refine aS 15 ?_); refine wpList_copy_splice rfl (.tmp 6) (.tmp 14) 25 25 rfl 5 Tryd.underlying25 size_u8 _ _ _ _ _ _ rfl rfl w.heap.size 0 ((nar zb).map (Value.int .u8)) 23 HB1.out cs (by rw [HCL.out]; exact (Nat.min_eq_left (by omega)).symm) (fun _ => ⟨rfl, ⟨p, 8, none⟩, rfl, HRNG.out _ HS1.out⟩) (by rw [HCL.out, List.length_map, nar_len, HZB.out]; omega) HCO.out w.heap.size w HW1.out (Nat.le_refl _) ?_; intro w3 hb3 hw3; have hb3' := hb3.out; rw [HSPL.out] at hb3'; have HB3 := Lib.hid hb3'; have HW3 := Lib.hid hw3; clear hb3 hb3' hw3))
  have n3 := (HS.out.below HW3.out).at_n
  have kz : n < (nar (b.take n ++ List.replicate (32 - n) 0)).length := by rw [nar_len, List.length_append, List.length_take, List.length_replicate, BL.out]; omega
  have q3 := blk_arr' HB3.out n kz
  have f3 := free_blk HB3.out n
  have hb4 : (w3.setCell ⟨w.heap.size, n, none⟩ (.int .u8 1)).heap[w.heap.size]? = some (.cells (arr .u8 (nar ks)) 23 (0, 0)) := by
    rw [blk_setCell HB3.out, show (1 : Int) = ((1 : Nat) : Int) from rfl, arr_set, ← nar_set, HKS2.out]
  have HB4 := Lib.hid hb4
  have HW4 := Lib.hid (HW3.out.setCell (p := ⟨w.heap.size, n, none⟩) (Nat.le_refl _) (.int .u8 1))
  have hn3 : (n : Int) < 32 := by omega
  clear hb4 kz
  go_upto_region 3 with fail
  clear n3 q3 f3 hn3
  generalize w3.setCell ⟨w.heap.size, n, none⟩ (.int .u8 1) = wq at HB4 HW4 ⊢
  have HS4 := Lib.hid (HS.out.below HW4.out)
  go_cut [3] (fun u3 wx => ∃ g, u3 = .pointer (some ⟨g, 0, none⟩) ∧ wq.heap.size ≤ g ∧ wx.heap[g]? = some (.cells (arr .u64 (nar s4)) 53 (0, 0)) ∧ Below wq.heap.size wq wx)
  case first =>
    have HB0 := Lib.hid (show Below wq.heap.size wq wq.drew from ⟨rfl, rfl, rfl, Nat.le_refl _, fun _ _ => rfl⟩)
    refine wp_region_held_drew (S := (fun w' => Go.RowKit.Below wq.heap.size wq w')) (by kernel_rfl) (HB0.out) (fun hHeld => ?_)
    refine wpAnyH_take (i := 0) (oi := (⟨some 22, _, _, _, _, none⟩ : Oper)) (v := ?v1) rfl (by kernel_rfl) (by kernel_rfl) (by kernel_rfl) (fun _ _ _ h => h) (Or.inl ⟨by rfl, ?hy1⟩) (by assumption) ?rest1
    case hy1 => (intro w hSw; (try dsimp only at hSw); go_simp; try (with_reducible rfl))
    (try simp only [Act.put, sA, sZ, sS])
    refine wpAnyH_take (i := 1) (oi := (⟨some 23, _, _, _, _, none⟩ : Oper)) (v := ?v2) rfl (by kernel_rfl) (by kernel_rfl) (by kernel_rfl) (fun _ _ _ h => h) (Or.inl ⟨by rfl, ?hy2⟩) (by assumption) ?rest2
    case hy2 => (intro w hSw; (try dsimp only at hSw); go_simp; try (with_reducible rfl))
    (try simp only [Act.put, sA, sZ, sS])
    refine wpAnyH_take (i := 2) (oi := (⟨some 24, _, _, _, _, none⟩ : Oper)) (v := ?v3) rfl (by kernel_rfl) (by kernel_rfl) (by kernel_rfl) (fun _ _ _ h => h) (Or.inl ⟨by rfl, ?hy3⟩) (by assumption) ?rest3
    case hy3 => (intro w hSw; (try dsimp only at hSw); go_simp; try (with_reducible rfl))
    (try simp only [Act.put, sA, sZ, sS])
    refine' wpAnyH_take (i := 3) (oi := (⟨some 25, _, _, _, _, none⟩ : Oper)) (v := _) rfl (by kernel_rfl) (by kernel_rfl) (by kernel_rfl) (fun _ _ _ h => h) (yieldsIf_load_mid (by rfl) _ _ rfl _ _ rfl ((nar h4).map (Value.int .u64)) _ ?hS4 Tryd.underlying53 rfl (by rw [List.length_map]; exact nar4i h4 HS4.out.hl)) (by assumption) ?rest4
    case hS4 => (intro w hSw; exact range_part (Below.blk hSw HS4.out.blk (blk_lt HS4.out.blk)) 0 _ (by rw [List.length_map]; exact stC_parth n))
    (try simp only [Act.put, sA, sZ, sS])
    refine' wpAnyH_take (i := 4) (oi := (⟨some 26, _, _, _, _, none⟩ : Oper)) (v := _) rfl (by kernel_rfl) (by kernel_rfl) (by kernel_rfl) (fun _ _ _ h => h) (yieldsIf_load_mid (by rfl) _ _ rfl _ _ rfl ((nar ks).map (Value.int .u8)) _ ?hS5 Tryd.underlying23 rfl (by rw [List.length_map]; exact nar32i ks HKL.out)) (by assumption) ?rest5
    case hS5 => (intro w hSw; exact range_part (Below.blk hSw HB4.out (blk_lt HB4.out)) 0 _ (by rw [List.length_map]; exact arr_part _ _))
    (try simp only [Act.put, sA, sZ, sS])
    refine wpAnyH_ready (rs := [5, 10]) (by kernel_rfl) (by simp) ?_
    refine AllReadyH.cons (o := (⟨some 27, _, _, _, _, none⟩ : Oper)) rfl (fun K hK => ?_) ?_
    · go_simp
      go_at_call 23
      refine (HM1.out _).mono ?_
      rintro e w6 ⟨rfl, hb6⟩
      have HB6 := Lib.hid (HB0.out.trans (hb6.mono HB0.out.size))
      clear hb6
      (try dsimp only)
      refine hK.out _ _ (HB6.out) (fun hHeld => ?_)
      clear hK K
      (try simp only [Act.put, sA, sZ, sS])
      refine wpAnyH_ready (rs := [6, 10]) (by kernel_rfl) (by simp) ?_
      refine AllReadyH.cons (o := ({ dst := some 28, op := Op.call { callee := Callee.value (Operand.func 73), args := #[Operand.tmp 25, Operand.tmp 27], argTypes := #[53, 53] }, type := 72, pos := "poly.go:45", after := #[{ on := 3, ground := Ground.data }, { on := 5, ground := Ground.data }, { on := 5, ground := Ground.chain }], guard := none } : Oper)) rfl (fun K hK => ?_) ?_
      · go_simp
        go_at_call 73
        refine (HM2.out _).mono ?_
        rintro e w7 ⟨rfl, hb7⟩
        have HB7 := Lib.hid (HB6.out.trans (hb7.mono HB6.out.size))
        clear hb7
        (try dsimp only)
        refine hK.out _ _ (HB7.out) (fun hHeld => ?_)
        clear hK K
        (try simp only [Act.put, sA, sZ, sS])
        refine wpAnyH_take (i := 7) (oi := ({ dst := some 21, op := Op.move (Operand.tmp 28), type := 72, pos := "poly.go:45", after := #[{ on := 6, ground := Ground.data }], guard := none } : Oper)) (v := ?v8) rfl (by kernel_rfl) (by kernel_rfl) (by kernel_rfl) (fun _ _ _ h => h) (Or.inl ⟨by rfl, ?hy8⟩) (by assumption) ?rest8
        case hy8 => (intro w hSw; (try dsimp only at hSw); go_simp; try (with_reducible rfl))
        (try simp only [Act.put, sA, sZ, sS])
        refine wpAnyH_take (i := 8) (oi := (⟨some 29, _, _, _, _, none⟩ : Oper)) (v := ?v9) rfl (by kernel_rfl) (by kernel_rfl) (by kernel_rfl) (fun _ _ _ h => h) (Or.inl ⟨by rfl, ?hy9⟩) (by assumption) ?rest9
        case hy9 => (intro w hSw; (try dsimp only at hSw); go_simp; try (with_reducible rfl))
        (try simp only [Act.put, sA, sZ, sS])
        refine wpAnyH_take (i := 9) (oi := (⟨some 30, _, _, _, _, none⟩ : Oper)) (v := ?v10) rfl (by kernel_rfl) (by kernel_rfl) (by kernel_rfl) (fun _ _ _ h => h) (Or.inl ⟨by rfl, ?hy10⟩) (by assumption) ?rest10
        case hy10 => (intro w hSw; (try dsimp only at hSw); go_simp; try (with_reducible rfl))
        (try simp only [Act.put, sA, sZ, sS])
        refine wpAnyH_ready (rs := [10]) (by kernel_rfl) (by simp) ?_
        refine AllReadyH.cons (o := (⟨some 3, _, _, _, _, none⟩ : Oper)) rfl (fun K hK => ?_) AllReadyH.nil
        refine step_alloc_row rfl 53 rfl _ (HZ.out _) ?_
        have HB11 := Lib.hid (HB7.out.alloc HB7.out.size (.cells (arr .u64 (nar zs)) 53))
        have HG11_3 := Lib.hid (blk_new (w7) (.cells (arr .u64 (nar zs)) 53))
        refine hK.out _ _ (HB11.out) (fun hHeld => ?_)
        clear hK K
        (try simp only [Act.put, sA, sZ, sS])
        refine wpAnyH_ready (rs := [11]) (by kernel_rfl) (by simp) ?_
        refine AllReadyH.cons (o := (⟨none, _, _, _, _, none⟩ : Oper)) rfl (fun K hK => ?_) AllReadyH.nil
        refine step_store_whole rfl 53 (.tmp 3) (.tmp 29) rfl (w7).heap.size _ _ _ HG11_3.out rfl rfl ((nar4 s4 L4.out).trans (nar4 zs HZL.out).symm) (nar4s s4 L4.out) (all_arr _ _) ?_
        intro w12 hb12 hk12 hz12
        have HB12 := Lib.hid (HB11.out.trans (hk12.toBelow HB11.out.size (by rintro i rfl; exact HB7.out.size)))
        have HG12_3 := Lib.hid hb12
        clear hb12 hk12 hz12
        refine hK.out _ _ (HB12.out) (fun hHeld => ?_)
        clear hK K
        (try simp only [Act.put])
        refine wpAnyH_take (i := 12) (oi := (⟨some 4, _, _, _, _, none⟩ : Oper)) (v := ?v13) rfl (by kernel_rfl) (by kernel_rfl) (by kernel_rfl) (fun _ _ _ h => h) (Or.inl ⟨by rfl, ?hy13⟩) (by assumption) ?rest13
        case hy13 => (intro w hSw; (try dsimp only at hSw); go_simp; try (with_reducible rfl))
        (try simp only [Act.put, sA, sZ, sS])
        refine wpAnyH_done (by kernel_rfl) ?_ _
        go_wp2_with fail
        go_meet
        exact ⟨_, rfl, HB7.out.size, HG12_3.out, HB12.out⟩
      refine AllReadyH.cons (o := (⟨some 3, _, _, _, _, none⟩ : Oper)) rfl (fun K hK => ?_) ?_
      · refine step_alloc_row rfl 53 rfl _ (HZ.out _) ?_
        have HB14 := Lib.hid (HB6.out.alloc HB6.out.size (.cells (arr .u64 (nar zs)) 53))
        have HG14_3 := Lib.hid (blk_new (w6) (.cells (arr .u64 (nar zs)) 53))
        refine hK.out _ _ (HB14.out) (fun hHeld => ?_)
        clear hK K
        (try simp only [Act.put, sA, sZ, sS])
        refine wpAnyH_ready (rs := [6]) (by kernel_rfl) (by simp) ?_
        refine AllReadyH.cons (o := ({ dst := some 28, op := Op.call { callee := Callee.value (Operand.func 73), args := #[Operand.tmp 25, Operand.tmp 27], argTypes := #[53, 53] }, type := 72, pos := "poly.go:45", after := #[{ on := 3, ground := Ground.data }, { on := 5, ground := Ground.data }, { on := 5, ground := Ground.chain }], guard := none } : Oper)) rfl (fun K hK => ?_) AllReadyH.nil
        go_simp
        go_at_call 73
        refine (HM2.out _).mono ?_
        rintro e w15 ⟨rfl, hb15⟩
        have HB15 := Lib.hid (HB14.out.trans (hb15.mono HB14.out.size))
        have HG15_3 := Lib.hid (Below.blk hb15 HG14_3.out (blk_lt HG14_3.out))
        clear hb15
        (try dsimp only)
        refine hK.out _ _ (HB15.out) (fun hHeld => ?_)
        clear hK K
        (try simp only [Act.put, sA, sZ, sS])
        refine wpAnyH_take (i := 7) (oi := ({ dst := some 21, op := Op.move (Operand.tmp 28), type := 72, pos := "poly.go:45", after := #[{ on := 6, ground := Ground.data }], guard := none } : Oper)) (v := ?v16) rfl (by kernel_rfl) (by kernel_rfl) (by kernel_rfl) (fun _ _ _ h => h) (Or.inl ⟨by rfl, ?hy16⟩) (by assumption) ?rest16
        case hy16 => (intro w hSw; (try dsimp only at hSw); go_simp; try (with_reducible rfl))
        (try simp only [Act.put, sA, sZ, sS])
        refine wpAnyH_take (i := 8) (oi := (⟨some 29, _, _, _, _, none⟩ : Oper)) (v := ?v17) rfl (by kernel_rfl) (by kernel_rfl) (by kernel_rfl) (fun _ _ _ h => h) (Or.inl ⟨by rfl, ?hy17⟩) (by assumption) ?rest17
        case hy17 => (intro w hSw; (try dsimp only at hSw); go_simp; try (with_reducible rfl))
        (try simp only [Act.put, sA, sZ, sS])
        refine wpAnyH_take (i := 9) (oi := (⟨some 30, _, _, _, _, none⟩ : Oper)) (v := ?v18) rfl (by kernel_rfl) (by kernel_rfl) (by kernel_rfl) (fun _ _ _ h => h) (Or.inl ⟨by rfl, ?hy18⟩) (by assumption) ?rest18
        case hy18 => (intro w hSw; (try dsimp only at hSw); go_simp; try (with_reducible rfl))
        (try simp only [Act.put, sA, sZ, sS])
        refine wpAnyH_ready (rs := [11]) (by kernel_rfl) (by simp) ?_
        refine AllReadyH.cons (o := (⟨none, _, _, _, _, none⟩ : Oper)) rfl (fun K hK => ?_) AllReadyH.nil
        refine step_store_whole rfl 53 (.tmp 3) (.tmp 29) rfl (w6).heap.size _ _ _ HG15_3.out rfl rfl ((nar4 s4 L4.out).trans (nar4 zs HZL.out).symm) (nar4s s4 L4.out) (all_arr _ _) ?_
        intro w19 hb19 hk19 hz19
        have HB19 := Lib.hid (HB15.out.trans (hk19.toBelow HB15.out.size (by rintro i rfl; exact HB6.out.size)))
        have HG19_3 := Lib.hid hb19
        clear hb19 hk19 hz19
        refine hK.out _ _ (HB19.out) (fun hHeld => ?_)
        clear hK K
        (try simp only [Act.put])
        refine wpAnyH_take (i := 12) (oi := (⟨some 4, _, _, _, _, none⟩ : Oper)) (v := ?v20) rfl (by kernel_rfl) (by kernel_rfl) (by kernel_rfl) (fun _ _ _ h => h) (Or.inl ⟨by rfl, ?hy20⟩) (by assumption) ?rest20
        case hy20 => (intro w hSw; (try dsimp only at hSw); go_simp; try (with_reducible rfl))
        (try simp only [Act.put, sA, sZ, sS])
        refine wpAnyH_done (by kernel_rfl) ?_ _
        go_wp2_with fail
        go_meet
        exact ⟨_, rfl, HB6.out.size, HG19_3.out, HB19.out⟩
      exact AllReadyH.nil
    refine AllReadyH.cons (o := (⟨some 3, _, _, _, _, none⟩ : Oper)) rfl (fun K hK => ?_) ?_
    · refine step_alloc_row rfl 53 rfl _ (HZ.out _) ?_
      have HB21 := Lib.hid (HB0.out.alloc HB0.out.size (.cells (arr .u64 (nar zs)) 53))
      have HG21_3 := Lib.hid (blk_new (wq.drew) (.cells (arr .u64 (nar zs)) 53))
      refine hK.out _ _ (HB21.out) (fun hHeld => ?_)
      clear hK K
      (try simp only [Act.put, sA, sZ, sS])
      refine wpAnyH_ready (rs := [5]) (by kernel_rfl) (by simp) ?_
      refine AllReadyH.cons (o := (⟨some 27, _, _, _, _, none⟩ : Oper)) rfl (fun K hK => ?_) AllReadyH.nil
      go_simp
      go_at_call 23
      refine (HM1.out _).mono ?_
      rintro e w22 ⟨rfl, hb22⟩
      have HB22 := Lib.hid (HB21.out.trans (hb22.mono HB21.out.size))
      have HG22_3 := Lib.hid (Below.blk hb22 HG21_3.out (blk_lt HG21_3.out))
      clear hb22
      (try dsimp only)
      refine hK.out _ _ (HB22.out) (fun hHeld => ?_)
      clear hK K
      (try simp only [Act.put, sA, sZ, sS])
      refine wpAnyH_ready (rs := [6]) (by kernel_rfl) (by simp) ?_
      refine AllReadyH.cons (o := ({ dst := some 28, op := Op.call { callee := Callee.value (Operand.func 73), args := #[Operand.tmp 25, Operand.tmp 27], argTypes := #[53, 53] }, type := 72, pos := "poly.go:45", after := #[{ on := 3, ground := Ground.data }, { on := 5, ground := Ground.data }, { on := 5, ground := Ground.chain }], guard := none } : Oper)) rfl (fun K hK => ?_) AllReadyH.nil
      go_simp
      go_at_call 73
      refine (HM2.out _).mono ?_
      rintro e w23 ⟨rfl, hb23⟩
      have HB23 := Lib.hid (HB22.out.trans (hb23.mono HB22.out.size))
      have HG23_3 := Lib.hid (Below.blk hb23 HG22_3.out (blk_lt HG22_3.out))
      clear hb23
      (try dsimp only)
      refine hK.out _ _ (HB23.out) (fun hHeld => ?_)
      clear hK K
      (try simp only [Act.put, sA, sZ, sS])
      refine wpAnyH_take (i := 7) (oi := ({ dst := some 21, op := Op.move (Operand.tmp 28), type := 72, pos := "poly.go:45", after := #[{ on := 6, ground := Ground.data }], guard := none } : Oper)) (v := ?v24) rfl (by kernel_rfl) (by kernel_rfl) (by kernel_rfl) (fun _ _ _ h => h) (Or.inl ⟨by rfl, ?hy24⟩) (by assumption) ?rest24
      case hy24 => (intro w hSw; (try dsimp only at hSw); go_simp; try (with_reducible rfl))
      (try simp only [Act.put, sA, sZ, sS])
      refine wpAnyH_take (i := 8) (oi := (⟨some 29, _, _, _, _, none⟩ : Oper)) (v := ?v25) rfl (by kernel_rfl) (by kernel_rfl) (by kernel_rfl) (fun _ _ _ h => h) (Or.inl ⟨by rfl, ?hy25⟩) (by assumption) ?rest25
      case hy25 => (intro w hSw; (try dsimp only at hSw); go_simp; try (with_reducible rfl))
      (try simp only [Act.put, sA, sZ, sS])
      refine wpAnyH_take (i := 9) (oi := (⟨some 30, _, _, _, _, none⟩ : Oper)) (v := ?v26) rfl (by kernel_rfl) (by kernel_rfl) (by kernel_rfl) (fun _ _ _ h => h) (Or.inl ⟨by rfl, ?hy26⟩) (by assumption) ?rest26
      case hy26 => (intro w hSw; (try dsimp only at hSw); go_simp; try (with_reducible rfl))
      (try simp only [Act.put, sA, sZ, sS])
      refine wpAnyH_ready (rs := [11]) (by kernel_rfl) (by simp) ?_
      refine AllReadyH.cons (o := (⟨none, _, _, _, _, none⟩ : Oper)) rfl (fun K hK => ?_) AllReadyH.nil
      refine step_store_whole rfl 53 (.tmp 3) (.tmp 29) rfl (wq.drew).heap.size _ _ _ HG23_3.out rfl rfl ((nar4 s4 L4.out).trans (nar4 zs HZL.out).symm) (nar4s s4 L4.out) (all_arr _ _) ?_
      intro w27 hb27 hk27 hz27
      have HB27 := Lib.hid (HB23.out.trans (hk27.toBelow HB23.out.size (by rintro i rfl; exact HB0.out.size)))
      have HG27_3 := Lib.hid hb27
      clear hb27 hk27 hz27
      refine hK.out _ _ (HB27.out) (fun hHeld => ?_)
      clear hK K
      (try simp only [Act.put])
      refine wpAnyH_take (i := 12) (oi := (⟨some 4, _, _, _, _, none⟩ : Oper)) (v := ?v28) rfl (by kernel_rfl) (by kernel_rfl) (by kernel_rfl) (fun _ _ _ h => h) (Or.inl ⟨by rfl, ?hy28⟩) (by assumption) ?rest28
      case hy28 => (intro w hSw; (try dsimp only at hSw); go_simp; try (with_reducible rfl))
      (try simp only [Act.put, sA, sZ, sS])
      refine wpAnyH_done (by kernel_rfl) ?_ _
      go_wp2_with fail
      go_meet
      exact ⟨_, rfl, HB0.out.size, HG27_3.out, HB27.out⟩
    exact AllReadyH.nil
  case rest =>
    obtain ⟨wd, rfl⟩ : ∃ wd : World, wd = wc := ⟨_, rfl⟩
    obtain ⟨g3, rfl, hg3, hb5, hw5⟩ := hcut
    have HS5 := Lib.hid (HS4.out.below hw5)
    have HB5 := Lib.hid hb5
    have HW5 := Lib.hid hw5
    clear hb5 hw5
    go_upto_region 4 with fail
    go_cut [5] (fun u5 wx => ∃ g, u5 = .pointer (some ⟨g, 0, none⟩) ∧ wd.heap.size ≤ g ∧ wx.heap[g]? = some (.cells (arr .u64 (nar x8)) 75 (0, 0)) ∧ Below wd.heap.size wd wx)
    case first =>
      have HB0 := Lib.hid (show Below wd.heap.size wd wd.drew from ⟨rfl, rfl, rfl, Nat.le_refl _, fun _ _ => rfl⟩)
      refine wp_region_held_drew (S := (fun w' => Go.RowKit.Below wd.heap.size wd w')) (by kernel_rfl) (HB0.out) (fun hHeld => ?_)
      refine' wpAnyH_take (i := 0) (oi := (⟨some 31, _, _, _, _, none⟩ : Oper)) (v := _) rfl (by kernel_rfl) (by kernel_rfl) (by kernel_rfl) (fun _ _ _ h => h) (yieldsIf_load_mid (by rfl) _ _ rfl _ _ rfl ((nar s4).map (Value.int .u64)) _ ?hS1001 Tryd.underlying53 rfl (by rw [List.length_map]; exact nar4i s4 L4.out)) (by assumption) ?rest1001
      case hS1001 => (intro w hSw; exact range_part (Below.blk hSw HB5.out (blk_lt HB5.out)) 0 _ (by rw [List.length_map]; exact arr_part _ _))
      (try simp only [Act.put, sA, sZ, sS])
      refine wpAnyH_take (i := 1) (oi := (⟨some 32, _, _, _, _, none⟩ : Oper)) (v := ?v1002) rfl (by kernel_rfl) (by kernel_rfl) (by kernel_rfl) (fun _ _ _ h => h) (Or.inl ⟨by rfl, ?hy1002⟩) (by assumption) ?rest1002
      case hy1002 => (intro w hSw; (try dsimp only at hSw); go_simp; try (with_reducible rfl))
      (try simp only [Act.put, sA, sZ, sS])
      refine wpAnyH_take (i := 2) (oi := (⟨some 33, _, _, _, _, none⟩ : Oper)) (v := ?v1003) rfl (by kernel_rfl) (by kernel_rfl) (by kernel_rfl) (fun _ _ _ h => h) (Or.inl ⟨by rfl, ?hy1003⟩) (by assumption) ?rest1003
      case hy1003 => (intro w hSw; (try dsimp only at hSw); go_simp; try (with_reducible rfl))
      (try simp only [Act.put, sA, sZ, sS])
      refine wpAnyH_take (i := 3) (oi := (⟨some 34, _, _, _, _, none⟩ : Oper)) (v := ?v1004) rfl (by kernel_rfl) (by kernel_rfl) (by kernel_rfl) (fun _ _ _ h => h) (Or.inl ⟨by rfl, ?hy1004⟩) (by assumption) ?rest1004
      case hy1004 => (intro w hSw; (try dsimp only at hSw); go_simp; try (with_reducible rfl))
      (try simp only [Act.put, sA, sZ, sS])
      refine' wpAnyH_take (i := 4) (oi := (⟨some 35, _, _, _, _, none⟩ : Oper)) (v := _) rfl (by kernel_rfl) (by kernel_rfl) (by kernel_rfl) (fun _ _ _ h => h) (yieldsIf_load_mid (by rfl) _ _ rfl _ _ rfl ((nar r4).map (Value.int .u64)) _ ?hS1005 Tryd.underlying53 rfl (by rw [List.length_map]; exact nar4i r4 HS5.out.rl)) (by assumption) ?rest1005
      case hS1005 => (intro w hSw; exact range_part (Below.blk hSw HS5.out.blk (blk_lt HS5.out.blk)) 4 _ (by rw [List.length_map]; exact stC_partr n HS5.out.hl))
      (try simp only [Act.put, sA, sZ, sS])
      refine wpAnyH_ready (rs := [5, 6]) (by kernel_rfl) (by simp) ?_
      refine AllReadyH.cons (o := (⟨some 36, _, _, _, _, none⟩ : Oper)) rfl (fun K hK => ?_) ?_
      · go_simp
        go_at_call 48
        refine (HM3.out _).mono ?_
        rintro e w1006 ⟨rfl, hb1006⟩
        have HB1006 := Lib.hid (HB0.out.trans (hb1006.mono HB0.out.size))
        clear hb1006
        (try dsimp only)
        refine hK.out _ _ (HB1006.out) (fun hHeld => ?_)
        clear hK K
        (try simp only [Act.put, sA, sZ, sS])
        refine wpAnyH_ready (rs := [6]) (by kernel_rfl) (by simp) ?_
        refine AllReadyH.cons (o := (⟨some 5, _, _, _, _, none⟩ : Oper)) rfl (fun K hK => ?_) AllReadyH.nil
        refine step_alloc_row rfl 75 rfl _ (HY8.out _) ?_
        have HB1007 := Lib.hid (HB1006.out.alloc HB1006.out.size (.cells (arr .u64 (nar z8)) 75))
        have HG1007_5 := Lib.hid (blk_new (w1006) (.cells (arr .u64 (nar z8)) 75))
        refine hK.out _ _ (HB1007.out) (fun hHeld => ?_)
        clear hK K
        (try simp only [Act.put, sA, sZ, sS])
        refine wpAnyH_ready (rs := [7]) (by kernel_rfl) (by simp) ?_
        refine AllReadyH.cons (o := (⟨none, _, _, _, _, none⟩ : Oper)) rfl (fun K hK => ?_) AllReadyH.nil
        refine step_store_whole rfl 75 (.tmp 5) (.tmp 36) rfl (w1006).heap.size _ _ _ HG1007_5.out rfl rfl ((nar8 x8 L8.out).trans (nar8 z8 HZ8.out).symm) (nar8s x8 L8.out) (all_arr _ _) ?_
        intro w1008 hb1008 hk1008 hz1008
        have HB1008 := Lib.hid (HB1007.out.trans (hk1008.toBelow HB1007.out.size (by rintro i rfl; exact HB1006.out.size)))
        have HG1008_5 := Lib.hid hb1008
        clear hb1008 hk1008 hz1008
        refine hK.out _ _ (HB1008.out) (fun hHeld => ?_)
        clear hK K
        (try simp only [Act.put])
        refine wpAnyH_done (by kernel_rfl) ?_ _
        go_wp2_with fail
        go_meet
        exact ⟨_, rfl, HB1006.out.size, HG1008_5.out, HB1008.out⟩
      refine AllReadyH.cons (o := (⟨some 5, _, _, _, _, none⟩ : Oper)) rfl (fun K hK => ?_) ?_
      · refine step_alloc_row rfl 75 rfl _ (HY8.out _) ?_
        have HB1009 := Lib.hid (HB0.out.alloc HB0.out.size (.cells (arr .u64 (nar z8)) 75))
        have HG1009_5 := Lib.hid (blk_new (wd.drew) (.cells (arr .u64 (nar z8)) 75))
        refine hK.out _ _ (HB1009.out) (fun hHeld => ?_)
        clear hK K
        (try simp only [Act.put, sA, sZ, sS])
        refine wpAnyH_ready (rs := [5]) (by kernel_rfl) (by simp) ?_
        refine AllReadyH.cons (o := (⟨some 36, _, _, _, _, none⟩ : Oper)) rfl (fun K hK => ?_) AllReadyH.nil
        go_simp
        go_at_call 48
        refine (HM3.out _).mono ?_
        rintro e w1010 ⟨rfl, hb1010⟩
        have HB1010 := Lib.hid (HB1009.out.trans (hb1010.mono HB1009.out.size))
        have HG1010_5 := Lib.hid (Below.blk hb1010 HG1009_5.out (blk_lt HG1009_5.out))
        clear hb1010
        (try dsimp only)
        refine hK.out _ _ (HB1010.out) (fun hHeld => ?_)
        clear hK K
        (try simp only [Act.put, sA, sZ, sS])
        refine wpAnyH_ready (rs := [7]) (by kernel_rfl) (by simp) ?_
        refine AllReadyH.cons (o := (⟨none, _, _, _, _, none⟩ : Oper)) rfl (fun K hK => ?_) AllReadyH.nil
        refine step_store_whole rfl 75 (.tmp 5) (.tmp 36) rfl (wd.drew).heap.size _ _ _ HG1010_5.out rfl rfl ((nar8 x8 L8.out).trans (nar8 z8 HZ8.out).symm) (nar8s x8 L8.out) (all_arr _ _) ?_
        intro w1011 hb1011 hk1011 hz1011
        have HB1011 := Lib.hid (HB1010.out.trans (hk1011.toBelow HB1010.out.size (by rintro i rfl; exact HB0.out.size)))
        have HG1011_5 := Lib.hid hb1011
        clear hb1011 hk1011 hz1011
        refine hK.out _ _ (HB1011.out) (fun hHeld => ?_)
        clear hK K
        (try simp only [Act.put])
        refine wpAnyH_done (by kernel_rfl) ?_ _
        go_wp2_with fail
        go_meet
        exact ⟨_, rfl, HB0.out.size, HG1011_5.out, HB1011.out⟩
      exact AllReadyH.nil
    case rest =>
      obtain ⟨g5, rfl, hg5, hb6, hw6⟩ := hcut
      have HS6 := Lib.hid (HS5.out.below hw6)
      have HB6 := Lib.hid hb6
      have hw7 : Below w.heap.size w wc := (HW4.out.trans (HW5.out.mono HW4.out.size)).trans (hw6.mono (Nat.le_trans HW4.out.size HW5.out.size))
      have HW6 := Lib.hid hw7
      have HG5 := Lib.hid hg5
      have hat := fun w => run_arrayAt (P := Tryd.prog) (w := w) 53 51 4 (some ⟨g5, 0, none⟩) 4 8 Tryd.underlying53 (Nat.le_refl _)
      clear hb6 hw6 hw7 hg5
      go_wp2_with (first | ((with_reducible refine aS 40 ?_); refine wpList_load_part rfl 53 _ rfl g5 0 _ 75 (0, 0) _ HB6.out rfl .u64 (nar x4) (by rw [List.drop_zero, arr_toList, nar_len, LX.out, ← List.map_take, HT8.out]) Tryd.underlying53 rfl (nar4i x4 LX.out) ?_) | ((with_reducible show Calls _ _ _ _ _); go_at_call 71; refine (HM4.out _).mono ?_; rintro e w8 ⟨rfl, hbw⟩; have HS8 := Lib.hid (HS6.out.below hbw); have HW8 := Lib.hid (HW6.out.trans (hbw.mono HW6.out.size)); clear hbw) | ((with_reducible refine aT 43 ?_); refine wpList_store_part rfl 53 _ _ rfl p 0 _ _ 98 HS8.out.blk rfl rfl (by rw [stC_size n HS8.out.hl HS8.out.rl HS8.out.bl, arr_size, nar_len, LF.out]; omega) (nar4s f4 LF.out) (all_arr _ _) ?_; intro w9 hb9 hk9 hz9; rw [stC_seth n HS8.out.hl f4 LF.out] at hb9; have hs9 : IsSt w9 p f4 r4 b n := ⟨hb9, LF.out, HS8.out.rl, HS8.out.bl⟩; have n9 := hs9.at_n; have f9 := hs9.fr 24; have HS9 := Lib.hid (hs9.set_n 0); have HK9 := Lib.hid (((Kept.of_below (T := fun x => x = p) HW8.out).trans hk9).setCell (p := ⟨p, 24, none⟩) (.inl rfl) (.int .i64 ((0 : Nat) : Int))); clear hb9 hk9 hz9 hs9))
      go_end0
      exact ⟨rfl, HS9.out, HK9.out⟩
end Go.Proofs.YtogebegdgfdijaaDoor.Po
namespace Go.Proofs.YtogebegdgfdijaaDoor.Po
open Go.RowKit Lm
/-- The state at p has taken in the first t bytes of m. -/
structure InM (w : World) (p r : Nat) (m : List Nat) (t h : Nat) (b : List Nat) : Prop where
  st : IsSt w p (dig 18446744073709551616 4 h) (dig 18446744073709551616 4 r) b (t % 16)
  lt : h < 2 ^ 131
  acc : h % (2 ^ 130 - 5) = acc r m (t / 16)
  buf : b.take (t % 16) = (m.drop (16 * (t / 16))).take (t % 16)
  byt : ∀ x ∈ b, x < 256
theorem set_take (b : List Nat) (n x : Nat) (h : n < b.length) : (b.set n x).take (n + 1) = b.take n ++ [x] := by
  rw [take_snoc _ n 0 (by simpa using h), List.take_set_of_le (Nat.le_refl n)]
  simp [List.getD, h]
theorem drop_take (m : List Nat) (k n : Nat) (h : k + n < m.length) : (m.drop k).take (n + 1) = (m.drop k).take n ++ [m.getD (k + n) 0] := by
  rw [take_snoc _ n 0 (by rw [List.length_drop]; omega)]
  simp [List.getD]
theorem buf_step (b m : List Nat) (t x : Nat) (hb : b.length = 16) (ht : t < m.length) (hx : m.getD t 0 = x) (h : b.take (t % 16) = (m.drop (16 * (t / 16))).take (t % 16)) :
    (b.set (t % 16) x).take (t % 16 + 1) = (m.drop (16 * (t / 16))).take (t % 16 + 1) := by
  rw [set_take _ _ _ (by omega), drop_take _ _ _ (by omega), h, show 16 * (t / 16) + t % 16 = t by omega, hx]
theorem take_low (p : Nat) (h r n : Nat) (b : List Nat) (x : Nat) (w : World) (st : IsSt w p (dig 18446744073709551616 4 h) (dig 18446744073709551616 4 r) b n) (hh : h < 2 ^ 131) (hr : r < 2 ^ 124) (hn : n < 16) (hb : ∀ z ∈ b, z < 256) (hx : x < 256) :
    Calls Tryd.prog 69 #[.pointer (some ⟨p, 0, none⟩), .int .u8 x] w fun e w' => e = .returned (.tuple #[]) ∧ (n + 1 < 16 → IsSt w' p (dig 18446744073709551616 4 h) (dig 18446744073709551616 4 r) (b.set n x) (n + 1)) ∧ (n + 1 = 16 → IsSt w' p (dig 18446744073709551616 4 (fold ((h + val 256 ((b.set n x).take 16 ++ [1])) * r))) (dig 18446744073709551616 4 r) (b.set n x) 0) ∧ Kept (fun x => x = p) w w' := by
  have hb2 : ∀ z ∈ b.set n x, z < 256 := lt_set hb n x hx
  have x0 := st.at_n
  have x1 := st.at_b n hn
  have x2 := st.fr (8 + n)
  have x3 := st.fr 24
  have s1 := (st.set_b n hn x).drew
  have k1 : Kept (fun i => i = p) w (w.setCell ⟨p, 8 + n, none⟩ (.int .u8 x)).drew := ((Kept.refl _ w).at _ _).drew
  have hn2 : (n : Int) < 16 := by omega
  by_cases hf : n + 1 = 16
  · have f1 : (n : Int) + 1 = 16 := by omega
    have F1 := Lib.hid f1
    have HF := Lib.hid hf
    have ht := fun w st => turn_any p h r 16 (b.set n x) w st hh hr (Nat.le_refl _) hb2
    generalize fold ((h + val 256 ((b.set n x).take 16 ++ [1])) * r) = h' at ht ⊢
    have HT := Lib.hid ht
    clear f1 hf ht hb2 hb hx st
    generalize dig 18446744073709551616 4 h = h4 at *
    generalize dig 18446744073709551616 4 r = r4 at *
    generalize dig 18446744073709551616 4 h' = h5 at *
    go_enter Tryd.func69, Tryd.ntmps69
    go_wp2_with fail
    go_region
    generalize (w.setCell ⟨p, 8 + n, none⟩ (.int .u8 x)).drew = w1 at s1 k1 ⊢
    have y0 := s1.at_n
    have y1 := s1.fr 24
    have s2 : IsSt (w1.setCell ⟨p, 24, none⟩ (.int .i64 ((n : Int) + 1))) p h4 r4 (b.set n x) (n + 1) := s1.set_n (n + 1)
    have z0 : (w1.setCell ⟨p, 24, none⟩ (.int .i64 ((n : Int) + 1))).cell? ⟨p, 24, none⟩ = some (.int .i64 ((n : Int) + 1)) := s2.at_n
    rw [HF.out] at s2
    have f2 : ((n : Int) + 1 == 16) = true := by rw [F1.out]; rfl
    have S2 := Lib.hid s2
    have K2 := Lib.hid (k1.at 24 (.int .i64 ((n : Int) + 1)))
    clear s1 k1 x0 x1 x2 x3 s2
    go_wp2_with (go_at_call 70; refine (HT.out _ S2.out).mono ?_; rintro e w3 ⟨rfl, s3, k3⟩; have S3 := Lib.hid s3; have K3 := Lib.hid (K2.out.trans k3); clear s3 k3)
    go_end0
    exact ⟨rfl, fun h => by have := HF.out; omega, fun _ => S3.out, K3.out⟩
  · have f2 : (n : Int) + 1 < 16 := by omega
    have HF := Lib.hid hf
    clear hf hb2 hb hx st
    generalize fold ((h + val 256 ((b.set n x).take 16 ++ [1])) * r) = h'
    generalize dig 18446744073709551616 4 h = h4 at *
    generalize dig 18446744073709551616 4 r = r4 at *
    go_enter Tryd.func69, Tryd.ntmps69
    go_wp2_with fail
    go_region
    generalize (w.setCell ⟨p, 8 + n, none⟩ (.int .u8 x)).drew = w1 at s1 k1 ⊢
    have y0 := s1.at_n
    have y1 := s1.fr 24
    have s2 : IsSt (w1.setCell ⟨p, 24, none⟩ (.int .i64 ((n : Int) + 1))) p h4 r4 (b.set n x) (n + 1) := s1.set_n (n + 1)
    have z0 : (w1.setCell ⟨p, 24, none⟩ (.int .i64 ((n : Int) + 1))).cell? ⟨p, 24, none⟩ = some (.int .i64 ((n : Int) + 1)) := s2.at_n
    have S2 := Lib.hid s2
    have K2 := Lib.hid (k1.at 24 (.int .i64 ((n : Int) + 1)))
    have f3 : ((n : Int) + 1 == 16) = false := by rw [beq_eq_false_iff_ne]; omega
    clear s1 k1 x0 x1 x2 x3 s2
    go_wp2_with fail
    go_end0
    exact ⟨rfl, fun _ => S2.out, fun h => absurd h HF.out, K2.out⟩
theorem take_any (p r t h : Nat) (b m : List Nat) (w : World) (st : InM w p r m t h b) (hr : r < 2 ^ 124) (ht : t < m.length) (x : Nat) (hx : m.getD t 0 = x) (hx2 : x < 256) :
    Calls Tryd.prog 69 #[.pointer (some ⟨p, 0, none⟩), .int .u8 x] w fun e w' => e = .returned (.tuple #[]) ∧ (∃ h' b', InM w' p r m (t + 1) h' b') ∧ Kept (fun x => x = p) w w' := by
  refine (take_low p h r (t % 16) b x w st.st st.lt hr (Nat.mod_lt _ (by decide)) st.byt hx2).mono ?_
  rintro e w' ⟨he, h1, h2, hk⟩
  refine ⟨he, ?_, hk⟩
  have hbs := buf_step b m t x st.st.bl ht hx st.buf
  have hby : ∀ z ∈ b.set (t % 16) x, z < 256 := lt_set st.byt _ _ hx2
  by_cases hf : t % 16 + 1 = 16
  · have e1 : (t + 1) % 16 = 0 := by omega
    have e2 : (t + 1) / 16 = t / 16 + 1 := by omega
    rw [hf] at hbs
    have hv : val 256 ((b.set (t % 16) x).take 16 ++ [1]) < 2 ^ 129 := kv_lt _ 16 (by rw [List.length_set]; exact st.st.bl) hby (Nat.le_refl _)
    refine ⟨_, b.set (t % 16) x, ⟨by rw [e1]; exact h2 hf, fold_lt _ (turn_lt _ _ _ st.lt hv hr), ?_, by rw [e1]; simp, hby⟩⟩
    rw [turn_mod _ _ _ _ st.acc, e2, Po.acc, hbs]
  · have e1 : (t + 1) % 16 = t % 16 + 1 := by omega
    have e2 : (t + 1) / 16 = t / 16 := by omega
    exact ⟨h, b.set (t % 16) x, ⟨by rw [e1]; exact h1 (by omega), st.lt, by rw [e2]; exact st.acc, by rw [e1, e2]; exact hbs, hby⟩⟩
end Go.Proofs.YtogebegdgfdijaaDoor.Po
namespace Go.Proofs.YtogebegdgfdijaaDoor.Po
open Go.RowKit Lm
theorem zeroTag (w : World) : (zeroValue 47).run Tryd.prog w = .ok (.agg (arr .u8 (List.replicate 16 0))) w := by kernel_rfl
theorem build_st (r : List Nat) (w : World) (hr : r.length = 4) : (Instr.build 98 #[(1, .agg (arr .u64 (nar r)))]).run Tryd.prog w = .ok (.agg (stC (dig 18446744073709551616 4 0) r (List.replicate 16 0) 0)) w := by
  obtain ⟨a, b, c, d, rfl⟩ := four r hr
  clear hr
  kernel_rfl
theorem tag_len (r : Nat) (m : List Nat) (q : Nat) : acc r m q < 2 ^ 130 - 5 := by
  cases q with
  | zero => show 0 < 2 ^ 130 - 5; decide
  | succ q => exact Nat.mod_lt _ (by decide)
theorem flat_at (L : List (List Int)) (i k : Nat) (hi : i < L.length) (hk : k < (L.getD i []).length) : L.flatten.getD ((L.take i).flatten.length + k) 0 = (L.getD i []).getD k 0 := by
  have hfs := flat_snoc L i hi
  have e2 : L.flatten = (L.take (i + 1)).flatten ++ (L.drop (i + 1)).flatten := by rw [← List.flatten_append, List.take_append_drop]
  generalize L.getD i [] = l at hfs hk ⊢
  rw [e2, hfs]
  simp only [List.getD]
  rw [List.getElem?_append_left (by rw [List.length_append]; omega), List.getElem?_append_right (by omega), Nat.add_sub_cancel_left]
/-- What is left to be done with the sum. -/
theorem fin_step (H a s : Nat) (h1 : H < 2 ^ 131) (ha : H % (2 ^ 130 - 5) = a) (hs : s < 2 ^ 128) (F : Nat) (hF : F = fold (fold (fold H))) :
    F < 2 ^ 130 ∧ (if F < 2 ^ 130 - 5 then F else (F + 18446744073709551616 ^ 4 - (2 ^ 130 - 5)) % 18446744073709551616 ^ 4) = a ∧ a + s < 18446744073709551616 ^ 4 := by
  have f1 : F < 2 ^ 130 := by rw [hF]; exact fold3 H h1
  have f2 : F % (2 ^ 130 - 5) = a := by rw [hF, fold_mod, fold_mod, fold_mod]; exact ha
  refine ⟨f1, ?_, by omega⟩
  split <;> omega
theorem key_high (ks : List Nat) (lk : ks.length = 32) (bk : ∀ x ∈ ks, x < 256) : val 18446744073709551616 [val 256 ks / 18446744073709551616 ^ 2 % 18446744073709551616, val 256 ks / 18446744073709551616 ^ 3 % 18446744073709551616, 0, 0] = val 256 (ks.drop 16) ∧ val 256 (ks.drop 16) < 2 ^ 128 := by
  have h1 := val_div 256 (by decide) 16 ks bk
  have h2 := val_lt 256 (ks.drop 16) (fun x hx => bk x (List.mem_of_mem_drop hx))
  rw [List.length_drop, lk] at h2
  rw [← h1] at h2 ⊢
  rw [val4]
  generalize val 256 ks = v at h2 ⊢
  constructor <;> omega
/-- The last block. -/
theorem last_block (r : Nat) (m b : List Nat) (w : World) (p h : Nat) (im : InM w p r m m.length h b) (hpos : 0 < m.length % 16) :
    acc r m ((m.length + 15) / 16) = (acc r m (m.length / 16) + val 256 (b.take (m.length % 16) ++ [1])) * r % (2 ^ 130 - 5) := by
  rw [show (m.length + 15) / 16 = m.length / 16 + 1 by omega, Po.acc, im.buf]
  congr 5
  rw [List.take_of_length_le (by rw [List.length_drop]; omega), List.take_of_length_le (by rw [List.length_drop]; omega)]
theorem sum_any (sa : Option Addr) (n c : Nat) (L : List (List Int)) (ks m : List Nat) (w : World) (hs : SrcL w sa n L) (hm : nar m = L.flatten) (hmb : ∀ x ∈ m, x < 256) (lk : ks.length = 32) (bk : ∀ x ∈ ks, x < 256) (hN : L.flatten.length ≤ 1152921504606846976) (hn : n ≤ 1099511627776) :
    Calls Tryd.prog 39 #[.agg (arr .u8 (nar ks)), .slice sa n c] w fun e w' => e = .returned (.agg (arr .u8 (nar (tagP ks m)))) ∧ Below w.heap.size w w' := by
  have hLn := hs.len
  obtain ⟨zt, hzt⟩ : ∃ zs : List Nat, zs = List.replicate 16 0 := ⟨_, rfl⟩
  have hyt : ∀ w, (zeroValue 47).run Tryd.prog w = .ok (.agg (arr .u8 (nar zt))) w := by intro w; rw [hzt, nar_zeros]; exact zeroTag w
  have hztl : zt.length = 16 := by rw [hzt]; rfl
  obtain ⟨zs, hzs⟩ : ∃ zs : List Nat, zs = List.replicate 4 0 := ⟨_, rfl⟩
  have hz : ∀ w, (zeroValue 53).run Tryd.prog w = .ok (.agg (arr .u64 (nar zs))) w := by intro w; rw [hzs, nar_zeros]; exact zero4 w
  have hzl : zs.length = 4 := by rw [hzs]; rfl
  obtain ⟨zb, hzb⟩ : ∃ zs : List Nat, zs = List.replicate 32 0 := ⟨_, rfl⟩
  have hyb : ∀ w, (zeroValue 23).run Tryd.prog w = .ok (.agg (arr .u8 (nar zb))) w := by intro w; rw [hzb, nar_zeros]; exact zero32' w
  have hzbl : zb.length = 32 := by rw [hzb]; rfl
  obtain ⟨r, hr⟩ : ∃ r, r = rv ks := ⟨_, rfl⟩
  have hr1 : r < 2 ^ 124 := by rw [hr]; exact rv_lt ks
  have M1 := fun w => clamped_any ks w lk bk
  rw [← hr] at M1
  have MT := fun p t h b w st ht x hx hx2 => take_any p r t h b m w st hr1 ht x hx hx2
  have MU := fun p h n b w st hh hn hb => turn_any p h r n b w st hh hr1 hn hb
  obtain ⟨r4, hr4⟩ : ∃ r4, r4 = dig 18446744073709551616 4 r := ⟨_, rfl⟩
  have r4l : r4.length = 4 := by rw [hr4, dig_len]
  have hbs := fun w => build_st r4 w r4l
  rw [← hr4] at M1
  have S0 := B2.start w (arr .u8 (nar ks)) (arr .u8 (nar zt)) 23 47
  have HS0 := Lib.hid S0
  have HS := Lib.hid hs
  have HM := Lib.hid hm
  have HMB := Lib.hid hmb
  have LK := Lib.hid lk
  have BK := Lib.hid bk
  have HLN := Lib.hid hLn
  have HYT := Lib.hid hyt
  have HZT := Lib.hid hztl
  have HZ := Lib.hid hz
  have HZL := Lib.hid hzl
  have HYB := Lib.hid hyb
  have HZB := Lib.hid hzbl
  have HR := Lib.hid hr
  have HR1 := Lib.hid hr1
  have HM1 := Lib.hid M1
  have HMT := Lib.hid MT
  have HMU := Lib.hid MU
  have HR4 := Lib.hid hr4
  have HR4L := Lib.hid r4l
  have HBS := Lib.hid hbs
  clear S0 hs hm hmb lk bk hLn hyt hztl hz hzl hyb hzbl hr hr1 M1 MT MU hr4 r4l hbs hzt hzs hzb
  go_enter Tryd.func39, Tryd.ntmps39
  go_wp2_with (first | ((with_reducible refine aS 4 ?_); refine wpList_alloc_row rfl 47 rfl _ (HYT.out _) ?_) | ((with_reducible refine aS 15 ?_); refine wpList_load_part rfl 23 _ rfl w.heap.size 0 _ 23 (0, 0) _ HS0.out.b0 rfl .u8 (nar ks) (arr_part _ _) Tryd.underlying23 rfl (nar32i ks LK.out) ?_) | ((with_reducible show Calls _ _ _ _ _); go_at_call 68; refine (HM1.out _).mono ?_; rintro e w1 ⟨rfl, hbw⟩; have HB1 := Lib.hid (HS0.out.after hbw); clear hbw) | ((with_reducible refine aS 17 ?_); refine wpList_build rfl 98 _ rfl #[(1, .agg (arr .u64 (nar r4)))] rfl _ (HBS.out _) ?_))
  have HI0 : Hid (InM (w1.alloc (.cells (stC (dig 18446744073709551616 4 0) r4 (List.replicate 16 0) 0) 98)) w1.heap.size r m 0 0 (List.replicate 16 0)) := Lib.hid ⟨⟨by rw [← HR4.out]; exact blk_new _ _, dig_len _ _ _, dig_len _ _ _, rfl⟩, by decide, rfl, rfl, by simp⟩
  have HB2 := Lib.hid (HB1.out.alloc (.cells (stC (dig 18446744073709551616 4 0) r4 (List.replicate 16 0) 0) 98))
  have hp1 : w.heap.size + 1 < w1.heap.size := blk_lt HB1.out.b1
  obtain ⟨p, hp⟩ : ∃ p, p = w1.heap.size := ⟨_, rfl⟩
  rw [← hp] at HI0 hp1
  go_simp
  rw [← hp]
  clear hp HB1
  go_loopw [21] (fun v wr => ∃ i : Nat, i ≤ n ∧ v = .int .i64 i ∧ (∃ h b, InM wr p r m (L.take i).flatten.length h b) ∧ B2 w wr (arr .u8 (nar ks)) (arr .u8 (nar zt)) 23 47) (fun v _ => n - (intOf v).toNat)
  case atStart => exact ⟨0, Nat.zero_le _, rfl, ⟨0, _, HI0.out⟩, HB2.out⟩
  clear HI0 HB2
  case round =>
    obtain ⟨i, hi, rfl, ⟨h, b, hI⟩, hB⟩ := hrel
    by_cases hlt : i < n
    · obtain ⟨a, si, ci, rfl, hc, hlc, hsi⟩ := HS.out.cell i hlt
      have x1 := below_cell hB.below hc
      have hfl := flat_le L i (by rw [HLN.out]; exact hlt)
      have hfs := flat_snoc L i (by rw [HLN.out]; exact hlt)
      have hmm : ∀ k, k < (L.getD i []).length → m.getD ((L.take i).flatten.length + k) 0 = ((L.getD i []).getD k 0).toNat ∧ (L.getD i []).getD k 0 = (((L.getD i []).getD k 0).toNat : Int) ∧ ((L.getD i []).getD k 0).toNat < 256 := by
        intro k hk
        have e1 := flat_at L i k (by rw [HLN.out]; exact hlt) hk
        rw [← HM.out, nar_get] at e1
        rw [← e1]
        have := lt_getD HMB.out (by decide) ((L.take i).flatten.length + k)
        exact ⟨by simp, by simp, by simpa using this⟩
      have hml : m.length = L.flatten.length := by rw [← HM.out, nar_len]
      obtain ⟨T, hT⟩ : ∃ T, T = (L.take i).flatten.length := ⟨_, rfl⟩
      have hfs2 : (L.take (i + 1)).flatten.length = T + (L.getD i []).length := by rw [hfs, List.length_append, hT]
      rw [← hT] at hI hfl hmm
      rw [← hml] at hfl
      have hN2 : m.length ≤ 1152921504606846976 := by rw [hml]; exact hN
      clear hfs hT hml
      generalize L.getD i [] = l at x1 hfl hfs2 hsi hlc hmm
      obtain ⟨q, hq⟩ : ∃ q, q = l.length := ⟨_, rfl⟩
      rw [← hq] at x1 hfl hsi hlc hfs2 hmm
      have HQ := Lib.hid hq
      have HI := Lib.hid hI
      have HB := Lib.hid hB
      have HSI := Lib.hid hsi
      have HMM := Lib.hid hmm
      have HFS := Lib.hid hfs2
      clear hq hI hB hsi hmm hfs2 hc
      go_wp2_with fail
      generalize Value.bool (decide ((i : Int) < n)) = u22'
      go_loopw [27] (fun v wr => ∃ k : Nat, k ≤ q ∧ v = .int .i64 k ∧ (∃ h b, InM wr p r m (T + k) h b) ∧ B2 w wr (arr .u8 (nar ks)) (arr .u8 (nar zt)) 23 47) (fun v _ => q - (intOf v).toNat)
      case atStart => exact ⟨0, Nat.zero_le _, rfl, ⟨_, _, HI.out⟩, HB.out⟩
      case round =>
        obtain ⟨k, hk, rfl, ⟨h, b, hI⟩, hB⟩ := hrel
        by_cases hlt2 : k < q
        · obtain ⟨ad, rfl, hcc⟩ := HSI.out.cell k hlt2
          have x2 := below_cell hB.below hcc
          obtain ⟨e1, e2, e3⟩ := HMM.out k hlt2
          rw [e2] at x2
          have htm : T + k < m.length := by omega
          have HI2 := Lib.hid hI
          have HB2 := Lib.hid hB
          have HE1 := Lib.hid e1
          clear hI hB hcc e1 e2
          generalize (l.getD k 0).toNat = x at x2 HE1 e3
          go_wp2_with (go_at_call 69; refine (HMT.out _ _ _ _ _ HI2.out htm x HE1.out e3).mono ?_; rintro e w5 ⟨rfl, hi5, k5⟩; have HI5 := Lib.hid hi5; have HB5 := Lib.hid (HB2.out.farK k5 (by rintro i rfl; omega)); clear hi5 k5)
          go_roundw
          case rel => exact ⟨k + 1, by omega, by go_num, HI5.out, HB5.out⟩
          case measure => simp [intOf]; omega
        · have ek : k = q := by omega
          rw [ek] at hI
          have HI3 := Lib.hid hI
          have HB3 := Lib.hid hB
          clear ek hI hB
          go_wp2_with fail
          go_roundw
          case rel => exact ⟨i + 1, by omega, by go_num, ⟨_, _, by rw [HFS.out]; exact HI3.out⟩, HB3.out⟩
          case measure => simp [intOf]; omega
    · have ej : L.take i = L := List.take_of_length_le (by rw [HLN.out]; omega)
      have hml : L.flatten.length = m.length := by rw [← HM.out, nar_len]
      rw [ej, hml] at hI
      obtain ⟨nn, hnn⟩ : ∃ nn, nn = m.length % 16 := ⟨_, rfl⟩
      have n0 := hI.st.at_n
      rw [← hnn] at n0
      obtain ⟨a, ha⟩ : ∃ a, a = acc r m ((m.length + 15) / 16) := ⟨_, rfl⟩
      have HA := Lib.hid ha
      have HNN := Lib.hid hnn
      have HI := Lib.hid hI
      have HB := Lib.hid hB
      have hnl : nn < 16 := by rw [hnn]; exact Nat.mod_lt _ (by decide)
      clear ej hml hI hB ha hnn hN
      go_upto_if 40 with fail
      go_cut [] (fun wx => ∃ H b nx, IsSt wx p (dig 18446744073709551616 4 H) (dig 18446744073709551616 4 r) b nx ∧ H < 2 ^ 131 ∧ H % (2 ^ 130 - 5) = a ∧ B2 w wx (arr .u8 (nar ks)) (arr .u8 (nar zt)) 23 47)
      case first =>
        by_cases h0 : nn = 0
        · have e0 : (nn : Int) = 0 := by rw [h0]; rfl
          rw [e0] at n0 ⊢
          go_wp2_with fail
          go_meet
          refine ⟨h, b, _, HI.out.st, HI.out.lt, ?_, HB.out⟩
          rw [HI.out.acc, HA.out]
          congr 1
          have := HNN.out
          omega
        · have hp0 : 0 < (nn : Int) := by omega
          go_wp2_with (go_at_call 70; refine (HMU.out p h (m.length % 16) b _ HI.out.st HI.out.lt (by omega) HI.out.byt).mono ?_; rintro e w5 ⟨rfl, hi5, k5⟩; have HI5 := Lib.hid hi5; have HB5 := Lib.hid (HB.out.farK k5 (by rintro i rfl; omega)); clear hi5 k5)
          go_meet
          refine ⟨_, b, _, HI5.out, fold_lt _ (turn_lt _ _ _ HI.out.lt (kv_lt _ _ HI.out.st.bl HI.out.byt (by omega)) HR1.out), ?_, HB5.out⟩
          rw [turn_mod _ _ _ _ HI.out.acc, HA.out, last_block r m b _ p h HI.out (by have := HNN.out; omega)]
      case rest =>
        clear n0 hnl HI HB HNN
        obtain ⟨wd, rfl⟩ : ∃ wd : World, wd = wc := ⟨_, rfl⟩
        obtain ⟨H, b2, nx, hst, hH, hHa, hB⟩ := hcut
        obtain ⟨F, hF⟩ : ∃ F, F = fold (fold (fold H)) := ⟨_, rfl⟩
        obtain ⟨k1, k2⟩ := key_high ks LK.out BK.out
        obtain ⟨s, hs2⟩ : ∃ s, s = val 256 (ks.drop 16) := ⟨_, rfl⟩
        rw [← hs2] at k1 k2
        obtain ⟨F1, F2, F3⟩ := fin_step H a s hH hHa k2 F hF
        have P1 := fun w => fold_any (dig 18446744073709551616 4 H) w (dig_len _ _ _) (dig_lt _ (by decide) _ _)
        rw [val_dig, Nat.mod_eq_of_lt (show H < 18446744073709551616 ^ 4 by omega)] at P1
        have hq1 : fold H < 2 ^ 131 := fold_lt H (by omega)
        have P2 := fun w => fold_any (dig 18446744073709551616 4 (fold H)) w (dig_len _ _ _) (dig_lt _ (by decide) _ _)
        rw [val_dig, Nat.mod_eq_of_lt (show fold H < 18446744073709551616 ^ 4 by omega)] at P2
        have hq2 : fold (fold H) < 2 ^ 131 := fold_lt _ (by omega)
        have P3 := fun w => fold_any (dig 18446744073709551616 4 (fold (fold H))) w (dig_len _ _ _) (dig_lt _ (by decide) _ _)
        rw [val_dig, Nat.mod_eq_of_lt (show fold (fold H) < 18446744073709551616 ^ 4 by omega), ← hF] at P3
        have P4 := fun w => lsub_any (dig 18446744073709551616 4 F) (dig 18446744073709551616 4 (2 ^ 130 - 5)) w (dig_len _ _ _) (dig_len _ _ _) (dig_lt _ (by decide) _ _) (dig_lt _ (by decide) _ _)
        rw [val_dig, val_dig, Nat.mod_eq_of_lt (show F < 18446744073709551616 ^ 4 by omega), Nat.mod_eq_of_lt (show 2 ^ 130 - 5 < 18446744073709551616 ^ 4 by omega)] at P4
        have P5 := fun w => of_any ks w LK.out BK.out
        have P6 := fun w => ladd_any (dig 18446744073709551616 4 a) [val 256 ks / 18446744073709551616 ^ 2 % 18446744073709551616, val 256 ks / 18446744073709551616 ^ 3 % 18446744073709551616, 0, 0] w (dig_len _ _ _) rfl (dig_lt _ (by decide) _ _) (by
          intro x hx
          simp only [List.mem_cons, List.not_mem_nil, or_false] at hx
          rcases hx with rfl | rfl | rfl | rfl
          · exact Nat.mod_lt _ (by decide)
          · exact Nat.mod_lt _ (by decide)
          · decide
          · decide)
        have ha4 : a < 18446744073709551616 ^ 4 := by omega
        rw [k1, val_dig, Nat.mod_eq_of_lt ha4, Nat.mod_eq_of_lt F3] at P6
        have P7 := fun w => num_any (dig 18446744073709551616 4 (a + s)) w (dig_len _ _ _) (dig_lt _ (by decide) _ _)
        rw [val_dig, Nat.mod_eq_of_lt F3] at P7
        obtain ⟨g4, hg4⟩ : ∃ x, x = dig 18446744073709551616 4 H := ⟨_, rfl⟩
        obtain ⟨f1, hf1⟩ : ∃ x, x = dig 18446744073709551616 4 (fold H) := ⟨_, rfl⟩
        obtain ⟨f2, hf2⟩ : ∃ x, x = dig 18446744073709551616 4 (fold (fold H)) := ⟨_, rfl⟩
        obtain ⟨f3, hf3⟩ : ∃ x, x = dig 18446744073709551616 4 F := ⟨_, rfl⟩
        obtain ⟨pr, hpr⟩ : ∃ x, x = dig 18446744073709551616 4 (2 ^ 130 - 5) := ⟨_, rfl⟩
        obtain ⟨d4, hd4⟩ : ∃ x, x = dig 18446744073709551616 4 ((F + 18446744073709551616 ^ 4 - (2 ^ 130 - 5)) % 18446744073709551616 ^ 4) := ⟨_, rfl⟩
        obtain ⟨a4, ha4'⟩ : ∃ x, x = dig 18446744073709551616 4 a := ⟨_, rfl⟩
        obtain ⟨n4, hn4⟩ : ∃ x, x = dig 18446744073709551616 4 (val 256 ks) := ⟨_, rfl⟩
        obtain ⟨o4, ho4⟩ : ∃ x, x = dig 18446744073709551616 4 (a + s) := ⟨_, rfl⟩
        obtain ⟨t32, ht32⟩ : ∃ x, x = dig 256 32 (a + s) := ⟨_, rfl⟩
        obtain ⟨bo, hbo⟩ : ∃ x, x = (if F < 2 ^ 130 - 5 then 1 else 0) := ⟨_, rfl⟩
        obtain ⟨tg, htg⟩ : ∃ x, x = tagP ks m := ⟨_, rfl⟩
        have P8 := fun w => prime_any w
        rw [← hg4, ← hf1] at P1
        rw [← hf1, ← hf2] at P2
        rw [← hf2, ← hf3] at P3
        rw [← hf3, ← hpr, ← hd4, ← hbo] at P4
        rw [← hn4] at P5
        rw [← ha4', ← ho4] at P6
        rw [← ho4, ← ht32] at P7
        rw [← hpr] at P8
        rw [← hg4] at hst
        have n2 : (nar n4).getD 2 0 = ((val 256 ks / 18446744073709551616 ^ 2 % 18446744073709551616 : Nat) : Int) := by rw [nar_get, hn4, dig_get _ _ _ _ (by decide)]
        have n3 : (nar n4).getD 3 0 = ((val 256 ks / 18446744073709551616 ^ 3 % 18446744073709551616 : Nat) : Int) := by rw [nar_get, hn4, dig_get _ _ _ _ (by decide)]
        generalize val 256 ks / 18446744073709551616 ^ 2 % 18446744073709551616 = c2 at P6 n2
        generalize val 256 ks / 18446744073709551616 ^ 3 % 18446744073709551616 = c3 at P6 n3
        obtain ⟨hi, hhi⟩ : ∃ x, x = [c2, c3, 0, 0] := ⟨_, rfl⟩
        have HHI : Hid ((#[.int .u64 (c2 : Int), .int .u64 (c3 : Int), .int .u64 0, .int .u64 0] : Array Value) = arr .u64 (nar hi)) := Lib.hid (by rw [hhi]; rfl)
        rw [← hhi] at P6
        have L3 : Hid (f3.length = 4) := Lib.hid (by rw [hf3, dig_len])
        have LD : Hid (d4.length = 4) := Lib.hid (by rw [hd4, dig_len])
        have LA : Hid (a4.length = 4) := Lib.hid (by rw [ha4', dig_len])
        have LN : Hid (n4.length = 4) := Lib.hid (by rw [hn4, dig_len])
        have LO : Hid (o4.length = 4) := Lib.hid (by rw [ho4, dig_len])
        have LT : Hid (t32.length = 32) := Lib.hid (by rw [ht32, dig_len])
        have LG : Hid (tg.length = 16) := Lib.hid (by rw [htg, tagP, dig_len])
        have HT16 : Hid ((nar t32).take 16 = nar tg) := Lib.hid (by rw [ht32, htg, tagP, ← HR.out, ← HA.out, ← hs2, nar, nar, ← List.map_take, dig_take 256 16 16])
        have HCASE : Hid (if F < 2 ^ 130 - 5 then a4 = f3 else a4 = d4) := Lib.hid (by
          split at F2
          · rename_i hc; rw [if_pos hc, ha4', hf3, F2]
          · rename_i hc; rw [if_neg hc, ha4', hd4, F2])
        have HBO := Lib.hid hbo
        have HTG := Lib.hid htg
        have HST := Lib.hid hst
        have HB := Lib.hid hB
        have Q1 := Lib.hid P1
        have Q2 := Lib.hid P2
        have Q3 := Lib.hid P3
        have Q4 := Lib.hid P4
        have Q5 := Lib.hid P5
        have Q6 := Lib.hid P6
        have Q7 := Lib.hid P7
        have Q8 := Lib.hid P8
        have N2 := Lib.hid n2
        have N3 := Lib.hid n3
        clear hF k1 k2 hs2 F1 F2 F3 P1 P2 P3 P4 P5 P6 P7 P8 hq1 hq2 ha4 hg4 hf1 hf2 hf3 hpr hd4 ha4' hn4 ho4 ht32 hbo htg hhi n2 n3 hst hB hH hHa HA
        go_upto_region 14 with (first | ((with_reducible refine aS 46 ?_); refine wpList_load_part rfl 53 _ rfl p 0 _ 98 (0, 0) _ HST.out.blk rfl .u64 (nar g4) (stC_parth nx) Tryd.underlying53 rfl (nar4i g4 HST.out.hl) ?_) | ((with_reducible show Calls _ _ #[.agg (arr .u64 (nar g4))] _ _); go_at_call 71; refine (Q1.out _).mono ?_; rintro e w5 ⟨rfl, hbw⟩; have HC1 := Lib.hid (HB.out.after hbw); clear hbw) | ((with_reducible show Calls _ _ #[.agg (arr .u64 (nar f1))] _ _); go_at_call 71; refine (Q2.out _).mono ?_; rintro e w6 ⟨rfl, hbw⟩; have HC2 := Lib.hid (HC1.out.after hbw); clear hbw) | ((with_reducible show Calls _ _ #[.agg (arr .u64 (nar f2))] _ _); go_at_call 71; refine (Q3.out _).mono ?_; rintro e w7 ⟨rfl, hbw⟩; have HC3 := Lib.hid (HC2.out.after hbw); have hlt7 := blk_lt HC3.out.b1; clear hbw) | ((with_reducible refine aS 10 ?_); refine wpList_alloc_row rfl 53 rfl _ (HZ.out _) ?_; go_simp) | ((with_reducible refine aT 10 ?_); refine wpList_store_whole rfl 53 _ _ rfl w7.heap.size _ _ 53 (blk_new _ _) rfl rfl ((nar4 f3 L3.out).trans (nar4 zs HZL.out).symm) (nar4s f3 L3.out) (all_arr _ _) ?_; intro w9 hb9 hk9 hz9; have HC9 := Lib.hid ((HC3.out.alloc (.cells (arr .u64 (nar zs)) 53)).farK hk9 (by rintro i rfl; omega)); have HG9 := Lib.hid hb9; clear hb9 hk9 hz9))
        obtain ⟨g10, hg10⟩ : ∃ g, g = w7.heap.size := ⟨_, rfl⟩
        rw [← hg10] at HG9 hlt7 ⊢
        clear hg10
        (try simp only [Act.put])
        go_cut [11, 12] (fun u11 u12 wx => ∃ g, u11 = .pointer (some ⟨g, 0, none⟩) ∧ u12 = .int .u64 (bo : Int) ∧ w9.heap.size ≤ g ∧ wx.heap[g]? = some (.cells (arr .u64 (nar d4)) 53 (0, 0)) ∧ Below w9.heap.size w9 wx)
        case first =>
          have HB0 := Lib.hid (show Below w9.heap.size w9 w9.drew from ⟨rfl, rfl, rfl, Nat.le_refl _, fun _ _ => rfl⟩)
          refine wp_region_held_drew (S := (fun w' => Go.RowKit.Below w9.heap.size w9 w')) (by kernel_rfl) (HB0.out) (fun hHeld => ?_)
          refine' wpAnyH_take (i := 0) (oi := (⟨some 51, _, _, _, _, none⟩ : Oper)) (v := _) rfl (by kernel_rfl) (by kernel_rfl) (by kernel_rfl) (fun _ _ _ h => h) (yieldsIf_load_mid (by rfl) _ _ rfl _ _ rfl ((nar f3).map (Value.int .u64)) _ ?hS1 Tryd.underlying53 rfl (by rw [List.length_map]; exact nar4i f3 L3.out)) (by assumption) ?rest1
          case hS1 => (intro w hSw; exact range_part (Below.blk hSw HG9.out (blk_lt HG9.out)) 0 _ (by rw [List.length_map]; exact arr_part _ _))
          (try simp only [Act.put, sA, sZ, sS])
          refine wpAnyH_ready (rs := [1, 6]) (by kernel_rfl) (by simp) ?_
          refine AllReadyH.cons (o := (⟨some 52, _, _, _, _, none⟩ : Oper)) rfl (fun K hK => ?_) ?_
          · go_simp
            go_at_call 72
            refine (Q8.out _).mono ?_
            rintro e w2 ⟨rfl, hb2⟩
            have HB2 := Lib.hid (HB0.out.trans (hb2.mono HB0.out.size))
            clear hb2
            (try dsimp only)
            refine hK.out _ _ (HB2.out) (fun hHeld => ?_)
            clear hK K
            (try simp only [Act.put, sA, sZ, sS])
            refine wpAnyH_ready (rs := [2, 6]) (by kernel_rfl) (by simp) ?_
            refine AllReadyH.cons (o := ({ dst := some 53, op := Op.call { callee := Callee.value (Operand.func 44), args := #[Operand.tmp 51, Operand.tmp 52], argTypes := #[53, 53] }, type := 72, pos := "poly.go:72", after := #[{ on := 0, ground := Ground.data }, { on := 1, ground := Ground.data }, { on := 1, ground := Ground.chain }], guard := none } : Oper)) rfl (fun K hK => ?_) ?_
            · go_simp
              go_at_call 44
              refine (Q4.out _).mono ?_
              rintro e w3 ⟨rfl, hb3⟩
              have HB3 := Lib.hid (HB2.out.trans (hb3.mono HB2.out.size))
              clear hb3
              (try dsimp only)
              refine hK.out _ _ (HB3.out) (fun hHeld => ?_)
              clear hK K
              (try simp only [Act.put, sA, sZ, sS])
              refine wpAnyH_take (i := 3) (oi := ({ dst := some 50, op := Op.move (Operand.tmp 53), type := 72, pos := "poly.go:72", after := #[{ on := 2, ground := Ground.data }], guard := none } : Oper)) (v := ?v4) rfl (by kernel_rfl) (by kernel_rfl) (by kernel_rfl) (fun _ _ _ h => h) (Or.inl ⟨by rfl, ?hy4⟩) (by assumption) ?rest4
              case hy4 => (intro w hSw; (try dsimp only at hSw); go_simp; try (with_reducible rfl))
              (try simp only [Act.put, sA, sZ, sS])
              refine wpAnyH_take (i := 4) (oi := (⟨some 54, _, _, _, _, none⟩ : Oper)) (v := ?v5) rfl (by kernel_rfl) (by kernel_rfl) (by kernel_rfl) (fun _ _ _ h => h) (Or.inl ⟨by rfl, ?hy5⟩) (by assumption) ?rest5
              case hy5 => (intro w hSw; (try dsimp only at hSw); go_simp; try (with_reducible rfl))
              (try simp only [Act.put, sA, sZ, sS])
              refine wpAnyH_take (i := 5) (oi := (⟨some 55, _, _, _, _, none⟩ : Oper)) (v := ?v6) rfl (by kernel_rfl) (by kernel_rfl) (by kernel_rfl) (fun _ _ _ h => h) (Or.inl ⟨by rfl, ?hy6⟩) (by assumption) ?rest6
              case hy6 => (intro w hSw; (try dsimp only at hSw); go_simp; try (with_reducible rfl))
              (try simp only [Act.put, sA, sZ, sS])
              refine wpAnyH_ready (rs := [6]) (by kernel_rfl) (by simp) ?_
              refine AllReadyH.cons (o := (⟨some 11, _, _, _, _, none⟩ : Oper)) rfl (fun K hK => ?_) AllReadyH.nil
              refine step_alloc_row rfl 53 rfl _ (HZ.out _) ?_
              have HB7 := Lib.hid (HB3.out.alloc HB3.out.size (.cells (arr .u64 (nar zs)) 53))
              have HG7_11 := Lib.hid (blk_new (w3) (.cells (arr .u64 (nar zs)) 53))
              refine hK.out _ _ (HB7.out) (fun hHeld => ?_)
              clear hK K
              (try simp only [Act.put, sA, sZ, sS])
              refine wpAnyH_ready (rs := [7]) (by kernel_rfl) (by simp) ?_
              refine AllReadyH.cons (o := (⟨none, _, _, _, _, none⟩ : Oper)) rfl (fun K hK => ?_) AllReadyH.nil
              refine step_store_whole rfl 53 (.tmp 11) (.tmp 54) rfl (w3).heap.size _ _ _ HG7_11.out rfl rfl ((nar4 d4 LD.out).trans (nar4 zs HZL.out).symm) (nar4s d4 LD.out) (all_arr _ _) ?_
              intro w8 hb8 hk8 hz8
              have HB8 := Lib.hid (HB7.out.trans (hk8.toBelow HB7.out.size (by rintro i rfl; exact HB3.out.size)))
              have HG8_11 := Lib.hid hb8
              clear hb8 hk8 hz8
              refine hK.out _ _ (HB8.out) (fun hHeld => ?_)
              clear hK K
              (try simp only [Act.put])
              refine wpAnyH_take (i := 8) (oi := (⟨some 12, _, _, _, _, none⟩ : Oper)) (v := ?v9) rfl (by kernel_rfl) (by kernel_rfl) (by kernel_rfl) (fun _ _ _ h => h) (Or.inl ⟨by rfl, ?hy9⟩) (by assumption) ?rest9
              case hy9 => (intro w hSw; (try dsimp only at hSw); go_simp; try (with_reducible rfl))
              (try simp only [Act.put, sA, sZ, sS])
              refine wpAnyH_done (by kernel_rfl) ?_ _
              go_wp2_with fail
              go_meet
              exact ⟨_, rfl, rfl, HB3.out.size, HG8_11.out, HB8.out⟩
            refine AllReadyH.cons (o := (⟨some 11, _, _, _, _, none⟩ : Oper)) rfl (fun K hK => ?_) ?_
            · refine step_alloc_row rfl 53 rfl _ (HZ.out _) ?_
              have HB10 := Lib.hid (HB2.out.alloc HB2.out.size (.cells (arr .u64 (nar zs)) 53))
              have HG10_11 := Lib.hid (blk_new (w2) (.cells (arr .u64 (nar zs)) 53))
              refine hK.out _ _ (HB10.out) (fun hHeld => ?_)
              clear hK K
              (try simp only [Act.put, sA, sZ, sS])
              refine wpAnyH_ready (rs := [2]) (by kernel_rfl) (by simp) ?_
              refine AllReadyH.cons (o := ({ dst := some 53, op := Op.call { callee := Callee.value (Operand.func 44), args := #[Operand.tmp 51, Operand.tmp 52], argTypes := #[53, 53] }, type := 72, pos := "poly.go:72", after := #[{ on := 0, ground := Ground.data }, { on := 1, ground := Ground.data }, { on := 1, ground := Ground.chain }], guard := none } : Oper)) rfl (fun K hK => ?_) AllReadyH.nil
              go_simp
              go_at_call 44
              refine (Q4.out _).mono ?_
              rintro e w11 ⟨rfl, hb11⟩
              have HB11 := Lib.hid (HB10.out.trans (hb11.mono HB10.out.size))
              have HG11_11 := Lib.hid (Below.blk hb11 HG10_11.out (blk_lt HG10_11.out))
              clear hb11
              (try dsimp only)
              refine hK.out _ _ (HB11.out) (fun hHeld => ?_)
              clear hK K
              (try simp only [Act.put, sA, sZ, sS])
              refine wpAnyH_take (i := 3) (oi := ({ dst := some 50, op := Op.move (Operand.tmp 53), type := 72, pos := "poly.go:72", after := #[{ on := 2, ground := Ground.data }], guard := none } : Oper)) (v := ?v12) rfl (by kernel_rfl) (by kernel_rfl) (by kernel_rfl) (fun _ _ _ h => h) (Or.inl ⟨by rfl, ?hy12⟩) (by assumption) ?rest12
              case hy12 => (intro w hSw; (try dsimp only at hSw); go_simp; try (with_reducible rfl))
              (try simp only [Act.put, sA, sZ, sS])
              refine wpAnyH_take (i := 4) (oi := (⟨some 54, _, _, _, _, none⟩ : Oper)) (v := ?v13) rfl (by kernel_rfl) (by kernel_rfl) (by kernel_rfl) (fun _ _ _ h => h) (Or.inl ⟨by rfl, ?hy13⟩) (by assumption) ?rest13
              case hy13 => (intro w hSw; (try dsimp only at hSw); go_simp; try (with_reducible rfl))
              (try simp only [Act.put, sA, sZ, sS])
              refine wpAnyH_take (i := 5) (oi := (⟨some 55, _, _, _, _, none⟩ : Oper)) (v := ?v14) rfl (by kernel_rfl) (by kernel_rfl) (by kernel_rfl) (fun _ _ _ h => h) (Or.inl ⟨by rfl, ?hy14⟩) (by assumption) ?rest14
              case hy14 => (intro w hSw; (try dsimp only at hSw); go_simp; try (with_reducible rfl))
              (try simp only [Act.put, sA, sZ, sS])
              refine wpAnyH_ready (rs := [7]) (by kernel_rfl) (by simp) ?_
              refine AllReadyH.cons (o := (⟨none, _, _, _, _, none⟩ : Oper)) rfl (fun K hK => ?_) AllReadyH.nil
              refine step_store_whole rfl 53 (.tmp 11) (.tmp 54) rfl (w2).heap.size _ _ _ HG11_11.out rfl rfl ((nar4 d4 LD.out).trans (nar4 zs HZL.out).symm) (nar4s d4 LD.out) (all_arr _ _) ?_
              intro w15 hb15 hk15 hz15
              have HB15 := Lib.hid (HB11.out.trans (hk15.toBelow HB11.out.size (by rintro i rfl; exact HB2.out.size)))
              have HG15_11 := Lib.hid hb15
              clear hb15 hk15 hz15
              refine hK.out _ _ (HB15.out) (fun hHeld => ?_)
              clear hK K
              (try simp only [Act.put])
              refine wpAnyH_take (i := 8) (oi := (⟨some 12, _, _, _, _, none⟩ : Oper)) (v := ?v16) rfl (by kernel_rfl) (by kernel_rfl) (by kernel_rfl) (fun _ _ _ h => h) (Or.inl ⟨by rfl, ?hy16⟩) (by assumption) ?rest16
              case hy16 => (intro w hSw; (try dsimp only at hSw); go_simp; try (with_reducible rfl))
              (try simp only [Act.put, sA, sZ, sS])
              refine wpAnyH_done (by kernel_rfl) ?_ _
              go_wp2_with fail
              go_meet
              exact ⟨_, rfl, rfl, HB2.out.size, HG15_11.out, HB15.out⟩
            exact AllReadyH.nil
          refine AllReadyH.cons (o := (⟨some 11, _, _, _, _, none⟩ : Oper)) rfl (fun K hK => ?_) ?_
          · refine step_alloc_row rfl 53 rfl _ (HZ.out _) ?_
            have HB17 := Lib.hid (HB0.out.alloc HB0.out.size (.cells (arr .u64 (nar zs)) 53))
            have HG17_11 := Lib.hid (blk_new (w9.drew) (.cells (arr .u64 (nar zs)) 53))
            refine hK.out _ _ (HB17.out) (fun hHeld => ?_)
            clear hK K
            (try simp only [Act.put, sA, sZ, sS])
            refine wpAnyH_ready (rs := [1]) (by kernel_rfl) (by simp) ?_
            refine AllReadyH.cons (o := (⟨some 52, _, _, _, _, none⟩ : Oper)) rfl (fun K hK => ?_) AllReadyH.nil
            go_simp
            go_at_call 72
            refine (Q8.out _).mono ?_
            rintro e w18 ⟨rfl, hb18⟩
            have HB18 := Lib.hid (HB17.out.trans (hb18.mono HB17.out.size))
            have HG18_11 := Lib.hid (Below.blk hb18 HG17_11.out (blk_lt HG17_11.out))
            clear hb18
            (try dsimp only)
            refine hK.out _ _ (HB18.out) (fun hHeld => ?_)
            clear hK K
            (try simp only [Act.put, sA, sZ, sS])
            refine wpAnyH_ready (rs := [2]) (by kernel_rfl) (by simp) ?_
            refine AllReadyH.cons (o := ({ dst := some 53, op := Op.call { callee := Callee.value (Operand.func 44), args := #[Operand.tmp 51, Operand.tmp 52], argTypes := #[53, 53] }, type := 72, pos := "poly.go:72", after := #[{ on := 0, ground := Ground.data }, { on := 1, ground := Ground.data }, { on := 1, ground := Ground.chain }], guard := none } : Oper)) rfl (fun K hK => ?_) AllReadyH.nil
            go_simp
            go_at_call 44
            refine (Q4.out _).mono ?_
            rintro e w19 ⟨rfl, hb19⟩
            have HB19 := Lib.hid (HB18.out.trans (hb19.mono HB18.out.size))
            have HG19_11 := Lib.hid (Below.blk hb19 HG18_11.out (blk_lt HG18_11.out))
            clear hb19
            (try dsimp only)
            refine hK.out _ _ (HB19.out) (fun hHeld => ?_)
            clear hK K
            (try simp only [Act.put, sA, sZ, sS])
            refine wpAnyH_take (i := 3) (oi := ({ dst := some 50, op := Op.move (Operand.tmp 53), type := 72, pos := "poly.go:72", after := #[{ on := 2, ground := Ground.data }], guard := none } : Oper)) (v := ?v20) rfl (by kernel_rfl) (by kernel_rfl) (by kernel_rfl) (fun _ _ _ h => h) (Or.inl ⟨by rfl, ?hy20⟩) (by assumption) ?rest20
            case hy20 => (intro w hSw; (try dsimp only at hSw); go_simp; try (with_reducible rfl))
            (try simp only [Act.put, sA, sZ, sS])
            refine wpAnyH_take (i := 4) (oi := (⟨some 54, _, _, _, _, none⟩ : Oper)) (v := ?v21) rfl (by kernel_rfl) (by kernel_rfl) (by kernel_rfl) (fun _ _ _ h => h) (Or.inl ⟨by rfl, ?hy21⟩) (by assumption) ?rest21
            case hy21 => (intro w hSw; (try dsimp only at hSw); go_simp; try (with_reducible rfl))
            (try simp only [Act.put, sA, sZ, sS])
            refine wpAnyH_take (i := 5) (oi := (⟨some 55, _, _, _, _, none⟩ : Oper)) (v := ?v22) rfl (by kernel_rfl) (by kernel_rfl) (by kernel_rfl) (fun _ _ _ h => h) (Or.inl ⟨by rfl, ?hy22⟩) (by assumption) ?rest22
            case hy22 => (intro w hSw; (try dsimp only at hSw); go_simp; try (with_reducible rfl))
            (try simp only [Act.put, sA, sZ, sS])
            refine wpAnyH_ready (rs := [7]) (by kernel_rfl) (by simp) ?_
            refine AllReadyH.cons (o := (⟨none, _, _, _, _, none⟩ : Oper)) rfl (fun K hK => ?_) AllReadyH.nil
            refine step_store_whole rfl 53 (.tmp 11) (.tmp 54) rfl (w9.drew).heap.size _ _ _ HG19_11.out rfl rfl ((nar4 d4 LD.out).trans (nar4 zs HZL.out).symm) (nar4s d4 LD.out) (all_arr _ _) ?_
            intro w23 hb23 hk23 hz23
            have HB23 := Lib.hid (HB19.out.trans (hk23.toBelow HB19.out.size (by rintro i rfl; exact HB0.out.size)))
            have HG23_11 := Lib.hid hb23
            clear hb23 hk23 hz23
            refine hK.out _ _ (HB23.out) (fun hHeld => ?_)
            clear hK K
            (try simp only [Act.put])
            refine wpAnyH_take (i := 8) (oi := (⟨some 12, _, _, _, _, none⟩ : Oper)) (v := ?v24) rfl (by kernel_rfl) (by kernel_rfl) (by kernel_rfl) (fun _ _ _ h => h) (Or.inl ⟨by rfl, ?hy24⟩) (by assumption) ?rest24
            case hy24 => (intro w hSw; (try dsimp only at hSw); go_simp; try (with_reducible rfl))
            (try simp only [Act.put, sA, sZ, sS])
            refine wpAnyH_done (by kernel_rfl) ?_ _
            go_wp2_with fail
            go_meet
            exact ⟨_, rfl, rfl, HB0.out.size, HG23_11.out, HB23.out⟩
          exact AllReadyH.nil
        case rest =>
          obtain ⟨we, rfl⟩ : ∃ we : World, we = wc := ⟨_, rfl⟩
          obtain ⟨g11, rfl, rfl, hg11, hb11, hbw⟩ := hcut
          have HE := Lib.hid (HC9.out.after hbw)
          have hlt9 := blk_lt HG9.out
          have HG10 := Lib.hid (Below.blk hbw HG9.out hlt9)
          have HG11 := Lib.hid hb11
          clear hbw hb11
          go_upto_if 57 with fail
          go_cut [] (fun wx => wx.heap[g10]? = some (.cells (arr .u64 (nar a4)) 53 (0, 0)) ∧ B2 w wx (arr .u8 (nar ks)) (arr .u8 (nar zt)) 23 47)
          case first =>
            by_cases hc : F < 2 ^ 130 - 5
            · have h1 := HBO.out
              have h2 := HCASE.out
              rw [if_pos hc] at h1 h2
              have e1 : ((bo : Int) == 0) = false := by rw [h1]; rfl
              have HA4 := Lib.hid h2
              clear h1 h2 hc
              go_wp2_with fail
              go_meet
              exact ⟨by rw [HA4.out]; exact HG10.out, HE.out⟩
            · have h1 := HBO.out
              have h2 := HCASE.out
              rw [if_neg hc] at h1 h2
              have e1 : ((bo : Int) == 0) = true := by rw [h1]; rfl
              have HA4 := Lib.hid h2
              clear h1 h2 hc
              go_wp2_with (first | ((with_reducible refine aS 58 ?_); refine wpList_load_part rfl 53 _ rfl g11 0 _ 53 (0, 0) _ HG11.out rfl .u64 (nar d4) (arr_part _ _) Tryd.underlying53 rfl (nar4i d4 LD.out) ?_) | ((with_reducible refine aT 10 ?_); refine wpList_store_whole rfl 53 _ _ rfl g10 _ _ 53 HG10.out rfl rfl ((nar4 d4 LD.out).trans (nar4 f3 L3.out).symm) (nar4s d4 LD.out) (all_arr _ _) ?_; intro w8 hb8 hk8 hz8; have HC8 := Lib.hid (HE.out.farK hk8 (by rintro i rfl; omega)); have HG8 := Lib.hid hb8; clear hb8 hk8 hz8))
              go_meet
              exact ⟨by rw [HA4.out]; exact HG8.out, HC8.out⟩
          case rest =>
            obtain ⟨wf, rfl⟩ : ∃ wf : World, wf = wc := ⟨_, rfl⟩
            obtain ⟨hg, hB⟩ := hcut
            have hltg := blk_lt hg
            have HGA := Lib.hid hg
            have HBF := Lib.hid hB
            clear hg hB HE HG10 HG11 HBO HCASE
            have hat : ∀ (g : Nat) (w : World), (Instr.arrayAt 47 (.slice (some ⟨g, 0, none⟩) 16 32)).run Tryd.prog w = .ok (.pointer (some ⟨g, 0, none⟩)) w := fun g w => run_arrayAt (P := Tryd.prog) (w := w) 47 5 16 (some ⟨g, 0, none⟩) 16 32 Tryd.underlying47 (Nat.le_refl _)
            have HAT := Lib.hid hat
            clear hat
            go_wp2_with (first | ((with_reducible refine aS 59 ?_); refine wpList_load_part rfl 23 _ rfl w.heap.size 0 _ 23 (0, 0) _ HBF.out.b0 rfl .u8 (nar ks) (arr_part _ _) Tryd.underlying23 rfl (nar32i ks LK.out) ?_) | ((with_reducible show Calls _ _ #[.agg (arr .u8 _)] _ _); go_at_call 23; refine (Q5.out _).mono ?_; rintro e wg ⟨rfl, hbw⟩; have HC1 := Lib.hid (HBF.out.after hbw); have HG1 := Lib.hid (Below.blk hbw HGA.out (blk_lt HGA.out)); have hl1 := blk_lt HC1.out.b1; have hl2 := blk_lt HG1.out; clear hbw) | ((with_reducible refine aS 13 ?_); refine wpList_alloc_row rfl 53 rfl _ (HZ.out _) ?_; go_simp) | ((with_reducible refine aT 13 ?_); refine wpList_store_whole rfl 53 _ _ rfl wg.heap.size _ _ 53 (blk_new _ _) rfl rfl ((nar4 n4 LN.out).trans (nar4 zs HZL.out).symm) (nar4s n4 LN.out) (all_arr _ _) ?_; intro wh hbh hkh hzh; have HC2 := Lib.hid ((HC1.out.alloc (.cells (arr .u64 (nar zs)) 53)).farK hkh (by rintro i rfl; omega)); have HG2 := Lib.hid (hkh.blk (blk_alloc HG1.out (.cells (arr .u64 (nar zs)) 53)) (by omega)); have y2 := blk_arr' hbh 2 (by rw [nar_len, LN.out]; omega); have y3 := blk_arr' hbh 3 (by rw [nar_len, LN.out]; omega); rw [N2.out] at y2; rw [N3.out] at y3; clear hbh hkh hzh) | ((with_reducible refine aS 62 ?_); refine wpList_load_part rfl 53 _ rfl g10 0 _ 53 (0, 0) _ HG2.out rfl .u64 (nar a4) (arr_part _ _) Tryd.underlying53 rfl (nar4i a4 LA.out) ?_) | ((with_reducible show Calls _ _ #[.agg _, .agg _] _ _); go_at_call 73; rw [HHI.out]; refine (Q6.out _).mono ?_; rintro e wi ⟨rfl, hbw⟩; have HC3 := Lib.hid (HC2.out.after hbw); have HG3 := Lib.hid (Below.blk hbw HG2.out (blk_lt HG2.out)); clear hbw) | ((with_reducible refine aT 10 ?_); refine wpList_store_whole rfl 53 _ _ rfl g10 _ _ 53 HG3.out rfl rfl ((nar4 o4 LO.out).trans (nar4 a4 LA.out).symm) (nar4s o4 LO.out) (all_arr _ _) ?_; intro wj hbj hkj hzj; have HC4 := Lib.hid (HC3.out.farK hkj (by rintro i rfl; omega)); have HG4 := Lib.hid hbj; clear hbj hkj hzj) | ((with_reducible refine aS 71 ?_); refine wpList_load_part rfl 53 _ rfl g10 0 _ 53 (0, 0) _ HG4.out rfl .u64 (nar o4) (arr_part _ _) Tryd.underlying53 rfl (nar4i o4 LO.out) ?_) | ((with_reducible show Calls _ _ #[.agg _] wj _); go_at_call 31; refine (Q7.out _).mono ?_; rintro e wk ⟨rfl, hbw⟩; have HC5 := Lib.hid (HC4.out.after hbw); have hlk := blk_lt HC5.out.b1; have hak := HAT.out wk.heap.size; clear hbw) | ((with_reducible refine aS 14 ?_); refine wpList_alloc_row rfl 23 rfl _ (HYB.out _) ?_; go_simp) | ((with_reducible refine aT 14 ?_); refine wpList_store_whole rfl 23 _ _ rfl wk.heap.size _ _ 23 (blk_new _ _) rfl rfl ((nar32 t32 LT.out).trans (nar32 zb HZB.out).symm) (nar32s t32 LT.out) (all_arr _ _) ?_; intro wl hbl hkl hzl; have HC6 := Lib.hid ((HC5.out.alloc (.cells (arr .u8 (nar zb)) 23)).farK hkl (by rintro i rfl; omega)); have HG6 := Lib.hid hbl; clear hbl hkl hzl) | ((with_reducible refine aS 75 ?_); refine wpList_load_part rfl 47 _ rfl wk.heap.size 0 _ 23 (0, 0) _ HG6.out rfl .u8 (nar tg) (by rw [List.drop_zero, arr_toList, nar_len, LG.out, ← List.map_take, HT16.out]) Tryd.underlying47 rfl (by rw [nar_len, LG.out]; kernel_rfl) ?_) | ((with_reducible refine aT 4 ?_); refine wpList_store_whole rfl 47 _ _ rfl (w.heap.size + 1) _ _ 47 HC6.out.b1 rfl rfl (by rw [arr_size, arr_size, nar_len, nar_len, LG.out, HZT.out]) (by rw [arr_size, nar_len, LG.out]; kernel_rfl) (all_arr _ _) ?_; intro wm hbm hkm hzm; have HC7 := Lib.hid (HC6.out.put1 hkm hbm); clear hbm hkm hzm))
            (try simp only [Exit.inBlock, Exit.then])
            refine bodyPost_ret (results_cell_row rfl _ _ (w.heap.size + 1) 47 _ (0, 0) _ rfl HC7.out.b1 Tryd.underlying47 rfl (by rw [arr_size, nar_len, LG.out]; kernel_rfl)) rfl ?_
            exact ⟨by rw [HTG.out], HC7.out.below⟩
end Go.Proofs.YtogebegdgfdijaaDoor.Po
