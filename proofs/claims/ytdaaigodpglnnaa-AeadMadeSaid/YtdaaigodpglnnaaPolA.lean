/- poly.prime, poly.fold: what they answer. Condition: four limbs. -/
import Derived.Test.YtdaaigodpglnnaaLimN
import Derived.Test.YtdaaigodpglnnaaLimMul
import Derived.Test.YtdaaigodpglnnaaPolP
namespace Go.Proofs.Ytdaaigodpglnnaa.Po
open Go.RowKit Lm

theorem and3 (x : Nat) (h : x < 18446744073709551616) : bits .and .u64 (x : Int) 3 = ((x % 4 : Nat) : Int) := by
  have e : x &&& 3 = x % 4 := Nat.and_two_pow_sub_one_eq_mod x 2
  have h1 : (BitVec.ofInt 64 (x : Int)).toNat = x := by rw [BitVec.ofInt_natCast, BitVec.toNat_ofNat]; exact Nat.mod_eq_of_lt (by omega)
  have h2 : (BitVec.ofInt 64 (3 : Int)).toNat = 3 := by decide
  show IntKind.u64.wrap ((BitVec.ofInt 64 (x : Int) &&& BitVec.ofInt 64 (3 : Int)).toNat : Int) = _
  rw [BitVec.toNat_and, h1, h2, e, IntKind.wrap_u64]
  omega
theorem or62 (c d : Nat) (hc : c < 18446744073709551616) : bits .or .u64 ((c : Int) / 4) (IntKind.u64.wrap ((d : Int) * 4611686018427387904)) = ((c / 4 + d % 4 * 4611686018427387904 : Nat) : Int) := by
  have hx : c / 4 < 2 ^ 62 := by omega
  have e1 : IntKind.u64.wrap ((d : Int) * 4611686018427387904) = ((d % 4 * 4611686018427387904 : Nat) : Int) := by rw [IntKind.wrap_u64]; omega
  have e2 : (c : Int) / 4 = ((c / 4 : Nat) : Int) := by omega
  rw [e1, e2]
  have hx1 : (BitVec.ofInt 64 ((c / 4 : Nat) : Int)).toNat = c / 4 := by rw [BitVec.ofInt_natCast, BitVec.toNat_ofNat]; exact Nat.mod_eq_of_lt (by omega)
  have hx2 : (BitVec.ofInt 64 ((d % 4 * 4611686018427387904 : Nat) : Int)).toNat = d % 4 * 4611686018427387904 := by rw [BitVec.ofInt_natCast, BitVec.toNat_ofNat]; exact Nat.mod_eq_of_lt (by omega)
  show IntKind.u64.wrap ((BitVec.ofInt 64 ((c / 4 : Nat) : Int) ||| BitVec.ofInt 64 ((d % 4 * 4611686018427387904 : Nat) : Int)).toNat : Int) = _
  have h4 : c / 4 ||| d % 4 * 4611686018427387904 = c / 4 + d % 4 * 4611686018427387904 := by
    have := Nat.two_pow_add_eq_or_of_lt hx (d % 4)
    rw [Nat.or_comm, Nat.mul_comm, show (4611686018427387904 : Nat) = 2 ^ 62 by rfl, ← this, Nat.add_comm]
  rw [BitVec.toNat_or, hx1, hx2, h4, IntKind.wrap_u64]
  omega
theorem four (xs : List Nat) (h : xs.length = 4) : ∃ a b c d, xs = [a, b, c, d] := by
  match xs, h with
  | [a, b, c, d], _ => exact ⟨a, b, c, d, rfl⟩
theorem nar4b (a b c d : Nat) : (#[.int .u64 (a : Int), .int .u64 (b : Int), .int .u64 (c : Int), .int .u64 (d : Int)] : Array Value) = arr .u64 (nar [a, b, c, d]) := rfl

set_option maxRecDepth 100000 in
theorem prime_any (w : World) :
    Calls Try.prog 46 #[] w fun e w' => e = .returned (.agg (arr .u64 (nar (dig 18446744073709551616 4 (2 ^ 130 - 5))))) ∧ Below w.heap.size w w' := by
  have e0 : dig 18446744073709551616 4 (2 ^ 130 - 5) = [18446744073709551611, 18446744073709551615, 3, 0] := by decide
  rw [e0]
  obtain ⟨zs, hzs⟩ : ∃ zs : List Nat, zs = List.replicate 4 0 := ⟨_, rfl⟩
  have hz : ∀ w, (zeroValue 75).run Try.prog w = .ok (.agg (arr .u64 (nar zs))) w := by intro w; rw [hzs, nar_zeros]; exact zero4 w
  have hzl : zs.length = 4 := by rw [hzs]; rfl
  obtain ⟨ps, hps⟩ : ∃ ps : List Nat, ps = [18446744073709551611, 18446744073709551615, 3, 0] := ⟨_, rfl⟩
  have hpl : ps.length = 4 := by rw [hps]; rfl
  have hpn : (#[.int .u64 18446744073709551611, .int .u64 18446744073709551615, .int .u64 3, .int .u64 0] : Array Value) = arr .u64 (nar ps) := by rw [hps]; rfl
  rw [← hps]
  have b0 := blk_new w (.cells (arr .u64 (nar zs)) 75)
  have k0 : Below w.heap.size w (w.alloc (.cells (arr .u64 (nar zs)) 75)) := (Below.refl _ w).alloc (Nat.le_refl _) _
  have B0 := Lib.hid b0
  have K0 := Lib.hid k0
  have HZ := Lib.hid hz
  have HZL := Lib.hid hzl
  have HPL := Lib.hid hpl
  have HPN := Lib.hid hpn
  clear b0 k0 hz hzl hpl hpn hps hzs e0
  go_enter Try.func46, Try.ntmps46
  go_wp2_with (first | ((with_reducible show wpList _ _ _ (Oper.mk (some 0) _ _ _ _ _ :: _) _ _); refine wpList_alloc_row rfl 75 rfl _ (HZ.out _) ?_) | ((with_reducible show wpList _ _ _ (Oper.mk none _ _ _ _ _ :: _) _ _); rw [HPN.out]; refine wpList_store_whole rfl 75 _ _ rfl w.heap.size _ _ 75 B0.out rfl rfl ((nar4 ps HPL.out).trans (nar4 zs HZL.out).symm) (nar4s ps HPL.out) (all_arr _ _) ?_; intro w7 hb7 hk7 hz7; have HB7 := Lib.hid hb7; have HK7 := Lib.hid (K0.out.trans (hk7.toBelow (by simp) (by rintro i rfl; exact Nat.le_refl _))); clear hb7 hk7 hz7))
  (try simp only [Exit.inBlock, Exit.then])
  refine bodyPost_ret (results_cell_row rfl _ _ w.heap.size 75 _ (0, 0) _ rfl HB7.out Try.underlying75 rfl (nar4s ps HPL.out)) rfl ?_
  exact ⟨rfl, HK7.out⟩

set_option maxRecDepth 100000 in
set_option maxHeartbeats 1000000 in
theorem fold_any (xs : List Nat) (w : World) (lx : xs.length = 4) (bx : ∀ x ∈ xs, x < 18446744073709551616) :
    Calls Try.prog 44 #[.agg (arr .u64 (nar xs))] w fun e w' => e = .returned (.agg (arr .u64 (nar (dig 18446744073709551616 4 (fold (val 18446744073709551616 xs)))))) ∧ Below w.heap.size w w' := by
  obtain ⟨a, b, c, d, rfl⟩ := four xs lx
  have ha := bx a (by simp)
  have hb := bx b (by simp)
  have hc := bx c (by simp)
  have hd := bx d (by simp)
  obtain ⟨p, hp⟩ : ∃ p, p = c / 4 + d % 4 * 4611686018427387904 := ⟨_, rfl⟩
  obtain ⟨q, hq⟩ : ∃ q, q = d / 4 := ⟨_, rfl⟩
  obtain ⟨f1, f2, f3⟩ := fold_code a b c d p q ha hb hc hd hp hq
  have hq1 : q < 18446744073709551616 := by omega
  obtain ⟨xs, hxs⟩ : ∃ xs, xs = [a, b, c, d] := ⟨_, rfl⟩
  obtain ⟨V, hV⟩ : ∃ V, V = fold (val 18446744073709551616 [a, b, c, d]) := ⟨_, rfl⟩
  rw [← hV] at f3 ⊢
  rw [← hxs]
  have g0 : (nar xs).getD 0 0 = a := by rw [hxs]; rfl
  have g1 : (nar xs).getD 1 0 = b := by rw [hxs]; rfl
  have g2 : (nar xs).getD 2 0 = c := by rw [hxs]; rfl
  have g3 : (nar xs).getD 3 0 = d := by rw [hxs]; rfl
  have hxl : (nar xs).length = 4 := by rw [hxs]; rfl
  have M1 := fun w => mul64 p 5 f1 (by decide) w
  have M2 := fun w => mul64 q 5 hq1 (by decide) w
  have a1 := add64 (q * 5 % 18446744073709551616) (p * 5 / 18446744073709551616) 0 (by omega)
  have e0 : ((0 : Nat) : Int) = 0 := rfl
  have e5 : ((5 : Nat) : Int) = 5 := rfl
  rw [Nat.add_zero, e0] at a1
  rw [e5] at M1 M2
  generalize p * 5 / 18446744073709551616 = c1 at M1 a1 f2 f3
  have hx1 : p * 5 % 18446744073709551616 < 18446744073709551616 := Nat.mod_lt _ (by decide)
  generalize p * 5 % 18446744073709551616 = x1 at M1 f3 hx1
  generalize q * 5 / 18446744073709551616 = d1 at M2 f2 f3
  generalize q * 5 % 18446744073709551616 = y1 at M2 a1 f2 f3
  have hy2 : (y1 + c1) % 18446744073709551616 < 18446744073709551616 := Nat.mod_lt _ (by decide)
  generalize (y1 + c1) % 18446744073709551616 = y2 at a1 f3 hy2
  generalize (y1 + c1) / 18446744073709551616 = z2 at a1 f2 f3
  have hor := or62 c d hc
  rw [← hp] at hor
  have hand := and3 c hc
  have hq2 : (d : Int) / 4 = (q : Int) := by omega
  have A1 := fun w => ladd_any [a, b, c % 4, 0] [x1, y2, d1 + z2, 0] w rfl rfl (by intro x hx; simp at hx; omega) (by intro x hx; simp at hx; omega)
  rw [f3] at A1
  obtain ⟨zs, hzs⟩ : ∃ zs : List Nat, zs = List.replicate 4 0 := ⟨_, rfl⟩
  have hz : ∀ w, (zeroValue 75).run Try.prog w = .ok (.agg (arr .u64 (nar zs))) w := by intro w; rw [hzs, nar_zeros]; exact zero4 w
  have hzl : zs.length = 4 := by rw [hzs]; rfl
  obtain ⟨ls, hls⟩ : ∃ ls, ls = [a, b, c % 4, 0] := ⟨_, rfl⟩
  obtain ⟨ms, hms⟩ : ∃ ms, ms = [x1, y2, d1 + z2, 0] := ⟨_, rfl⟩
  rw [← hls, ← hms] at A1
  obtain ⟨os, hos⟩ : ∃ os, os = dig 18446744073709551616 4 V := ⟨_, rfl⟩
  rw [← hos] at A1 ⊢
  have HOL : Hid (os.length = 4) := Lib.hid (by rw [hos, dig_len])
  have HLS : Hid ((#[.int .u64 (a : Int), .int .u64 (b : Int), .int .u64 ((c % 4 : Nat) : Int), .int .u64 0] : Array Value) = arr .u64 (nar ls)) := Lib.hid (by rw [hls]; rfl)
  have HMS : Hid ((#[.int .u64 (x1 : Int), .int .u64 (y2 : Int), .int .u64 ((d1 : Int) + (z2 : Int)), .int .u64 0] : Array Value) = arr .u64 (nar ms)) := Lib.hid (by rw [hms]; rfl)
  have HLL : Hid (ls.length = 4) := Lib.hid (by rw [hls]; rfl)
  have S0 := B3.start w (arr .u64 (nar xs)) (arr .u64 (nar zs)) (arr .u64 (nar zs)) 75 75 75
  have S1 := B2.start w (arr .u64 (nar xs)) (arr .u64 (nar zs)) 75 75
  have q0 := blk_arr' S1.b0 0 (by omega)
  have q1 := blk_arr' S1.b0 1 (by omega)
  have q2 := blk_arr' S1.b0 2 (by omega)
  rw [g0] at q0
  rw [g1] at q1
  rw [g2] at q2
  have HS := Lib.hid S0
  have HZ := Lib.hid hz
  have HZL := Lib.hid hzl
  have HM1 := Lib.hid M1
  have HM2 := Lib.hid M2
  have HA1 := Lib.hid A1
  have HOR := Lib.hid hor
  have HAND := Lib.hid hand
  have HQ2 := Lib.hid hq2
  have HXL := Lib.hid hxl
  have G2 := Lib.hid g2
  have G3 := Lib.hid g3
  clear S0 S1 hz hzl M1 M2 A1 hor hand hq2 hxl g0 g1 g2 g3 hls hms hzs hxs hV f3 hp hq hos
  go_enter Try.func44, Try.ntmps44
  go_wp2_with (first | ((with_reducible show wpList _ _ _ (Oper.mk (some 2) _ _ _ _ _ :: _) _ _); refine wpList_alloc_row rfl 75 rfl _ (HZ.out _) ?_) | ((with_reducible show wpList _ _ _ (Oper.mk (some 3) _ _ _ _ _ :: _) _ _); rw [HAND.out, HLS.out]; refine wpList_alloc_row rfl 75 rfl _ (HZ.out _) ?_; go_simp) | ((with_reducible show wpList _ _ _ (Oper.mk none (Op.store _ (Operand.tmp 3) _) _ _ _ _ :: _) _ _); refine wpList_store_whole rfl 75 _ _ rfl (w.heap.size + 1 + 1) _ _ 75 HS.out.b2 rfl rfl ((nar4 ls HLL.out).trans (nar4 zs HZL.out).symm) (nar4s ls HLL.out) (all_arr _ _) ?_; intro w7 hb7 hk7 hz7; have HB7 := Lib.hid (HS.out.put2 hk7 hb7); clear hb7 hk7 hz7; have r2 := blk_arr' HB7.out.b0 2 (by rw [HXL.out]; omega); have r3 := blk_arr' HB7.out.b0 3 (by rw [HXL.out]; omega); rw [G2.out] at r2; rw [G3.out] at r3) | ((with_reducible show Calls _ _ #[.int .u64 (bits _ _ _ _), _] w7 _); go_at_call 66; rw [HOR.out]; refine (HM1.out _).mono ?_; rintro e w8 ⟨rfl, h8⟩; rw [h8]; clear h8 w8) | ((with_reducible show Calls _ _ #[.int .u64 (_ / _), _] w7 _); go_at_call 66; rw [HQ2.out]; refine (HM2.out _).mono ?_; rintro e w8 ⟨rfl, h8⟩; rw [h8]; clear h8 w8) | ((with_reducible show wpList _ _ _ (Oper.mk (some 44) _ _ _ _ _ :: _) _ _); refine wpList_load_part rfl 75 _ rfl (w.heap.size + 1 + 1) 0 _ 75 (0, 0) _ HB7.out.b2 rfl .u64 (nar ls) (arr_part _ _) Try.underlying75 rfl (nar4i ls HLL.out) ?_) | ((with_reducible show Calls _ _ #[.agg _, .agg _] w7 _); go_at_call 48; rw [HMS.out]; refine (HA1.out _).mono ?_; rintro e w8 ⟨rfl, hbw⟩; have HB8 := Lib.hid (HB7.out.after hbw); have hlt8 := blk_lt HB8.out.b2; clear hbw) | ((with_reducible show wpList _ _ _ (Oper.mk (some 9) _ _ _ _ _ :: _) _ _); refine wpList_alloc_row rfl 75 rfl _ (HZ.out _) ?_; go_simp) | ((with_reducible show wpList _ _ _ (Oper.mk none (Op.store _ (Operand.tmp 9) _) _ _ _ _ :: _) _ _); refine wpList_store_whole rfl 75 _ _ rfl w8.heap.size _ _ 75 (blk_new _ _) rfl rfl ((nar4 os HOL.out).trans (nar4 zs HZL.out).symm) (nar4s os HOL.out) (all_arr _ _) ?_; intro w9 hb9 hk9 hz9; have HB9 := Lib.hid ((HB8.out.alloc (.cells (arr .u64 (nar zs)) 75)).farK hk9 (by rintro i rfl; omega)); have HO9 := Lib.hid hb9; clear hb9 hk9 hz9) | ((with_reducible show wpList _ _ _ (Oper.mk (some 54) _ _ _ _ _ :: _) _ _); refine wpList_load_part rfl 75 _ rfl w8.heap.size 0 _ 75 (0, 0) _ HO9.out rfl .u64 (nar os) (arr_part _ _) Try.underlying75 rfl (nar4i os HOL.out) ?_) | ((with_reducible show wpList _ _ _ (Oper.mk none (Op.store _ (Operand.tmp 2) _) _ _ _ _ :: _) _ _); refine wpList_store_whole rfl 75 _ _ rfl (w.heap.size + 1) _ _ 75 HB9.out.b1 rfl rfl ((nar4 os HOL.out).trans (nar4 zs HZL.out).symm) (nar4s os HOL.out) (all_arr _ _) ?_; intro w6 hb6 hk6 hz6; have HB6 := Lib.hid (HB9.out.put1 hk6 hb6); clear hb6 hk6 hz6))
  (try simp only [Exit.inBlock, Exit.then])
  refine bodyPost_ret (results_cell_row rfl _ _ (w.heap.size + 1) 75 _ (0, 0) _ rfl HB6.out.b1 Try.underlying75 rfl (nar4s os HOL.out)) rfl ?_
  exact ⟨rfl, HB6.out.below⟩
end Go.Proofs.Ytdaaigodpglnnaa.Po
