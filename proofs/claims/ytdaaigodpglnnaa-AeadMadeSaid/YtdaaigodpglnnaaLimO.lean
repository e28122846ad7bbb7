/- limb.Of: the number of 32 bytes. Condition: 32 bytes. -/
import Derived.Test.YtdaaigodpglnnaaLimA
import Derived.Test.YtdaaigodpglnnaaByt
namespace Go.Proofs.Ytdaaigodpglnnaa.Lm
open Go.RowKit
theorem nar32i (xs : List Nat) (hl : xs.length = 32) : (Try.prog.info? 35).map (·.size) = some (nar xs).length := by rw [nar_len, hl]; kernel_rfl

theorem or_shl (x y s : Nat) (hs : s ≤ 56) (hx : x < 2 ^ s) (hy : y < 256) : bits .or .u64 (x : Int) (IntKind.u64.wrap ((y : Int) * 2 ^ s)) = ((x + y * 2 ^ s : Nat) : Int) := by
  have hp : 2 ^ s ≤ 2 ^ 56 := Nat.pow_le_pow_right (by omega) hs
  have h2 : y * 2 ^ s ≤ 255 * 2 ^ 56 := Nat.mul_le_mul (by omega) hp
  have e1 : IntKind.u64.wrap ((y : Int) * 2 ^ s) = ((y * 2 ^ s : Nat) : Int) := by
    rw [show (y : Int) * 2 ^ s = ((y * 2 ^ s : Nat) : Int) by push_cast; rfl, IntKind.wrap_u64]
    omega
  rw [e1]
  have hx1 : (BitVec.ofInt 64 (x : Int)).toNat = x := by rw [BitVec.ofInt_natCast, BitVec.toNat_ofNat]; exact Nat.mod_eq_of_lt (by omega)
  have hx2 : (BitVec.ofInt 64 ((y * 2 ^ s : Nat) : Int)).toNat = y * 2 ^ s := by rw [BitVec.ofInt_natCast, BitVec.toNat_ofNat]; exact Nat.mod_eq_of_lt (by omega)
  show IntKind.u64.wrap ((BitVec.ofInt 64 (x : Int) ||| BitVec.ofInt 64 ((y * 2 ^ s : Nat) : Int)).toNat : Int) = _
  rw [BitVec.toNat_or, hx1, hx2, Nat.or_comm, Nat.mul_comm y, ← Nat.two_pow_add_eq_or_of_lt hx, IntKind.wrap_u64, Nat.mul_comm _ y]
  omega
theorem pow_split (j : Nat) : 256 ^ j = 18446744073709551616 ^ (j / 8) * 2 ^ (8 * (j % 8)) := by
  rw [show (256 : Nat) = 2 ^ 8 by rfl, show (18446744073709551616 : Nat) = 2 ^ 64 by rfl, ← Nat.pow_mul, ← Nat.pow_mul, ← Nat.pow_add]
  congr 1
  omega
theorem of_step (v j x y : Nat) (os : List Nat) (hj : j < 32) (hos : os = dig 18446744073709551616 4 v) (hv : v < 256 ^ j) (hx : os.getD (j / 8) 0 = x) (hy : y < 256) :
    x < 2 ^ (8 * (j % 8)) ∧ os.set (j / 8) (x + y * 2 ^ (8 * (j % 8))) = dig 18446744073709551616 4 (v + 256 ^ j * y) := by
  have e := pow_split j
  have hs : 8 * (j % 8) ≤ 56 := by omega
  have hol : os.length = 4 := by rw [hos, dig_len]
  have hx2 : x < 2 ^ (8 * (j % 8)) := by
    rw [← hx, hos, dig_get _ _ _ _ (by omega)]
    refine Nat.lt_of_le_of_lt (Nat.mod_le _ _) (Nat.div_lt_of_lt_mul ?_)
    rw [← e]; exact hv
  refine ⟨hx2, ?_⟩
  have hp : 2 ^ (8 * (j % 8)) ≤ 2 ^ 56 := Nat.pow_le_pow_right (by omega) hs
  have h2 : y * 2 ^ (8 * (j % 8)) ≤ 255 * 2 ^ (8 * (j % 8)) := Nat.mul_le_mul (by omega) (Nat.le_refl _)
  refine dig_eq 18446744073709551616 (by decide) 4 _ _ (by simpa using hol) (lt_set (by rw [hos]; exact dig_lt _ (by decide) _ _) _ _ (by omega)) ?_
  have h3 := val_set 18446744073709551616 os (j / 8) (x + y * 2 ^ (8 * (j % 8))) (by omega)
  have h4 : val 18446744073709551616 os = v := by
    rw [hos, val_dig]
    refine Nat.mod_eq_of_lt (Nat.lt_of_lt_of_le hv ?_)
    exact Nat.le_trans (Nat.pow_le_pow_right (by decide) (show j ≤ 32 by omega)) (by decide)
  have h5 : 18446744073709551616 ^ (j / 8) * (y * 2 ^ (8 * (j % 8))) = 256 ^ j * y := by rw [e, Nat.mul_comm y, Nat.mul_assoc]
  rw [hx, h4, Nat.mul_add, h5] at h3
  omega

set_option maxRecDepth 100000 in
set_option maxHeartbeats 1000000 in
theorem of_any (ks : List Nat) (w : World) (lk : ks.length = 32) (bk : ∀ x ∈ ks, x < 256) :
    Calls Try.prog 47 #[.agg (arr .u8 (nar ks))] w fun e w' => e = .returned (.agg (arr .u64 (nar (dig 18446744073709551616 4 (val 256 ks))))) ∧ Below w.heap.size w w' := by
  have S0 := Lib.hid (B3.start w (arr .u8 (nar ks)) (arr .u64 (List.replicate 4 0)) (arr .u64 (List.replicate 4 0)) 35 75 75)
  have LK := Lib.hid lk
  have BK := Lib.hid bk
  clear lk bk
  go_enter Try.func47, Try.ntmps47
  go_wp2_with (first | ((with_reducible show wpList _ _ _ (Oper.mk (some 2) _ _ _ _ _ :: _) _ _); refine wpList_alloc_row rfl 75 rfl _ (zero4 _) ?_) | ((with_reducible show wpList _ _ _ (Oper.mk (some 3) _ _ _ _ _ :: _) _ _); refine wpList_alloc_row rfl 75 rfl _ (zero4 _) ?_) | ((with_reducible show wpList _ _ _ (Oper.mk (some 6) _ _ _ _ _ :: _) _ _); refine wpList_load_part rfl 35 _ rfl (w.heap.size) 0 _ 35 (0, 0) _ S0.out.b0 rfl .u8 (nar ks) (arr_part _ _) Try.underlying35 rfl (nar32i ks LK.out) ?_))
  go_loopw [7] (fun i wr => ∃ (j : Nat) (os : List Nat), j ≤ 32 ∧ i = .int .i64 j ∧ os = dig 18446744073709551616 4 (val 256 (ks.take j)) ∧ B3 w wr (arr .u8 (nar ks)) (arr .u64 (List.replicate 4 0)) (arr .u64 (nar os)) 35 75 75) (fun i _ => 32 - (intOf i).toNat)
  case atStart => exact ⟨0, List.replicate 4 0, Nat.zero_le _, rfl, by rw [List.take_zero]; decide, by rw [nar_zeros]; exact S0.out⟩
  clear S0
  case round =>
  obtain ⟨j, os, hj, rfl, hos, hB⟩ := hrel
  have hol : os.length = 4 := by rw [hos, dig_len]
  by_cases hlt : j < 32
  · have q2 := blk_arr' hB.b2 (j / 8) (by rw [nar_len, hol]; omega)
    have q3 := free_blk hB.b2 (j / 8)
    rw [nar_get] at q2
    have x0 := fun (w : World) => run_index_arr (P := Try.prog) w 35 5 32 .u8 .u8 .i64 Try.underlying35 Try.underlying5 (fun w => by kernel_rfl) (nar ks) (by rw [nar_len]; exact LK.out) j hlt
    rw [nar_get] at x0
    have y1 := lt_getD BK.out (by omega) j
    generalize hy : ks.getD j 0 = y at x0 y1
    have hv : val 256 (ks.take j) < 256 ^ j := by
      have := val_lt 256 (ks.take j) (fun x hx => BK.out x (List.mem_of_mem_take hx))
      rwa [List.length_take, LK.out, Nat.min_eq_left hj] at this
    have x9 : val 256 (ks.take (j + 1)) = val 256 (ks.take j) + 256 ^ j * y := by rw [← hy]; exact val_take_succ 256 ks j (by rw [LK.out]; exact hlt)
    generalize hx : os.getD (j / 8) 0 = x at q2
    obtain ⟨hx1, hst⟩ := of_step _ j x y os hlt hos hv hx y1
    have hor := or_shl x y (8 * (j % 8)) (by omega) hx1 y1
    have hb1 := hB.set2 (j / 8) (.int .u64 (bits .or .u64 (x : Int) (IntKind.u64.wrap ((y : Int) * 2 ^ (8 * (j % 8))))))
    rw [arr_set, hor, ← nar_set, hst, ← x9] at hb1
    rw [← hor] at hb1
    have HB1 := Lib.hid hb1
    clear hB hol hb1 hst hx1 hor hx hv x9 hos hy
    go_wp2_with fail
    go_region
    go_wp2_with fail
    go_roundw
    case rel => exact ⟨j + 1, _, by omega, by go_num, rfl, HB1.out.drew⟩
    case measure => simp [intOf]; omega
  · have e4 : j = 32 := by omega
    rw [e4, List.take_of_length_le (by rw [LK.out]; exact Nat.le_refl _)] at hos
    have HB := Lib.hid hB
    have HOS := Lib.hid hos
    have HOL := Lib.hid hol
    clear hB hos hol e4
    go_wp2_with (first | ((with_reducible show wpList _ _ _ (Oper.mk (some 24) _ _ _ _ _ :: _) _ _); refine wpList_load_part rfl 75 _ rfl (w.heap.size + 1 + 1) 0 _ 75 (0, 0) _ HB.out.b2 rfl .u64 (nar os) (arr_part _ _) Try.underlying75 rfl (nar4i os HOL.out) ?_) | ((with_reducible show wpList _ _ _ (Oper.mk none _ _ _ _ _ :: _) _ _); refine wpList_store_whole rfl 75 _ _ rfl (w.heap.size + 1) _ _ 75 HB.out.b1 rfl rfl (nar4 os HOL.out) (nar4s os HOL.out) (all_arr _ _) ?_; intro w7 hb7 hk7 hz7; have HB7 := Lib.hid (HB.out.put1 hk7 hb7); clear hb7 hk7 hz7))
    (try simp only [Exit.inBlock, Exit.then])
    refine bodyPost_ret (results_cell_row rfl _ _ (w.heap.size + 1) 75 _ (0, 0) _ rfl HB7.out.b1 Try.underlying75 rfl (nar4s os HOL.out)) rfl ?_
    rw [HOS.out]
    exact ⟨rfl, HB7.out.below⟩
end Go.Proofs.Ytdaaigodpglnnaa.Lm
