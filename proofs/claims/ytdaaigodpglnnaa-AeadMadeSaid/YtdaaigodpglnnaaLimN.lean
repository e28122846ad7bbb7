/- limb.N's Num: the bytes of a number. Condition: four limbs. -/
import Derived.Test.YtdaaigodpglnnaaLimO
import Derived.Test.YtdaaigodpglnnaaLimQ
namespace Go.Proofs.Ytdaaigodpglnnaa.Lm
open Go.RowKit
theorem zero32 (w : World) : (zeroValue 35).run Try.prog w = .ok (.agg (arr .u8 (List.replicate 32 0))) w := by kernel_rfl
theorem nar32 (xs : List Nat) (hl : xs.length = 32) : (arr .u8 (nar xs)).size = (arr .u8 (List.replicate 32 0)).size := by rw [arr_size, arr_size, nar_len, hl, List.length_replicate]
theorem nar32s (xs : List Nat) (hl : xs.length = 32) : (Try.prog.info? 35).map (·.size) = some (arr .u8 (nar xs)).size := by rw [arr_size, nar_len, hl]; kernel_rfl

set_option maxRecDepth 100000 in
set_option maxHeartbeats 1000000 in
theorem num_any (xs : List Nat) (w : World) (lx : xs.length = 4) (bx : ∀ x ∈ xs, x < 18446744073709551616) :
    Calls Try.prog 49 #[.agg (arr .u64 (nar xs))] w fun e w' => e = .returned (.agg (arr .u8 (nar (dig 256 32 (val 18446744073709551616 xs))))) ∧ Below w.heap.size w w' := by
  have S0 := Lib.hid (B3.start w (arr .u64 (nar xs)) (arr .u8 (List.replicate 32 0)) (arr .u8 (List.replicate 32 0)) 75 35 35)
  have hxs : xs = dig 18446744073709551616 4 (val 18446744073709551616 xs) := dig_eq _ (by decide) 4 _ _ lx bx rfl
  obtain ⟨v, hv⟩ : ∃ v, v = val 18446744073709551616 xs := ⟨_, rfl⟩
  rw [← hv] at hxs ⊢
  rw [dig_upto 256]
  obtain ⟨F, hF⟩ : ∃ F : Nat → Nat, F = fun i => v / 256 ^ i % 256 := ⟨_, rfl⟩
  rw [← hF]
  have LX := Lib.hid lx
  have HX := Lib.hid hxs
  have HF := Lib.hid hF
  clear lx bx hxs hv hF
  go_enter Try.func49, Try.ntmps49
  go_wp2_with (first | ((with_reducible show wpList _ _ _ (Oper.mk (some 2) _ _ _ _ _ :: _) _ _); refine wpList_alloc_row rfl 35 rfl _ (zero32 _) ?_) | ((with_reducible show wpList _ _ _ (Oper.mk (some 3) _ _ _ _ _ :: _) _ _); refine wpList_alloc_row rfl 35 rfl _ (zero32 _) ?_))
  go_loopw [5] (fun i wr => ∃ (j : Nat), j ≤ 32 ∧ i = .int .i64 j ∧ B3 w wr (arr .u64 (nar xs)) (arr .u8 (List.replicate 32 0)) (arr .u8 (nar (upto F 32 j))) 75 35 35) (fun i _ => 32 - (intOf i).toNat)
  case atStart => exact ⟨0, Nat.zero_le _, rfl, by rw [upto_zero, nar_zeros]; exact S0.out⟩
  clear S0
  case round =>
  obtain ⟨j, hj, rfl, hB⟩ := hrel
  by_cases hlt : j < 32
  · have q0 := blk_arr' hB.b0 (j / 8) (by rw [nar_len, LX.out]; omega)
    have q2 := blk_arr' hB.b2 j (by rw [nar_len, upto_len]; omega)
    have q3 := free_blk hB.b2 j
    rw [nar_get] at q0
    have hxj : xs.getD (j / 8) 0 = v / 18446744073709551616 ^ (j / 8) % 18446744073709551616 := by
      rw [HX.out]; exact dig_get _ _ _ _ (by omega)
    generalize xs.getD (j / 8) 0 = x at q0 hxj
    have hby := byte_limb v j x hxj (pow_split j)
    have hb1 := hB.set2 j (.int .u8 ((F j : Nat) : Int))
    rw [arr_set, ← nar_set, upto_set] at hb1
    have hFj : F j = x / 2 ^ (8 * (j % 8)) % 256 := by rw [HF.out, hby]
    rw [hFj] at hb1
    have HB := Lib.hid hB
    have HB1 := Lib.hid hb1
    have HXJ := Lib.hid hxj
    have HFJ := Lib.hid hFj
    clear hB hb1 hxj hby hFj
    go_wp2_with fail
    go_roundw
    case rel => exact ⟨j + 1, by omega, by go_num, HB1.out⟩
    case measure => simp [intOf]; omega
  · have e4 : j = 32 := by omega
    rw [e4] at hB
    have HB := Lib.hid hB
    have HOL : Hid ((upto F 32 32).length = 32) := Lib.hid (upto_len _ _ _)
    clear hB e4
    obtain ⟨os, hos⟩ : ∃ os, os = upto F 32 32 := ⟨_, rfl⟩
    rw [← hos] at HB HOL
    have HOS := Lib.hid hos
    clear hos
    go_wp2_with (first | ((with_reducible show wpList _ _ _ (Oper.mk (some 20) _ _ _ _ _ :: _) _ _); refine wpList_load_part rfl 35 _ rfl (w.heap.size + 1 + 1) 0 _ 35 (0, 0) _ HB.out.b2 rfl .u8 (nar os) (arr_part _ _) Try.underlying35 rfl (nar32i os HOL.out) ?_) | ((with_reducible show wpList _ _ _ (Oper.mk none _ _ _ _ _ :: _) _ _); refine wpList_store_whole rfl 35 _ _ rfl (w.heap.size + 1) _ _ 35 HB.out.b1 rfl rfl (nar32 os HOL.out) (nar32s os HOL.out) (all_arr _ _) ?_; intro w7 hb7 hk7 hz7; have HB7 := Lib.hid (HB.out.put1 hk7 hb7); clear hb7 hk7 hz7))
    (try simp only [Exit.inBlock, Exit.then])
    refine bodyPost_ret (results_cell_row rfl _ _ (w.heap.size + 1) 35 _ (0, 0) _ rfl HB7.out.b1 Try.underlying35 rfl (nar32s os HOL.out)) rfl ?_
    exact ⟨by rw [HOS.out], HB7.out.below⟩
end Go.Proofs.Ytdaaigodpglnnaa.Lm
