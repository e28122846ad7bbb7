/- limb.N's Add, Sub: what they answer. Condition: four limbs each. -/
import Derived.Test.YtdaaigodpglnnaaBlks
namespace Go.Proofs.Ytdaaigodpglnnaa.Lm
open Go.RowKit
theorem zero4 (w : World) : (zeroValue 75).run Try.prog w = .ok (.agg (arr .u64 (List.replicate 4 0))) w := by kernel_rfl
theorem size4 : (Try.prog.info? 75).map (·.size) = some 4 := by kernel_rfl
theorem sub_bits (x y b : Nat) (hx : x < 18446744073709551616) (hy : y < 18446744073709551616) (hb : b ≤ 1) : (x + 18446744073709551616 - y - b) % 18446744073709551616 + y + b = x + 18446744073709551616 * (if x < y + b then 1 else 0) := by
  split <;> omega
theorem nar4 (xs : List Nat) (hl : xs.length = 4) : (arr .u64 (nar xs)).size = (arr .u64 (List.replicate 4 0)).size := by rw [arr_size, arr_size, nar_len, hl, List.length_replicate]
theorem nar4s (xs : List Nat) (hl : xs.length = 4) : (Try.prog.info? 75).map (·.size) = some (arr .u64 (nar xs)).size := by rw [arr_size, nar_len, hl]; exact size4
theorem nar4i (xs : List Nat) (hl : xs.length = 4) : (Try.prog.info? 75).map (·.size) = some (nar xs).length := by rw [nar_len, hl]; exact size4
theorem take4 (xs : List Nat) (hl : xs.length = 4) : xs.take 4 = xs := List.take_of_length_le (by omega)
theorem add_fin (X Y S c : Nat) (h : S + 18446744073709551616 ^ 4 * c = X + Y) (hS : S < 18446744073709551616 ^ 4) : S = (X + Y) % 18446744073709551616 ^ 4 ∧ c = (X + Y) / 18446744073709551616 ^ 4 := by
  rw [← h, Nat.add_mul_mod_self_left, Nat.mod_eq_of_lt hS, Nat.add_mul_div_left _ _ (by decide), Nat.div_eq_of_lt hS, Nat.zero_add]
  exact ⟨rfl, rfl⟩
theorem sub_fin (X Y S c : Nat) (h : S + Y = X + 18446744073709551616 ^ 4 * c) (hS : S < 18446744073709551616 ^ 4) (hY : Y < 18446744073709551616 ^ 4) (hc : c ≤ 1) : S = (X + 18446744073709551616 ^ 4 - Y) % 18446744073709551616 ^ 4 ∧ c = (if X < Y then 1 else 0) := by
  have : c = 0 ∨ c = 1 := by omega
  generalize 18446744073709551616 ^ 4 = P at h hS hY ⊢
  rcases this with rfl | rfl
  · rw [if_neg (by omega)]
    rw [show X + P - Y = S + P by omega, Nat.add_mod_right, Nat.mod_eq_of_lt hS]
    exact ⟨rfl, rfl⟩
  · rw [if_pos (by omega), show X + P - Y = S by omega, Nat.mod_eq_of_lt hS]
    exact ⟨rfl, rfl⟩

set_option maxRecDepth 100000 in
set_option maxHeartbeats 1000000 in
theorem ladd_any (xs ys : List Nat) (w : World) (lx : xs.length = 4) (ly : ys.length = 4) (bx : ∀ x ∈ xs, x < 18446744073709551616) (bby : ∀ x ∈ ys, x < 18446744073709551616) :
    Calls Try.prog 48 #[.agg (arr .u64 (nar xs)), .agg (arr .u64 (nar ys))] w fun e w' => e = .returned (.tuple #[.agg (arr .u64 (nar (dig 18446744073709551616 4 ((val 18446744073709551616 xs + val 18446744073709551616 ys) % 18446744073709551616 ^ 4)))), .int .u64 (((val 18446744073709551616 xs + val 18446744073709551616 ys) / 18446744073709551616 ^ 4 : Nat) : Int)]) ∧ Below w.heap.size w w' := by
  have S0 := Lib.hid (B4.start w (arr .u64 (nar xs)) (arr .u64 (nar ys)) (arr .u64 (List.replicate 4 0)) (arr .u64 (List.replicate 4 0)) 75 75 75 75)
  obtain ⟨av, hav⟩ : ∃ av, av = (val 18446744073709551616 xs + val 18446744073709551616 ys) / 18446744073709551616 ^ 4 := ⟨_, rfl⟩
  rw [← hav]
  have HAV := Lib.hid hav
  have LX := Lib.hid lx
  have LY := Lib.hid ly
  have BX := Lib.hid bx
  have BY := Lib.hid bby
  clear lx ly bx bby hav
  go_enter Try.func48, Try.ntmps48
  go_wp2_with (first | ((with_reducible show wpList _ _ _ (Oper.mk (some 4) _ _ _ _ _ :: _) _ _); refine wpList_alloc_row rfl 75 rfl _ (zero4 _) ?_) | ((with_reducible show wpList _ _ _ (Oper.mk (some 6) _ _ _ _ _ :: _) _ _); refine wpList_alloc_row rfl 75 rfl _ (zero4 _) ?_))
  go_loopw [7, 9] (fun c i wr => ∃ (j cc : Nat) (os : List Nat), j ≤ 4 ∧ i = .int .i64 j ∧ c = .int .u64 cc ∧ cc ≤ 1 ∧ os.length = 4 ∧ (∀ x ∈ os, x < 18446744073709551616) ∧ val 18446744073709551616 (os.take j) + 18446744073709551616 ^ j * cc = val 18446744073709551616 (xs.take j) + val 18446744073709551616 (ys.take j) ∧ B4 w wr (arr .u64 (nar xs)) (arr .u64 (nar ys)) (arr .u64 (List.replicate 4 0)) (arr .u64 (nar os)) 75 75 75 75) (fun _ i _ => 4 - (intOf i).toNat)
  case atStart => exact ⟨0, 0, List.replicate 4 0, Nat.zero_le _, rfl, rfl, by omega, by simp, by simp, by simp [val], by rw [nar_zeros]; exact S0.out⟩
  clear S0
  case round =>
  obtain ⟨j, cc, os, hj, rfl, rfl, hcc, hol, hob, hv, hB⟩ := hrel
  by_cases hlt : j < 4
  · have q0 := blk_arr' hB.b0 j (by rw [nar_len, LX.out]; exact hlt)
    have q1 := blk_arr' hB.b1 j (by rw [nar_len, LY.out]; exact hlt)
    have q2 := blk_arr' hB.b3 j (by rw [nar_len, hol]; exact hlt)
    have q3 := free_blk hB.b3 j
    rw [nar_get] at q0 q1
    have x1 := lt_getD BX.out (by omega) j
    have y1 := lt_getD BY.out (by omega) j
    generalize hx : xs.getD j 0 = x at q0 x1
    generalize hy : ys.getD j 0 = y at q1 y1
    have hb1 := hB.set3 j (.int .u64 (((x + y + cc) % 18446744073709551616 : Nat) : Int))
    rw [arr_set, ← nar_set] at hb1
    have HB1 := Lib.hid hb1
    have HREL : Hid (val 18446744073709551616 ((os.set j ((x + y + cc) % 18446744073709551616)).take (j + 1)) + 18446744073709551616 ^ (j + 1) * ((x + y + cc) / 18446744073709551616) = val 18446744073709551616 (xs.take (j + 1)) + val 18446744073709551616 (ys.take (j + 1))) := Lib.hid (by
      rw [val_take_set _ _ _ _ (by omega), val_take_succ _ xs _ (by rw [LX.out]; exact hlt), val_take_succ _ ys _ (by rw [LY.out]; exact hlt), hx, hy]
      exact add_step 18446744073709551616 j _ _ _ x y cc _ _ hv (by omega))
    have HO1 : Hid ((os.set j ((x + y + cc) % 18446744073709551616)).length = 4) := Lib.hid (by simpa using hol)
    have HO2 : Hid (∀ z ∈ os.set j ((x + y + cc) % 18446744073709551616), z < 18446744073709551616) := Lib.hid (by exact lt_set hob j _ (Nat.mod_lt _ (by omega)))
    have HC : Hid ((x + y + cc) / 18446744073709551616 ≤ 1) := Lib.hid (by omega)
    have hadd := add64 x y cc hcc
    clear hb1 hB hol hob hv hx hy x1 y1 hcc
    go_wp2_with fail
    go_region
    clear hadd q0 q1 q2 q3
    go_wp2_with fail
    go_roundw
    case rel => exact ⟨j + 1, _, _, by omega, by go_num, rfl, HC.out, HO1.out, HO2.out, HREL.out, HB1.out.drew⟩
    case measure => simp [intOf]; omega
  · have e4 : j = 4 := by omega
    rw [e4, take4 os hol, take4 xs LX.out, take4 ys LY.out] at hv
    obtain ⟨f1, f2⟩ := add_fin _ _ _ _ hv (by have := val_lt 18446744073709551616 os hob; rwa [hol] at this)
    have HD := Lib.hid ((dig_eq 18446744073709551616 (by omega) 4 _ os hol hob f1).symm)
    have HF2 := Lib.hid f2
    have HB := Lib.hid hB
    have HOL := Lib.hid hol
    clear hB hv hol hob f1 f2 e4 hcc
    go_wp2_with (first | ((with_reducible show wpList _ _ _ (Oper.mk (some 26) _ _ _ _ _ :: _) _ _); refine wpList_load_part rfl 75 _ rfl (w.heap.size + 1 + 1 + 1) 0 _ 75 (0, 0) _ HB.out.b3 rfl .u64 (nar os) (arr_part _ _) Try.underlying75 rfl (nar4i os HOL.out) ?_) | ((with_reducible show wpList _ _ _ (Oper.mk none _ _ _ _ _ :: _) _ _); refine wpList_store_whole rfl 75 _ _ rfl (w.heap.size + 1 + 1) _ _ 75 HB.out.b2 rfl rfl (nar4 os HOL.out) (nar4s os HOL.out) (all_arr _ _) ?_; intro w7 hb7 hk7 hz7; have HB7 := Lib.hid (HB.out.put2 hk7 hb7); clear hb7 hk7 hz7))
    (try simp only [Exit.inBlock, Exit.then])
    refine bodyPost_ret (results_cell_tmp_row rfl _ _ (w.heap.size + 1 + 1) 75 _ (0, 0) _ _ rfl HB7.out.b2 Try.underlying75 rfl (nar4s os HOL.out) rfl) rfl ?_
    rw [HD.out, HAV.out, ← HF2.out]
    exact ⟨rfl, HB7.out.below⟩

set_option maxRecDepth 100000 in
set_option maxHeartbeats 1000000 in
theorem lsub_any (xs ys : List Nat) (w : World) (lx : xs.length = 4) (ly : ys.length = 4) (bx : ∀ x ∈ xs, x < 18446744073709551616) (bby : ∀ x ∈ ys, x < 18446744073709551616) :
    Calls Try.prog 45 #[.agg (arr .u64 (nar xs)), .agg (arr .u64 (nar ys))] w fun e w' => e = .returned (.tuple #[.agg (arr .u64 (nar (dig 18446744073709551616 4 ((val 18446744073709551616 xs + 18446744073709551616 ^ 4 - val 18446744073709551616 ys) % 18446744073709551616 ^ 4)))), .int .u64 (((if val 18446744073709551616 xs < val 18446744073709551616 ys then 1 else 0) : Nat) : Int)]) ∧ Below w.heap.size w w' := by
  have S0 := Lib.hid (B4.start w (arr .u64 (nar xs)) (arr .u64 (nar ys)) (arr .u64 (List.replicate 4 0)) (arr .u64 (List.replicate 4 0)) 75 75 75 75)
  obtain ⟨av, hav⟩ : ∃ av, av = (if val 18446744073709551616 xs < val 18446744073709551616 ys then 1 else 0) := ⟨_, rfl⟩
  rw [← hav]
  have HAV := Lib.hid hav
  have LX := Lib.hid lx
  have LY := Lib.hid ly
  have BX := Lib.hid bx
  have BY := Lib.hid bby
  clear lx ly bx bby hav
  go_enter Try.func45, Try.ntmps45
  go_wp2_with (first | ((with_reducible show wpList _ _ _ (Oper.mk (some 4) _ _ _ _ _ :: _) _ _); refine wpList_alloc_row rfl 75 rfl _ (zero4 _) ?_) | ((with_reducible show wpList _ _ _ (Oper.mk (some 6) _ _ _ _ _ :: _) _ _); refine wpList_alloc_row rfl 75 rfl _ (zero4 _) ?_))
  go_loopw [7, 9] (fun c i wr => ∃ (j cc : Nat) (os : List Nat), j ≤ 4 ∧ i = .int .i64 j ∧ c = .int .u64 cc ∧ cc ≤ 1 ∧ os.length = 4 ∧ (∀ x ∈ os, x < 18446744073709551616) ∧ val 18446744073709551616 (os.take j) + val 18446744073709551616 (ys.take j) = val 18446744073709551616 (xs.take j) + 18446744073709551616 ^ j * cc ∧ B4 w wr (arr .u64 (nar xs)) (arr .u64 (nar ys)) (arr .u64 (List.replicate 4 0)) (arr .u64 (nar os)) 75 75 75 75) (fun _ i _ => 4 - (intOf i).toNat)
  case atStart => exact ⟨0, 0, List.replicate 4 0, Nat.zero_le _, rfl, rfl, by omega, by simp, by simp, by simp [val], by rw [nar_zeros]; exact S0.out⟩
  clear S0
  case round =>
  obtain ⟨j, cc, os, hj, rfl, rfl, hcc, hol, hob, hv, hB⟩ := hrel
  by_cases hlt : j < 4
  · have q0 := blk_arr' hB.b0 j (by rw [nar_len, LX.out]; exact hlt)
    have q1 := blk_arr' hB.b1 j (by rw [nar_len, LY.out]; exact hlt)
    have q2 := blk_arr' hB.b3 j (by rw [nar_len, hol]; exact hlt)
    have q3 := free_blk hB.b3 j
    rw [nar_get] at q0 q1
    have x1 := lt_getD BX.out (by omega) j
    have y1 := lt_getD BY.out (by omega) j
    generalize hx : xs.getD j 0 = x at q0 x1
    generalize hy : ys.getD j 0 = y at q1 y1
    have hb1 := hB.set3 j (.int .u64 (((x + 18446744073709551616 - y - cc) % 18446744073709551616 : Nat) : Int))
    rw [arr_set, ← nar_set] at hb1
    have HB1 := Lib.hid hb1
    have HREL : Hid (val 18446744073709551616 ((os.set j ((x + 18446744073709551616 - y - cc) % 18446744073709551616)).take (j + 1)) + val 18446744073709551616 (ys.take (j + 1)) = val 18446744073709551616 (xs.take (j + 1)) + 18446744073709551616 ^ (j + 1) * ((if x < y + cc then 1 else 0))) := Lib.hid (by
      rw [val_take_set _ _ _ _ (by omega), val_take_succ _ xs _ (by rw [LX.out]; exact hlt), val_take_succ _ ys _ (by rw [LY.out]; exact hlt), hx, hy]
      exact sub_step 18446744073709551616 j _ _ _ x y cc _ _ hv (sub_bits x y cc x1 y1 hcc))
    have HO1 : Hid ((os.set j ((x + 18446744073709551616 - y - cc) % 18446744073709551616)).length = 4) := Lib.hid (by simpa using hol)
    have HO2 : Hid (∀ z ∈ os.set j ((x + 18446744073709551616 - y - cc) % 18446744073709551616), z < 18446744073709551616) := Lib.hid (by exact lt_set hob j _ (Nat.mod_lt _ (by omega)))
    have HC : Hid ((if x < y + cc then 1 else 0) ≤ 1) := Lib.hid (by split <;> omega)
    have hadd := sub64 x y cc hcc
    clear hb1 hB hol hob hv hx hy x1 y1 hcc
    go_wp2_with fail
    go_region
    clear hadd q0 q1 q2 q3
    go_wp2_with fail
    go_roundw
    case rel => exact ⟨j + 1, _, _, by omega, by go_num, rfl, HC.out, HO1.out, HO2.out, HREL.out, HB1.out.drew⟩
    case measure => simp [intOf]; omega
  · have e4 : j = 4 := by omega
    rw [e4, take4 os hol, take4 xs LX.out, take4 ys LY.out] at hv
    obtain ⟨f1, f2⟩ := sub_fin _ _ _ _ hv (by have := val_lt 18446744073709551616 os hob; rwa [hol] at this) (by have := val_lt 18446744073709551616 ys BY.out; rwa [LY.out] at this) hcc
    have HD := Lib.hid ((dig_eq 18446744073709551616 (by omega) 4 _ os hol hob f1).symm)
    have HF2 := Lib.hid f2
    have HB := Lib.hid hB
    have HOL := Lib.hid hol
    clear hB hv hol hob f1 f2 e4 hcc
    go_wp2_with (first | ((with_reducible show wpList _ _ _ (Oper.mk (some 26) _ _ _ _ _ :: _) _ _); refine wpList_load_part rfl 75 _ rfl (w.heap.size + 1 + 1 + 1) 0 _ 75 (0, 0) _ HB.out.b3 rfl .u64 (nar os) (arr_part _ _) Try.underlying75 rfl (nar4i os HOL.out) ?_) | ((with_reducible show wpList _ _ _ (Oper.mk none _ _ _ _ _ :: _) _ _); refine wpList_store_whole rfl 75 _ _ rfl (w.heap.size + 1 + 1) _ _ 75 HB.out.b2 rfl rfl (nar4 os HOL.out) (nar4s os HOL.out) (all_arr _ _) ?_; intro w7 hb7 hk7 hz7; have HB7 := Lib.hid (HB.out.put2 hk7 hb7); clear hb7 hk7 hz7))
    (try simp only [Exit.inBlock, Exit.then])
    refine bodyPost_ret (results_cell_tmp_row rfl _ _ (w.heap.size + 1 + 1) 75 _ (0, 0) _ _ rfl HB7.out.b2 Try.underlying75 rfl (nar4s os HOL.out) rfl) rfl ?_
    rw [HD.out, HAV.out, ← HF2.out]
    exact ⟨rfl, HB7.out.below⟩

end Go.Proofs.Ytdaaigodpglnnaa.Lm
