/- scalar.Reduce: what it answers. Condition: 64 bytes. -/
import Derived.Test.YtanjhngehfbpbaaSlC
namespace Go.Proofs.Ytanjhngehfbpbaa.Sl
open Go.RowKit Lm Fp Sc

theorem of_step8 (v j x y : Nat) (os : List Nat) (hj : j < 64) (hos : os = dig 18446744073709551616 8 v) (hv : v < 256 ^ j) (hx : os.getD (j / 8) 0 = x) (hy : y < 256) :
    x < 2 ^ (8 * (j % 8)) ∧ os.set (j / 8) (x + y * 2 ^ (8 * (j % 8))) = dig 18446744073709551616 8 (v + 256 ^ j * y) := by
  have e := pow_split j
  have hs : 8 * (j % 8) ≤ 56 := by omega
  have hol : os.length = 8 := by rw [hos, dig_len]
  have hx2 : x < 2 ^ (8 * (j % 8)) := by
    rw [← hx, hos, dig_get _ _ _ _ (by omega)]
    refine Nat.lt_of_le_of_lt (Nat.mod_le _ _) (Nat.div_lt_of_lt_mul ?_)
    rw [← e]; exact hv
  refine ⟨hx2, ?_⟩
  have hp : 2 ^ (8 * (j % 8)) ≤ 2 ^ 56 := Nat.pow_le_pow_right (by omega) hs
  have h2 : y * 2 ^ (8 * (j % 8)) ≤ 255 * 2 ^ (8 * (j % 8)) := Nat.mul_le_mul (by omega) (Nat.le_refl _)
  refine dig_eq 18446744073709551616 (by decide) 8 _ _ (by simpa using hol) (lt_set (by rw [hos]; exact dig_lt _ (by decide) _ _) _ _ (by omega)) ?_
  have h3 := val_set 18446744073709551616 os (j / 8) (x + y * 2 ^ (8 * (j % 8))) (by omega)
  have h4 : val 18446744073709551616 os = v := by
    rw [hos, val_dig]
    refine Nat.mod_eq_of_lt (Nat.lt_of_lt_of_le hv ?_)
    exact Nat.le_trans (Nat.pow_le_pow_right (by decide) (show j ≤ 64 by omega)) (by decide)
  have h5 : 18446744073709551616 ^ (j / 8) * (y * 2 ^ (8 * (j % 8))) = 256 ^ j * y := by rw [e, Nat.mul_comm y, Nat.mul_assoc]
  rw [hx, h4, Nat.mul_add, h5] at h3
  omega

set_option maxRecDepth 100000 in
set_option maxHeartbeats 4000000 in
theorem sreduce_any (sa : Option Addr) (cp V : Nat) (w : World) (hs : Src w sa 64 (nar (dig 256 64 V))) (hV : V < 256 ^ 64) (hcp : 64 ≤ cp) :
    Calls Try.prog 34 #[.slice sa 64 cp] w fun e w' => ∃ zs, e = .returned (.agg (arr .u8 zs)) ∧ K32 zs (V % q) ∧ Below w.heap.size w w' := by
  obtain ⟨ad, rfl, -⟩ := hs.cell 0 (by decide)
  obtain ⟨ks, hks⟩ : ∃ r, r = dig 256 64 V := ⟨_, rfl⟩
  rw [← hks] at hs
  have KL : Hid (ks.length = 64) := Lib.hid (by rw [hks, dig_len])
  have KB : Hid (∀ x ∈ ks, x < 256) := Lib.hid (by rw [hks]; exact dig_lt _ (by decide) _ _)
  have KV : Hid (val 256 ks = V) := Lib.hid (by rw [hks, val_dig]; exact Nat.mod_eq_of_lt hV)
  have hcell : ∀ i, i < 64 → w.cell? (ad.add i) = some (.int .u8 ((ks.getD i 0 : Nat) : Int)) := fun i hi => by
    obtain ⟨a, h1, h2⟩ := hs.cell i hi
    cases h1
    rw [nar_get] at h2
    exact h2
  have HCELL := Lib.hid hcell
  obtain ⟨zn, hzn⟩ : ∃ zs : List Int, zs = List.replicate 32 0 := ⟨_, rfl⟩
  have HZzn : Hid (∀ w, (zeroValue 23).run Try.prog w = .ok (.agg (arr .u8 zn)) w) := Lib.hid (by intro w; rw [hzn]; exact zero_num w)
  have HLzn : Hid (zn.length = 32) := Lib.hid (by rw [hzn]; rfl)
  obtain ⟨z8, hz8⟩ : ∃ zs : List Int, zs = nar (List.replicate 8 0) := ⟨_, rfl⟩
  have HMK : Hid (∀ w : World, (Instr.makeSlice 73 (.int .i64 8) (.int .i64 8)).run Try.prog w = .ok (.slice (some ⟨w.heap.size, 0, none⟩) 8 8) (w.alloc (.cells (arr .u64 z8) 47))) := Lib.hid (by
    intro w
    rw [hz8]
    kernel_rfl)
  have hmk := HMK.out
  have HZ8 := Lib.hid hz8
  have HS0 := Lib.hid (Blk.two w (arr .u8 zn) (arr .u64 z8) 23 47)
  clear hzn hz8 hs hks hcell hV
  go_enter Try.func34, Try.ntmps34
  go_wp2_with (first | ((with_reducible show wpList _ _ _ (Oper.mk (some 2) _ _ _ _ _ :: _) _ _); refine wpList_alloc_row rfl 23 rfl _ (HZzn.out _) ?_))
  go_loopw [13] (fun i wr => ∃ (j : Nat) (os : List Nat), j ≤ 64 ∧ i = .int .i64 j ∧ os = dig 18446744073709551616 8 (val 256 (ks.take j)) ∧ Blk w wr [(w.heap.size, arr .u8 zn, 23), (w.heap.size + 1, arr .u64 (nar os), 47)]) (fun i _ => 64 - (intOf i).toNat)
  case atStart => exact ⟨0, List.replicate 8 0, Nat.zero_le _, rfl, by rw [List.take_zero]; decide, by rw [← HZ8.out]; exact HS0.out⟩
  clear HS0 hmk
  case round =>
  obtain ⟨j, os, hj, rfl, hos, hB⟩ := hrel
  have hol : os.length = 8 := by rw [hos, dig_len]
  by_cases hlt : j < 64
  · have q2 := arr_get' (hB.get 1 rfl) (j / 8) (by rw [nar_len, hol]; omega)
    have q3 := free_blk (hB.get 1 rfl) (j / 8)
    rw [nar_get] at q2
    have q0 := below_cell hB.below (HCELL.out j hlt)
    have y1 := lt_getD KB.out (by omega) j
    obtain ⟨y, hy⟩ : ∃ y, y = ks.getD j 0 := ⟨_, rfl⟩
    rw [← hy] at q0 y1
    have hv : val 256 (ks.take j) < 256 ^ j := by
      have := val_lt 256 (ks.take j) (fun x hx => KB.out x (List.mem_of_mem_take hx))
      rwa [List.length_take, KL.out, Nat.min_eq_left hj] at this
    have x9 : val 256 (ks.take (j + 1)) = val 256 (ks.take j) + 256 ^ j * y := by rw [hy]; exact val_take_succ 256 ks j (by rw [KL.out]; exact hlt)
    generalize hx : os.getD (j / 8) 0 = x at q2
    obtain ⟨hx1, hst⟩ := of_step8 _ j x y os hlt hos hv hx y1
    have hor := or_shl x y (8 * (j % 8)) (by omega) hx1 y1
    have hb1 := hB.cell 1 rfl (j / 8) (.int .u64 (bits .or .u64 (x : Int) (IntKind.u64.wrap ((y : Int) * 2 ^ (8 * (j % 8))))))
    have e2 : (arr .u64 (nar os)).setIfInBounds (j / 8) (.int .u64 (bits .or .u64 (x : Int) (IntKind.u64.wrap ((y : Int) * 2 ^ (8 * (j % 8)))))) = arr .u64 (nar (dig 18446744073709551616 8 (val 256 (ks.take (j + 1))))) := by rw [arr_set, hor, ← nar_set, hst, ← x9]
    have HB1 := Lib.hid (hb1.cast (l' := [(w.heap.size, arr .u8 zn, 23), (w.heap.size + 1, arr .u64 (nar (dig 18446744073709551616 8 (val 256 (ks.take (j + 1))))), 47)]) (by rw [← e2]; rfl))
    clear hB hol hb1 hst hx1 hor hx hv x9 hos hy e2
    go_wp2_with fail
    go_region
    go_wp2_with fail
    go_roundw
    case rel => exact ⟨j + 1, _, by omega, by go_num, rfl, HB1.out.drew⟩
    case measure => simp [intOf]; omega
  · obtain rfl : j = 64 := by omega
    rw [List.take_of_length_le (by rw [KL.out]; exact Nat.le_refl _), KV.out] at hos
    have HC8 : Hid (∀ i, i < 8 → wr.cell? ⟨w.heap.size + 1, i, none⟩ = some (.int .u64 ((os.getD i 0 : Nat) : Int))) := Lib.hid (fun i hi => by
      have := arr_get' (hB.get 1 rfl) i (by rw [nar_len, hol]; exact hi)
      rw [nar_get] at this
      exact this)
    have OL := Lib.hid hol
    have OB : Hid (∀ x ∈ os, x < 18446744073709551616) := Lib.hid (by rw [hos]; exact dig_lt _ (by decide) _ _)
    have OV : Hid (val 18446744073709551616 os = V) := Lib.hid (by
      rw [hos, val_dig]
      refine Nat.mod_eq_of_lt ?_
      have h1 := val_lt 256 ks KB.out
      rw [KV.out, KL.out] at h1
      exact Nat.lt_of_lt_of_le h1 (by decide))
    have HB1 := Lib.hid hB
    clear hB hol hos
    go_wp2_with (first | ((with_reducible show Calls _ 42 _ _ _); go_at_call 42; refine (red_any (w.heap.size + 1) 8 _ V os _ OL.out (by decide) OB.out OV.out HC8.out).mono ?_; rintro e w5 ⟨z5, rfl, h5, hb5⟩; have HZ5 := Lib.hid h5; have HB5 := Lib.hid (HB1.out.kept hb5); clear h5 hb5) | ((with_reducible show Calls _ 40 _ _ _); go_at_call 40; refine (num4 _ _ HZ5.out).mono ?_; rintro e w6 ⟨z6, rfl, h6, hb6⟩; have HZ6 := Lib.hid h6; have HL6 := Lib.hid h6.len; have HB6 := Lib.hid (HB5.out.kept hb6); clear h6 hb6) | ((with_reducible show wpList _ _ _ (Oper.mk none (Op.store _ (Operand.tmp 2) _) _ _ _ _ :: _) _ _); refine wpList_store_whole rfl 23 _ _ rfl (w.heap.size) _ _ 23 (HB6.out.get 0 rfl) rfl rfl (arr_len2 _ _ HL6.out HLzn.out) (num_s HL6.out) (all_arr _ _) ?_; intro w7 hb7 hk7 hz7; have HB7 := Lib.hid (HB6.out.put 0 rfl hk7 hb7); clear hb7 hk7 hz7))
    (try simp only [Exit.inBlock, Exit.then])
    refine bodyPost_ret (results_cell_row rfl _ _ (w.heap.size) 23 _ (0, 0) _ rfl (HB7.out.get 0 rfl) Try.underlying23 rfl (num_s HL6.out)) rfl ?_
    exact ⟨_, rfl, HZ6.out, HB7.out.below⟩
end Go.Proofs.Ytanjhngehfbpbaa.Sl
