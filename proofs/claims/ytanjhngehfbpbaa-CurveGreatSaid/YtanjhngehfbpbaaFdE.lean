/- limb.Bit, Less and field.Power, Inverse: what they answer. Condition: numbers below 2^256. -/
import Derived.Test.YtanjhngehfbpbaaFdD
namespace Go.Proofs.Ytanjhngehfbpbaa.Fp
open Go.RowKit Lm

theorem and1w (y : Nat) (h : y < 18446744073709551616) : bits .and .u64 (y : Int) 1 = ((y % 2 : Nat) : Int) := by
  have e : y &&& 1 = y % 2 := Nat.and_two_pow_sub_one_eq_mod y 1
  have h1 : (BitVec.ofInt 64 (y : Int)).toNat = y := by rw [BitVec.ofInt_natCast, BitVec.toNat_ofNat]; exact Nat.mod_eq_of_lt (by omega)
  have h2 : (BitVec.ofInt 64 (1 : Int)).toNat = 1 := by decide
  show IntKind.u64.wrap ((BitVec.ofInt 64 (y : Int) &&& BitVec.ofInt 64 (1 : Int)).toNat : Int) = _
  rw [BitVec.toNat_and, h1, h2, e, IntKind.wrap_u64]
  omega
theorem limb_bit (es : List Int) (v k : Nat) (he : es = nar (dig 18446744073709551616 4 v)) (hk : k < 256) : ∃ y : Nat, es.getD (k / 64) 0 = y ∧ y < 18446744073709551616 ∧ bits .and .u64 ((y : Int) / 2 ^ (k % 64)) 1 = ((v / 2 ^ k % 2 : Nat) : Int) := by
  refine ⟨v / 18446744073709551616 ^ (k / 64) % 18446744073709551616, by rw [he, nar_get, dig_get _ _ _ _ (by omega)], Nat.mod_lt _ (by decide), ?_⟩
  have e1 : ((v / 18446744073709551616 ^ (k / 64) % 18446744073709551616 : Nat) : Int) / 2 ^ (k % 64) = ((v / 18446744073709551616 ^ (k / 64) % 18446744073709551616 / 2 ^ (k % 64) : Nat) : Int) := by
    rw [Int.natCast_ediv, Int.natCast_pow]; rfl
  rw [e1, and1w _ (Nat.lt_of_le_of_lt (Nat.div_le_self _ _) (Nat.mod_lt _ (by decide))), bit_limb]

set_option maxRecDepth 100000 in
set_option maxHeartbeats 2000000 in
theorem bit_any {xs : List Int} (a k b : Nat) (w : World) (hx : N4 xs a) (hk : k < 256) (hb : a / 2 ^ k % 2 = b) : Calls Try.prog 38 #[.agg (arr .u64 xs), .int .i64 k] w fun e w' => e = .returned (.int .u64 (b : Int)) ∧ Below w.heap.size w w' := by
  obtain ⟨y, hy, hy2, hbit⟩ := limb_bit xs a k hx.1 hk
  rw [hb] at hbit
  have hl := hx.len
  have HS0 := Blk.one w (arr .u64 xs) 49
  have q0 := arr_get' (HS0.get 0 rfl) (k / 64) (by rw [hl]; omega)
  rw [hy] at q0
  have HB0 := Lib.hid HS0
  clear hb hx hy HS0 hl
  go_enter Try.func38, Try.ntmps38
  go_wp2_with fail
  (try simp only [Exit.then])
  go_ret
  exact ⟨rfl, HB0.out.below⟩

set_option maxRecDepth 100000 in
set_option maxHeartbeats 2000000 in
theorem nless_any {xs ys : List Int} (a b : Nat) (w : World) (hx : N4 xs a) (hy : N4 ys b) : Calls Try.prog 49 #[.agg (arr .u64 xs), .agg (arr .u64 ys)] w fun e w' => e = .returned (.bool (decide (a < b))) ∧ Below w.heap.size w w' := by
  have HX := Lib.hid hx
  have HY := Lib.hid hy
  have HXL := Lib.hid hx.len
  have HYL := Lib.hid hy.len
  obtain ⟨zl, hzl⟩ : ∃ zs : List Int, zs = List.replicate 4 0 := ⟨_, rfl⟩
  have HZzl : Hid (∀ w, (zeroValue 49).run Try.prog w = .ok (.agg (arr .u64 zl)) w) := Lib.hid (by intro w; rw [hzl]; exact zero_lim w)
  have HLzl : Hid (zl.length = 4) := Lib.hid (by rw [hzl]; rfl)
  have HS0 := Lib.hid (Blk.two w (arr .u64 xs) (arr .u64 ys) 49 49)
  obtain ⟨c, hc⟩ : ∃ c, c = decide (a < b) := ⟨_, rfl⟩
  rw [← hc]
  have HC := Lib.hid hc
  clear hzl hx hy hc
  go_enter Try.func49, Try.ntmps49
  go_upto_region 1 with fail
  generalize ((w.alloc (.cells (arr .u64 xs) 49)).alloc (.cells (arr .u64 ys) 49)) = wb at HS0 ⊢
  go_upto_region 2 with (first | ((with_reducible show wpList _ _ _ (Oper.mk (some 8) _ _ _ _ _ :: _) _ _); refine wpList_load_part rfl 49 _ rfl (w.heap.size) (0) _ 49 (0, 0) _ (HS0.out.get 0 rfl) rfl .u64 xs (arr_part _ _) Try.underlying49 rfl (lim_i HXL.out) ?_) | ((with_reducible show wpList _ _ _ (Oper.mk (some 9) _ _ _ _ _ :: _) _ _); refine wpList_load_part rfl 49 _ rfl (w.heap.size + 1) (0) _ 49 (0, 0) _ (HS0.out.get 1 rfl) rfl .u64 ys (arr_part _ _) Try.underlying49 rfl (lim_i HYL.out) ?_) | ((with_reducible show Calls _ 64 #[.agg _, .agg _] _ _); go_at_call 64; refine (lsub4 _ _ _ HX.out HY.out).mono ?_; rintro e w901 ⟨z901, rfl, h901, hb901⟩; have HZ901 := Lib.hid h901; have HL901 := Lib.hid h901.len; clear h901; have HB901 := Lib.hid (HS0.out.kept hb901); clear hb901) | ((with_reducible show wpList _ _ _ (Oper.mk (some 5) _ _ _ _ _ :: _) _ _); refine wpList_alloc_row rfl 49 rfl _ (HZzl.out _) ?_; have HB902 := Lib.hid (HB901.out.alloc (arr .u64 zl) 49); generalize w901.heap.size = g902 at HB902 ⊢; generalize w901.alloc (.cells (arr .u64 zl) 49) = w902 at HB902 ⊢; clear HB901) | ((with_reducible show wpList _ _ _ (Oper.mk none (Op.store _ (Operand.tmp 5) (Operand.tmp 11)) _ _ _ _ :: _) _ _); refine wpList_store_whole rfl 49 _ _ rfl (g902) _ _ 49 (HB902.out.get 2 rfl) rfl rfl (arr_len2 _ _ HL901.out HLzl.out) (lim_s HL901.out) (all_arr _ _) ?_; intro w903 hb903 hk903 hz903; have HB903 := Lib.hid (HB902.out.put 2 rfl hk903 hb903); clear hb903 hk903 hz903; clear HB902))
  by_cases hlt : a < b
  · rw [brw_yes hlt]
    have hbv : (((1 : Nat) : Int) != 0) = true := rfl
    have HCC : Hid (true = c) := Lib.hid (by rw [HC.out, decide_eq_true hlt])
    clear hlt
    go_wp2_with fail
    (try simp only [Exit.then])
    go_ret
    exact ⟨congrArg (fun c => Ending.returned (.bool c)) HCC.out, HB903.out.below⟩
  · rw [brw_no hlt]
    have hbv : (((0 : Nat) : Int) != 0) = false := rfl
    have HCC : Hid (false = c) := Lib.hid (by rw [HC.out, decide_eq_false hlt])
    clear hlt
    go_wp2_with fail
    (try simp only [Exit.then])
    go_ret
    exact ⟨congrArg (fun c => Ending.returned (.bool c)) HCC.out, HB903.out.below⟩

set_option maxRecDepth 100000 in
set_option maxHeartbeats 4000000 in
theorem power_any {xs es : List Int} (a v : Nat) (w : World) (hx : N4 xs a) (he : N4 es v) : Calls Try.prog 65 #[.agg (arr .u64 xs), .agg (arr .u64 es)] w fun e w' => ∃ zs, e = .returned (.agg (arr .u64 zs)) ∧ N4 zs (fpow a v 256) ∧ Below w.heap.size w w' := by
  have hn1 := n4_small 1 (by decide)
  have hbd := fun w => build_raw 1 w
  obtain ⟨u1, hu1⟩ : ∃ b : List Int, b = [(1 : Int), 0, 0, 0] := ⟨_, rfl⟩
  have hn2 : N4 u1 (fpow a v 0) := by rw [hu1]; exact hn1
  rw [← hu1] at hbd
  have HBD := Lib.hid hbd
  have HU := Lib.hid hn2
  have HUL := Lib.hid hn2.len
  have HX := Lib.hid hx
  have HE := Lib.hid he
  have HXL := Lib.hid hx.len
  have HEL := Lib.hid he.len
  obtain ⟨zl, hzl⟩ : ∃ zs : List Int, zs = List.replicate 4 0 := ⟨_, rfl⟩
  have HZzl : Hid (∀ w, (zeroValue 49).run Try.prog w = .ok (.agg (arr .u64 zl)) w) := Lib.hid (by intro w; rw [hzl]; exact zero_lim w)
  have HLzl : Hid (zl.length = 4) := Lib.hid (by rw [hzl]; rfl)
  have HS0 := Lib.hid (Blk.three w (arr .u64 xs) (arr .u64 es) (arr .u64 zl) 49 49 49)
  clear hzl hx he hn1 hn2 hbd hu1
  go_enter Try.func65, Try.ntmps65
  go_upto_region 1 with (first | ((with_reducible show wpList _ _ _ (Oper.mk (some 4) _ _ _ _ _ :: _) _ _); refine wpList_alloc_row rfl 49 rfl _ (HZzl.out _) ?_))
  generalize (((w.alloc (.cells (arr .u64 xs) 49)).alloc (.cells (arr .u64 es) 49)).alloc (.cells (arr .u64 zl) 49)) = wb at HS0 ⊢
  go_wp2_with (first | ((with_reducible show wpList _ _ _ (Oper.mk (some 7) _ _ _ _ _ :: _) _ _); refine wpList_build (by rfl) 49 _ rfl #[(0, .int .u64 1)] rfl _ (HBD.out _) ?_) | ((with_reducible show wpList _ _ _ (Oper.mk (some 5) _ _ _ _ _ :: _) _ _); refine wpList_alloc_row rfl 49 rfl _ (HZzl.out _) ?_; have HB2 := Lib.hid (HS0.out.alloc (arr .u64 zl) 49); generalize wb.heap.size = gx at HB2 ⊢; generalize wb.alloc (.cells (arr .u64 zl) 49) = w2 at HB2 ⊢) | ((with_reducible show wpList _ _ _ (Oper.mk none (Op.store _ (Operand.tmp 5) _) _ _ _ _ :: _) _ _); refine wpList_store_whole rfl 49 _ _ rfl (gx) _ _ 49 (HB2.out.get 3 rfl) rfl rfl (arr_len2 _ _ HUL.out HLzl.out) (lim_s HUL.out) (all_arr _ _) ?_; intro w3 hb3 hk3 hz3; have HB3 := Lib.hid (HB2.out.put 3 rfl hk3 hb3); clear hb3 hk3 hz3))
  go_loopw [6] (fun v' wr => ∃ n : Nat, n ≤ 256 ∧ v' = .int .i64 (255 - (n : Int)) ∧ ∃ cs : List Int, N4 cs (fpow a v n) ∧ Blk w wr [(w.heap.size, arr .u64 xs, 49), (w.heap.size + 1, arr .u64 es, 49), (w.heap.size + 1 + 1, arr .u64 zl, 49), (gx, arr .u64 cs, 49)]) (fun v' _ => (intOf v' + 1).toNat)
  case atStart => exact ⟨0, Nat.zero_le _, rfl, _, HU.out, HB3.out⟩
  clear HS0 HB2 HB3
  case round =>
  obtain ⟨n, hn, rfl, cs, hcs, hB⟩ := hrel
  by_cases hlt : n < 256
  · obtain ⟨i, hi⟩ : ∃ i : Nat, i + n = 255 := ⟨255 - n, by omega⟩
    have hz : (255 : Int) - (n : Int) = (i : Int) := by omega
    have hi2 : i < 256 := by omega
    have hpn := pow_next a v n
    rw [show 255 - n = i by omega] at hpn
    rw [hz]
    have HCS := Lib.hid hcs
    have HCL := Lib.hid hcs.len
    have HB := Lib.hid hB
    have HI := Lib.hid hi
    clear hcs hB hz hi
    have q9 : 0 ≤ (i : Int) := by omega
    rcases (show v / 2 ^ i % 2 = 0 ∨ v / 2 ^ i % 2 = 1 by omega) with hb | hb
    · rw [if_neg (by omega)] at hpn
      have HPN := Lib.hid hpn
      have HBT := Lib.hid hb
      clear hpn hb
      go_wp2_with (first | ((with_reducible show wpList _ _ _ (Oper.mk (some 12) _ _ _ _ _ :: _) _ _); refine wpList_load_part rfl 49 _ rfl (gx) 0 _ 49 (0, 0) _ (HB.out.get 3 rfl) rfl .u64 cs (arr_part _ _) Try.underlying49 rfl (lim_i HCL.out) ?_) | ((with_reducible show wpList _ _ _ (Oper.mk (some 13) _ _ _ _ _ :: _) _ _); refine wpList_load_part rfl 49 _ rfl (gx) 0 _ 49 (0, 0) _ (HB.out.get 3 rfl) rfl .u64 cs (arr_part _ _) Try.underlying49 rfl (lim_i HCL.out) ?_) | ((with_reducible show Calls _ _ #[.agg (arr _ cs), .agg (arr _ cs)] _ _); go_at_call 35; refine (times_any _ _ _ HCS.out HCS.out).mono ?_; rintro e w5 ⟨z5, rfl, h5, hb5⟩; have HZ5 := Lib.hid h5; have HL5 := Lib.hid h5.len; have HB5 := Lib.hid (HB.out.kept hb5); clear h5 hb5) | ((with_reducible show wpList _ _ _ (Oper.mk none (Op.store _ (Operand.tmp 5) _) _ _ _ _ :: _) _ _); refine wpList_store_whole rfl 49 _ _ rfl (gx) _ _ 49 (HB5.out.get 3 rfl) rfl rfl (arr_len2 _ _ HL5.out HCL.out) (lim_s HL5.out) (all_arr _ _) ?_; intro w6 hb6 hk6 hz6; have HB6 := Lib.hid (HB5.out.put 3 rfl hk6 hb6); clear hb6 hk6 hz6) | ((with_reducible show wpList _ _ _ (Oper.mk (some 15) _ _ _ _ _ :: _) _ _); refine wpList_load_part rfl 49 _ rfl (w.heap.size + 1) 0 _ 49 (0, 0) _ (HB6.out.get 1 rfl) rfl .u64 es (arr_part _ _) Try.underlying49 rfl (lim_i HEL.out) ?_) | ((with_reducible show Calls _ 38 _ _ _); go_at_call 38; refine (bit_any _ i _ _ HE.out hi2 HBT.out).mono ?_; rintro e w7 ⟨rfl, hb7⟩; have HB7 := Lib.hid (HB6.out.kept hb7); clear hb7))
      go_roundw
      case rel =>
        have e := HI.out
        exact ⟨n + 1, by omega, by congr 1; omega, _, by rw [HPN.out]; exact HZ5.out, HB7.out⟩
      case measure => simp [intOf]
    · rw [if_pos hb] at hpn
      have HPN := Lib.hid hpn
      have HBT := Lib.hid hb
      clear hpn hb
      go_wp2_with (first | ((with_reducible show wpList _ _ _ (Oper.mk (some 12) _ _ _ _ _ :: _) _ _); refine wpList_load_part rfl 49 _ rfl (gx) 0 _ 49 (0, 0) _ (HB.out.get 3 rfl) rfl .u64 cs (arr_part _ _) Try.underlying49 rfl (lim_i HCL.out) ?_) | ((with_reducible show wpList _ _ _ (Oper.mk (some 13) _ _ _ _ _ :: _) _ _); refine wpList_load_part rfl 49 _ rfl (gx) 0 _ 49 (0, 0) _ (HB.out.get 3 rfl) rfl .u64 cs (arr_part _ _) Try.underlying49 rfl (lim_i HCL.out) ?_) | ((with_reducible show Calls _ _ #[.agg (arr _ cs), .agg (arr _ cs)] _ _); go_at_call 35; refine (times_any _ _ _ HCS.out HCS.out).mono ?_; rintro e w5 ⟨z5, rfl, h5, hb5⟩; have HZ5 := Lib.hid h5; have HL5 := Lib.hid h5.len; have HB5 := Lib.hid (HB.out.kept hb5); clear h5 hb5) | (with_reducible show wpList _ _ _ (Oper.mk none (Op.store _ (Operand.tmp 5) (Operand.tmp 14)) _ _ _ _ :: _) _ _); ((with_reducible show wpList _ _ _ (Oper.mk none (Op.store _ (Operand.tmp 5) _) _ _ _ _ :: _) _ _); refine wpList_store_whole rfl 49 _ _ rfl (gx) _ _ 49 (HB5.out.get 3 rfl) rfl rfl (arr_len2 _ _ HL5.out HCL.out) (lim_s HL5.out) (all_arr _ _) ?_; intro w6 hb6 hk6 hz6; have HB6 := Lib.hid (HB5.out.put 3 rfl hk6 hb6); clear hb6 hk6 hz6) | ((with_reducible show wpList _ _ _ (Oper.mk (some 15) _ _ _ _ _ :: _) _ _); refine wpList_load_part rfl 49 _ rfl (w.heap.size + 1) 0 _ 49 (0, 0) _ (HB6.out.get 1 rfl) rfl .u64 es (arr_part _ _) Try.underlying49 rfl (lim_i HEL.out) ?_) | ((with_reducible show Calls _ 38 _ _ _); go_at_call 38; refine (bit_any _ i _ _ HE.out hi2 HBT.out).mono ?_; rintro e w7 ⟨rfl, hb7⟩; have HB7 := Lib.hid (HB6.out.kept hb7); clear hb7) | ((with_reducible show wpList _ _ _ (Oper.mk (some 19) _ _ _ _ _ :: _) _ _); refine wpList_load_part rfl 49 _ rfl (gx) 0 _ 49 (0, 0) _ (HB7.out.get 3 rfl) rfl .u64 z5 (arr_part _ _) Try.underlying49 rfl (lim_i HL5.out) ?_) | ((with_reducible show wpList _ _ _ (Oper.mk (some 20) _ _ _ _ _ :: _) _ _); refine wpList_load_part rfl 49 _ rfl (w.heap.size) 0 _ 49 (0, 0) _ (HB7.out.get 0 rfl) rfl .u64 xs (arr_part _ _) Try.underlying49 rfl (lim_i HXL.out) ?_) | ((with_reducible show Calls _ _ #[.agg (arr _ z5), .agg (arr _ xs)] _ _); go_at_call 35; refine (times_any _ _ _ HZ5.out HX.out).mono ?_; rintro e w8 ⟨z8, rfl, h8, hb8⟩; have HZ8 := Lib.hid h8; have HL8 := Lib.hid h8.len; have HB8 := Lib.hid (HB7.out.kept hb8); clear h8 hb8) | (with_reducible show wpList _ _ _ (Oper.mk none (Op.store _ (Operand.tmp 5) (Operand.tmp 21)) _ _ _ _ :: _) _ _); ((with_reducible show wpList _ _ _ (Oper.mk none (Op.store _ (Operand.tmp 5) _) _ _ _ _ :: _) _ _); refine wpList_store_whole rfl 49 _ _ rfl (gx) _ _ 49 (HB8.out.get 3 rfl) rfl rfl (arr_len2 _ _ HL8.out HL5.out) (lim_s HL8.out) (all_arr _ _) ?_; intro w9 hb9 hk9 hz9; have HB9 := Lib.hid (HB8.out.put 3 rfl hk9 hb9); clear hb9 hk9 hz9))
      go_roundw
      case rel =>
        have e := HI.out
        exact ⟨n + 1, by omega, by congr 1; omega, _, by rw [HPN.out]; exact HZ8.out, HB9.out⟩
      case measure => simp [intOf]
  · obtain rfl : n = 256 := by omega
    have hz : (255 : Int) - ((256 : Nat) : Int) = -1 := by omega
    rw [hz]
    have HCS := Lib.hid hcs
    have HCL := Lib.hid hcs.len
    have HB := Lib.hid hB
    clear hcs hB hz
    go_wp2_with (first | ((with_reducible show wpList _ _ _ (Oper.mk (some 22) _ _ _ _ _ :: _) _ _); refine wpList_load_part rfl 49 _ rfl (gx) 0 _ 49 (0, 0) _ (HB.out.get 3 rfl) rfl .u64 cs (arr_part _ _) Try.underlying49 rfl (lim_i HCL.out) ?_) | ((with_reducible show wpList _ _ _ (Oper.mk none (Op.store _ (Operand.tmp 4) _) _ _ _ _ :: _) _ _); refine wpList_store_whole rfl 49 _ _ rfl (w.heap.size + 1 + 1) _ _ 49 (HB.out.get 2 rfl) rfl rfl (arr_len2 _ _ HCL.out HLzl.out) (lim_s HCL.out) (all_arr _ _) ?_; intro w8 hb8 hk8 hz8; have HB8 := Lib.hid (HB.out.put 2 rfl hk8 hb8); clear hb8 hk8 hz8))
    (try simp only [Exit.inBlock, Exit.then])
    refine bodyPost_ret (results_cell_row rfl _ _ (w.heap.size + 1 + 1) 49 _ (0, 0) _ rfl (HB8.out.get 2 rfl) Try.underlying49 rfl (lim_s HCL.out)) rfl ?_
    exact ⟨_, rfl, HCS.out, HB8.out.below⟩

theorem p_less2 : (p + 18446744073709551616 ^ 4 - 2) % 18446744073709551616 ^ 4 = p - 2 := by decide +kernel
set_option maxRecDepth 100000 in
set_option maxHeartbeats 2000000 in
theorem inverse_any {xs : List Int} (a : Nat) (w : World) (hx : N4 xs a) : Calls Try.prog 39 #[.agg (arr .u64 xs)] w fun e w' => ∃ zs, e = .returned (.agg (arr .u64 zs)) ∧ N4 zs (finv a) ∧ Below w.heap.size w w' := by
  have hn1 := n4_small 2 (by decide)
  have hbd := fun w => build_raw 2 w
  obtain ⟨u1, hu1⟩ : ∃ b : List Int, b = [(2 : Int), 0, 0, 0] := ⟨_, rfl⟩
  have hn2 : N4 u1 2 := by rw [hu1]; exact hn1
  rw [← hu1] at hbd
  have HBD := Lib.hid hbd
  have HU := Lib.hid hn2
  have HUL := Lib.hid hn2.len
  have HX := Lib.hid hx
  have HXL := Lib.hid hx.len
  have HP2 := Lib.hid p_less2
  obtain ⟨zl, hzl⟩ : ∃ zs : List Int, zs = List.replicate 4 0 := ⟨_, rfl⟩
  have HZzl : Hid (∀ w, (zeroValue 49).run Try.prog w = .ok (.agg (arr .u64 zl)) w) := Lib.hid (by intro w; rw [hzl]; exact zero_lim w)
  have HLzl : Hid (zl.length = 4) := Lib.hid (by rw [hzl]; rfl)
  have HS0 := Lib.hid (Blk.two w (arr .u64 xs) (arr .u64 zl) 49 49)
  clear hzl hx hn1 hn2 hbd hu1
  go_enter Try.func39, Try.ntmps39
  go_upto_region 1 with (first | ((with_reducible show wpList _ _ _ (Oper.mk (some 2) _ _ _ _ _ :: _) _ _); refine wpList_alloc_row rfl 49 rfl _ (HZzl.out _) ?_))
  generalize ((w.alloc (.cells (arr .u64 xs) 49)).alloc (.cells (arr .u64 zl) 49)) = wb at HS0 ⊢
  go_upto_region 2 with (first | ((with_reducible show Calls _ 63 _ _ _); go_at_call 63; refine (prime_any _).mono ?_; rintro e w1 ⟨z1, rfl, h1, hb1⟩; have HZ1 := Lib.hid h1; have HL1 := Lib.hid h1.len; have HB1 := Lib.hid (HS0.out.kept hb1); clear h1 hb1) | ((with_reducible show wpList _ _ _ (Oper.mk (some 7) _ _ _ _ _ :: _) _ _); refine wpList_build (by rfl) 49 _ rfl #[(0, .int .u64 2)] rfl _ (HBD.out _) ?_) | ((with_reducible show Calls _ 64 _ _ _); go_at_call 64; refine (lsub4 _ _ _ HZ1.out HU.out).mono ?_; rintro e w2 ⟨z2, rfl, h2, hb2⟩; have HZ2 := Lib.hid (h2.cast HP2.out); have HL2 := Lib.hid h2.len; have HB2 := Lib.hid (HB1.out.kept hb2); clear h2 hb2) | ((with_reducible show wpList _ _ _ (Oper.mk (some 3) _ _ _ _ _ :: _) _ _); refine wpList_alloc_row rfl 49 rfl _ (HZzl.out _) ?_; have HB3 := Lib.hid (HB2.out.alloc (arr .u64 zl) 49); generalize w2.heap.size = gx at HB3 ⊢; generalize w2.alloc (.cells (arr .u64 zl) 49) = w3 at HB3 ⊢) | ((with_reducible show wpList _ _ _ (Oper.mk none (Op.store _ (Operand.tmp 3) _) _ _ _ _ :: _) _ _); refine wpList_store_whole rfl 49 _ _ rfl (gx) _ _ 49 (HB3.out.get 2 rfl) rfl rfl (arr_len2 _ _ HL2.out HLzl.out) (lim_s HL2.out) (all_arr _ _) ?_; intro w4 hb4 hk4 hz4; have HB4 := Lib.hid (HB3.out.put 2 rfl hk4 hb4); clear hb4 hk4 hz4))
  go_wp2_with (first | ((with_reducible show wpList _ _ _ (Oper.mk (some 11) _ _ _ _ _ :: _) _ _); refine wpList_load_part rfl 49 _ rfl (w.heap.size) 0 _ 49 (0, 0) _ (HB4.out.get 0 rfl) rfl .u64 xs (arr_part _ _) Try.underlying49 rfl (lim_i HXL.out) ?_) | ((with_reducible show wpList _ _ _ (Oper.mk (some 12) _ _ _ _ _ :: _) _ _); refine wpList_load_part rfl 49 _ rfl (gx) 0 _ 49 (0, 0) _ (HB4.out.get 2 rfl) rfl .u64 z2 (arr_part _ _) Try.underlying49 rfl (lim_i HL2.out) ?_) | ((with_reducible show Calls _ 65 _ _ _); go_at_call 65; refine (power_any _ _ _ HX.out HZ2.out).mono ?_; rintro e w5 ⟨z5, rfl, h5, hb5⟩; have HZ5 := Lib.hid h5; have HL5 := Lib.hid h5.len; have HB5 := Lib.hid (HB4.out.kept hb5); clear h5 hb5) | ((with_reducible show wpList _ _ _ (Oper.mk none (Op.store _ (Operand.tmp 2) _) _ _ _ _ :: _) _ _); refine wpList_store_whole rfl 49 _ _ rfl (w.heap.size + 1) _ _ 49 (HB5.out.get 1 rfl) rfl rfl (arr_len2 _ _ HL5.out HLzl.out) (lim_s HL5.out) (all_arr _ _) ?_; intro w6 hb6 hk6 hz6; have HB6 := Lib.hid (HB5.out.put 1 rfl hk6 hb6); clear hb6 hk6 hz6))
  (try simp only [Exit.then])
  refine bodyPost_ret (results_cell_row rfl _ _ (w.heap.size + 1) 49 _ (0, 0) _ rfl (HB6.out.get 1 rfl) Try.underlying49 rfl (lim_s HL5.out)) rfl ?_
  exact ⟨_, rfl, HZ5.out, HB6.out.below⟩
end Go.Proofs.Ytanjhngehfbpbaa.Fp
