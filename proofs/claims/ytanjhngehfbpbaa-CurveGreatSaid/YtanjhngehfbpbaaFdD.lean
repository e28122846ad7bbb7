/- field.Times: what it answers. Condition: numbers below 2^256. -/
import Derived.Test.YtanjhngehfbpbaaFdC
namespace Go.Proofs.Ytanjhngehfbpbaa.Fp
open Go.RowKit Lm

theorem size_8 : (Try.prog.info? 74).map (·.size) = some 8 := by kernel_rfl
theorem t8_s {xs : List Int} (h : xs.length = 8) : (Try.prog.info? 74).map (·.size) = some (arr .u64 xs).size := by rw [arr_size, h]; exact size_8
theorem t8_i {xs : List Int} (h : xs.length = 8) : (Try.prog.info? 74).map (·.size) = some xs.length := by rw [h]; exact size_8
theorem getD_drop (xs : List Nat) (n i : Nat) : (xs.drop n).getD i 0 = xs.getD (n + i) 0 := by simp [List.getD, List.getElem?_drop]
theorem p38_le (y : Nat) (h : y < 18446744073709551616) : y * 38 ≤ 18446744073709551615 * 18446744073709551615 := by omega

set_option maxRecDepth 100000 in
set_option maxHeartbeats 8000000 in
theorem times_any {xs ys : List Int} (a b : Nat) (w : World) (hx : N4 xs a) (hy : N4 ys b) : Calls Try.prog 35 #[.agg (arr .u64 xs), .agg (arr .u64 ys)] w fun e w' => ∃ zs, e = .returned (.agg (arr .u64 zs)) ∧ N4 zs (fmul a b) ∧ Below w.heap.size w w' := by
  have hm := fun w => lmul_any (dig 18446744073709551616 4 a) (dig 18446744073709551616 4 b) w (dig_len _ _ _) (dig_len _ _ _) (dig_lt _ (by decide) _ _) (dig_lt _ (by decide) _ _)
  rw [vd a hx.2, vd b hy.2, ← hx.1, ← hy.1] at hm
  obtain ⟨ws, hws⟩ : ∃ r, r = dig 18446744073709551616 8 (a * b) := ⟨_, rfl⟩
  rw [← hws] at hm
  have WL : Hid (ws.length = 8) := Lib.hid (by rw [hws, dig_len])
  have WB : Hid (∀ x ∈ ws, x < 18446744073709551616) := Lib.hid (by rw [hws]; exact dig_lt _ (by decide) _ _)
  have hab : a * b < 18446744073709551616 ^ 8 := by
    rw [show 8 = 4 + 4 from rfl, Nat.pow_add]
    exact Nat.mul_lt_mul_of_lt_of_lt hx.2 hy.2
  have WV : Hid (a * b = val 18446744073709551616 (ws.take 4) + 18446744073709551616 ^ 4 * val 18446744073709551616 (ws.drop 4)) := Lib.hid (by
    have h1 := val_append 18446744073709551616 (ws.take 4) (ws.drop 4)
    rw [List.take_append_drop, List.length_take, WL.out] at h1
    rw [show 18446744073709551616 ^ 4 = 18446744073709551616 ^ min 4 8 from rfl, ← h1, hws, val_dig, Nat.mod_eq_of_lt hab])
  obtain ⟨w8, hw8⟩ : ∃ x, x = nar ws := ⟨_, rfl⟩
  rw [← hw8] at hm
  have W8L : Hid (w8.length = 8) := Lib.hid (by rw [hw8, nar_len, WL.out])
  have W8G : Hid (∀ k, w8.getD k 0 = ((ws.getD k 0 : Nat) : Int)) := Lib.hid (fun k => by rw [hw8, nar_get])
  have HM := Lib.hid hm
  have HXL := Lib.hid hx.len
  have HYL := Lib.hid hy.len
  obtain ⟨zl, hzl⟩ : ∃ zs : List Int, zs = List.replicate 4 0 := ⟨_, rfl⟩
  have HZzl : Hid (∀ w, (zeroValue 49).run Try.prog w = .ok (.agg (arr .u64 zl)) w) := Lib.hid (by intro w; rw [hzl]; exact zero_lim w)
  have HLzl : Hid (zl.length = 4) := Lib.hid (by rw [hzl]; rfl)
  obtain ⟨z8, hz8⟩ : ∃ zs : List Int, zs = List.replicate 8 0 := ⟨_, rfl⟩
  have HZz8 : Hid (∀ w, (zeroValue 74).run Try.prog w = .ok (.agg (arr .u64 z8)) w) := Lib.hid (by intro w; rw [hz8]; exact Lm.zero8 w)
  have HLz8 : Hid (z8.length = 8) := Lib.hid (by rw [hz8]; rfl)
  have HZL0 : Hid (zl = nar (List.replicate 4 0)) := Lib.hid (by rw [hzl, nar_zeros])
  have HS0 := Lib.hid (Blk.three w (arr .u64 xs) (arr .u64 ys) (arr .u64 zl) 49 49 49)
  clear hzl hz8 hx hy hm hws hw8 hab
  go_enter Try.func35, Try.ntmps35
  go_upto_region 1 with (first | ((with_reducible show wpList _ _ _ (Oper.mk (some 4) _ _ _ _ _ :: _) _ _); refine wpList_alloc_row rfl 49 rfl _ (HZzl.out _) ?_))
  (try simp only [World.size_alloc, Act.put, List.setIfInBounds_toArray, List.set_cons_zero, List.set_cons_succ])
  generalize (((w.alloc (.cells (arr .u64 xs) 49)).alloc (.cells (arr .u64 ys) 49)).alloc (.cells (arr .u64 zl) 49)) = wb at HS0 ⊢
  go_upto_region 3 with (first | ((with_reducible show wpList _ _ _ (Oper.mk (some 12) _ _ _ _ _ :: _) _ _); refine wpList_load_part rfl 49 _ rfl (w.heap.size) 0 _ 49 (0, 0) _ (HS0.out.get 0 rfl) rfl .u64 xs (arr_part _ _) Try.underlying49 rfl (lim_i HXL.out) ?_) | ((with_reducible show wpList _ _ _ (Oper.mk (some 13) _ _ _ _ _ :: _) _ _); refine wpList_load_part rfl 49 _ rfl (w.heap.size + 1) 0 _ 49 (0, 0) _ (HS0.out.get 1 rfl) rfl .u64 ys (arr_part _ _) Try.underlying49 rfl (lim_i HYL.out) ?_) | ((with_reducible show Calls _ 43 _ _ _); go_at_call 43; refine (HM.out _).mono ?_; rintro e w1 ⟨rfl, hb1⟩; have HB1 := Lib.hid (HS0.out.kept hb1); clear hb1) | ((with_reducible show wpList _ _ _ (Oper.mk (some 5) _ _ _ _ _ :: _) _ _); refine wpList_alloc_row rfl 74 rfl _ (HZz8.out _) ?_; have HB2 := Lib.hid (HB1.out.alloc (arr .u64 z8) 74); generalize w1.heap.size = g5 at HB2 ⊢; generalize w1.alloc (.cells (arr .u64 z8) 74) = w2 at HB2 ⊢) | ((with_reducible show wpList _ _ _ (Oper.mk none (Op.store _ (Operand.tmp 5) _) _ _ _ _ :: _) _ _); refine wpList_store_whole rfl 74 _ _ rfl (g5) _ _ 74 (HB2.out.get 3 rfl) rfl rfl (arr_len2 _ _ W8L.out HLz8.out) (t8_s W8L.out) (all_arr _ _) ?_; intro w3 hb3 hk3 hz3; have HB3 := Lib.hid (HB2.out.put 3 rfl hk3 hb3); clear hb3 hk3 hz3) | ((with_reducible show wpList _ _ _ (Oper.mk (some 6) _ _ _ _ _ :: _) _ _); refine wpList_alloc_row rfl 49 rfl _ (HZzl.out _) ?_; have HB4 := Lib.hid (HB3.out.alloc (arr .u64 zl) 49); generalize w3.heap.size = g6 at HB4 ⊢; generalize w3.alloc (.cells (arr .u64 zl) 49) = w4 at HB4 ⊢))
  go_wp2_with fail
  go_loopw [7, 15] (fun cv jv wr => ∃ (j c : Nat) (os : List Nat), j ≤ 4 ∧ jv = .int .i64 j ∧ cv = .int .u64 c ∧ c ≤ 39 ∧ os.length = 4 ∧ (∀ x ∈ os, x < 18446744073709551616) ∧ val 18446744073709551616 (os.take j) + 18446744073709551616 ^ j * c = val 18446744073709551616 (ws.take j) + 38 * val 18446744073709551616 ((ws.drop 4).take j) ∧ Blk w wr [(w.heap.size, arr .u64 xs, 49), (w.heap.size + 1, arr .u64 ys, 49), (w.heap.size + 1 + 1, arr .u64 zl, 49), (g5, arr .u64 w8, 74), (g6, arr .u64 (nar os), 49)]) (fun _ jv _ => 4 - (intOf jv).toNat)
  case atStart => exact ⟨0, 0, List.replicate 4 0, Nat.zero_le _, rfl, rfl, Nat.zero_le _, by simp, by simp, by simp [val], by rw [← HZL0.out]; exact HB4.out⟩
  clear HS0 HB1 HB2 HB3 HB4
  case round =>
  obtain ⟨j, c, os, hj, rfl, rfl, hc, hol, hob, hv, hB⟩ := hrel
  by_cases hlt : j < 4
  · have q0 := arr_get' (hB.get 3 rfl) j (by rw [W8L.out]; omega)
    have q1 := arr_get' (hB.get 3 rfl) (j + 4) (by rw [W8L.out]; omega)
    have q2 := arr_get' (hB.get 4 rfl) j (by rw [nar_len, hol]; exact hlt)
    have q3 := free_blk (hB.get 4 rfl) j
    rw [W8G.out] at q0 q1
    have x1 := lt_getD WB.out (by decide) j
    have y1 := lt_getD WB.out (by decide) (j + 4)
    have st := fun lo c' hs => times_step 18446744073709551616 j _ _ _ lo c c' (ws.getD j 0) (ws.getD (j + 4) 0) hv hs
    have vm := fun s => val_take_set 18446744073709551616 os j s (by omega)
    have e38 : (ws.drop 4).getD j 0 = ws.getD (j + 4) 0 := by rw [getD_drop, Nat.add_comm]
    have l38 : (ws.drop 4).length = 4 := by rw [List.length_drop, WL.out]
    have v2 := val_take_succ 18446744073709551616 (ws.drop 4) j (by rw [l38]; exact hlt)
    rw [e38] at v2
    rw [← val_take_succ 18446744073709551616 ws j (by rw [WL.out]; omega), ← v2] at st
    clear e38 l38 v2
    generalize ws.getD j 0 = x at q0 x1 st
    generalize ws.getD (j + 4) 0 = y at q1 y1 st
    obtain ⟨m1, m2⟩ := mul_bits (y * 38) c x (p38_le y y1) (by omega) x1
    have M1 := fun w => mul64 y 38 y1 (by decide) w
    have a1 := add64 (y * 38 % 18446744073709551616) c 0 (by omega)
    have a2 := add64 ((y * 38 % 18446744073709551616 + c) % 18446744073709551616) x 0 (by omega)
    rw [Nat.add_zero] at a1 a2
    have e0 : ((0 : Nat) : Int) = 0 := rfl
    have e38 : ((38 : Nat) : Int) = 38 := rfl
    rw [e0] at a1 a2
    rw [e38] at M1
    have k0 : y * 38 / 18446744073709551616 ≤ 37 := by omega
    have k1 : (y * 38 % 18446744073709551616 + c) / 18446744073709551616 ≤ 1 := by omega
    have k2 : ((y * 38 % 18446744073709551616 + c) % 18446744073709551616 + x) / 18446744073709551616 ≤ 1 := by omega
    have k3 : ((y * 38 % 18446744073709551616 + c) % 18446744073709551616 + x) % 18446744073709551616 < 18446744073709551616 := Nat.mod_lt _ (by decide)
    generalize hP : y * 38 = P at M1 a1 a2 k0 k1 k2 k3 m1 m2
    have k4 : P % 18446744073709551616 < 18446744073709551616 := Nat.mod_lt _ (by decide)
    have k5 : (P % 18446744073709551616 + c) % 18446744073709551616 < 18446744073709551616 := Nat.mod_lt _ (by decide)
    generalize P / 18446744073709551616 = h0 at M1 k0 m1 m2
    generalize P % 18446744073709551616 = l0 at M1 a1 a2 k1 k2 k3 k4 k5 m1 m2
    generalize (l0 + c) / 18446744073709551616 = c1 at a1 k1 m1 m2
    generalize (l0 + c) % 18446744073709551616 = s1 at a1 a2 k2 k3 k5 m1 m2
    generalize (s1 + x) / 18446744073709551616 = c2 at a2 k2 m1 m2
    generalize (s1 + x) % 18446744073709551616 = lo at a2 k3 m1
    subst hP
    have hst := st lo (h0 + c1 + c2) (by omega)
    rw [← vm] at hst
    have hb1 := hB.cell 4 rfl j (.int .u64 ((lo : Nat) : Int))
    have e2 : (arr .u64 (nar os)).setIfInBounds j (.int .u64 ((lo : Nat) : Int)) = arr .u64 (nar (os.set j lo)) := by rw [arr_set, ← nar_set]
    have HB1 := Lib.hid (hb1.cast (l' := [(w.heap.size, arr .u64 xs, 49), (w.heap.size + 1, arr .u64 ys, 49), (w.heap.size + 1 + 1, arr .u64 zl, 49), (g5, arr .u64 w8, 74), (g6, arr .u64 (nar (os.set j lo)), 49)]) (by rw [← e2]; rfl))
    have HST := Lib.hid hst
    have HOL : Hid ((os.set j lo).length = 4) := Lib.hid (by rw [List.length_set, hol])
    have HOB : Hid (∀ z ∈ os.set j lo, z < 18446744073709551616) := Lib.hid (lt_set hob j lo k3)
    have hc39 : h0 + c1 + c2 ≤ 39 := by omega
    have HM1 := Lib.hid M1
    clear hb1 e2 hst st vm hB hol hob hv m1 m2 M1 e0 e38
    go_wp2_with (first | ((with_reducible show Calls _ 60 _ _ _); go_at_call 60; refine (HM1.out _).mono ?_; rintro e w8' ⟨rfl, h8⟩; rw [h8]; clear h8 w8'))
    go_roundw
    case rel => exact ⟨j + 1, h0 + c1 + c2, _, by omega, by go_num, by go_num, hc39, HOL.out, HOB.out, HST.out, HB1.out⟩
    case measure => simp [intOf]; omega
  · obtain rfl : j = 4 := by omega
    have l38 : (ws.drop 4).length = 4 := by rw [List.length_drop, WL.out]
    rw [List.take_of_length_le (Nat.le_of_eq hol), List.take_of_length_le (Nat.le_of_eq l38)] at hv
    have hn := val_lt 18446744073709551616 os hob
    rw [hol] at hn
    have hte := times_eq (a * b) _ c _ _ hv WV.out
    have hN : N4 (nar os) (val 18446744073709551616 os) := ⟨congrArg nar (dig_eq 18446744073709551616 (by decide) 4 _ os hol hob rfl), hn⟩
    have HC : c ≤ 1000 := by omega
    have HN := Lib.hid hN
    have HNL := Lib.hid hN.len
    have HTE := Lib.hid hte
    have HB := Lib.hid hB
    obtain ⟨o0, ho0⟩ : ∃ x, x = nar os := ⟨_, rfl⟩
    rw [← ho0] at HN HNL HB
    clear hB hv hn hte hN hol hob l38 ho0 hc
    go_wp2_with (first | ((with_reducible show wpList _ _ _ (Oper.mk (some 50) _ _ _ _ _ :: _) _ _); refine wpList_load_part rfl 49 _ rfl (g6) 0 _ 49 (0, 0) _ (HB.out.get 4 rfl) rfl .u64 o0 (arr_part _ _) Try.underlying49 rfl (lim_i HNL.out) ?_) | ((with_reducible show Calls _ 62 _ _ _); go_at_call 62; refine (fold_any _ c _ HN.out HC).mono ?_; rintro e w5 ⟨z5, rfl, h5, hb5⟩; have HZ5 := Lib.hid h5; have HL5 := Lib.hid h5.len; have HB5 := Lib.hid (HB.out.kept hb5); clear h5 hb5) | ((with_reducible show wpList _ _ _ (Oper.mk none (Op.store _ (Operand.tmp 4) _) _ _ _ _ :: _) _ _); refine wpList_store_whole rfl 49 _ _ rfl (w.heap.size + 1 + 1) _ _ 49 (HB5.out.get 2 rfl) rfl rfl (arr_len2 _ _ HL5.out HLzl.out) (lim_s HL5.out) (all_arr _ _) ?_; intro w6 hb6 hk6 hz6; have HB6 := Lib.hid (HB5.out.put 2 rfl hk6 hb6); clear hb6 hk6 hz6))
    (try simp only [Exit.inBlock, Exit.then])
    refine bodyPost_ret (results_cell_row rfl _ _ (w.heap.size + 1 + 1) 49 _ (0, 0) _ rfl (HB6.out.get 2 rfl) Try.underlying49 rfl (lim_s HL5.out)) rfl ?_
    exact ⟨_, rfl, HZ5.out.cast HTE.out, HB6.out.below⟩
end Go.Proofs.Ytanjhngehfbpbaa.Fp
