/- field.fold, Plus, Minus: what they answer. Condition: numbers below 2^256; for Minus below p. -/
import Derived.Test.YtanjhngehfbpbaaFdB
namespace Go.Proofs.Ytanjhngehfbpbaa.Fp
open Go.RowKit Lm

theorem build_raw (v : Int) (w : World) : (Instr.build 49 #[(0, .int .u64 v)]).run Try.prog w = .ok (.agg (arr .u64 [v, 0, 0, 0])) w := by kernel_rfl
theorem dig_small (v : Nat) (hv : v < 18446744073709551616) : dig 18446744073709551616 4 v = [v, 0, 0, 0] := by
  simp only [dig]
  rw [Nat.mod_eq_of_lt hv, Nat.div_eq_of_lt hv]
theorem n4_small (v : Nat) (hv : v < 18446744073709551616) : N4 [(v : Int), 0, 0, 0] v := ⟨by rw [dig_small v hv]; rfl, Nat.lt_of_lt_of_le hv (by decide)⟩

set_option maxRecDepth 100000 in
set_option maxHeartbeats 4000000 in
theorem fold_any {xs : List Int} (x c : Nat) (w : World) (hx : N4 xs x) (hc : c ≤ 1000) : Calls Try.prog 62 #[.agg (arr .u64 xs), .int .u64 c] w fun e w' => ∃ zs, e = .returned (.agg (arr .u64 zs)) ∧ N4 zs ((x + 18446744073709551616 ^ 4 * c) % p) ∧ Below w.heap.size w w' := by
  obtain ⟨f1, f2⟩ := fold_eq x c hx.2 hc
  rw [show (x + 38 * c) / 18446744073709551616 ^ 4 = cry x (38 * c) from rfl] at f1 f2
  obtain ⟨c1, hc1⟩ : ∃ c1, c1 = cry x (38 * c) := ⟨_, rfl⟩
  rw [← hc1] at f1 f2
  have e1 : 38 * (c : Int) = ((38 * c : Nat) : Int) := by omega
  have e2 : 38 * (c1 : Int) = ((38 * c1 : Nat) : Int) := by omega
  have hn1 := n4_small (38 * c) (by omega)
  have hn2 := n4_small (38 * c1) (by omega)
  have hb1 := fun w => build_raw (38 * (c : Int)) w
  have hb2 := fun w => build_raw (38 * (c1 : Int)) w
  rw [e1] at hb1
  rw [e2] at hb2
  obtain ⟨b1, hB1⟩ : ∃ b : List Int, b = [((38 * c : Nat) : Int), 0, 0, 0] := ⟨_, rfl⟩
  obtain ⟨b2, hB2⟩ : ∃ b : List Int, b = [((38 * c1 : Nat) : Int), 0, 0, 0] := ⟨_, rfl⟩
  rw [← hB1] at hn1 hb1
  rw [← hB2] at hn2 hb2
  rw [← e1] at hb1
  rw [← e2] at hb2
  have HN1 := Lib.hid hn1
  have HN2 := Lib.hid hn2
  have HBB1 := Lib.hid hb1
  have HBB2 := Lib.hid hb2
  have HX := Lib.hid hx
  have HXL := Lib.hid hx.len
  have HF1 := Lib.hid f1
  have HC1 := Lib.hid hc1
  obtain ⟨zl, hzl⟩ : ∃ zs : List Int, zs = List.replicate 4 0 := ⟨_, rfl⟩
  have HZzl : Hid (∀ w, (zeroValue 49).run Try.prog w = .ok (.agg (arr .u64 zl)) w) := Lib.hid (by intro w; rw [hzl]; exact zero_lim w)
  have HLzl : Hid (zl.length = 4) := Lib.hid (by rw [hzl]; rfl)
  have HS0 := Lib.hid (Blk.two w (arr .u64 xs) (arr .u64 zl) 49 49)
  clear hzl hx hn1 hn2 hb1 hb2 f1 hc1 e1 e2 hB1 hB2
  go_enter Try.func62, Try.ntmps62
  go_upto_region 2 with (first | ((with_reducible show wpList _ _ _ (Oper.mk (some 4) _ _ _ _ _ :: _) _ _); refine wpList_alloc_row rfl 49 rfl _ (HZzl.out _) ?_) | ((with_reducible show wpList _ _ _ (Oper.mk (some 7) _ _ _ _ _ :: _) _ _); refine wpList_load_part rfl 49 _ rfl (w.heap.size) 0 _ 49 (0, 0) _ (HS0.out.get 0 rfl) rfl .u64 xs (arr_part _ _) Try.underlying49 rfl (lim_i HXL.out) ?_) | ((with_reducible show wpList _ _ _ (Oper.mk (some 10) _ _ _ _ _ :: _) _ _); refine wpList_build (by rfl) 49 _ rfl #[(0, .int .u64 (38 * (c : Int)))] rfl _ (HBB1.out _) ?_) | ((with_reducible show Calls _ _ #[.agg (arr _ xs), .agg (arr _ b1)] _ _); go_at_call 41; refine (ladd4 _ _ _ HX.out HN1.out).mono ?_; rintro e w1 ⟨z1, rfl, h1, hb1⟩; have HZ1 := Lib.hid h1; have HL1 := Lib.hid h1.len; have HB1 := Lib.hid (HS0.out.kept hb1); clear h1 hb1) | ((with_reducible show wpList _ _ _ (Oper.mk none (Op.store _ (Operand.tmp 2) _) _ _ _ _ :: _) _ _); refine wpList_store_whole rfl 49 _ _ rfl (w.heap.size) _ _ 49 (HB1.out.get 0 rfl) rfl rfl (arr_len2 _ _ HL1.out HXL.out) (lim_s HL1.out) (all_arr _ _) ?_; intro w2 hb2 hk2 hz2; have HB2 := Lib.hid (HB1.out.put 0 rfl hk2 hb2); clear hb2 hk2 hz2))
  rw [← HC1.out]
  go_wp2_with (first | ((with_reducible show wpList _ _ _ (Oper.mk (some 15) _ _ _ _ _ :: _) _ _); refine wpList_load_part rfl 49 _ rfl (w.heap.size) 0 _ 49 (0, 0) _ (HB2.out.get 0 rfl) rfl .u64 z1 (arr_part _ _) Try.underlying49 rfl (lim_i HL1.out) ?_) | ((with_reducible show wpList _ _ _ (Oper.mk (some 18) _ _ _ _ _ :: _) _ _); refine wpList_build (by rfl) 49 _ rfl #[(0, .int .u64 (38 * (c1 : Int)))] rfl _ (HBB2.out _) ?_) | ((with_reducible show Calls _ _ #[.agg (arr _ z1), .agg (arr _ b2)] _ _); go_at_call 41; refine (ladd4 _ _ _ HZ1.out HN2.out).mono ?_; rintro e w3 ⟨z3, rfl, h3, hb3⟩; have HZ3 := Lib.hid h3; have HL3 := Lib.hid h3.len; have HB3 := Lib.hid (HB2.out.kept hb3); clear h3 hb3) | ((with_reducible show wpList _ _ _ (Oper.mk none (Op.store _ (Operand.tmp 2) _) _ _ _ _ :: _) _ _); refine wpList_store_whole rfl 49 _ _ rfl (w.heap.size) _ _ 49 (HB3.out.get 0 rfl) rfl rfl (arr_len2 _ _ HL3.out HL1.out) (lim_s HL3.out) (all_arr _ _) ?_; intro w4 hb4 hk4 hz4; have HB4 := Lib.hid (HB3.out.put 0 rfl hk4 hb4); clear hb4 hk4 hz4) | ((with_reducible show wpList _ _ _ (Oper.mk (some 22) _ _ _ _ _ :: _) _ _); refine wpList_load_part rfl 49 _ rfl (w.heap.size) 0 _ 49 (0, 0) _ (HB4.out.get 0 rfl) rfl .u64 z3 (arr_part _ _) Try.underlying49 rfl (lim_i HL3.out) ?_) | ((with_reducible show Calls _ 44 _ _ _); go_at_call 44; refine (lessen_any _ _ HZ3.out).mono ?_; rintro e w5 ⟨z5, rfl, h5, hb5⟩; have HZ5 := Lib.hid h5; have HL5 := Lib.hid h5.len; have HB5 := Lib.hid (HB4.out.kept hb5); clear h5 hb5) | ((with_reducible show wpList _ _ _ (Oper.mk none (Op.store _ (Operand.tmp 4) _) _ _ _ _ :: _) _ _); refine wpList_store_whole rfl 49 _ _ rfl (w.heap.size + 1) _ _ 49 (HB5.out.get 1 rfl) rfl rfl (arr_len2 _ _ HL5.out HLzl.out) (lim_s HL5.out) (all_arr _ _) ?_; intro w6 hb6 hk6 hz6; have HB6 := Lib.hid (HB5.out.put 1 rfl hk6 hb6); clear hb6 hk6 hz6))
  (try simp only [Exit.then])
  refine bodyPost_ret (results_cell_row rfl _ _ (w.heap.size + 1) 49 _ (0, 0) _ rfl (HB6.out.get 1 rfl) Try.underlying49 rfl (lim_s HL5.out)) rfl ?_
  exact ⟨_, rfl, HZ5.out.cast HF1.out, HB6.out.below⟩

set_option maxRecDepth 100000 in
set_option maxHeartbeats 4000000 in
theorem plus_any {xs ys : List Int} (a b : Nat) (w : World) (hx : N4 xs a) (hy : N4 ys b) : Calls Try.prog 46 #[.agg (arr .u64 xs), .agg (arr .u64 ys)] w fun e w' => ∃ zs, e = .returned (.agg (arr .u64 zs)) ∧ N4 zs (fadd a b) ∧ Below w.heap.size w w' := by
  have hc : (a + b) / 18446744073709551616 ^ 4 ≤ 1000 := by
    have h1 := hx.2
    have h2 := hy.2
    have h3 : (a + b) / 18446744073709551616 ^ 4 < 2 := Nat.div_lt_of_lt_mul (by omega)
    omega
  have HPE := Lib.hid (plus_eq a b)
  rw [show (a + b) / 18446744073709551616 ^ 4 = cry a b from rfl] at HPE hc
  obtain ⟨c, hcc⟩ : ∃ c, c = cry a b := ⟨_, rfl⟩
  rw [← hcc] at HPE hc
  have HCC := Lib.hid hcc
  have HX := Lib.hid hx
  have HY := Lib.hid hy
  have HXL := Lib.hid hx.len
  have HYL := Lib.hid hy.len
  obtain ⟨zl, hzl⟩ : ∃ zs : List Int, zs = List.replicate 4 0 := ⟨_, rfl⟩
  have HZzl : Hid (∀ w, (zeroValue 49).run Try.prog w = .ok (.agg (arr .u64 zl)) w) := Lib.hid (by intro w; rw [hzl]; exact zero_lim w)
  have HLzl : Hid (zl.length = 4) := Lib.hid (by rw [hzl]; rfl)
  have HS0 := Lib.hid (Blk.three w (arr .u64 xs) (arr .u64 ys) (arr .u64 zl) 49 49 49)
  clear hzl hx hy hcc
  go_enter Try.func46, Try.ntmps46
  go_upto_region 1 with (first | ((with_reducible show wpList _ _ _ (Oper.mk (some 4) _ _ _ _ _ :: _) _ _); refine wpList_alloc_row rfl 49 rfl _ (HZzl.out _) ?_))
  (try simp only [World.size_alloc, Act.put, List.setIfInBounds_toArray, List.set_cons_zero, List.set_cons_succ])
  generalize (((w.alloc (.cells (arr .u64 xs) 49)).alloc (.cells (arr .u64 ys) 49)).alloc (.cells (arr .u64 zl) 49)) = wb at HS0 ⊢
  go_upto_region 2 with (first | ((with_reducible show wpList _ _ _ (Oper.mk (some 8) _ _ _ _ _ :: _) _ _); refine wpList_load_part rfl 49 _ rfl (w.heap.size) (0) _ 49 (0, 0) _ (HS0.out.get 0 rfl) rfl .u64 xs (arr_part _ _) Try.underlying49 rfl (lim_i HXL.out) ?_) | ((with_reducible show wpList _ _ _ (Oper.mk (some 9) _ _ _ _ _ :: _) _ _); refine wpList_load_part rfl 49 _ rfl (w.heap.size + 1) (0) _ 49 (0, 0) _ (HS0.out.get 1 rfl) rfl .u64 ys (arr_part _ _) Try.underlying49 rfl (lim_i HYL.out) ?_) | ((with_reducible show Calls _ 41 #[.agg _, .agg _] _ _); go_at_call 41; refine (ladd4 _ _ _ HX.out HY.out).mono ?_; rintro e w501 ⟨z501, rfl, h501, hb501⟩; have HZ501 := Lib.hid h501; have HL501 := Lib.hid h501.len; clear h501; have HB501 := Lib.hid (HS0.out.kept hb501); clear hb501) | ((with_reducible show wpList _ _ _ (Oper.mk (some 5) _ _ _ _ _ :: _) _ _); refine wpList_alloc_row rfl 49 rfl _ (HZzl.out _) ?_; have HB502 := Lib.hid (HB501.out.alloc (arr .u64 zl) 49); generalize w501.heap.size = g502 at HB502 ⊢; generalize w501.alloc (.cells (arr .u64 zl) 49) = w502 at HB502 ⊢; clear HB501) | ((with_reducible show wpList _ _ _ (Oper.mk none (Op.store _ (Operand.tmp 5) (Operand.tmp 11)) _ _ _ _ :: _) _ _); refine wpList_store_whole rfl 49 _ _ rfl (g502) _ _ 49 (HB502.out.get 3 rfl) rfl rfl (arr_len2 _ _ HL501.out HLzl.out) (lim_s HL501.out) (all_arr _ _) ?_; intro w503 hb503 hk503 hz503; have HB503 := Lib.hid (HB502.out.put 3 rfl hk503 hb503); clear hb503 hk503 hz503; clear HB502))
  rw [← HCC.out]
  go_wp2_with (first | ((with_reducible show wpList _ _ _ (Oper.mk (some 13) _ _ _ _ _ :: _) _ _); refine wpList_load_part rfl 49 _ rfl (g502) (0) _ 49 (0, 0) _ (HB503.out.get 3 rfl) rfl .u64 z501 (arr_part _ _) Try.underlying49 rfl (lim_i HL501.out) ?_) | ((with_reducible show Calls _ 62 #[.agg _, _] _ _); go_at_call 62; refine (fold_any _ c _ HZ501.out hc).mono ?_; rintro e w504 ⟨z504, rfl, h504, hb504⟩; have HZ504 := Lib.hid h504; have HL504 := Lib.hid h504.len; clear h504; have HB504 := Lib.hid (HB503.out.kept hb504); clear hb504; clear HB503) | ((with_reducible show wpList _ _ _ (Oper.mk none (Op.store _ (Operand.tmp 4) (Operand.tmp 15)) _ _ _ _ :: _) _ _); refine wpList_store_whole rfl 49 _ _ rfl (w.heap.size + 1 + 1) _ _ 49 (HB504.out.get 2 rfl) rfl rfl (arr_len2 _ _ HL504.out HLzl.out) (lim_s HL504.out) (all_arr _ _) ?_; intro w505 hb505 hk505 hz505; have HB505 := Lib.hid (HB504.out.put 2 rfl hk505 hb505); clear hb505 hk505 hz505; clear HB504))
  (try simp only [Exit.then])
  refine bodyPost_ret (results_cell_row rfl _ _ (w.heap.size + 1 + 1) 49 _ (0, 0) _ rfl (HB505.out.get 2 rfl) Try.underlying49 rfl (lim_s HL504.out)) rfl ?_
  exact ⟨_, rfl, HZ504.out.cast HPE.out, HB505.out.below⟩

set_option maxRecDepth 100000 in
set_option maxHeartbeats 4000000 in
theorem minus_any {xs ys : List Int} (a b : Nat) (w : World) (hx : N4 xs a) (hy : N4 ys b) (ha : a < p) (hb : b < p) : Calls Try.prog 45 #[.agg (arr .u64 xs), .agg (arr .u64 ys)] w fun e w' => ∃ zs, e = .returned (.agg (arr .u64 zs)) ∧ N4 zs (fsub a b) ∧ Below w.heap.size w w' := by
  have hme := minus_eq a b ha hb
  have HME := Lib.hid hme
  have HPR := Lib.hid prime_any
  have HX := Lib.hid hx
  have HY := Lib.hid hy
  have HXL := Lib.hid hx.len
  have HYL := Lib.hid hy.len
  obtain ⟨zl, hzl⟩ : ∃ zs : List Int, zs = List.replicate 4 0 := ⟨_, rfl⟩
  have HZzl : Hid (∀ w, (zeroValue 49).run Try.prog w = .ok (.agg (arr .u64 zl)) w) := Lib.hid (by intro w; rw [hzl]; exact zero_lim w)
  have HLzl : Hid (zl.length = 4) := Lib.hid (by rw [hzl]; rfl)
  have HS0 := Lib.hid (Blk.three w (arr .u64 xs) (arr .u64 ys) (arr .u64 zl) 49 49 49)
  clear hzl hx hy hme
  go_enter Try.func45, Try.ntmps45
  go_upto_region 1 with (first | ((with_reducible show wpList _ _ _ (Oper.mk (some 4) _ _ _ _ _ :: _) _ _); refine wpList_alloc_row rfl 49 rfl _ (HZzl.out _) ?_))
  (try simp only [World.size_alloc, Act.put, List.setIfInBounds_toArray, List.set_cons_zero, List.set_cons_succ])
  generalize (((w.alloc (.cells (arr .u64 xs) 49)).alloc (.cells (arr .u64 ys) 49)).alloc (.cells (arr .u64 zl) 49)) = wb at HS0 ⊢
  go_upto_region 2 with (first | ((with_reducible show wpList _ _ _ (Oper.mk (some 8) _ _ _ _ _ :: _) _ _); refine wpList_load_part rfl 49 _ rfl (w.heap.size) (0) _ 49 (0, 0) _ (HS0.out.get 0 rfl) rfl .u64 xs (arr_part _ _) Try.underlying49 rfl (lim_i HXL.out) ?_) | ((with_reducible show wpList _ _ _ (Oper.mk (some 9) _ _ _ _ _ :: _) _ _); refine wpList_load_part rfl 49 _ rfl (w.heap.size + 1) (0) _ 49 (0, 0) _ (HS0.out.get 1 rfl) rfl .u64 ys (arr_part _ _) Try.underlying49 rfl (lim_i HYL.out) ?_) | ((with_reducible show Calls _ 64 #[.agg _, .agg _] _ _); go_at_call 64; refine (lsub4 _ _ _ HX.out HY.out).mono ?_; rintro e w506 ⟨z506, rfl, h506, hb506⟩; have HZ506 := Lib.hid h506; have HL506 := Lib.hid h506.len; clear h506; have HB506 := Lib.hid (HS0.out.kept hb506); clear hb506) | ((with_reducible show wpList _ _ _ (Oper.mk (some 5) _ _ _ _ _ :: _) _ _); refine wpList_alloc_row rfl 49 rfl _ (HZzl.out _) ?_; have HB507 := Lib.hid (HB506.out.alloc (arr .u64 zl) 49); generalize w506.heap.size = g507 at HB507 ⊢; generalize w506.alloc (.cells (arr .u64 zl) 49) = w507 at HB507 ⊢; clear HB506) | ((with_reducible show wpList _ _ _ (Oper.mk none (Op.store _ (Operand.tmp 5) (Operand.tmp 11)) _ _ _ _ :: _) _ _); refine wpList_store_whole rfl 49 _ _ rfl (g507) _ _ 49 (HB507.out.get 3 rfl) rfl rfl (arr_len2 _ _ HL506.out HLzl.out) (lim_s HL506.out) (all_arr _ _) ?_; intro w508 hb508 hk508 hz508; have HB508 := Lib.hid (HB507.out.put 3 rfl hk508 hb508); clear hb508 hk508 hz508; clear HB507))
  by_cases hlt : a < b
  · rw [brw_yes hlt]
    have hm := HME.out
    rw [if_pos hlt] at hm
    have HM := Lib.hid hm
    have hbv : (((1 : Nat) : Int) != 0) = true := rfl
    clear hm hlt
    go_upto_region 3 with fail
    have HK0 := Lib.hid ((Kept.refl (fun x => x = g507) w508).drew)
    have HBd := Lib.hid (HB508.out.drew)
    refine wp_region_held_drew (S := (fun w' => Kept (fun x => x = g507) w508 w')) (by kernel_rfl) (HK0.out) (fun hHeld => ?_)
    generalize w508.drew = wd at HK0 HBd hHeld ⊢
    refine wpAnyH_ready (rs := [0, 1]) (by kernel_rfl) (by simp) ?_
    refine AllReadyH.cons (o := ({ dst := some 16, op := Op.load 49 (Operand.tmp 5), type := 49, pos := "field.go:48", after := #[], guard := none } : Oper)) rfl (fun K hK => ?_) ?_
    · refine step_load_part rfl 49 _ rfl (g507) (0) _ 49 (0, 0) _ (HBd.out.get 3 rfl) rfl .u64 z506 (arr_part _ _) Try.underlying49 rfl (lim_i HL506.out) ?_
      clear hHeld
      refine hK.out _ _ (HK0.out) (fun hHeld => ?_)
      clear hK K
      (try simp only [Act.put, List.setIfInBounds_toArray, List.set_cons_zero, List.set_cons_succ])
      refine wpAnyH_ready (rs := [1]) (by kernel_rfl) (by simp) ?_
      refine AllReadyH.cons (o := ({ dst := some 17, op := Op.call { callee := Callee.value (Operand.func 63), args := #[], argTypes := #[] }, type := 49, pos := "field.go:48", after := #[], guard := none } : Oper)) rfl (fun K hK => ?_) AllReadyH.nil
      go_simp
      go_at_call 63
      refine (HPR.out _).mono ?_
      rintro e w510 ⟨z510, rfl, h510, hb510⟩
      have HZ510 := Lib.hid h510
      have HL510 := Lib.hid h510.len
      clear h510
      have HB510 := Lib.hid (HBd.out.kept hb510)
      have HK510 := Lib.hid (HK0.out.trans (Kept.of_below hb510))
      clear hb510
      (try dsimp only)
      clear HBd
      clear HK0
      clear hHeld
      refine hK.out _ _ (HK510.out) (fun hHeld => ?_)
      clear hK K
      (try simp only [Act.put, List.setIfInBounds_toArray, List.set_cons_zero, List.set_cons_succ])
      refine wpAnyH_ready (rs := [2]) (by kernel_rfl) (by simp) ?_
      refine AllReadyH.cons (o := ({ dst := some 18, op := Op.call { callee := Callee.value (Operand.func 41), args := #[Operand.tmp 16, Operand.tmp 17], argTypes := #[49, 49] }, type := 70, pos := "field.go:48", after := #[{ on := 0, ground := Ground.data }, { on := 1, ground := Ground.data }, { on := 1, ground := Ground.chain }], guard := none } : Oper)) rfl (fun K hK => ?_) AllReadyH.nil
      go_simp
      go_at_call 41
      refine (ladd4 _ _ _ HZ506.out HZ510.out).mono ?_
      rintro e w511 ⟨z511, rfl, h511, hb511⟩
      have HZ511 := Lib.hid h511
      have HL511 := Lib.hid h511.len
      clear h511
      have HB511 := Lib.hid (HB510.out.kept hb511)
      have HK511 := Lib.hid (HK510.out.trans (Kept.of_below hb511))
      clear hb511
      (try dsimp only)
      clear HB510
      clear HK510
      clear hHeld
      refine hK.out _ _ (HK511.out) (fun hHeld => ?_)
      clear hK K
      (try simp only [Act.put, List.setIfInBounds_toArray, List.set_cons_zero, List.set_cons_succ])
      refine wpAnyH_take (i := 3) (oi := ({ dst := some 15, op := Op.move (Operand.tmp 18), type := 70, pos := "field.go:48", after := #[{ on := 2, ground := Ground.data }], guard := none } : Oper)) (v := ?v512) rfl (by kernel_rfl) (by kernel_rfl) (by kernel_rfl) (fun _ _ _ h => h) (Or.inl ⟨by rfl, ?hy512⟩) (by assumption) ?rest512
      case hy512 => (intro w hSw; (try dsimp only at hSw); go_simp; try (with_reducible rfl))
      (try simp only [Act.put, List.setIfInBounds_toArray, List.set_cons_zero, List.set_cons_succ])
      refine wpAnyH_take (i := 4) (oi := ({ dst := some 19, op := Op.extract (Operand.tmp 15) 0, type := 49, pos := "field.go:48", after := #[{ on := 3, ground := Ground.data }], guard := none } : Oper)) (v := ?v513) rfl (by kernel_rfl) (by kernel_rfl) (by kernel_rfl) (fun _ _ _ h => h) (Or.inl ⟨by rfl, ?hy513⟩) (by assumption) ?rest513
      case hy513 => (intro w hSw; (try dsimp only at hSw); go_simp; try (with_reducible rfl))
      (try simp only [Act.put, List.setIfInBounds_toArray, List.set_cons_zero, List.set_cons_succ])
      refine wpAnyH_take (i := 5) (oi := ({ dst := some 20, op := Op.extract (Operand.tmp 15) 1, type := 47, pos := "field.go:48", after := #[{ on := 3, ground := Ground.data }, { on := 6, ground := Ground.gcOnly Departure.lateStores }], guard := none } : Oper)) (v := ?v514) rfl (by kernel_rfl) (by kernel_rfl) (by kernel_rfl) (fun _ _ _ h => h) (Or.inl ⟨by rfl, ?hy514⟩) (by assumption) ?rest514
      case hy514 => (intro w hSw; (try dsimp only at hSw); go_simp; try (with_reducible rfl))
      (try simp only [Act.put, List.setIfInBounds_toArray, List.set_cons_zero, List.set_cons_succ])
      refine wpAnyH_ready (rs := [6]) (by kernel_rfl) (by simp) ?_
      refine AllReadyH.cons (o := ({ dst := none, op := Op.store 49 (Operand.tmp 5) (Operand.tmp 19), type := 0, pos := "field.go:48", after := #[{ on := 4, ground := Ground.data }, { on := 2, ground := Ground.chain }, { on := 0, ground := Ground.phase }, { on := 1, ground := Ground.phase }, { on := 2, ground := Ground.phase }, { on := 3, ground := Ground.phase }, { on := 4, ground := Ground.phase }, { on := 5, ground := Ground.textOnly Departure.lateStores }], guard := none } : Oper)) rfl (fun K hK => ?_) AllReadyH.nil
      refine step_store_whole rfl 49 (.tmp 5) (.tmp 19) rfl (g507) _ _ _ (HB511.out.get 3 rfl) rfl rfl (arr_len2 _ _ HL511.out HL506.out) (lim_s HL511.out) (all_arr _ _) ?_
      intro w515 hb515 hk515 hz515
      have HB515 := Lib.hid (HB511.out.put 3 rfl hk515 hb515)
      have HK515 := Lib.hid (HK511.out.trans hk515)
      clear hb515 hk515 hz515
      clear HB511
      clear HK511
      clear hHeld
      refine hK.out _ _ (HK515.out) (fun hHeld => ?_)
      clear hK K
      (try simp only [Act.put])
      refine wpAnyH_done (by kernel_rfl) ?_ _
      (try simp only [Exit.then])
      go_wp2_with (first | ((with_reducible show wpList _ _ _ (Oper.mk (some 21) _ _ _ _ _ :: _) _ _); refine wpList_load_part rfl 49 _ rfl (g507) 0 _ 49 (0, 0) _ (HB515.out.get 3 rfl) rfl .u64 z511 (arr_part _ _) Try.underlying49 rfl (lim_i HL511.out) ?_) | ((with_reducible show wpList _ _ _ (Oper.mk none (Op.store _ (Operand.tmp 4) _) _ _ _ _ :: _) _ _); refine wpList_store_whole rfl 49 _ _ rfl (w.heap.size + 1 + 1) _ _ 49 (HB515.out.get 2 rfl) rfl rfl (arr_len2 _ _ HL511.out HLzl.out) (lim_s HL511.out) (all_arr _ _) ?_; intro w9 hb9 hk9 hz9; have HBq := Lib.hid (HB515.out.put 2 rfl hk9 hb9); clear hb9 hk9 hz9))
      (try simp only [Exit.then])
      refine bodyPost_ret (results_cell_row rfl _ _ (w.heap.size + 1 + 1) 49 _ (0, 0) _ rfl (HBq.out.get 2 rfl) Try.underlying49 rfl (lim_s HL511.out)) rfl ?_
      exact ⟨_, rfl, HZ511.out.cast HM.out, HBq.out.below⟩
    refine AllReadyH.cons (o := ({ dst := some 17, op := Op.call { callee := Callee.value (Operand.func 63), args := #[], argTypes := #[] }, type := 49, pos := "field.go:48", after := #[], guard := none } : Oper)) rfl (fun K hK => ?_) ?_
    · go_simp
      go_at_call 63
      refine (HPR.out _).mono ?_
      rintro e w516 ⟨z516, rfl, h516, hb516⟩
      have HZ516 := Lib.hid h516
      have HL516 := Lib.hid h516.len
      clear h516
      have HB516 := Lib.hid (HBd.out.kept hb516)
      have HK516 := Lib.hid (HK0.out.trans (Kept.of_below hb516))
      clear hb516
      (try dsimp only)
      clear HBd
      clear HK0
      clear hHeld
      refine hK.out _ _ (HK516.out) (fun hHeld => ?_)
      clear hK K
      (try simp only [Act.put, List.setIfInBounds_toArray, List.set_cons_zero, List.set_cons_succ])
      refine wpAnyH_ready (rs := [0]) (by kernel_rfl) (by simp) ?_
      refine AllReadyH.cons (o := ({ dst := some 16, op := Op.load 49 (Operand.tmp 5), type := 49, pos := "field.go:48", after := #[], guard := none } : Oper)) rfl (fun K hK => ?_) AllReadyH.nil
      refine step_load_part rfl 49 _ rfl (g507) (0) _ 49 (0, 0) _ (HB516.out.get 3 rfl) rfl .u64 z506 (arr_part _ _) Try.underlying49 rfl (lim_i HL506.out) ?_
      clear hHeld
      refine hK.out _ _ (HK516.out) (fun hHeld => ?_)
      clear hK K
      (try simp only [Act.put, List.setIfInBounds_toArray, List.set_cons_zero, List.set_cons_succ])
      refine wpAnyH_ready (rs := [2]) (by kernel_rfl) (by simp) ?_
      refine AllReadyH.cons (o := ({ dst := some 18, op := Op.call { callee := Callee.value (Operand.func 41), args := #[Operand.tmp 16, Operand.tmp 17], argTypes := #[49, 49] }, type := 70, pos := "field.go:48", after := #[{ on := 0, ground := Ground.data }, { on := 1, ground := Ground.data }, { on := 1, ground := Ground.chain }], guard := none } : Oper)) rfl (fun K hK => ?_) AllReadyH.nil
      go_simp
      go_at_call 41
      refine (ladd4 _ _ _ HZ506.out HZ516.out).mono ?_
      rintro e w518 ⟨z518, rfl, h518, hb518⟩
      have HZ518 := Lib.hid h518
      have HL518 := Lib.hid h518.len
      clear h518
      have HB518 := Lib.hid (HB516.out.kept hb518)
      have HK518 := Lib.hid (HK516.out.trans (Kept.of_below hb518))
      clear hb518
      (try dsimp only)
      clear HB516
      clear HK516
      clear hHeld
      refine hK.out _ _ (HK518.out) (fun hHeld => ?_)
      clear hK K
      (try simp only [Act.put, List.setIfInBounds_toArray, List.set_cons_zero, List.set_cons_succ])
      refine wpAnyH_take (i := 3) (oi := ({ dst := some 15, op := Op.move (Operand.tmp 18), type := 70, pos := "field.go:48", after := #[{ on := 2, ground := Ground.data }], guard := none } : Oper)) (v := ?v519) rfl (by kernel_rfl) (by kernel_rfl) (by kernel_rfl) (fun _ _ _ h => h) (Or.inl ⟨by rfl, ?hy519⟩) (by assumption) ?rest519
      case hy519 => (intro w hSw; (try dsimp only at hSw); go_simp; try (with_reducible rfl))
      (try simp only [Act.put, List.setIfInBounds_toArray, List.set_cons_zero, List.set_cons_succ])
      refine wpAnyH_take (i := 4) (oi := ({ dst := some 19, op := Op.extract (Operand.tmp 15) 0, type := 49, pos := "field.go:48", after := #[{ on := 3, ground := Ground.data }], guard := none } : Oper)) (v := ?v520) rfl (by kernel_rfl) (by kernel_rfl) (by kernel_rfl) (fun _ _ _ h => h) (Or.inl ⟨by rfl, ?hy520⟩) (by assumption) ?rest520
      case hy520 => (intro w hSw; (try dsimp only at hSw); go_simp; try (with_reducible rfl))
      (try simp only [Act.put, List.setIfInBounds_toArray, List.set_cons_zero, List.set_cons_succ])
      refine wpAnyH_take (i := 5) (oi := ({ dst := some 20, op := Op.extract (Operand.tmp 15) 1, type := 47, pos := "field.go:48", after := #[{ on := 3, ground := Ground.data }, { on := 6, ground := Ground.gcOnly Departure.lateStores }], guard := none } : Oper)) (v := ?v521) rfl (by kernel_rfl) (by kernel_rfl) (by kernel_rfl) (fun _ _ _ h => h) (Or.inl ⟨by rfl, ?hy521⟩) (by assumption) ?rest521
      case hy521 => (intro w hSw; (try dsimp only at hSw); go_simp; try (with_reducible rfl))
      (try simp only [Act.put, List.setIfInBounds_toArray, List.set_cons_zero, List.set_cons_succ])
      refine wpAnyH_ready (rs := [6]) (by kernel_rfl) (by simp) ?_
      refine AllReadyH.cons (o := ({ dst := none, op := Op.store 49 (Operand.tmp 5) (Operand.tmp 19), type := 0, pos := "field.go:48", after := #[{ on := 4, ground := Ground.data }, { on := 2, ground := Ground.chain }, { on := 0, ground := Ground.phase }, { on := 1, ground := Ground.phase }, { on := 2, ground := Ground.phase }, { on := 3, ground := Ground.phase }, { on := 4, ground := Ground.phase }, { on := 5, ground := Ground.textOnly Departure.lateStores }], guard := none } : Oper)) rfl (fun K hK => ?_) AllReadyH.nil
      refine step_store_whole rfl 49 (.tmp 5) (.tmp 19) rfl (g507) _ _ _ (HB518.out.get 3 rfl) rfl rfl (arr_len2 _ _ HL518.out HL506.out) (lim_s HL518.out) (all_arr _ _) ?_
      intro w522 hb522 hk522 hz522
      have HB522 := Lib.hid (HB518.out.put 3 rfl hk522 hb522)
      have HK522 := Lib.hid (HK518.out.trans hk522)
      clear hb522 hk522 hz522
      clear HB518
      clear HK518
      clear hHeld
      refine hK.out _ _ (HK522.out) (fun hHeld => ?_)
      clear hK K
      (try simp only [Act.put])
      refine wpAnyH_done (by kernel_rfl) ?_ _
      (try simp only [Exit.then])
      go_wp2_with (first | ((with_reducible show wpList _ _ _ (Oper.mk (some 21) _ _ _ _ _ :: _) _ _); refine wpList_load_part rfl 49 _ rfl (g507) 0 _ 49 (0, 0) _ (HB522.out.get 3 rfl) rfl .u64 z518 (arr_part _ _) Try.underlying49 rfl (lim_i HL518.out) ?_) | ((with_reducible show wpList _ _ _ (Oper.mk none (Op.store _ (Operand.tmp 4) _) _ _ _ _ :: _) _ _); refine wpList_store_whole rfl 49 _ _ rfl (w.heap.size + 1 + 1) _ _ 49 (HB522.out.get 2 rfl) rfl rfl (arr_len2 _ _ HL518.out HLzl.out) (lim_s HL518.out) (all_arr _ _) ?_; intro w9 hb9 hk9 hz9; have HBq := Lib.hid (HB522.out.put 2 rfl hk9 hb9); clear hb9 hk9 hz9))
      (try simp only [Exit.then])
      refine bodyPost_ret (results_cell_row rfl _ _ (w.heap.size + 1 + 1) 49 _ (0, 0) _ rfl (HBq.out.get 2 rfl) Try.underlying49 rfl (lim_s HL518.out)) rfl ?_
      exact ⟨_, rfl, HZ518.out.cast HM.out, HBq.out.below⟩
    exact AllReadyH.nil
  · rw [brw_no hlt]
    have hm := HME.out
    rw [if_neg hlt] at hm
    have HM := Lib.hid hm
    have hbv : (((0 : Nat) : Int) != 0) = false := rfl
    clear hm hlt
    go_wp2_with (first | ((with_reducible show wpList _ _ _ (Oper.mk (some 21) _ _ _ _ _ :: _) _ _); refine wpList_load_part rfl 49 _ rfl (g507) 0 _ 49 (0, 0) _ (HB508.out.get 3 rfl) rfl .u64 z506 (arr_part _ _) Try.underlying49 rfl (lim_i HL506.out) ?_) | ((with_reducible show wpList _ _ _ (Oper.mk none (Op.store _ (Operand.tmp 4) _) _ _ _ _ :: _) _ _); refine wpList_store_whole rfl 49 _ _ rfl (w.heap.size + 1 + 1) _ _ 49 (HB508.out.get 2 rfl) rfl rfl (arr_len2 _ _ HL506.out HLzl.out) (lim_s HL506.out) (all_arr _ _) ?_; intro w9 hb9 hk9 hz9; have HBq := Lib.hid (HB508.out.put 2 rfl hk9 hb9); clear hb9 hk9 hz9))
    (try simp only [Exit.then])
    refine bodyPost_ret (results_cell_row rfl _ _ (w.heap.size + 1 + 1) 49 _ (0, 0) _ rfl (HBq.out.get 2 rfl) Try.underlying49 rfl (lim_s HL506.out)) rfl ?_
    exact ⟨_, rfl, HZ506.out.cast HM.out, HBq.out.below⟩
end Go.Proofs.Ytanjhngehfbpbaa.Fp
