/- scalar.Less, Mul: what they answer. Condition: 32 bytes each. -/
import Derived.Test.YtanjhngehfbpbaaSlA
import Derived.Test.YtanjhngehfbpbaaMa
namespace Go.Proofs.Ytanjhngehfbpbaa.Sl
open Go.RowKit Lm Fp Sc

theorem zero_num (w : World) : (zeroValue 23).run Try.prog w = .ok (.agg (arr .u8 (List.replicate 32 0))) w := by kernel_rfl
theorem size_num : (Try.prog.info? 23).map (·.size) = some 32 := by kernel_rfl
theorem num_s {xs : List Int} (h : xs.length = 32) : (Try.prog.info? 23).map (·.size) = some (arr .u8 xs).size := by rw [arr_size, h]; exact size_num
theorem num_i {xs : List Int} (h : xs.length = 32) : (Try.prog.info? 23).map (·.size) = some xs.length := by rw [h]; exact size_num
/-- The bytes ks are the number a. -/
def K32 (ks : List Int) (a : Nat) : Prop := ks = nar (dig 256 32 a) ∧ a < 256 ^ 32
theorem K32.len {ks : List Int} {a : Nat} (h : K32 ks a) : ks.length = 32 := by rw [h.1, nar_len, dig_len]
theorem K32.cast {ks : List Int} {a b : Nat} (h : K32 ks a) (e : a = b) : K32 ks b := e ▸ h
theorem pow_same : 256 ^ 32 = 18446744073709551616 ^ 4 := by decide
theorem of4 {ks : List Int} (a : Nat) (w : World) (h : K32 ks a) : Calls Try.prog 36 #[.agg (arr .u8 ks)] w fun e w' => ∃ zs, e = .returned (.agg (arr .u64 zs)) ∧ N4 zs a ∧ Below w.heap.size w w' := by
  obtain ⟨rfl, h1⟩ := h
  refine (of_any _ w (dig_len _ _ _) (dig_lt _ (by decide) _ _)).mono ?_
  rintro e w' ⟨rfl, hb⟩
  rw [val_dig, Nat.mod_eq_of_lt h1]
  exact ⟨_, rfl, n4_of a (by rw [← pow_same]; exact h1), hb⟩
theorem num4 {xs : List Int} (a : Nat) (w : World) (h : N4 xs a) : Calls Try.prog 40 #[.agg (arr .u64 xs)] w fun e w' => ∃ zs, e = .returned (.agg (arr .u8 zs)) ∧ K32 zs a ∧ Below w.heap.size w w' := by
  obtain ⟨rfl, h1⟩ := h
  refine (num_any _ w (dig_len _ _ _) (dig_lt _ (by decide) _ _)).mono ?_
  rintro e w' ⟨rfl, hb⟩
  rw [vd a h1]
  exact ⟨_, rfl, ⟨rfl, by rw [pow_same]; exact h1⟩, hb⟩

set_option maxRecDepth 100000 in
set_option maxHeartbeats 2000000 in
theorem sless_any {ks : List Int} (a : Nat) (w : World) (h : K32 ks a) : Calls Try.prog 25 #[.agg (arr .u8 ks)] w fun e w' => e = .returned (.bool (decide (a < q))) ∧ Below w.heap.size w w' := by
  have HK := Lib.hid h
  have HKL := Lib.hid h.len
  have HS0 := Lib.hid (Blk.one w (arr .u8 ks) 23)
  obtain ⟨c, hc⟩ : ∃ c, c = decide (a < q) := ⟨_, rfl⟩
  have HNL := Lib.hid (fun xs ys w h1 h2 => (by rw [hc]; exact nless_any a q w h1 h2 : Calls Try.prog 49 #[.agg (arr .u64 xs), .agg (arr .u64 ys)] w fun e w' => e = .returned (.bool c) ∧ Below w.heap.size w w'))
  rw [← hc]
  clear h hc
  go_enter Try.func25, Try.ntmps25
  go_wp2_with (first | ((with_reducible show wpList _ _ _ (Oper.mk (some 3) _ _ _ _ _ :: _) _ _); refine wpList_load_part rfl 23 _ rfl (w.heap.size) (0) _ 23 (0, 0) _ (HS0.out.get 0 rfl) rfl .u8 ks (arr_part _ _) Try.underlying23 rfl (num_i HKL.out) ?_) | ((with_reducible show Calls _ 36 #[.agg _] _ _); go_at_call 36; refine (of4 _ _ HK.out).mono ?_; rintro e w1501 ⟨z1501, rfl, h1501, hb1501⟩; have HZ1501 := Lib.hid h1501; have HL1501 := Lib.hid h1501.len; clear h1501; have HB1501 := Lib.hid (HS0.out.kept hb1501); clear hb1501) | ((with_reducible show Calls _ 50 #[] _ _); go_at_call 50; refine (order_any _).mono ?_; rintro e w1502 ⟨z1502, rfl, h1502, hb1502⟩; have HZ1502 := Lib.hid h1502; have HL1502 := Lib.hid h1502.len; clear h1502; have HB1502 := Lib.hid (HB1501.out.kept hb1502); clear hb1502; clear HB1501) | ((with_reducible show Calls _ 49 #[.agg _, .agg _] _ _); go_at_call 49; refine (HNL.out _ _ _ HZ1501.out HZ1502.out).mono ?_; rintro e w1503 ⟨rfl, hb1503⟩; have HB1503 := Lib.hid (HB1502.out.kept hb1503); clear hb1503; clear HB1502))
  (try simp only [Exit.then])
  go_ret
  exact ⟨rfl, HB1503.out.below⟩

theorem prod_lt {a b : Nat} (ha : a < 18446744073709551616 ^ 4) (hb : b < 18446744073709551616 ^ 4) : a * b < 18446744073709551616 ^ 8 := by
  rw [show 8 = 4 + 4 from rfl, Nat.pow_add]
  exact Nat.mul_lt_mul_of_lt_of_lt ha hb
set_option maxRecDepth 100000 in
set_option maxHeartbeats 4000000 in
theorem smul_any {xs ys : List Int} (a b : Nat) (w : World) (hx : K32 xs a) (hy : K32 ys b) : Calls Try.prog 23 #[.agg (arr .u8 xs), .agg (arr .u8 ys)] w fun e w' => ∃ zs, e = .returned (.agg (arr .u8 zs)) ∧ K32 zs (a * b % q) ∧ Below w.heap.size w w' := by
  have hab : a * b < 18446744073709551616 ^ 8 := prod_lt (by rw [← pow_same]; exact hx.2) (by rw [← pow_same]; exact hy.2)
  obtain ⟨ws, hws⟩ : ∃ r, r = dig 18446744073709551616 8 (a * b) := ⟨_, rfl⟩
  have WL : Hid (ws.length = 8) := Lib.hid (by rw [hws, dig_len])
  have WB : Hid (∀ x ∈ ws, x < 18446744073709551616) := Lib.hid (by rw [hws]; exact dig_lt _ (by decide) _ _)
  have WV : Hid (val 18446744073709551616 ws = a * b) := Lib.hid (by rw [hws, val_dig, Nat.mod_eq_of_lt hab])
  obtain ⟨w8, hw8⟩ : ∃ x, x = nar ws := ⟨_, rfl⟩
  have W8L : Hid (w8.length = 8) := Lib.hid (by rw [hw8, nar_len, WL.out])
  have W8G : Hid (∀ k, w8.getD k 0 = ((ws.getD k 0 : Nat) : Int)) := Lib.hid (fun k => by rw [hw8, nar_get])
  have HM : Hid (∀ (us vs : List Int) (w : World), N4 us a → N4 vs b → Calls Try.prog 43 #[.agg (arr .u64 us), .agg (arr .u64 vs)] w fun e w' => e = .returned (.agg (arr .u64 w8)) ∧ Below w.heap.size w w') := Lib.hid (by
    rintro us vs w ⟨rfl, h1⟩ ⟨rfl, h2⟩
    have hm := lmul_any (dig 18446744073709551616 4 a) (dig 18446744073709551616 4 b) w (dig_len _ _ _) (dig_len _ _ _) (dig_lt _ (by decide) _ _) (dig_lt _ (by decide) _ _)
    rw [vd a h1, vd b h2, ← hws, ← hw8] at hm
    exact hm)
  have HX := Lib.hid hx
  have HY := Lib.hid hy
  have HXL := Lib.hid hx.len
  have HYL := Lib.hid hy.len
  obtain ⟨zn, hzn⟩ : ∃ zs : List Int, zs = List.replicate 32 0 := ⟨_, rfl⟩
  have HZzn : Hid (∀ w, (zeroValue 23).run Try.prog w = .ok (.agg (arr .u8 zn)) w) := Lib.hid (by intro w; rw [hzn]; exact zero_num w)
  have HLzn : Hid (zn.length = 32) := Lib.hid (by rw [hzn]; rfl)
  obtain ⟨z8, hz8⟩ : ∃ zs : List Int, zs = List.replicate 8 0 := ⟨_, rfl⟩
  have HZz8 : Hid (∀ w, (zeroValue 74).run Try.prog w = .ok (.agg (arr .u64 z8)) w) := Lib.hid (by intro w; rw [hz8]; exact Lm.zero8 w)
  have HLz8 : Hid (z8.length = 8) := Lib.hid (by rw [hz8]; rfl)
  have HS0 := Lib.hid (Blk.three w (arr .u8 xs) (arr .u8 ys) (arr .u8 zn) 23 23 23)
  clear hzn hz8 hx hy hab hws hw8
  go_enter Try.func23, Try.ntmps23
  go_upto_region 1 with (first | ((with_reducible show wpList _ _ _ (Oper.mk (some 4) _ _ _ _ _ :: _) _ _); refine wpList_alloc_row rfl 23 rfl _ (HZzn.out _) ?_))
  (try simp only [World.size_alloc, Act.put, List.setIfInBounds_toArray, List.set_cons_zero, List.set_cons_succ])
  generalize (((w.alloc (.cells (arr .u8 xs) 23)).alloc (.cells (arr .u8 ys) 23)).alloc (.cells (arr .u8 zn) 23)) = wb at HS0 ⊢
  go_cut [5] (fun u5 wx => ∃ gg, u5 = .pointer (some ⟨gg, 0, none⟩) ∧ Blk w wx [(w.heap.size, arr .u8 xs, 23), (w.heap.size + 1, arr .u8 ys, 23), (w.heap.size + 1 + 1, arr .u8 zn, 23), (gg, arr .u64 w8, 74)])
  case first =>
    have HK0 := Lib.hid ((Kept.refl (fun _ => False) wb).drew)
    have HBd := Lib.hid (HS0.out.drew)
    refine wp_region_held_drew (S := (fun w' => Kept (fun _ => False) wb w')) (by kernel_rfl) (HK0.out) (fun hHeld => ?_)
    generalize wb.drew = wd at HK0 HBd hHeld ⊢
    refine' wpAnyH_take (i := 0) (oi := ({ dst := some 6, op := Op.load 23 (Operand.tmp 2), type := 23, pos := "scalar.go:49", after := #[], guard := none } : Oper)) (v := _) rfl (by kernel_rfl) (by kernel_rfl) (by kernel_rfl) (fun _ _ _ h => h) (yieldsIf_load_mid (by rfl) _ _ rfl _ _ rfl (xs.map (Value.int .u8)) _ ?hS1504 Try.underlying23 rfl (by rw [List.length_map]; exact num_i HXL.out)) (by assumption) ?rest1504
    case hS1504 => (intro w hSw; (try dsimp only at hSw); exact range_part (hSw.blk (HS0.out.get 0 rfl) (fun e => e.elim)) 0 _ (by rw [List.length_map]; exact arr_part _ _))
    (try simp only [Act.put, List.setIfInBounds_toArray, List.set_cons_zero, List.set_cons_succ])
    refine' wpAnyH_take (i := 2) (oi := ({ dst := some 8, op := Op.load 23 (Operand.tmp 3), type := 23, pos := "scalar.go:49", after := #[], guard := none } : Oper)) (v := _) rfl (by kernel_rfl) (by kernel_rfl) (by kernel_rfl) (fun _ _ _ h => h) (yieldsIf_load_mid (by rfl) _ _ rfl _ _ rfl (ys.map (Value.int .u8)) _ ?hS1505 Try.underlying23 rfl (by rw [List.length_map]; exact num_i HYL.out)) (by assumption) ?rest1505
    case hS1505 => (intro w hSw; (try dsimp only at hSw); exact range_part (hSw.blk (HS0.out.get 1 rfl) (fun e => e.elim)) 0 _ (by rw [List.length_map]; exact arr_part _ _))
    (try simp only [Act.put, List.setIfInBounds_toArray, List.set_cons_zero, List.set_cons_succ])
    refine wpAnyH_ready (rs := [1, 5]) (by kernel_rfl) (by simp) ?_
    refine AllReadyH.cons (o := ({ dst := some 7, op := Op.call { callee := Callee.value (Operand.func 36), args := #[Operand.tmp 6], argTypes := #[23] }, type := 49, pos := "scalar.go:49", after := #[{ on := 0, ground := Ground.data }], guard := none } : Oper)) rfl (fun K hK => ?_) ?_
    · go_simp
      go_at_call 36
      refine (of4 _ _ HX.out).mono ?_
      rintro e w1506 ⟨z1506, rfl, h1506, hb1506⟩
      have HZ1506 := Lib.hid h1506
      have HL1506 := Lib.hid h1506.len
      clear h1506
      have HB1506 := Lib.hid (HBd.out.kept hb1506)
      have HK1506 := Lib.hid (HK0.out.trans (Kept.of_below hb1506))
      clear hb1506
      (try dsimp only)
      clear HBd
      clear HK0
      clear hHeld
      refine hK.out _ _ (HK1506.out) (fun hHeld => ?_)
      clear hK K
      (try simp only [Act.put, List.setIfInBounds_toArray, List.set_cons_zero, List.set_cons_succ])
      refine wpAnyH_ready (rs := [3, 5]) (by kernel_rfl) (by simp) ?_
      refine AllReadyH.cons (o := ({ dst := some 9, op := Op.call { callee := Callee.value (Operand.func 36), args := #[Operand.tmp 8], argTypes := #[23] }, type := 49, pos := "scalar.go:49", after := #[{ on := 2, ground := Ground.data }, { on := 1, ground := Ground.chain }], guard := none } : Oper)) rfl (fun K hK => ?_) ?_
      · go_simp
        go_at_call 36
        refine (of4 _ _ HY.out).mono ?_
        rintro e w1507 ⟨z1507, rfl, h1507, hb1507⟩
        have HZ1507 := Lib.hid h1507
        have HL1507 := Lib.hid h1507.len
        clear h1507
        have HB1507 := Lib.hid (HB1506.out.kept hb1507)
        have HK1507 := Lib.hid (HK1506.out.trans (Kept.of_below hb1507))
        clear hb1507
        (try dsimp only)
        clear HB1506
        clear HK1506
        clear hHeld
        refine hK.out _ _ (HK1507.out) (fun hHeld => ?_)
        clear hK K
        (try simp only [Act.put, List.setIfInBounds_toArray, List.set_cons_zero, List.set_cons_succ])
        refine wpAnyH_ready (rs := [4, 5]) (by kernel_rfl) (by simp) ?_
        refine AllReadyH.cons (o := ({ dst := some 10, op := Op.call { callee := Callee.value (Operand.func 43), args := #[Operand.tmp 7, Operand.tmp 9], argTypes := #[49, 49] }, type := 74, pos := "scalar.go:49", after := #[{ on := 1, ground := Ground.data }, { on := 3, ground := Ground.data }, { on := 3, ground := Ground.chain }], guard := none } : Oper)) rfl (fun K hK => ?_) ?_
        · go_simp
          go_at_call 43
          refine (HM.out _ _ _ HZ1506.out HZ1507.out).mono ?_
          rintro e w1508 ⟨rfl, hb1508⟩
          have HB1508 := Lib.hid (HB1507.out.kept hb1508)
          have HK1508 := Lib.hid (HK1507.out.trans (Kept.of_below hb1508))
          clear hb1508
          (try dsimp only)
          clear HB1507
          clear HK1507
          clear hHeld
          refine hK.out _ _ (HK1508.out) (fun hHeld => ?_)
          clear hK K
          (try simp only [Act.put, List.setIfInBounds_toArray, List.set_cons_zero, List.set_cons_succ])
          refine wpAnyH_ready (rs := [5]) (by kernel_rfl) (by simp) ?_
          refine AllReadyH.cons (o := ({ dst := some 5, op := Op.alloc 74, type := 0, pos := "scalar.go:49", after := #[], guard := none } : Oper)) rfl (fun K hK => ?_) AllReadyH.nil
          refine step_alloc_row rfl 74 rfl _ (HZz8.out _) ?_
          have HB1509 := Lib.hid (HB1508.out.alloc (arr .u64 z8) 74)
          have HK1509 := Lib.hid (HK1508.out.alloc (.cells (arr .u64 z8) 74))
          have HN1509 := Lib.hid (show wb.heap.size ≤ (w1508).heap.size from HK1508.out.size)
          generalize (w1508).heap.size = g1509 at HB1509 HN1509 ⊢
          generalize (w1508).alloc (.cells (arr .u64 z8) 74) = w1509 at HB1509 HK1509 ⊢
          clear HB1508
          clear HK1508
          clear hHeld
          refine hK.out _ _ (HK1509.out) (fun hHeld => ?_)
          clear hK K
          (try simp only [Act.put, List.setIfInBounds_toArray, List.set_cons_zero, List.set_cons_succ])
          refine wpAnyH_ready (rs := [6]) (by kernel_rfl) (by simp) ?_
          refine AllReadyH.cons (o := ({ dst := none, op := Op.store 74 (Operand.tmp 5) (Operand.tmp 10), type := 0, pos := "scalar.go:49", after := #[{ on := 5, ground := Ground.data }, { on := 4, ground := Ground.data }, { on := 4, ground := Ground.chain }, { on := 0, ground := Ground.phase }, { on := 1, ground := Ground.phase }, { on := 2, ground := Ground.phase }, { on := 3, ground := Ground.phase }, { on := 4, ground := Ground.phase }, { on := 5, ground := Ground.phase }], guard := none } : Oper)) rfl (fun K hK => ?_) AllReadyH.nil
          refine step_store_whole rfl 74 (.tmp 5) (.tmp 10) rfl (g1509) _ _ _ (HB1509.out.get 3 rfl) rfl rfl (arr_len2 _ _ W8L.out HLz8.out) (t8_s W8L.out) (all_arr _ _) ?_
          intro w1510 hb1510 hk1510 hz1510
          have HB1510 := Lib.hid (HB1509.out.put 3 rfl hk1510 hb1510)
          have HK1510 := Lib.hid (HK1509.out.trans_new hk1510 (fun i hi e => absurd hi (by rw [e]; exact Nat.not_lt.2 HN1509.out)))
          clear hb1510 hk1510 hz1510
          clear HB1509
          clear HK1509
          clear hHeld
          refine hK.out _ _ (HK1510.out) (fun hHeld => ?_)
          clear hK K
          (try simp only [Act.put])
          refine wpAnyH_done (by kernel_rfl) ?_ _
          go_wp2_with fail
          go_meet
          exact ⟨_, rfl, HB1510.out⟩
        refine AllReadyH.cons (o := ({ dst := some 5, op := Op.alloc 74, type := 0, pos := "scalar.go:49", after := #[], guard := none } : Oper)) rfl (fun K hK => ?_) ?_
        · refine step_alloc_row rfl 74 rfl _ (HZz8.out _) ?_
          have HB1511 := Lib.hid (HB1507.out.alloc (arr .u64 z8) 74)
          have HK1511 := Lib.hid (HK1507.out.alloc (.cells (arr .u64 z8) 74))
          have HN1511 := Lib.hid (show wb.heap.size ≤ (w1507).heap.size from HK1507.out.size)
          generalize (w1507).heap.size = g1511 at HB1511 HN1511 ⊢
          generalize (w1507).alloc (.cells (arr .u64 z8) 74) = w1511 at HB1511 HK1511 ⊢
          clear HB1507
          clear HK1507
          clear hHeld
          refine hK.out _ _ (HK1511.out) (fun hHeld => ?_)
          clear hK K
          (try simp only [Act.put, List.setIfInBounds_toArray, List.set_cons_zero, List.set_cons_succ])
          refine wpAnyH_ready (rs := [4]) (by kernel_rfl) (by simp) ?_
          refine AllReadyH.cons (o := ({ dst := some 10, op := Op.call { callee := Callee.value (Operand.func 43), args := #[Operand.tmp 7, Operand.tmp 9], argTypes := #[49, 49] }, type := 74, pos := "scalar.go:49", after := #[{ on := 1, ground := Ground.data }, { on := 3, ground := Ground.data }, { on := 3, ground := Ground.chain }], guard := none } : Oper)) rfl (fun K hK => ?_) AllReadyH.nil
          go_simp
          go_at_call 43
          refine (HM.out _ _ _ HZ1506.out HZ1507.out).mono ?_
          rintro e w1512 ⟨rfl, hb1512⟩
          have HB1512 := Lib.hid (HB1511.out.kept hb1512)
          have HK1512 := Lib.hid (HK1511.out.trans (Kept.of_below hb1512))
          clear hb1512
          (try dsimp only)
          clear HB1511
          clear HK1511
          clear hHeld
          refine hK.out _ _ (HK1512.out) (fun hHeld => ?_)
          clear hK K
          (try simp only [Act.put, List.setIfInBounds_toArray, List.set_cons_zero, List.set_cons_succ])
          refine wpAnyH_ready (rs := [6]) (by kernel_rfl) (by simp) ?_
          refine AllReadyH.cons (o := ({ dst := none, op := Op.store 74 (Operand.tmp 5) (Operand.tmp 10), type := 0, pos := "scalar.go:49", after := #[{ on := 5, ground := Ground.data }, { on := 4, ground := Ground.data }, { on := 4, ground := Ground.chain }, { on := 0, ground := Ground.phase }, { on := 1, ground := Ground.phase }, { on := 2, ground := Ground.phase }, { on := 3, ground := Ground.phase }, { on := 4, ground := Ground.phase }, { on := 5, ground := Ground.phase }], guard := none } : Oper)) rfl (fun K hK => ?_) AllReadyH.nil
          refine step_store_whole rfl 74 (.tmp 5) (.tmp 10) rfl (g1511) _ _ _ (HB1512.out.get 3 rfl) rfl rfl (arr_len2 _ _ W8L.out HLz8.out) (t8_s W8L.out) (all_arr _ _) ?_
          intro w1513 hb1513 hk1513 hz1513
          have HB1513 := Lib.hid (HB1512.out.put 3 rfl hk1513 hb1513)
          have HK1513 := Lib.hid (HK1512.out.trans_new hk1513 (fun i hi e => absurd hi (by rw [e]; exact Nat.not_lt.2 HN1511.out)))
          clear hb1513 hk1513 hz1513
          clear HB1512
          clear HK1512
          clear hHeld
          refine hK.out _ _ (HK1513.out) (fun hHeld => ?_)
          clear hK K
          (try simp only [Act.put])
          refine wpAnyH_done (by kernel_rfl) ?_ _
          go_wp2_with fail
          go_meet
          exact ⟨_, rfl, HB1513.out⟩
        exact AllReadyH.nil
      refine AllReadyH.cons (o := ({ dst := some 5, op := Op.alloc 74, type := 0, pos := "scalar.go:49", after := #[], guard := none } : Oper)) rfl (fun K hK => ?_) ?_
      · refine step_alloc_row rfl 74 rfl _ (HZz8.out _) ?_
        have HB1514 := Lib.hid (HB1506.out.alloc (arr .u64 z8) 74)
        have HK1514 := Lib.hid (HK1506.out.alloc (.cells (arr .u64 z8) 74))
        have HN1514 := Lib.hid (show wb.heap.size ≤ (w1506).heap.size from HK1506.out.size)
        generalize (w1506).heap.size = g1514 at HB1514 HN1514 ⊢
        generalize (w1506).alloc (.cells (arr .u64 z8) 74) = w1514 at HB1514 HK1514 ⊢
        clear HB1506
        clear HK1506
        clear hHeld
        refine hK.out _ _ (HK1514.out) (fun hHeld => ?_)
        clear hK K
        (try simp only [Act.put, List.setIfInBounds_toArray, List.set_cons_zero, List.set_cons_succ])
        refine wpAnyH_ready (rs := [3]) (by kernel_rfl) (by simp) ?_
        refine AllReadyH.cons (o := ({ dst := some 9, op := Op.call { callee := Callee.value (Operand.func 36), args := #[Operand.tmp 8], argTypes := #[23] }, type := 49, pos := "scalar.go:49", after := #[{ on := 2, ground := Ground.data }, { on := 1, ground := Ground.chain }], guard := none } : Oper)) rfl (fun K hK => ?_) AllReadyH.nil
        go_simp
        go_at_call 36
        refine (of4 _ _ HY.out).mono ?_
        rintro e w1515 ⟨z1515, rfl, h1515, hb1515⟩
        have HZ1515 := Lib.hid h1515
        have HL1515 := Lib.hid h1515.len
        clear h1515
        have HB1515 := Lib.hid (HB1514.out.kept hb1515)
        have HK1515 := Lib.hid (HK1514.out.trans (Kept.of_below hb1515))
        clear hb1515
        (try dsimp only)
        clear HB1514
        clear HK1514
        clear hHeld
        refine hK.out _ _ (HK1515.out) (fun hHeld => ?_)
        clear hK K
        (try simp only [Act.put, List.setIfInBounds_toArray, List.set_cons_zero, List.set_cons_succ])
        refine wpAnyH_ready (rs := [4]) (by kernel_rfl) (by simp) ?_
        refine AllReadyH.cons (o := ({ dst := some 10, op := Op.call { callee := Callee.value (Operand.func 43), args := #[Operand.tmp 7, Operand.tmp 9], argTypes := #[49, 49] }, type := 74, pos := "scalar.go:49", after := #[{ on := 1, ground := Ground.data }, { on := 3, ground := Ground.data }, { on := 3, ground := Ground.chain }], guard := none } : Oper)) rfl (fun K hK => ?_) AllReadyH.nil
        go_simp
        go_at_call 43
        refine (HM.out _ _ _ HZ1506.out HZ1515.out).mono ?_
        rintro e w1516 ⟨rfl, hb1516⟩
        have HB1516 := Lib.hid (HB1515.out.kept hb1516)
        have HK1516 := Lib.hid (HK1515.out.trans (Kept.of_below hb1516))
        clear hb1516
        (try dsimp only)
        clear HB1515
        clear HK1515
        clear hHeld
        refine hK.out _ _ (HK1516.out) (fun hHeld => ?_)
        clear hK K
        (try simp only [Act.put, List.setIfInBounds_toArray, List.set_cons_zero, List.set_cons_succ])
        refine wpAnyH_ready (rs := [6]) (by kernel_rfl) (by simp) ?_
        refine AllReadyH.cons (o := ({ dst := none, op := Op.store 74 (Operand.tmp 5) (Operand.tmp 10), type := 0, pos := "scalar.go:49", after := #[{ on := 5, ground := Ground.data }, { on := 4, ground := Ground.data }, { on := 4, ground := Ground.chain }, { on := 0, ground := Ground.phase }, { on := 1, ground := Ground.phase }, { on := 2, ground := Ground.phase }, { on := 3, ground := Ground.phase }, { on := 4, ground := Ground.phase }, { on := 5, ground := Ground.phase }], guard := none } : Oper)) rfl (fun K hK => ?_) AllReadyH.nil
        refine step_store_whole rfl 74 (.tmp 5) (.tmp 10) rfl (g1514) _ _ _ (HB1516.out.get 3 rfl) rfl rfl (arr_len2 _ _ W8L.out HLz8.out) (t8_s W8L.out) (all_arr _ _) ?_
        intro w1517 hb1517 hk1517 hz1517
        have HB1517 := Lib.hid (HB1516.out.put 3 rfl hk1517 hb1517)
        have HK1517 := Lib.hid (HK1516.out.trans_new hk1517 (fun i hi e => absurd hi (by rw [e]; exact Nat.not_lt.2 HN1514.out)))
        clear hb1517 hk1517 hz1517
        clear HB1516
        clear HK1516
        clear hHeld
        refine hK.out _ _ (HK1517.out) (fun hHeld => ?_)
        clear hK K
        (try simp only [Act.put])
        refine wpAnyH_done (by kernel_rfl) ?_ _
        go_wp2_with fail
        go_meet
        exact ⟨_, rfl, HB1517.out⟩
      exact AllReadyH.nil
    refine AllReadyH.cons (o := ({ dst := some 5, op := Op.alloc 74, type := 0, pos := "scalar.go:49", after := #[], guard := none } : Oper)) rfl (fun K hK => ?_) ?_
    · refine step_alloc_row rfl 74 rfl _ (HZz8.out _) ?_
      have HB1518 := Lib.hid (HBd.out.alloc (arr .u64 z8) 74)
      have HK1518 := Lib.hid (HK0.out.alloc (.cells (arr .u64 z8) 74))
      have HN1518 := Lib.hid (show wb.heap.size ≤ (wd).heap.size from HK0.out.size)
      generalize (wd).heap.size = g1518 at HB1518 HN1518 ⊢
      generalize (wd).alloc (.cells (arr .u64 z8) 74) = w1518 at HB1518 HK1518 ⊢
      clear HBd
      clear HK0
      clear hHeld
      refine hK.out _ _ (HK1518.out) (fun hHeld => ?_)
      clear hK K
      (try simp only [Act.put, List.setIfInBounds_toArray, List.set_cons_zero, List.set_cons_succ])
      refine wpAnyH_ready (rs := [1]) (by kernel_rfl) (by simp) ?_
      refine AllReadyH.cons (o := ({ dst := some 7, op := Op.call { callee := Callee.value (Operand.func 36), args := #[Operand.tmp 6], argTypes := #[23] }, type := 49, pos := "scalar.go:49", after := #[{ on := 0, ground := Ground.data }], guard := none } : Oper)) rfl (fun K hK => ?_) AllReadyH.nil
      go_simp
      go_at_call 36
      refine (of4 _ _ HX.out).mono ?_
      rintro e w1519 ⟨z1519, rfl, h1519, hb1519⟩
      have HZ1519 := Lib.hid h1519
      have HL1519 := Lib.hid h1519.len
      clear h1519
      have HB1519 := Lib.hid (HB1518.out.kept hb1519)
      have HK1519 := Lib.hid (HK1518.out.trans (Kept.of_below hb1519))
      clear hb1519
      (try dsimp only)
      clear HB1518
      clear HK1518
      clear hHeld
      refine hK.out _ _ (HK1519.out) (fun hHeld => ?_)
      clear hK K
      (try simp only [Act.put, List.setIfInBounds_toArray, List.set_cons_zero, List.set_cons_succ])
      refine wpAnyH_ready (rs := [3]) (by kernel_rfl) (by simp) ?_
      refine AllReadyH.cons (o := ({ dst := some 9, op := Op.call { callee := Callee.value (Operand.func 36), args := #[Operand.tmp 8], argTypes := #[23] }, type := 49, pos := "scalar.go:49", after := #[{ on := 2, ground := Ground.data }, { on := 1, ground := Ground.chain }], guard := none } : Oper)) rfl (fun K hK => ?_) AllReadyH.nil
      go_simp
      go_at_call 36
      refine (of4 _ _ HY.out).mono ?_
      rintro e w1520 ⟨z1520, rfl, h1520, hb1520⟩
      have HZ1520 := Lib.hid h1520
      have HL1520 := Lib.hid h1520.len
      clear h1520
      have HB1520 := Lib.hid (HB1519.out.kept hb1520)
      have HK1520 := Lib.hid (HK1519.out.trans (Kept.of_below hb1520))
      clear hb1520
      (try dsimp only)
      clear HB1519
      clear HK1519
      clear hHeld
      refine hK.out _ _ (HK1520.out) (fun hHeld => ?_)
      clear hK K
      (try simp only [Act.put, List.setIfInBounds_toArray, List.set_cons_zero, List.set_cons_succ])
      refine wpAnyH_ready (rs := [4]) (by kernel_rfl) (by simp) ?_
      refine AllReadyH.cons (o := ({ dst := some 10, op := Op.call { callee := Callee.value (Operand.func 43), args := #[Operand.tmp 7, Operand.tmp 9], argTypes := #[49, 49] }, type := 74, pos := "scalar.go:49", after := #[{ on := 1, ground := Ground.data }, { on := 3, ground := Ground.data }, { on := 3, ground := Ground.chain }], guard := none } : Oper)) rfl (fun K hK => ?_) AllReadyH.nil
      go_simp
      go_at_call 43
      refine (HM.out _ _ _ HZ1519.out HZ1520.out).mono ?_
      rintro e w1521 ⟨rfl, hb1521⟩
      have HB1521 := Lib.hid (HB1520.out.kept hb1521)
      have HK1521 := Lib.hid (HK1520.out.trans (Kept.of_below hb1521))
      clear hb1521
      (try dsimp only)
      clear HB1520
      clear HK1520
      clear hHeld
      refine hK.out _ _ (HK1521.out) (fun hHeld => ?_)
      clear hK K
      (try simp only [Act.put, List.setIfInBounds_toArray, List.set_cons_zero, List.set_cons_succ])
      refine wpAnyH_ready (rs := [6]) (by kernel_rfl) (by simp) ?_
      refine AllReadyH.cons (o := ({ dst := none, op := Op.store 74 (Operand.tmp 5) (Operand.tmp 10), type := 0, pos := "scalar.go:49", after := #[{ on := 5, ground := Ground.data }, { on := 4, ground := Ground.data }, { on := 4, ground := Ground.chain }, { on := 0, ground := Ground.phase }, { on := 1, ground := Ground.phase }, { on := 2, ground := Ground.phase }, { on := 3, ground := Ground.phase }, { on := 4, ground := Ground.phase }, { on := 5, ground := Ground.phase }], guard := none } : Oper)) rfl (fun K hK => ?_) AllReadyH.nil
      refine step_store_whole rfl 74 (.tmp 5) (.tmp 10) rfl (g1518) _ _ _ (HB1521.out.get 3 rfl) rfl rfl (arr_len2 _ _ W8L.out HLz8.out) (t8_s W8L.out) (all_arr _ _) ?_
      intro w1522 hb1522 hk1522 hz1522
      have HB1522 := Lib.hid (HB1521.out.put 3 rfl hk1522 hb1522)
      have HK1522 := Lib.hid (HK1521.out.trans_new hk1522 (fun i hi e => absurd hi (by rw [e]; exact Nat.not_lt.2 HN1518.out)))
      clear hb1522 hk1522 hz1522
      clear HB1521
      clear HK1521
      clear hHeld
      refine hK.out _ _ (HK1522.out) (fun hHeld => ?_)
      clear hK K
      (try simp only [Act.put])
      refine wpAnyH_done (by kernel_rfl) ?_ _
      go_wp2_with fail
      go_meet
      exact ⟨_, rfl, HB1522.out⟩
    exact AllReadyH.nil
  case rest =>
  obtain ⟨wy, rfl⟩ : ∃ x : World, x = wc := ⟨_, rfl⟩
  obtain ⟨g8, rfl, hb1⟩ := hcut
  have HB1 := Lib.hid hb1
  have HC8 : Hid (∀ i, i < 8 → wy.cell? ⟨g8, i, none⟩ = some (.int .u64 ((ws.getD i 0 : Nat) : Int))) := Lib.hid (fun i hi => by
    have := arr_get' (hb1.get 3 rfl) i (by rw [W8L.out]; exact hi)
    rw [W8G.out] at this
    exact this)
  clear hb1 HS0
  go_wp2_with (first | ((with_reducible show Calls _ 42 _ _ _); go_at_call 42; refine (red_any g8 8 _ (a * b) ws _ WL.out (by decide) WB.out WV.out HC8.out).mono ?_; rintro e w5 ⟨z5, rfl, h5, hb5⟩; have HZ5 := Lib.hid h5; have HB5 := Lib.hid (HB1.out.kept hb5); clear h5 hb5) | ((with_reducible show Calls _ 40 _ _ _); go_at_call 40; refine (num4 _ _ HZ5.out).mono ?_; rintro e w6 ⟨z6, rfl, h6, hb6⟩; have HZ6 := Lib.hid h6; have HL6 := Lib.hid h6.len; have HB6 := Lib.hid (HB5.out.kept hb6); clear h6 hb6) | ((with_reducible show wpList _ _ _ (Oper.mk none (Op.store _ (Operand.tmp 4) _) _ _ _ _ :: _) _ _); refine wpList_store_whole rfl 23 _ _ rfl (w.heap.size + 1 + 1) _ _ 23 (HB6.out.get 2 rfl) rfl rfl (arr_len2 _ _ HL6.out HLzn.out) (num_s HL6.out) (all_arr _ _) ?_; intro w7 hb7 hk7 hz7; have HB7 := Lib.hid (HB6.out.put 2 rfl hk7 hb7); clear hb7 hk7 hz7))
  (try simp only [Exit.then])
  refine bodyPost_ret (results_cell_row rfl _ _ (w.heap.size + 1 + 1) 23 _ (0, 0) _ rfl (HB7.out.get 2 rfl) Try.underlying23 rfl (num_s HL6.out)) rfl ?_
  exact ⟨_, rfl, HZ6.out, HB7.out.below⟩
end Go.Proofs.Ytanjhngehfbpbaa.Sl
