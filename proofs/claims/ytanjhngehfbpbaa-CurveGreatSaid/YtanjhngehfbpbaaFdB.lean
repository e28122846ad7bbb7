/- field.Lessen, fold, Plus, Minus: what they answer. Condition: numbers below 2^256; for Minus below p. -/
import Derived.Test.YtanjhngehfbpbaaFdA
namespace Go.Proofs.Ytanjhngehfbpbaa.Fp
open Go.RowKit Lm

def itl (a : Nat) : Nat → Nat
  | 0 => a
  | k + 1 => less1 (itl a k)
theorem itl_lt (a : Nat) (h : a < 18446744073709551616 ^ 4) : ∀ k, itl a k < 18446744073709551616 ^ 4
  | 0 => h
  | k + 1 => by
    have := itl_lt a h k
    unfold itl less1
    split <;> omega
theorem itl_two (a : Nat) (h : a < 18446744073709551616 ^ 4) : itl a 2 = a % p := lessen_eq a h
theorem sub_big (y : Nat) (hy : y < 18446744073709551616 ^ 4) (h : ¬ y < p) : (y + 18446744073709551616 ^ 4 - p) % 18446744073709551616 ^ 4 = y - p := by
  have := p_lt
  rw [show y + 18446744073709551616 ^ 4 - p = y - p + 18446744073709551616 ^ 4 by omega, Nat.add_mod_right, Nat.mod_eq_of_lt (by omega)]
theorem p_mod_lt (a : Nat) : a % p < 18446744073709551616 ^ 4 := Nat.lt_trans (Nat.mod_lt _ p_pos) p_lt

set_option maxRecDepth 100000 in
set_option maxHeartbeats 4000000 in
theorem lessen_any {xs : List Int} (a : Nat) (w : World) (hx : N4 xs a) : Calls Try.prog 44 #[.agg (arr .u64 xs)] w fun e w' => ∃ zs, e = .returned (.agg (arr .u64 zs)) ∧ N4 zs (a % p) ∧ Below w.heap.size w w' := by
  obtain ⟨zl, hzl⟩ : ∃ zs : List Int, zs = List.replicate 4 0 := ⟨_, rfl⟩
  have HZzl : Hid (∀ w, (zeroValue 49).run Try.prog w = .ok (.agg (arr .u64 zl)) w) := Lib.hid (by intro w; rw [hzl]; exact zero_lim w)
  have HLzl : Hid (zl.length = 4) := Lib.hid (by rw [hzl]; rfl)
  have HX := Lib.hid hx
  have HPR := Lib.hid prime_any
  have HAL : Hid (∀ k, itl a k < 18446744073709551616 ^ 4) := Lib.hid (itl_lt a hx.2)
  have HA2 : Hid (itl a 2 = a % p) := Lib.hid (itl_two a hx.2)
  have HS0 := Lib.hid (Blk.two w (arr .u64 xs) (arr .u64 zl) 49 49)
  clear hzl hx
  go_enter Try.func44, Try.ntmps44
  go_wp2_with (first | ((with_reducible show wpList _ _ _ (Oper.mk (some 2) _ _ _ _ _ :: _) _ _); refine wpList_alloc_row rfl 49 rfl _ (HZzl.out _) ?_))
  go_loopw [5] (fun v wr => ∃ k : Nat, k ≤ 2 ∧ v = .int .i64 k ∧ ∃ ys : List Int, N4 ys (itl a k) ∧ Blk w wr [(w.heap.size, arr .u64 ys, 49), (w.heap.size + 1, arr .u64 zl, 49)]) (fun v _ => 2 - (intOf v).toNat)
  case atStart => exact ⟨0, Nat.zero_le _, rfl, xs, HX.out, HS0.out⟩
  clear HS0
  case round =>
  obtain ⟨k, hk, rfl, ys, hy, hB⟩ := hrel
  by_cases hlt : k < 2
  · have HY := Lib.hid hy
    have HYL := Lib.hid hy.len
    have HB := Lib.hid hB
    obtain ⟨y, hyy⟩ : ∃ y, y = itl a k := ⟨_, rfl⟩
    have HYT : Hid (y < 18446744073709551616 ^ 4) := Lib.hid (by rw [hyy]; exact HAL.out k)
    have HYE := Lib.hid hyy
    rw [← hyy] at HY
    clear hy hB hyy
    go_upto_region 3 with fail
    go_cut [3, 4] (fun u3 u4 wx => ∃ gg xx, u3 = .pointer (some ⟨gg, 0, none⟩) ∧ u4 = .int .u64 ((brw y p : Nat) : Int) ∧ N4 xx ((y + 18446744073709551616 ^ 4 - p) % 18446744073709551616 ^ 4) ∧ Blk w wx [(w.heap.size, arr .u64 ys, 49), (w.heap.size + 1, arr .u64 zl, 49), (gg, arr .u64 xx, 49)])
    case first =>
      have HK0 := Lib.hid ((Kept.refl (fun _ => False) wr).drew)
      have HBd := Lib.hid (HB.out.drew)
      refine wp_region_held_drew (S := (fun w' => Kept (fun _ => False) wr w')) (by kernel_rfl) (HK0.out) (fun hHeld => ?_)
      generalize wr.drew = wd at HK0 HBd hHeld ⊢
      refine' wpAnyH_take (i := 0) (oi := ({ dst := some 8, op := Op.load 49 (Operand.tmp 1), type := 49, pos := "field.go:24", after := #[], guard := none } : Oper)) (v := _) rfl (by kernel_rfl) (by kernel_rfl) (by kernel_rfl) (fun _ _ _ h => h) (yieldsIf_load_mid (by rfl) _ _ rfl _ _ rfl (ys.map (Value.int .u64)) _ ?hS301 Try.underlying49 rfl (by rw [List.length_map]; exact lim_i HYL.out)) (by assumption) ?rest301
      case hS301 => (intro w hSw; (try dsimp only at hSw); exact range_part (hSw.blk (HB.out.get 0 rfl) (fun e => e.elim)) 0 _ (by rw [List.length_map]; exact arr_part _ _))
      (try simp only [Act.put, List.setIfInBounds_toArray, List.set_cons_zero, List.set_cons_succ])
      refine wpAnyH_ready (rs := [1, 6]) (by kernel_rfl) (by simp) ?_
      refine AllReadyH.cons (o := ({ dst := some 9, op := Op.call { callee := Callee.value (Operand.func 63), args := #[], argTypes := #[] }, type := 49, pos := "field.go:24", after := #[], guard := none } : Oper)) rfl (fun K hK => ?_) ?_
      · go_simp
        go_at_call 63
        refine (HPR.out _).mono ?_
        rintro e w302 ⟨z302, rfl, h302, hb302⟩
        have HZ302 := Lib.hid h302
        have HL302 := Lib.hid h302.len
        clear h302
        have HB302 := Lib.hid (HBd.out.kept hb302)
        have HK302 := Lib.hid (HK0.out.trans (Kept.of_below hb302))
        clear hb302
        (try dsimp only)
        clear HBd
        clear HK0
        clear hHeld
        refine hK.out _ _ (HK302.out) (fun hHeld => ?_)
        clear hK K
        (try simp only [Act.put, List.setIfInBounds_toArray, List.set_cons_zero, List.set_cons_succ])
        refine wpAnyH_ready (rs := [2, 6]) (by kernel_rfl) (by simp) ?_
        refine AllReadyH.cons (o := ({ dst := some 10, op := Op.call { callee := Callee.value (Operand.func 64), args := #[Operand.tmp 8, Operand.tmp 9], argTypes := #[49, 49] }, type := 70, pos := "field.go:24", after := #[{ on := 0, ground := Ground.data }, { on := 1, ground := Ground.data }, { on := 1, ground := Ground.chain }], guard := none } : Oper)) rfl (fun K hK => ?_) ?_
        · go_simp
          go_at_call 64
          refine (lsub4 _ _ _ HY.out HZ302.out).mono ?_
          rintro e w303 ⟨z303, rfl, h303, hb303⟩
          have HZ303 := Lib.hid h303
          have HL303 := Lib.hid h303.len
          clear h303
          have HB303 := Lib.hid (HB302.out.kept hb303)
          have HK303 := Lib.hid (HK302.out.trans (Kept.of_below hb303))
          clear hb303
          (try dsimp only)
          clear HB302
          clear HK302
          clear hHeld
          refine hK.out _ _ (HK303.out) (fun hHeld => ?_)
          clear hK K
          (try simp only [Act.put, List.setIfInBounds_toArray, List.set_cons_zero, List.set_cons_succ])
          refine wpAnyH_take (i := 3) (oi := ({ dst := some 7, op := Op.move (Operand.tmp 10), type := 70, pos := "field.go:24", after := #[{ on := 2, ground := Ground.data }], guard := none } : Oper)) (v := ?v304) rfl (by kernel_rfl) (by kernel_rfl) (by kernel_rfl) (fun _ _ _ h => h) (Or.inl ⟨by rfl, ?hy304⟩) (by assumption) ?rest304
          case hy304 => (intro w hSw; (try dsimp only at hSw); go_simp; try (with_reducible rfl))
          (try simp only [Act.put, List.setIfInBounds_toArray, List.set_cons_zero, List.set_cons_succ])
          refine wpAnyH_take (i := 4) (oi := ({ dst := some 11, op := Op.extract (Operand.tmp 7) 0, type := 49, pos := "field.go:24", after := #[{ on := 3, ground := Ground.data }], guard := none } : Oper)) (v := ?v305) rfl (by kernel_rfl) (by kernel_rfl) (by kernel_rfl) (fun _ _ _ h => h) (Or.inl ⟨by rfl, ?hy305⟩) (by assumption) ?rest305
          case hy305 => (intro w hSw; (try dsimp only at hSw); go_simp; try (with_reducible rfl))
          (try simp only [Act.put, List.setIfInBounds_toArray, List.set_cons_zero, List.set_cons_succ])
          refine wpAnyH_take (i := 5) (oi := ({ dst := some 12, op := Op.extract (Operand.tmp 7) 1, type := 47, pos := "field.go:24", after := #[{ on := 3, ground := Ground.data }, { on := 7, ground := Ground.gcOnly Departure.lateStores }], guard := none } : Oper)) (v := ?v306) rfl (by kernel_rfl) (by kernel_rfl) (by kernel_rfl) (fun _ _ _ h => h) (Or.inl ⟨by rfl, ?hy306⟩) (by assumption) ?rest306
          case hy306 => (intro w hSw; (try dsimp only at hSw); go_simp; try (with_reducible rfl))
          (try simp only [Act.put, List.setIfInBounds_toArray, List.set_cons_zero, List.set_cons_succ])
          refine wpAnyH_ready (rs := [6]) (by kernel_rfl) (by simp) ?_
          refine AllReadyH.cons (o := ({ dst := some 3, op := Op.alloc 49, type := 0, pos := "field.go:24", after := #[], guard := none } : Oper)) rfl (fun K hK => ?_) AllReadyH.nil
          refine step_alloc_row rfl 49 rfl _ (HZzl.out _) ?_
          have HB307 := Lib.hid (HB303.out.alloc (arr .u64 zl) 49)
          have HK307 := Lib.hid (HK303.out.alloc (.cells (arr .u64 zl) 49))
          have HN307 := Lib.hid (show wr.heap.size ≤ (w303).heap.size from HK303.out.size)
          generalize (w303).heap.size = g307 at HB307 HN307 ⊢
          generalize (w303).alloc (.cells (arr .u64 zl) 49) = w307 at HB307 HK307 ⊢
          clear HB303
          clear HK303
          clear hHeld
          refine hK.out _ _ (HK307.out) (fun hHeld => ?_)
          clear hK K
          (try simp only [Act.put, List.setIfInBounds_toArray, List.set_cons_zero, List.set_cons_succ])
          refine wpAnyH_ready (rs := [7]) (by kernel_rfl) (by simp) ?_
          refine AllReadyH.cons (o := ({ dst := none, op := Op.store 49 (Operand.tmp 3) (Operand.tmp 11), type := 0, pos := "field.go:24", after := #[{ on := 6, ground := Ground.data }, { on := 4, ground := Ground.data }, { on := 2, ground := Ground.chain }, { on := 0, ground := Ground.phase }, { on := 1, ground := Ground.phase }, { on := 2, ground := Ground.phase }, { on := 3, ground := Ground.phase }, { on := 4, ground := Ground.phase }, { on := 5, ground := Ground.textOnly Departure.lateStores }, { on := 6, ground := Ground.phase }], guard := none } : Oper)) rfl (fun K hK => ?_) AllReadyH.nil
          refine step_store_whole rfl 49 (.tmp 3) (.tmp 11) rfl (g307) _ _ _ (HB307.out.get 2 rfl) rfl rfl (arr_len2 _ _ HL303.out HLzl.out) (lim_s HL303.out) (all_arr _ _) ?_
          intro w308 hb308 hk308 hz308
          have HB308 := Lib.hid (HB307.out.put 2 rfl hk308 hb308)
          have HK308 := Lib.hid (HK307.out.trans_new hk308 (fun i hi e => absurd hi (by rw [e]; exact Nat.not_lt.2 HN307.out)))
          clear hb308 hk308 hz308
          clear HB307
          clear HK307
          clear hHeld
          refine hK.out _ _ (HK308.out) (fun hHeld => ?_)
          clear hK K
          (try simp only [Act.put])
          refine wpAnyH_take (i := 8) (oi := ({ dst := some 4, op := Op.assign (Operand.tmp 12), type := 47, pos := "field.go:24", after := #[{ on := 5, ground := Ground.data }, { on := 7, ground := Ground.chain }, { on := 0, ground := Ground.phase }, { on := 1, ground := Ground.phase }, { on := 2, ground := Ground.phase }, { on := 3, ground := Ground.phase }, { on := 4, ground := Ground.phase }, { on := 5, ground := Ground.phase }, { on := 6, ground := Ground.phase }, { on := 7, ground := Ground.phase }], guard := none } : Oper)) (v := ?v309) rfl (by kernel_rfl) (by kernel_rfl) (by kernel_rfl) (fun _ _ _ h => h) (Or.inl ⟨by rfl, ?hy309⟩) (by assumption) ?rest309
          case hy309 => (intro w hSw; (try dsimp only at hSw); go_simp; try (with_reducible rfl))
          (try simp only [Act.put, List.setIfInBounds_toArray, List.set_cons_zero, List.set_cons_succ])
          refine wpAnyH_done (by kernel_rfl) ?_ _
          go_wp2_with fail
          go_meet
          exact ⟨_, _, rfl, rfl, HZ303.out, HB308.out⟩
        refine AllReadyH.cons (o := ({ dst := some 3, op := Op.alloc 49, type := 0, pos := "field.go:24", after := #[], guard := none } : Oper)) rfl (fun K hK => ?_) ?_
        · refine step_alloc_row rfl 49 rfl _ (HZzl.out _) ?_
          have HB310 := Lib.hid (HB302.out.alloc (arr .u64 zl) 49)
          have HK310 := Lib.hid (HK302.out.alloc (.cells (arr .u64 zl) 49))
          have HN310 := Lib.hid (show wr.heap.size ≤ (w302).heap.size from HK302.out.size)
          generalize (w302).heap.size = g310 at HB310 HN310 ⊢
          generalize (w302).alloc (.cells (arr .u64 zl) 49) = w310 at HB310 HK310 ⊢
          clear HB302
          clear HK302
          clear hHeld
          refine hK.out _ _ (HK310.out) (fun hHeld => ?_)
          clear hK K
          (try simp only [Act.put, List.setIfInBounds_toArray, List.set_cons_zero, List.set_cons_succ])
          refine wpAnyH_ready (rs := [2]) (by kernel_rfl) (by simp) ?_
          refine AllReadyH.cons (o := ({ dst := some 10, op := Op.call { callee := Callee.value (Operand.func 64), args := #[Operand.tmp 8, Operand.tmp 9], argTypes := #[49, 49] }, type := 70, pos := "field.go:24", after := #[{ on := 0, ground := Ground.data }, { on := 1, ground := Ground.data }, { on := 1, ground := Ground.chain }], guard := none } : Oper)) rfl (fun K hK => ?_) AllReadyH.nil
          go_simp
          go_at_call 64
          refine (lsub4 _ _ _ HY.out HZ302.out).mono ?_
          rintro e w311 ⟨z311, rfl, h311, hb311⟩
          have HZ311 := Lib.hid h311
          have HL311 := Lib.hid h311.len
          clear h311
          have HB311 := Lib.hid (HB310.out.kept hb311)
          have HK311 := Lib.hid (HK310.out.trans (Kept.of_below hb311))
          clear hb311
          (try dsimp only)
          clear HB310
          clear HK310
          clear hHeld
          refine hK.out _ _ (HK311.out) (fun hHeld => ?_)
          clear hK K
          (try simp only [Act.put, List.setIfInBounds_toArray, List.set_cons_zero, List.set_cons_succ])
          refine wpAnyH_take (i := 3) (oi := ({ dst := some 7, op := Op.move (Operand.tmp 10), type := 70, pos := "field.go:24", after := #[{ on := 2, ground := Ground.data }], guard := none } : Oper)) (v := ?v312) rfl (by kernel_rfl) (by kernel_rfl) (by kernel_rfl) (fun _ _ _ h => h) (Or.inl ⟨by rfl, ?hy312⟩) (by assumption) ?rest312
          case hy312 => (intro w hSw; (try dsimp only at hSw); go_simp; try (with_reducible rfl))
          (try simp only [Act.put, List.setIfInBounds_toArray, List.set_cons_zero, List.set_cons_succ])
          refine wpAnyH_take (i := 4) (oi := ({ dst := some 11, op := Op.extract (Operand.tmp 7) 0, type := 49, pos := "field.go:24", after := #[{ on := 3, ground := Ground.data }], guard := none } : Oper)) (v := ?v313) rfl (by kernel_rfl) (by kernel_rfl) (by kernel_rfl) (fun _ _ _ h => h) (Or.inl ⟨by rfl, ?hy313⟩) (by assumption) ?rest313
          case hy313 => (intro w hSw; (try dsimp only at hSw); go_simp; try (with_reducible rfl))
          (try simp only [Act.put, List.setIfInBounds_toArray, List.set_cons_zero, List.set_cons_succ])
          refine wpAnyH_take (i := 5) (oi := ({ dst := some 12, op := Op.extract (Operand.tmp 7) 1, type := 47, pos := "field.go:24", after := #[{ on := 3, ground := Ground.data }, { on := 7, ground := Ground.gcOnly Departure.lateStores }], guard := none } : Oper)) (v := ?v314) rfl (by kernel_rfl) (by kernel_rfl) (by kernel_rfl) (fun _ _ _ h => h) (Or.inl ⟨by rfl, ?hy314⟩) (by assumption) ?rest314
          case hy314 => (intro w hSw; (try dsimp only at hSw); go_simp; try (with_reducible rfl))
          (try simp only [Act.put, List.setIfInBounds_toArray, List.set_cons_zero, List.set_cons_succ])
          refine wpAnyH_ready (rs := [7]) (by kernel_rfl) (by simp) ?_
          refine AllReadyH.cons (o := ({ dst := none, op := Op.store 49 (Operand.tmp 3) (Operand.tmp 11), type := 0, pos := "field.go:24", after := #[{ on := 6, ground := Ground.data }, { on := 4, ground := Ground.data }, { on := 2, ground := Ground.chain }, { on := 0, ground := Ground.phase }, { on := 1, ground := Ground.phase }, { on := 2, ground := Ground.phase }, { on := 3, ground := Ground.phase }, { on := 4, ground := Ground.phase }, { on := 5, ground := Ground.textOnly Departure.lateStores }, { on := 6, ground := Ground.phase }], guard := none } : Oper)) rfl (fun K hK => ?_) AllReadyH.nil
          refine step_store_whole rfl 49 (.tmp 3) (.tmp 11) rfl (g310) _ _ _ (HB311.out.get 2 rfl) rfl rfl (arr_len2 _ _ HL311.out HLzl.out) (lim_s HL311.out) (all_arr _ _) ?_
          intro w315 hb315 hk315 hz315
          have HB315 := Lib.hid (HB311.out.put 2 rfl hk315 hb315)
          have HK315 := Lib.hid (HK311.out.trans_new hk315 (fun i hi e => absurd hi (by rw [e]; exact Nat.not_lt.2 HN310.out)))
          clear hb315 hk315 hz315
          clear HB311
          clear HK311
          clear hHeld
          refine hK.out _ _ (HK315.out) (fun hHeld => ?_)
          clear hK K
          (try simp only [Act.put])
          refine wpAnyH_take (i := 8) (oi := ({ dst := some 4, op := Op.assign (Operand.tmp 12), type := 47, pos := "field.go:24", after := #[{ on := 5, ground := Ground.data }, { on := 7, ground := Ground.chain }, { on := 0, ground := Ground.phase }, { on := 1, ground := Ground.phase }, { on := 2, ground := Ground.phase }, { on := 3, ground := Ground.phase }, { on := 4, ground := Ground.phase }, { on := 5, ground := Ground.phase }, { on := 6, ground := Ground.phase }, { on := 7, ground := Ground.phase }], guard := none } : Oper)) (v := ?v316) rfl (by kernel_rfl) (by kernel_rfl) (by kernel_rfl) (fun _ _ _ h => h) (Or.inl ⟨by rfl, ?hy316⟩) (by assumption) ?rest316
          case hy316 => (intro w hSw; (try dsimp only at hSw); go_simp; try (with_reducible rfl))
          (try simp only [Act.put, List.setIfInBounds_toArray, List.set_cons_zero, List.set_cons_succ])
          refine wpAnyH_done (by kernel_rfl) ?_ _
          go_wp2_with fail
          go_meet
          exact ⟨_, _, rfl, rfl, HZ311.out, HB315.out⟩
        exact AllReadyH.nil
      refine AllReadyH.cons (o := ({ dst := some 3, op := Op.alloc 49, type := 0, pos := "field.go:24", after := #[], guard := none } : Oper)) rfl (fun K hK => ?_) ?_
      · refine step_alloc_row rfl 49 rfl _ (HZzl.out _) ?_
        have HB317 := Lib.hid (HBd.out.alloc (arr .u64 zl) 49)
        have HK317 := Lib.hid (HK0.out.alloc (.cells (arr .u64 zl) 49))
        have HN317 := Lib.hid (show wr.heap.size ≤ (wd).heap.size from HK0.out.size)
        generalize (wd).heap.size = g317 at HB317 HN317 ⊢
        generalize (wd).alloc (.cells (arr .u64 zl) 49) = w317 at HB317 HK317 ⊢
        clear HBd
        clear HK0
        clear hHeld
        refine hK.out _ _ (HK317.out) (fun hHeld => ?_)
        clear hK K
        (try simp only [Act.put, List.setIfInBounds_toArray, List.set_cons_zero, List.set_cons_succ])
        refine wpAnyH_ready (rs := [1]) (by kernel_rfl) (by simp) ?_
        refine AllReadyH.cons (o := ({ dst := some 9, op := Op.call { callee := Callee.value (Operand.func 63), args := #[], argTypes := #[] }, type := 49, pos := "field.go:24", after := #[], guard := none } : Oper)) rfl (fun K hK => ?_) AllReadyH.nil
        go_simp
        go_at_call 63
        refine (HPR.out _).mono ?_
        rintro e w318 ⟨z318, rfl, h318, hb318⟩
        have HZ318 := Lib.hid h318
        have HL318 := Lib.hid h318.len
        clear h318
        have HB318 := Lib.hid (HB317.out.kept hb318)
        have HK318 := Lib.hid (HK317.out.trans (Kept.of_below hb318))
        clear hb318
        (try dsimp only)
        clear HB317
        clear HK317
        clear hHeld
        refine hK.out _ _ (HK318.out) (fun hHeld => ?_)
        clear hK K
        (try simp only [Act.put, List.setIfInBounds_toArray, List.set_cons_zero, List.set_cons_succ])
        refine wpAnyH_ready (rs := [2]) (by kernel_rfl) (by simp) ?_
        refine AllReadyH.cons (o := ({ dst := some 10, op := Op.call { callee := Callee.value (Operand.func 64), args := #[Operand.tmp 8, Operand.tmp 9], argTypes := #[49, 49] }, type := 70, pos := "field.go:24", after := #[{ on := 0, ground := Ground.data }, { on := 1, ground := Ground.data }, { on := 1, ground := Ground.chain }], guard := none } : Oper)) rfl (fun K hK => ?_) AllReadyH.nil
        go_simp
        go_at_call 64
        refine (lsub4 _ _ _ HY.out HZ318.out).mono ?_
        rintro e w319 ⟨z319, rfl, h319, hb319⟩
        have HZ319 := Lib.hid h319
        have HL319 := Lib.hid h319.len
        clear h319
        have HB319 := Lib.hid (HB318.out.kept hb319)
        have HK319 := Lib.hid (HK318.out.trans (Kept.of_below hb319))
        clear hb319
        (try dsimp only)
        clear HB318
        clear HK318
        clear hHeld
        refine hK.out _ _ (HK319.out) (fun hHeld => ?_)
        clear hK K
        (try simp only [Act.put, List.setIfInBounds_toArray, List.set_cons_zero, List.set_cons_succ])
        refine wpAnyH_take (i := 3) (oi := ({ dst := some 7, op := Op.move (Operand.tmp 10), type := 70, pos := "field.go:24", after := #[{ on := 2, ground := Ground.data }], guard := none } : Oper)) (v := ?v320) rfl (by kernel_rfl) (by kernel_rfl) (by kernel_rfl) (fun _ _ _ h => h) (Or.inl ⟨by rfl, ?hy320⟩) (by assumption) ?rest320
        case hy320 => (intro w hSw; (try dsimp only at hSw); go_simp; try (with_reducible rfl))
        (try simp only [Act.put, List.setIfInBounds_toArray, List.set_cons_zero, List.set_cons_succ])
        refine wpAnyH_take (i := 4) (oi := ({ dst := some 11, op := Op.extract (Operand.tmp 7) 0, type := 49, pos := "field.go:24", after := #[{ on := 3, ground := Ground.data }], guard := none } : Oper)) (v := ?v321) rfl (by kernel_rfl) (by kernel_rfl) (by kernel_rfl) (fun _ _ _ h => h) (Or.inl ⟨by rfl, ?hy321⟩) (by assumption) ?rest321
        case hy321 => (intro w hSw; (try dsimp only at hSw); go_simp; try (with_reducible rfl))
        (try simp only [Act.put, List.setIfInBounds_toArray, List.set_cons_zero, List.set_cons_succ])
        refine wpAnyH_take (i := 5) (oi := ({ dst := some 12, op := Op.extract (Operand.tmp 7) 1, type := 47, pos := "field.go:24", after := #[{ on := 3, ground := Ground.data }, { on := 7, ground := Ground.gcOnly Departure.lateStores }], guard := none } : Oper)) (v := ?v322) rfl (by kernel_rfl) (by kernel_rfl) (by kernel_rfl) (fun _ _ _ h => h) (Or.inl ⟨by rfl, ?hy322⟩) (by assumption) ?rest322
        case hy322 => (intro w hSw; (try dsimp only at hSw); go_simp; try (with_reducible rfl))
        (try simp only [Act.put, List.setIfInBounds_toArray, List.set_cons_zero, List.set_cons_succ])
        refine wpAnyH_ready (rs := [7]) (by kernel_rfl) (by simp) ?_
        refine AllReadyH.cons (o := ({ dst := none, op := Op.store 49 (Operand.tmp 3) (Operand.tmp 11), type := 0, pos := "field.go:24", after := #[{ on := 6, ground := Ground.data }, { on := 4, ground := Ground.data }, { on := 2, ground := Ground.chain }, { on := 0, ground := Ground.phase }, { on := 1, ground := Ground.phase }, { on := 2, ground := Ground.phase }, { on := 3, ground := Ground.phase }, { on := 4, ground := Ground.phase }, { on := 5, ground := Ground.textOnly Departure.lateStores }, { on := 6, ground := Ground.phase }], guard := none } : Oper)) rfl (fun K hK => ?_) AllReadyH.nil
        refine step_store_whole rfl 49 (.tmp 3) (.tmp 11) rfl (g317) _ _ _ (HB319.out.get 2 rfl) rfl rfl (arr_len2 _ _ HL319.out HLzl.out) (lim_s HL319.out) (all_arr _ _) ?_
        intro w323 hb323 hk323 hz323
        have HB323 := Lib.hid (HB319.out.put 2 rfl hk323 hb323)
        have HK323 := Lib.hid (HK319.out.trans_new hk323 (fun i hi e => absurd hi (by rw [e]; exact Nat.not_lt.2 HN317.out)))
        clear hb323 hk323 hz323
        clear HB319
        clear HK319
        clear hHeld
        refine hK.out _ _ (HK323.out) (fun hHeld => ?_)
        clear hK K
        (try simp only [Act.put])
        refine wpAnyH_take (i := 8) (oi := ({ dst := some 4, op := Op.assign (Operand.tmp 12), type := 47, pos := "field.go:24", after := #[{ on := 5, ground := Ground.data }, { on := 7, ground := Ground.chain }, { on := 0, ground := Ground.phase }, { on := 1, ground := Ground.phase }, { on := 2, ground := Ground.phase }, { on := 3, ground := Ground.phase }, { on := 4, ground := Ground.phase }, { on := 5, ground := Ground.phase }, { on := 6, ground := Ground.phase }, { on := 7, ground := Ground.phase }], guard := none } : Oper)) (v := ?v324) rfl (by kernel_rfl) (by kernel_rfl) (by kernel_rfl) (fun _ _ _ h => h) (Or.inl ⟨by rfl, ?hy324⟩) (by assumption) ?rest324
        case hy324 => (intro w hSw; (try dsimp only at hSw); go_simp; try (with_reducible rfl))
        (try simp only [Act.put, List.setIfInBounds_toArray, List.set_cons_zero, List.set_cons_succ])
        refine wpAnyH_done (by kernel_rfl) ?_ _
        go_wp2_with fail
        go_meet
        exact ⟨_, _, rfl, rfl, HZ319.out, HB323.out⟩
      exact AllReadyH.nil
    case rest =>
    obtain ⟨wy, rfl⟩ : ∃ x : World, x = wc := ⟨_, rfl⟩
    obtain ⟨gd, ds, rfl, rfl, h1, hb1⟩ := hcut
    have HB1 := Lib.hid hb1
    have HD := Lib.hid h1
    have HDL := Lib.hid h1.len
    clear h1 hb1 HB
    by_cases hp : y < p
    · rw [brw_yes hp]
      have HN : Hid (itl a (k + 1) = y) := Lib.hid (by rw [itl, ← HYE.out, less1, if_pos hp])
      have hbv : (((1 : Nat) : Int) == 0) = false := rfl
      clear hp
      go_wp2_with fail
      go_roundw
      case rel => exact ⟨k + 1, by omega, by go_num, ys, by rw [HN.out]; exact HY.out, HB1.out.less 2⟩
      case measure => simp [intOf]; omega
    · rw [brw_no hp]
      have HN : Hid (itl a (k + 1) = (y + 18446744073709551616 ^ 4 - p) % 18446744073709551616 ^ 4) := Lib.hid (by rw [itl, ← HYE.out, less1, if_neg hp, sub_big y HYT.out hp])
      have hbv : (((0 : Nat) : Int) == 0) = true := rfl
      clear hp
      go_wp2_with (first | ((with_reducible show wpList _ _ _ (Oper.mk (some 15) _ _ _ _ _ :: _) _ _); refine wpList_load_part rfl 49 _ rfl (gd) 0 _ 49 (0, 0) _ (HB1.out.get 2 rfl) rfl .u64 ds (arr_part _ _) Try.underlying49 rfl (lim_i HDL.out) ?_) | ((with_reducible show wpList _ _ _ (Oper.mk none (Op.store _ (Operand.tmp 1) _) _ _ _ _ :: _) _ _); refine wpList_store_whole rfl 49 _ _ rfl (w.heap.size) _ _ 49 (HB1.out.get 0 rfl) rfl rfl (arr_len2 _ _ HDL.out HYL.out) (lim_s HDL.out) (all_arr _ _) ?_; intro w7 hb7 hk7 hz7; have HB7 := Lib.hid (HB1.out.put 0 rfl hk7 hb7); clear hb7 hk7 hz7))
      go_roundw
      case rel => exact ⟨k + 1, by omega, by go_num, ds, by rw [HN.out]; exact HD.out, HB7.out.less 2⟩
      case measure => simp [intOf]; omega
  · obtain rfl : k = 2 := by omega
    rw [HA2.out] at hy
    have HY := Lib.hid hy
    have HYL := Lib.hid hy.len
    have HB := Lib.hid hB
    clear hy hB
    go_wp2_with (first | ((with_reducible show wpList _ _ _ (Oper.mk (some 17) _ _ _ _ _ :: _) _ _); refine wpList_load_part rfl 49 _ rfl (w.heap.size) 0 _ 49 (0, 0) _ (HB.out.get 0 rfl) rfl .u64 ys (arr_part _ _) Try.underlying49 rfl (lim_i HYL.out) ?_) | ((with_reducible show wpList _ _ _ (Oper.mk none (Op.store _ (Operand.tmp 2) _) _ _ _ _ :: _) _ _); refine wpList_store_whole rfl 49 _ _ rfl (w.heap.size + 1) _ _ 49 (HB.out.get 1 rfl) rfl rfl (arr_len2 _ _ HYL.out HLzl.out) (lim_s HYL.out) (all_arr _ _) ?_; intro w7 hb7 hk7 hz7; have HB7 := Lib.hid (HB.out.put 1 rfl hk7 hb7); clear hb7 hk7 hz7))
    (try simp only [Exit.inBlock, Exit.then])
    refine bodyPost_ret (results_cell_row rfl _ _ (w.heap.size + 1) 49 _ (0, 0) _ rfl (HB7.out.get 1 rfl) Try.underlying49 rfl (lim_s HYL.out)) rfl ?_
    exact ⟨_, rfl, HY.out, HB7.out.below⟩
end Go.Proofs.Ytanjhngehfbpbaa.Fp
