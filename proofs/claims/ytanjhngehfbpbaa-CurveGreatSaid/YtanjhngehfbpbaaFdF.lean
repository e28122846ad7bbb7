/- field.Square: what it answers. Condition: a number below 2^256. -/
import Derived.Test.YtanjhngehfbpbaaFdE
namespace Go.Proofs.Ytanjhngehfbpbaa.Fp
open Go.RowKit Lm

theorem exec_neq_limb {P : Program} {o : Oper} {ev : Operand → Value} {w : World} (t ty : TypeId) (e : TypeId) (x y : Operand) (ho : o.op = .binOp .neq t x y ty) (n : Nat) (k k' : IntKind)
    (ht : P.underlying t = some (.array n e)) (he : P.underlying e = some (.int k')) (hsz : ∀ w, (sizeOf e).run P w = .ok 1 w) (hm : P.eqGuardType P.depth t = false)
    (xs ys : List Int) (hx : ev x = .agg (arr k xs)) (hy : ev y = .agg (arr k ys)) (lx : xs.length = n) (ly : ys.length = n) (b : Bool) (hb : (!(xs == ys)) = b) :
    (execOp ev o).run P w = .ok (.value (.bool b)) w := by
  simp only [execOp, ho, hx, hy, Sem.run_bind, run_eqGuard_agg w .neq t x y _ _ hm, Result.andThen_ok, run_neq_arr w t e n k k' ht he hsz xs ys lx ly, hb]
  rfl
theorem n4_neq {xs ys : List Int} {a b : Nat} (hx : N4 xs a) (hy : N4 ys b) (c : Bool) (h : decide (a ≠ b) = c) : (!(xs == ys)) = c := by
  rw [N4.inj hx hy, ← h]
  by_cases e : a = b <;> simp [e]
theorem build_eighth (w : World) : (Instr.build 49 #[(0, .int .u64 18446744073709551614), (1, .int .u64 18446744073709551615), (2, .int .u64 18446744073709551615), (3, .int .u64 1152921504606846975)]).run Try.prog w = .ok (.agg (arr .u64 (nar (dig 18446744073709551616 4 eighth)))) w := by kernel_rfl
theorem build_im (w : World) : (Instr.build 49 #[(0, .int .u64 14190309331451158704), (1, .int .u64 3405592160176694392), (2, .int .u64 3120150775007532967), (3, .int .u64 3135389899092516619)]).run Try.prog w = .ok (.agg (arr .u64 (nar (dig 18446744073709551616 4 im)))) w := by kernel_rfl
theorem build_none (w : World) : (Instr.build 49 #[]).run Try.prog w = .ok (.agg (arr .u64 [0, 0, 0, 0])) w := by kernel_rfl
theorem eighth_lt : eighth < 18446744073709551616 ^ 4 := by decide +kernel
theorem im_lt : im < 18446744073709551616 ^ 4 := by decide +kernel
theorem fsqrt_eq (a x y : Nat) (hx : x = fpow a eighth 256) (hy : y = if fmul x x = a then x else fmul x im) : fsqrt a = if fmul y y = a then (if y % 2 = 1 then fsub 0 y else y, true) else (0, false) := by
  subst hx; subst hy; rfl

set_option maxRecDepth 100000 in
set_option maxHeartbeats 8000000 in
theorem square_any {xs : List Int} (a : Nat) (w : World) (hx : N4 xs a) : Calls Try.prog 48 #[.agg (arr .u64 xs)] w fun e w' => ∃ zs, e = .returned (.tuple #[.agg (arr .u64 zs), .bool (fsqrt a).2]) ∧ N4 zs (fsqrt a).1 ∧ Below w.heap.size w w' := by
  have he := n4_of eighth eighth_lt
  have hi := n4_of im im_lt
  have hbe := build_eighth
  have hbi := build_im
  have hbz := build_none
  have hz : N4 [0, 0, 0, 0] 0 := n4_small 0 (by decide)
  obtain ⟨es, hes⟩ : ∃ x, x = nar (dig 18446744073709551616 4 eighth) := ⟨_, rfl⟩
  rw [← hes] at he hbe
  obtain ⟨is, his⟩ : ∃ x, x = nar (dig 18446744073709551616 4 im) := ⟨_, rfl⟩
  rw [← his] at hi hbi
  obtain ⟨os, hos⟩ : ∃ x : List Int, x = [0, 0, 0, 0] := ⟨_, rfl⟩
  rw [← hos] at hz hbz
  have HE := Lib.hid he
  have HEL := Lib.hid he.len
  have HI := Lib.hid hi
  have HIL := Lib.hid hi.len
  have HO := Lib.hid hz
  have HOL := Lib.hid hz.len
  have HBE := Lib.hid hbe
  have HBI := Lib.hid hbi
  have HBO := Lib.hid hbz
  have hpw := fun w => power_any a eighth w hx HE.out
  have hxl := fpow_lt a eighth 256
  obtain ⟨x0, hx0⟩ : ∃ x, x = fpow a eighth 256 := ⟨_, rfl⟩
  rw [← hx0] at hpw hxl
  have HPW := Lib.hid hpw
  have HX0 := Lib.hid hxl
  have HRS := Lib.hid (fun y hy => fsqrt_eq a x0 y hx0 hy)
  have HX := Lib.hid hx
  have HXL := Lib.hid hx.len
  obtain ⟨zl, hzl⟩ : ∃ zs : List Int, zs = List.replicate 4 0 := ⟨_, rfl⟩
  have HZzl : Hid (∀ w, (zeroValue 49).run Try.prog w = .ok (.agg (arr .u64 zl)) w) := Lib.hid (by intro w; rw [hzl]; exact zero_lim w)
  have HLzl : Hid (zl.length = 4) := Lib.hid (by rw [hzl]; rfl)
  have HS0 := Lib.hid (Blk.two w (arr .u64 xs) (arr .u64 zl) 49 49)
  clear hzl hx he hi hbe hbi hbz hz hes his hos hpw hxl hx0
  go_enter Try.func48, Try.ntmps48
  go_upto_region 1 with (first | ((with_reducible show wpList _ _ _ (Oper.mk (some 2) _ _ _ _ _ :: _) _ _); refine wpList_alloc_row rfl 49 rfl _ (HZzl.out _) ?_))
  generalize ((w.alloc (.cells (arr .u64 xs) 49)).alloc (.cells (arr .u64 zl) 49)) = wb at HS0 ⊢
  go_upto_region 2 with (first | ((with_reducible show wpList _ _ _ (Oper.mk (some 7) _ _ _ _ _ :: _) _ _); refine wpList_build (by rfl) 49 _ rfl #[(0, .int .u64 18446744073709551614), (1, .int .u64 18446744073709551615), (2, .int .u64 18446744073709551615), (3, .int .u64 1152921504606846975)] rfl _ (HBE.out _) ?_) | ((with_reducible show wpList _ _ _ (Oper.mk (some 4) _ _ _ _ _ :: _) _ _); refine wpList_alloc_row rfl 49 rfl _ (HZzl.out _) ?_; have HB1101 := Lib.hid (HS0.out.alloc (arr .u64 zl) 49); generalize wb.heap.size = g1101 at HB1101 ⊢; generalize wb.alloc (.cells (arr .u64 zl) 49) = w1101 at HB1101 ⊢) | ((with_reducible show wpList _ _ _ (Oper.mk none (Op.store _ (Operand.tmp 4) (Operand.tmp 7)) _ _ _ _ :: _) _ _); refine wpList_store_whole rfl 49 _ _ rfl (g1101) _ _ 49 (HB1101.out.get 2 rfl) rfl rfl (arr_len2 _ _ HEL.out HLzl.out) (lim_s HEL.out) (all_arr _ _) ?_; intro w1102 hb1102 hk1102 hz1102; have HB1102 := Lib.hid (HB1101.out.put 2 rfl hk1102 hb1102); clear hb1102 hk1102 hz1102; clear HB1101))
  go_upto_region 3 with (first | ((with_reducible show wpList _ _ _ (Oper.mk (some 8) _ _ _ _ _ :: _) _ _); refine wpList_build (by rfl) 49 _ rfl #[(0, .int .u64 14190309331451158704), (1, .int .u64 3405592160176694392), (2, .int .u64 3120150775007532967), (3, .int .u64 3135389899092516619)] rfl _ (HBI.out _) ?_) | ((with_reducible show wpList _ _ _ (Oper.mk (some 5) _ _ _ _ _ :: _) _ _); refine wpList_alloc_row rfl 49 rfl _ (HZzl.out _) ?_; have HB1103 := Lib.hid (HB1102.out.alloc (arr .u64 zl) 49); generalize w1102.heap.size = g1103 at HB1103 ⊢; generalize w1102.alloc (.cells (arr .u64 zl) 49) = w1103 at HB1103 ⊢; clear HB1102) | ((with_reducible show wpList _ _ _ (Oper.mk none (Op.store _ (Operand.tmp 5) (Operand.tmp 8)) _ _ _ _ :: _) _ _); refine wpList_store_whole rfl 49 _ _ rfl (g1103) _ _ 49 (HB1103.out.get 3 rfl) rfl rfl (arr_len2 _ _ HIL.out HLzl.out) (lim_s HIL.out) (all_arr _ _) ?_; intro w1104 hb1104 hk1104 hz1104; have HB1104 := Lib.hid (HB1103.out.put 3 rfl hk1104 hb1104); clear hb1104 hk1104 hz1104; clear HB1103))
  go_upto_region 4 with (first | ((with_reducible show wpList _ _ _ (Oper.mk (some 9) _ _ _ _ _ :: _) _ _); refine wpList_load_part rfl 49 _ rfl (w.heap.size) (0) _ 49 (0, 0) _ (HB1104.out.get 0 rfl) rfl .u64 xs (arr_part _ _) Try.underlying49 rfl (lim_i HXL.out) ?_) | ((with_reducible show wpList _ _ _ (Oper.mk (some 10) _ _ _ _ _ :: _) _ _); refine wpList_load_part rfl 49 _ rfl (g1101) (0) _ 49 (0, 0) _ (HB1104.out.get 2 rfl) rfl .u64 es (arr_part _ _) Try.underlying49 rfl (lim_i HEL.out) ?_) | ((with_reducible show Calls _ 65 #[.agg _, .agg _] _ _); go_at_call 65; refine (HPW.out _).mono ?_; rintro e w1105 ⟨z1105, rfl, h1105, hb1105⟩; have HZ1105 := Lib.hid h1105; have HL1105 := Lib.hid h1105.len; clear h1105; have HB1105 := Lib.hid (HB1104.out.kept hb1105); clear hb1105; clear HB1104) | ((with_reducible show wpList _ _ _ (Oper.mk (some 6) _ _ _ _ _ :: _) _ _); refine wpList_alloc_row rfl 49 rfl _ (HZzl.out _) ?_; have HB1106 := Lib.hid (HB1105.out.alloc (arr .u64 zl) 49); generalize w1105.heap.size = g1106 at HB1106 ⊢; generalize w1105.alloc (.cells (arr .u64 zl) 49) = w1106 at HB1106 ⊢; clear HB1105) | ((with_reducible show wpList _ _ _ (Oper.mk none (Op.store _ (Operand.tmp 6) (Operand.tmp 11)) _ _ _ _ :: _) _ _); refine wpList_store_whole rfl 49 _ _ rfl (g1106) _ _ 49 (HB1106.out.get 4 rfl) rfl rfl (arr_len2 _ _ HL1105.out HLzl.out) (lim_s HL1105.out) (all_arr _ _) ?_; intro w1107 hb1107 hk1107 hz1107; have HB1107 := Lib.hid (HB1106.out.put 4 rfl hk1107 hb1107); clear hb1107 hk1107 hz1107; clear HB1106))
  by_cases h1 : fmul x0 x0 = a
  · have HQ : Hid (decide (fmul x0 x0 ≠ a) = false) := Lib.hid (by simp [h1])
    have HYE : Hid (x0 = if fmul x0 x0 = a then x0 else fmul x0 im) := Lib.hid (by rw [if_pos h1])
    have HYL := HX0
    clear h1
    have HK0 := Lib.hid ((Kept.refl (fun _ => False) w1107).drew)
    have HBd := Lib.hid (HB1107.out.drew)
    refine wp_region_held_drew (S := (fun w' => Kept (fun _ => False) w1107 w')) (by kernel_rfl) (HK0.out) (fun hHeld => ?_)
    generalize w1107.drew = wd at HK0 HBd hHeld ⊢
    refine' wpAnyH_take (i := 0) (oi := ({ dst := some 12, op := Op.load 49 (Operand.tmp 6), type := 49, pos := "field.go:93", after := #[], guard := none } : Oper)) (v := _) rfl (by kernel_rfl) (by kernel_rfl) (by kernel_rfl) (fun _ _ _ h => h) (yieldsIf_load_mid (by rfl) _ _ rfl _ _ rfl (z1105.map (Value.int .u64)) _ ?hS1108 Try.underlying49 rfl (by rw [List.length_map]; exact lim_i HL1105.out)) (by assumption) ?rest1108
    case hS1108 => (intro w hSw; (try dsimp only at hSw); exact range_part (hSw.blk (HB1107.out.get 4 rfl) (fun e => e.elim)) 0 _ (by rw [List.length_map]; exact arr_part _ _))
    (try simp only [Act.put, List.setIfInBounds_toArray, List.set_cons_zero, List.set_cons_succ])
    refine' wpAnyH_take (i := 1) (oi := ({ dst := some 13, op := Op.load 49 (Operand.tmp 6), type := 49, pos := "field.go:93", after := #[], guard := none } : Oper)) (v := _) rfl (by kernel_rfl) (by kernel_rfl) (by kernel_rfl) (fun _ _ _ h => h) (yieldsIf_load_mid (by rfl) _ _ rfl _ _ rfl (z1105.map (Value.int .u64)) _ ?hS1109 Try.underlying49 rfl (by rw [List.length_map]; exact lim_i HL1105.out)) (by assumption) ?rest1109
    case hS1109 => (intro w hSw; (try dsimp only at hSw); exact range_part (hSw.blk (HB1107.out.get 4 rfl) (fun e => e.elim)) 0 _ (by rw [List.length_map]; exact arr_part _ _))
    (try simp only [Act.put, List.setIfInBounds_toArray, List.set_cons_zero, List.set_cons_succ])
    refine' wpAnyH_take (i := 3) (oi := ({ dst := some 15, op := Op.load 49 (Operand.tmp 1), type := 49, pos := "field.go:93", after := #[], guard := none } : Oper)) (v := _) rfl (by kernel_rfl) (by kernel_rfl) (by kernel_rfl) (fun _ _ _ h => h) (yieldsIf_load_mid (by rfl) _ _ rfl _ _ rfl (xs.map (Value.int .u64)) _ ?hS1110 Try.underlying49 rfl (by rw [List.length_map]; exact lim_i HXL.out)) (by assumption) ?rest1110
    case hS1110 => (intro w hSw; (try dsimp only at hSw); exact range_part (hSw.blk (HB1107.out.get 0 rfl) (fun e => e.elim)) 0 _ (by rw [List.length_map]; exact arr_part _ _))
    (try simp only [Act.put, List.setIfInBounds_toArray, List.set_cons_zero, List.set_cons_succ])
    refine wpAnyH_ready (rs := [2]) (by kernel_rfl) (by simp) ?_
    refine AllReadyH.cons (o := ({ dst := some 14, op := Op.call { callee := Callee.value (Operand.func 35), args := #[Operand.tmp 12, Operand.tmp 13], argTypes := #[49, 49] }, type := 49, pos := "field.go:93", after := #[{ on := 0, ground := Ground.data }, { on := 1, ground := Ground.data }], guard := none } : Oper)) rfl (fun K hK => ?_) AllReadyH.nil
    go_simp
    go_at_call 35
    refine (times_any _ _ _ HZ1105.out HZ1105.out).mono ?_
    rintro e w1111 ⟨z1111, rfl, h1111, hb1111⟩
    have HZ1111 := Lib.hid h1111
    have HL1111 := Lib.hid h1111.len
    clear h1111
    have HB1111 := Lib.hid (HBd.out.kept hb1111)
    have HK1111 := Lib.hid (HK0.out.trans (Kept.of_below hb1111))
    clear hb1111
    (try dsimp only)
    clear HBd
    clear HK0
    clear hHeld
    refine hK.out _ _ (HK1111.out) (fun hHeld => ?_)
    clear hK K
    (try simp only [Act.put, List.setIfInBounds_toArray, List.set_cons_zero, List.set_cons_succ])
    refine wpAnyH_take (i := 4) (oi := ({ dst := some 16, op := Op.binOp BinOp.neq 49 (Operand.tmp 14) (Operand.tmp 15) 49, type := 4, pos := "field.go:93", after := #[{ on := 2, ground := Ground.data }, { on := 3, ground := Ground.data }], guard := none } : Oper)) (v := (.bool false)) rfl (by kernel_rfl) (by kernel_rfl) (by kernel_rfl) (fun _ _ _ h => h) (Or.inl ⟨by rfl, ?hy1112⟩) (by assumption) ?rest1112
    case hy1112 => (intro w hSw; (try dsimp only at hSw); exact exec_neq_limb 49 _ _ (.tmp 14) (.tmp 15) rfl 4 .u64 .u64 Try.underlying49 Try.underlying47 (fun w => by kernel_rfl) (by kernel_rfl) z1111 xs rfl rfl HL1111.out HXL.out _ (n4_neq HZ1111.out HX.out _ HQ.out))
    (try simp only [Act.put, List.setIfInBounds_toArray, List.set_cons_zero, List.set_cons_succ])
    refine wpAnyH_done (by kernel_rfl) ?_ _
    have HBF4 := HB1111
    clear HB1107
    clear HB1111
    clear HQ
    (try simp only [Exit.then])
    go_upto_region 6 with fail
    have HYQ := Lib.hid (HRS.out x0 HYE.out)
    clear HYE
    by_cases h2 : fmul x0 x0 = a
    · have HQ : Hid (decide (fmul x0 x0 ≠ a) = false) := Lib.hid (by simp [h2])
      have hr := HYQ.out
      rw [if_pos h2] at hr
      have HR0 := Lib.hid hr
      clear hr h2 HYQ
      have HK0 := Lib.hid ((Kept.refl (fun _ => False) w1111).drew)
      have HBd := Lib.hid (HBF4.out.drew)
      refine wp_region_held_drew (S := (fun w' => Kept (fun _ => False) w1111 w')) (by kernel_rfl) (HK0.out) (fun hHeld => ?_)
      generalize w1111.drew = wd at HK0 HBd hHeld ⊢
      refine' wpAnyH_take (i := 0) (oi := ({ dst := some 20, op := Op.load 49 (Operand.tmp 6), type := 49, pos := "field.go:96", after := #[], guard := none } : Oper)) (v := _) rfl (by kernel_rfl) (by kernel_rfl) (by kernel_rfl) (fun _ _ _ h => h) (yieldsIf_load_mid (by rfl) _ _ rfl _ _ rfl (z1105.map (Value.int .u64)) _ ?hS1113 Try.underlying49 rfl (by rw [List.length_map]; exact lim_i HL1105.out)) (by assumption) ?rest1113
      case hS1113 => (intro w hSw; (try dsimp only at hSw); exact range_part (hSw.blk (HBF4.out.get 4 rfl) (fun e => e.elim)) 0 _ (by rw [List.length_map]; exact arr_part _ _))
      (try simp only [Act.put, List.setIfInBounds_toArray, List.set_cons_zero, List.set_cons_succ])
      refine' wpAnyH_take (i := 1) (oi := ({ dst := some 21, op := Op.load 49 (Operand.tmp 6), type := 49, pos := "field.go:96", after := #[], guard := none } : Oper)) (v := _) rfl (by kernel_rfl) (by kernel_rfl) (by kernel_rfl) (fun _ _ _ h => h) (yieldsIf_load_mid (by rfl) _ _ rfl _ _ rfl (z1105.map (Value.int .u64)) _ ?hS1114 Try.underlying49 rfl (by rw [List.length_map]; exact lim_i HL1105.out)) (by assumption) ?rest1114
      case hS1114 => (intro w hSw; (try dsimp only at hSw); exact range_part (hSw.blk (HBF4.out.get 4 rfl) (fun e => e.elim)) 0 _ (by rw [List.length_map]; exact arr_part _ _))
      (try simp only [Act.put, List.setIfInBounds_toArray, List.set_cons_zero, List.set_cons_succ])
      refine' wpAnyH_take (i := 3) (oi := ({ dst := some 23, op := Op.load 49 (Operand.tmp 1), type := 49, pos := "field.go:96", after := #[], guard := none } : Oper)) (v := _) rfl (by kernel_rfl) (by kernel_rfl) (by kernel_rfl) (fun _ _ _ h => h) (yieldsIf_load_mid (by rfl) _ _ rfl _ _ rfl (xs.map (Value.int .u64)) _ ?hS1115 Try.underlying49 rfl (by rw [List.length_map]; exact lim_i HXL.out)) (by assumption) ?rest1115
      case hS1115 => (intro w hSw; (try dsimp only at hSw); exact range_part (hSw.blk (HBF4.out.get 0 rfl) (fun e => e.elim)) 0 _ (by rw [List.length_map]; exact arr_part _ _))
      (try simp only [Act.put, List.setIfInBounds_toArray, List.set_cons_zero, List.set_cons_succ])
      refine wpAnyH_ready (rs := [2]) (by kernel_rfl) (by simp) ?_
      refine AllReadyH.cons (o := ({ dst := some 22, op := Op.call { callee := Callee.value (Operand.func 35), args := #[Operand.tmp 20, Operand.tmp 21], argTypes := #[49, 49] }, type := 49, pos := "field.go:96", after := #[{ on := 0, ground := Ground.data }, { on := 1, ground := Ground.data }], guard := none } : Oper)) rfl (fun K hK => ?_) AllReadyH.nil
      go_simp
      go_at_call 35
      refine (times_any _ _ _ HZ1105.out HZ1105.out).mono ?_
      rintro e w1116 ⟨z1116, rfl, h1116, hb1116⟩
      have HZ1116 := Lib.hid h1116
      have HL1116 := Lib.hid h1116.len
      clear h1116
      have HB1116 := Lib.hid (HBd.out.kept hb1116)
      have HK1116 := Lib.hid (HK0.out.trans (Kept.of_below hb1116))
      clear hb1116
      (try dsimp only)
      clear HBd
      clear HK0
      clear hHeld
      refine hK.out _ _ (HK1116.out) (fun hHeld => ?_)
      clear hK K
      (try simp only [Act.put, List.setIfInBounds_toArray, List.set_cons_zero, List.set_cons_succ])
      refine wpAnyH_take (i := 4) (oi := ({ dst := some 24, op := Op.binOp BinOp.neq 49 (Operand.tmp 22) (Operand.tmp 23) 49, type := 4, pos := "field.go:96", after := #[{ on := 2, ground := Ground.data }, { on := 3, ground := Ground.data }], guard := none } : Oper)) (v := (.bool false)) rfl (by kernel_rfl) (by kernel_rfl) (by kernel_rfl) (fun _ _ _ h => h) (Or.inl ⟨by rfl, ?hy1117⟩) (by assumption) ?rest1117
      case hy1117 => (intro w hSw; (try dsimp only at hSw); exact exec_neq_limb 49 _ _ (.tmp 22) (.tmp 23) rfl 4 .u64 .u64 Try.underlying49 Try.underlying47 (fun w => by kernel_rfl) (by kernel_rfl) z1116 xs rfl rfl HL1116.out HXL.out _ (n4_neq HZ1116.out HX.out _ HQ.out))
      (try simp only [Act.put, List.setIfInBounds_toArray, List.set_cons_zero, List.set_cons_succ])
      refine wpAnyH_done (by kernel_rfl) ?_ _
      have HBF6 := HB1116
      clear HBF4
      clear HB1116
      clear HQ
      (try simp only [Exit.then])
      rcases (show x0 % 2 = 0 ∨ x0 % 2 = 1 by omega) with hb | hb
      · have hr := HR0.out
        rw [if_neg (by omega)] at hr
        have HR := Lib.hid hr
        have HBT := Lib.hid (fun w => (bit_any x0 0 0 w HZ1105.out (by decide) (by rw [Nat.pow_zero, Nat.div_one]; exact hb) : Calls Try.prog 38 #[.agg (arr .u64 z1105), .int .i64 0] w fun e w' => e = .returned (.int .u64 0) ∧ Below w.heap.size w w'))
        clear hr hb HR0
        go_upto_region 10 with (first | ((with_reducible show wpList _ _ _ (Oper.mk (some 26) _ _ _ _ _ :: _) _ _); refine wpList_load_part rfl 49 _ rfl (g1106) (0) _ 49 (0, 0) _ (HBF6.out.get 4 rfl) rfl .u64 z1105 (arr_part _ _) Try.underlying49 rfl (lim_i HL1105.out) ?_) | ((with_reducible show Calls _ 38 #[.agg _, _] _ _); go_at_call 38; refine (HBT.out _).mono ?_; rintro e w1118 ⟨rfl, hb1118⟩; have HB1118 := Lib.hid (HBF6.out.kept hb1118); clear hb1118))
        go_wp2_with (first | ((with_reducible show wpList _ _ _ (Oper.mk (some 32) _ _ _ _ _ :: _) _ _); refine wpList_load_part rfl 49 _ rfl (g1106) (0) _ 49 (0, 0) _ (HB1118.out.get 4 rfl) rfl .u64 z1105 (arr_part _ _) Try.underlying49 rfl (lim_i HL1105.out) ?_) | ((with_reducible show wpList _ _ _ (Oper.mk none (Op.store _ (Operand.tmp 2) (Operand.tmp 32)) _ _ _ _ :: _) _ _); refine wpList_store_whole rfl 49 _ _ rfl (w.heap.size + 1) _ _ 49 (HB1118.out.get 1 rfl) rfl rfl (arr_len2 _ _ HL1105.out HLzl.out) (lim_s HL1105.out) (all_arr _ _) ?_; intro w1119 hb1119 hk1119 hz1119; have HB1119 := Lib.hid (HB1118.out.put 1 rfl hk1119 hb1119); clear hb1119 hk1119 hz1119; clear HB1118))
        (try simp only [Exit.inBlock, Exit.then])
        refine bodyPost_ret (results_cell_tmp_row rfl _ _ (w.heap.size + 1) 49 _ (0, 0) _ _ rfl (HB1119.out.get 1 rfl) Try.underlying49 rfl (lim_s HL1105.out) rfl) rfl ?_
        refine ⟨_, ?_, by rw [HR.out]; exact HZ1105.out, HB1119.out.below⟩
        rw [HR.out]; rfl
      · have hr := HR0.out
        rw [if_pos hb] at hr
        have HR := Lib.hid hr
        have HBT := Lib.hid (fun w => (bit_any x0 0 1 w HZ1105.out (by decide) (by rw [Nat.pow_zero, Nat.div_one]; exact hb) : Calls Try.prog 38 #[.agg (arr .u64 z1105), .int .i64 0] w fun e w' => e = .returned (.int .u64 1) ∧ Below w.heap.size w w'))
        clear hr hb HR0
        go_upto_region 9 with (first | ((with_reducible show wpList _ _ _ (Oper.mk (some 26) _ _ _ _ _ :: _) _ _); refine wpList_load_part rfl 49 _ rfl (g1106) (0) _ 49 (0, 0) _ (HBF6.out.get 4 rfl) rfl .u64 z1105 (arr_part _ _) Try.underlying49 rfl (lim_i HL1105.out) ?_) | ((with_reducible show Calls _ 38 #[.agg _, _] _ _); go_at_call 38; refine (HBT.out _).mono ?_; rintro e w1120 ⟨rfl, hb1120⟩; have HB1120 := Lib.hid (HBF6.out.kept hb1120); clear hb1120))
        go_upto_region 10 with (first | ((with_reducible show wpList _ _ _ (Oper.mk (some 29) _ _ _ _ _ :: _) _ _); refine wpList_build (by rfl) 49 _ rfl #[] rfl _ (HBO.out _) ?_) | ((with_reducible show wpList _ _ _ (Oper.mk (some 30) _ _ _ _ _ :: _) _ _); refine wpList_load_part rfl 49 _ rfl (g1106) (0) _ 49 (0, 0) _ (HB1120.out.get 4 rfl) rfl .u64 z1105 (arr_part _ _) Try.underlying49 rfl (lim_i HL1105.out) ?_) | ((with_reducible show Calls _ 45 #[.agg _, .agg _] _ _); go_at_call 45; refine (minus_any _ _ _ HO.out HZ1105.out p_pos HYL.out).mono ?_; rintro e w1121 ⟨z1121, rfl, h1121, hb1121⟩; have HZ1121 := Lib.hid h1121; have HL1121 := Lib.hid h1121.len; clear h1121; have HB1121 := Lib.hid (HB1120.out.kept hb1121); clear hb1121; clear HB1120) | ((with_reducible show wpList _ _ _ (Oper.mk none (Op.store _ (Operand.tmp 6) (Operand.tmp 31)) _ _ _ _ :: _) _ _); refine wpList_store_whole rfl 49 _ _ rfl (g1106) _ _ 49 (HB1121.out.get 4 rfl) rfl rfl (arr_len2 _ _ HL1121.out HL1105.out) (lim_s HL1121.out) (all_arr _ _) ?_; intro w1122 hb1122 hk1122 hz1122; have HB1122 := Lib.hid (HB1121.out.put 4 rfl hk1122 hb1122); clear hb1122 hk1122 hz1122; clear HB1121))
        go_wp2_with (first | ((with_reducible show wpList _ _ _ (Oper.mk (some 32) _ _ _ _ _ :: _) _ _); refine wpList_load_part rfl 49 _ rfl (g1106) (0) _ 49 (0, 0) _ (HB1122.out.get 4 rfl) rfl .u64 z1121 (arr_part _ _) Try.underlying49 rfl (lim_i HL1121.out) ?_) | ((with_reducible show wpList _ _ _ (Oper.mk none (Op.store _ (Operand.tmp 2) (Operand.tmp 32)) _ _ _ _ :: _) _ _); refine wpList_store_whole rfl 49 _ _ rfl (w.heap.size + 1) _ _ 49 (HB1122.out.get 1 rfl) rfl rfl (arr_len2 _ _ HL1121.out HLzl.out) (lim_s HL1121.out) (all_arr _ _) ?_; intro w1123 hb1123 hk1123 hz1123; have HB1123 := Lib.hid (HB1122.out.put 1 rfl hk1123 hb1123); clear hb1123 hk1123 hz1123; clear HB1122))
        (try simp only [Exit.inBlock, Exit.then])
        refine bodyPost_ret (results_cell_tmp_row rfl _ _ (w.heap.size + 1) 49 _ (0, 0) _ _ rfl (HB1123.out.get 1 rfl) Try.underlying49 rfl (lim_s HL1121.out) rfl) rfl ?_
        refine ⟨_, ?_, by rw [HR.out]; exact HZ1121.out, HB1123.out.below⟩
        rw [HR.out]; rfl
    · have HQ : Hid (decide (fmul x0 x0 ≠ a) = true) := Lib.hid (by simp [h2])
      have hr := HYQ.out
      rw [if_neg h2] at hr
      have HR0 := Lib.hid hr
      clear hr h2 HYQ
      have HK0 := Lib.hid ((Kept.refl (fun _ => False) w1111).drew)
      have HBd := Lib.hid (HBF4.out.drew)
      refine wp_region_held_drew (S := (fun w' => Kept (fun _ => False) w1111 w')) (by kernel_rfl) (HK0.out) (fun hHeld => ?_)
      generalize w1111.drew = wd at HK0 HBd hHeld ⊢
      refine' wpAnyH_take (i := 0) (oi := ({ dst := some 20, op := Op.load 49 (Operand.tmp 6), type := 49, pos := "field.go:96", after := #[], guard := none } : Oper)) (v := _) rfl (by kernel_rfl) (by kernel_rfl) (by kernel_rfl) (fun _ _ _ h => h) (yieldsIf_load_mid (by rfl) _ _ rfl _ _ rfl (z1105.map (Value.int .u64)) _ ?hS1124 Try.underlying49 rfl (by rw [List.length_map]; exact lim_i HL1105.out)) (by assumption) ?rest1124
      case hS1124 => (intro w hSw; (try dsimp only at hSw); exact range_part (hSw.blk (HBF4.out.get 4 rfl) (fun e => e.elim)) 0 _ (by rw [List.length_map]; exact arr_part _ _))
      (try simp only [Act.put, List.setIfInBounds_toArray, List.set_cons_zero, List.set_cons_succ])
      refine' wpAnyH_take (i := 1) (oi := ({ dst := some 21, op := Op.load 49 (Operand.tmp 6), type := 49, pos := "field.go:96", after := #[], guard := none } : Oper)) (v := _) rfl (by kernel_rfl) (by kernel_rfl) (by kernel_rfl) (fun _ _ _ h => h) (yieldsIf_load_mid (by rfl) _ _ rfl _ _ rfl (z1105.map (Value.int .u64)) _ ?hS1125 Try.underlying49 rfl (by rw [List.length_map]; exact lim_i HL1105.out)) (by assumption) ?rest1125
      case hS1125 => (intro w hSw; (try dsimp only at hSw); exact range_part (hSw.blk (HBF4.out.get 4 rfl) (fun e => e.elim)) 0 _ (by rw [List.length_map]; exact arr_part _ _))
      (try simp only [Act.put, List.setIfInBounds_toArray, List.set_cons_zero, List.set_cons_succ])
      refine' wpAnyH_take (i := 3) (oi := ({ dst := some 23, op := Op.load 49 (Operand.tmp 1), type := 49, pos := "field.go:96", after := #[], guard := none } : Oper)) (v := _) rfl (by kernel_rfl) (by kernel_rfl) (by kernel_rfl) (fun _ _ _ h => h) (yieldsIf_load_mid (by rfl) _ _ rfl _ _ rfl (xs.map (Value.int .u64)) _ ?hS1126 Try.underlying49 rfl (by rw [List.length_map]; exact lim_i HXL.out)) (by assumption) ?rest1126
      case hS1126 => (intro w hSw; (try dsimp only at hSw); exact range_part (hSw.blk (HBF4.out.get 0 rfl) (fun e => e.elim)) 0 _ (by rw [List.length_map]; exact arr_part _ _))
      (try simp only [Act.put, List.setIfInBounds_toArray, List.set_cons_zero, List.set_cons_succ])
      refine wpAnyH_ready (rs := [2]) (by kernel_rfl) (by simp) ?_
      refine AllReadyH.cons (o := ({ dst := some 22, op := Op.call { callee := Callee.value (Operand.func 35), args := #[Operand.tmp 20, Operand.tmp 21], argTypes := #[49, 49] }, type := 49, pos := "field.go:96", after := #[{ on := 0, ground := Ground.data }, { on := 1, ground := Ground.data }], guard := none } : Oper)) rfl (fun K hK => ?_) AllReadyH.nil
      go_simp
      go_at_call 35
      refine (times_any _ _ _ HZ1105.out HZ1105.out).mono ?_
      rintro e w1127 ⟨z1127, rfl, h1127, hb1127⟩
      have HZ1127 := Lib.hid h1127
      have HL1127 := Lib.hid h1127.len
      clear h1127
      have HB1127 := Lib.hid (HBd.out.kept hb1127)
      have HK1127 := Lib.hid (HK0.out.trans (Kept.of_below hb1127))
      clear hb1127
      (try dsimp only)
      clear HBd
      clear HK0
      clear hHeld
      refine hK.out _ _ (HK1127.out) (fun hHeld => ?_)
      clear hK K
      (try simp only [Act.put, List.setIfInBounds_toArray, List.set_cons_zero, List.set_cons_succ])
      refine wpAnyH_take (i := 4) (oi := ({ dst := some 24, op := Op.binOp BinOp.neq 49 (Operand.tmp 22) (Operand.tmp 23) 49, type := 4, pos := "field.go:96", after := #[{ on := 2, ground := Ground.data }, { on := 3, ground := Ground.data }], guard := none } : Oper)) (v := (.bool true)) rfl (by kernel_rfl) (by kernel_rfl) (by kernel_rfl) (fun _ _ _ h => h) (Or.inl ⟨by rfl, ?hy1128⟩) (by assumption) ?rest1128
      case hy1128 => (intro w hSw; (try dsimp only at hSw); exact exec_neq_limb 49 _ _ (.tmp 22) (.tmp 23) rfl 4 .u64 .u64 Try.underlying49 Try.underlying47 (fun w => by kernel_rfl) (by kernel_rfl) z1127 xs rfl rfl HL1127.out HXL.out _ (n4_neq HZ1127.out HX.out _ HQ.out))
      (try simp only [Act.put, List.setIfInBounds_toArray, List.set_cons_zero, List.set_cons_succ])
      refine wpAnyH_done (by kernel_rfl) ?_ _
      have HBF6 := HB1127
      clear HBF4
      clear HB1127
      clear HQ
      (try simp only [Exit.then])
      have HR := HR0
      clear HR0
      go_wp2_with (first | ((with_reducible show wpList _ _ _ (Oper.mk (some 25) _ _ _ _ _ :: _) _ _); refine wpList_build (by rfl) 49 _ rfl #[] rfl _ (HBO.out _) ?_) | ((with_reducible show wpList _ _ _ (Oper.mk none (Op.store _ (Operand.tmp 2) (Operand.tmp 25)) _ _ _ _ :: _) _ _); refine wpList_store_whole rfl 49 _ _ rfl (w.heap.size + 1) _ _ 49 (HBF6.out.get 1 rfl) rfl rfl (arr_len2 _ _ HOL.out HLzl.out) (lim_s HOL.out) (all_arr _ _) ?_; intro w1129 hb1129 hk1129 hz1129; have HB1129 := Lib.hid (HBF6.out.put 1 rfl hk1129 hb1129); clear hb1129 hk1129 hz1129))
      (try simp only [Exit.inBlock, Exit.then])
      refine bodyPost_ret (results_cell_tmp_row rfl _ _ (w.heap.size + 1) 49 _ (0, 0) _ _ rfl (HB1129.out.get 1 rfl) Try.underlying49 rfl (lim_s HOL.out) rfl) rfl ?_
      refine ⟨_, ?_, by rw [HR.out]; exact HO.out, HB1129.out.below⟩
      rw [HR.out]; rfl
  · have HQ : Hid (decide (fmul x0 x0 ≠ a) = true) := Lib.hid (by simp [h1])
    obtain ⟨y0, hy0⟩ : ∃ y, y = fmul x0 im := ⟨_, rfl⟩
    have HYE : Hid (y0 = if fmul x0 x0 = a then x0 else fmul x0 im) := Lib.hid (by rw [if_neg h1]; exact hy0)
    have HYL : Hid (y0 < p) := Lib.hid (by rw [hy0]; exact fmul_lt _ _)
    have HY0 := Lib.hid hy0
    clear hy0
    clear h1
    have HK0 := Lib.hid ((Kept.refl (fun _ => False) w1107).drew)
    have HBd := Lib.hid (HB1107.out.drew)
    refine wp_region_held_drew (S := (fun w' => Kept (fun _ => False) w1107 w')) (by kernel_rfl) (HK0.out) (fun hHeld => ?_)
    generalize w1107.drew = wd at HK0 HBd hHeld ⊢
    refine' wpAnyH_take (i := 0) (oi := ({ dst := some 12, op := Op.load 49 (Operand.tmp 6), type := 49, pos := "field.go:93", after := #[], guard := none } : Oper)) (v := _) rfl (by kernel_rfl) (by kernel_rfl) (by kernel_rfl) (fun _ _ _ h => h) (yieldsIf_load_mid (by rfl) _ _ rfl _ _ rfl (z1105.map (Value.int .u64)) _ ?hS1130 Try.underlying49 rfl (by rw [List.length_map]; exact lim_i HL1105.out)) (by assumption) ?rest1130
    case hS1130 => (intro w hSw; (try dsimp only at hSw); exact range_part (hSw.blk (HB1107.out.get 4 rfl) (fun e => e.elim)) 0 _ (by rw [List.length_map]; exact arr_part _ _))
    (try simp only [Act.put, List.setIfInBounds_toArray, List.set_cons_zero, List.set_cons_succ])
    refine' wpAnyH_take (i := 1) (oi := ({ dst := some 13, op := Op.load 49 (Operand.tmp 6), type := 49, pos := "field.go:93", after := #[], guard := none } : Oper)) (v := _) rfl (by kernel_rfl) (by kernel_rfl) (by kernel_rfl) (fun _ _ _ h => h) (yieldsIf_load_mid (by rfl) _ _ rfl _ _ rfl (z1105.map (Value.int .u64)) _ ?hS1131 Try.underlying49 rfl (by rw [List.length_map]; exact lim_i HL1105.out)) (by assumption) ?rest1131
    case hS1131 => (intro w hSw; (try dsimp only at hSw); exact range_part (hSw.blk (HB1107.out.get 4 rfl) (fun e => e.elim)) 0 _ (by rw [List.length_map]; exact arr_part _ _))
    (try simp only [Act.put, List.setIfInBounds_toArray, List.set_cons_zero, List.set_cons_succ])
    refine' wpAnyH_take (i := 3) (oi := ({ dst := some 15, op := Op.load 49 (Operand.tmp 1), type := 49, pos := "field.go:93", after := #[], guard := none } : Oper)) (v := _) rfl (by kernel_rfl) (by kernel_rfl) (by kernel_rfl) (fun _ _ _ h => h) (yieldsIf_load_mid (by rfl) _ _ rfl _ _ rfl (xs.map (Value.int .u64)) _ ?hS1132 Try.underlying49 rfl (by rw [List.length_map]; exact lim_i HXL.out)) (by assumption) ?rest1132
    case hS1132 => (intro w hSw; (try dsimp only at hSw); exact range_part (hSw.blk (HB1107.out.get 0 rfl) (fun e => e.elim)) 0 _ (by rw [List.length_map]; exact arr_part _ _))
    (try simp only [Act.put, List.setIfInBounds_toArray, List.set_cons_zero, List.set_cons_succ])
    refine wpAnyH_ready (rs := [2]) (by kernel_rfl) (by simp) ?_
    refine AllReadyH.cons (o := ({ dst := some 14, op := Op.call { callee := Callee.value (Operand.func 35), args := #[Operand.tmp 12, Operand.tmp 13], argTypes := #[49, 49] }, type := 49, pos := "field.go:93", after := #[{ on := 0, ground := Ground.data }, { on := 1, ground := Ground.data }], guard := none } : Oper)) rfl (fun K hK => ?_) AllReadyH.nil
    go_simp
    go_at_call 35
    refine (times_any _ _ _ HZ1105.out HZ1105.out).mono ?_
    rintro e w1133 ⟨z1133, rfl, h1133, hb1133⟩
    have HZ1133 := Lib.hid h1133
    have HL1133 := Lib.hid h1133.len
    clear h1133
    have HB1133 := Lib.hid (HBd.out.kept hb1133)
    have HK1133 := Lib.hid (HK0.out.trans (Kept.of_below hb1133))
    clear hb1133
    (try dsimp only)
    clear HBd
    clear HK0
    clear hHeld
    refine hK.out _ _ (HK1133.out) (fun hHeld => ?_)
    clear hK K
    (try simp only [Act.put, List.setIfInBounds_toArray, List.set_cons_zero, List.set_cons_succ])
    refine wpAnyH_take (i := 4) (oi := ({ dst := some 16, op := Op.binOp BinOp.neq 49 (Operand.tmp 14) (Operand.tmp 15) 49, type := 4, pos := "field.go:93", after := #[{ on := 2, ground := Ground.data }, { on := 3, ground := Ground.data }], guard := none } : Oper)) (v := (.bool true)) rfl (by kernel_rfl) (by kernel_rfl) (by kernel_rfl) (fun _ _ _ h => h) (Or.inl ⟨by rfl, ?hy1134⟩) (by assumption) ?rest1134
    case hy1134 => (intro w hSw; (try dsimp only at hSw); exact exec_neq_limb 49 _ _ (.tmp 14) (.tmp 15) rfl 4 .u64 .u64 Try.underlying49 Try.underlying47 (fun w => by kernel_rfl) (by kernel_rfl) z1133 xs rfl rfl HL1133.out HXL.out _ (n4_neq HZ1133.out HX.out _ HQ.out))
    (try simp only [Act.put, List.setIfInBounds_toArray, List.set_cons_zero, List.set_cons_succ])
    refine wpAnyH_done (by kernel_rfl) ?_ _
    have HBF4 := HB1133
    clear HB1107
    clear HB1133
    clear HQ
    (try simp only [Exit.then])
    go_upto_region 6 with (first | ((with_reducible show wpList _ _ _ (Oper.mk (some 17) _ _ _ _ _ :: _) _ _); refine wpList_load_part rfl 49 _ rfl (g1106) (0) _ 49 (0, 0) _ (HBF4.out.get 4 rfl) rfl .u64 z1105 (arr_part _ _) Try.underlying49 rfl (lim_i HL1105.out) ?_) | ((with_reducible show wpList _ _ _ (Oper.mk (some 18) _ _ _ _ _ :: _) _ _); refine wpList_load_part rfl 49 _ rfl (g1103) (0) _ 49 (0, 0) _ (HBF4.out.get 3 rfl) rfl .u64 is (arr_part _ _) Try.underlying49 rfl (lim_i HIL.out) ?_) | ((with_reducible show Calls _ 35 #[.agg _, .agg _] _ _); go_at_call 35; refine (times_any _ _ _ HZ1105.out HI.out).mono ?_; rintro e w1135 ⟨z1135, rfl, h1135, hb1135⟩; have HZ1135 := Lib.hid h1135; have HL1135 := Lib.hid h1135.len; clear h1135; have HB1135 := Lib.hid (HBF4.out.kept hb1135); clear hb1135) | ((with_reducible show wpList _ _ _ (Oper.mk none (Op.store _ (Operand.tmp 6) (Operand.tmp 19)) _ _ _ _ :: _) _ _); refine wpList_store_whole rfl 49 _ _ rfl (g1106) _ _ 49 (HB1135.out.get 4 rfl) rfl rfl (arr_len2 _ _ HL1135.out HL1105.out) (lim_s HL1135.out) (all_arr _ _) ?_; intro w1136 hb1136 hk1136 hz1136; have HB1136 := Lib.hid (HB1135.out.put 4 rfl hk1136 hb1136); clear hb1136 hk1136 hz1136; clear HB1135))
    have HZY := Lib.hid (HZ1135.out.cast HY0.out.symm)
    have HYQ := Lib.hid (HRS.out y0 HYE.out)
    clear HYE
    by_cases h2 : fmul y0 y0 = a
    · have HQ : Hid (decide (fmul y0 y0 ≠ a) = false) := Lib.hid (by simp [h2])
      have hr := HYQ.out
      rw [if_pos h2] at hr
      have HR0 := Lib.hid hr
      clear hr h2 HYQ
      have HK0 := Lib.hid ((Kept.refl (fun _ => False) w1136).drew)
      have HBd := Lib.hid (HB1136.out.drew)
      refine wp_region_held_drew (S := (fun w' => Kept (fun _ => False) w1136 w')) (by kernel_rfl) (HK0.out) (fun hHeld => ?_)
      generalize w1136.drew = wd at HK0 HBd hHeld ⊢
      refine' wpAnyH_take (i := 0) (oi := ({ dst := some 20, op := Op.load 49 (Operand.tmp 6), type := 49, pos := "field.go:96", after := #[], guard := none } : Oper)) (v := _) rfl (by kernel_rfl) (by kernel_rfl) (by kernel_rfl) (fun _ _ _ h => h) (yieldsIf_load_mid (by rfl) _ _ rfl _ _ rfl (z1135.map (Value.int .u64)) _ ?hS1137 Try.underlying49 rfl (by rw [List.length_map]; exact lim_i HL1135.out)) (by assumption) ?rest1137
      case hS1137 => (intro w hSw; (try dsimp only at hSw); exact range_part (hSw.blk (HB1136.out.get 4 rfl) (fun e => e.elim)) 0 _ (by rw [List.length_map]; exact arr_part _ _))
      (try simp only [Act.put, List.setIfInBounds_toArray, List.set_cons_zero, List.set_cons_succ])
      refine' wpAnyH_take (i := 1) (oi := ({ dst := some 21, op := Op.load 49 (Operand.tmp 6), type := 49, pos := "field.go:96", after := #[], guard := none } : Oper)) (v := _) rfl (by kernel_rfl) (by kernel_rfl) (by kernel_rfl) (fun _ _ _ h => h) (yieldsIf_load_mid (by rfl) _ _ rfl _ _ rfl (z1135.map (Value.int .u64)) _ ?hS1138 Try.underlying49 rfl (by rw [List.length_map]; exact lim_i HL1135.out)) (by assumption) ?rest1138
      case hS1138 => (intro w hSw; (try dsimp only at hSw); exact range_part (hSw.blk (HB1136.out.get 4 rfl) (fun e => e.elim)) 0 _ (by rw [List.length_map]; exact arr_part _ _))
      (try simp only [Act.put, List.setIfInBounds_toArray, List.set_cons_zero, List.set_cons_succ])
      refine' wpAnyH_take (i := 3) (oi := ({ dst := some 23, op := Op.load 49 (Operand.tmp 1), type := 49, pos := "field.go:96", after := #[], guard := none } : Oper)) (v := _) rfl (by kernel_rfl) (by kernel_rfl) (by kernel_rfl) (fun _ _ _ h => h) (yieldsIf_load_mid (by rfl) _ _ rfl _ _ rfl (xs.map (Value.int .u64)) _ ?hS1139 Try.underlying49 rfl (by rw [List.length_map]; exact lim_i HXL.out)) (by assumption) ?rest1139
      case hS1139 => (intro w hSw; (try dsimp only at hSw); exact range_part (hSw.blk (HB1136.out.get 0 rfl) (fun e => e.elim)) 0 _ (by rw [List.length_map]; exact arr_part _ _))
      (try simp only [Act.put, List.setIfInBounds_toArray, List.set_cons_zero, List.set_cons_succ])
      refine wpAnyH_ready (rs := [2]) (by kernel_rfl) (by simp) ?_
      refine AllReadyH.cons (o := ({ dst := some 22, op := Op.call { callee := Callee.value (Operand.func 35), args := #[Operand.tmp 20, Operand.tmp 21], argTypes := #[49, 49] }, type := 49, pos := "field.go:96", after := #[{ on := 0, ground := Ground.data }, { on := 1, ground := Ground.data }], guard := none } : Oper)) rfl (fun K hK => ?_) AllReadyH.nil
      go_simp
      go_at_call 35
      refine (times_any _ _ _ HZY.out HZY.out).mono ?_
      rintro e w1140 ⟨z1140, rfl, h1140, hb1140⟩
      have HZ1140 := Lib.hid h1140
      have HL1140 := Lib.hid h1140.len
      clear h1140
      have HB1140 := Lib.hid (HBd.out.kept hb1140)
      have HK1140 := Lib.hid (HK0.out.trans (Kept.of_below hb1140))
      clear hb1140
      (try dsimp only)
      clear HBd
      clear HK0
      clear hHeld
      refine hK.out _ _ (HK1140.out) (fun hHeld => ?_)
      clear hK K
      (try simp only [Act.put, List.setIfInBounds_toArray, List.set_cons_zero, List.set_cons_succ])
      refine wpAnyH_take (i := 4) (oi := ({ dst := some 24, op := Op.binOp BinOp.neq 49 (Operand.tmp 22) (Operand.tmp 23) 49, type := 4, pos := "field.go:96", after := #[{ on := 2, ground := Ground.data }, { on := 3, ground := Ground.data }], guard := none } : Oper)) (v := (.bool false)) rfl (by kernel_rfl) (by kernel_rfl) (by kernel_rfl) (fun _ _ _ h => h) (Or.inl ⟨by rfl, ?hy1141⟩) (by assumption) ?rest1141
      case hy1141 => (intro w hSw; (try dsimp only at hSw); exact exec_neq_limb 49 _ _ (.tmp 22) (.tmp 23) rfl 4 .u64 .u64 Try.underlying49 Try.underlying47 (fun w => by kernel_rfl) (by kernel_rfl) z1140 xs rfl rfl HL1140.out HXL.out _ (n4_neq HZ1140.out HX.out _ HQ.out))
      (try simp only [Act.put, List.setIfInBounds_toArray, List.set_cons_zero, List.set_cons_succ])
      refine wpAnyH_done (by kernel_rfl) ?_ _
      have HBF6 := HB1140
      clear HB1136
      clear HB1140
      clear HQ
      (try simp only [Exit.then])
      rcases (show y0 % 2 = 0 ∨ y0 % 2 = 1 by omega) with hb | hb
      · have hr := HR0.out
        rw [if_neg (by omega)] at hr
        have HR := Lib.hid hr
        have HBT := Lib.hid (fun w => (bit_any y0 0 0 w HZY.out (by decide) (by rw [Nat.pow_zero, Nat.div_one]; exact hb) : Calls Try.prog 38 #[.agg (arr .u64 z1135), .int .i64 0] w fun e w' => e = .returned (.int .u64 0) ∧ Below w.heap.size w w'))
        clear hr hb HR0
        go_upto_region 10 with (first | ((with_reducible show wpList _ _ _ (Oper.mk (some 26) _ _ _ _ _ :: _) _ _); refine wpList_load_part rfl 49 _ rfl (g1106) (0) _ 49 (0, 0) _ (HBF6.out.get 4 rfl) rfl .u64 z1135 (arr_part _ _) Try.underlying49 rfl (lim_i HL1135.out) ?_) | ((with_reducible show Calls _ 38 #[.agg _, _] _ _); go_at_call 38; refine (HBT.out _).mono ?_; rintro e w1142 ⟨rfl, hb1142⟩; have HB1142 := Lib.hid (HBF6.out.kept hb1142); clear hb1142))
        go_wp2_with (first | ((with_reducible show wpList _ _ _ (Oper.mk (some 32) _ _ _ _ _ :: _) _ _); refine wpList_load_part rfl 49 _ rfl (g1106) (0) _ 49 (0, 0) _ (HB1142.out.get 4 rfl) rfl .u64 z1135 (arr_part _ _) Try.underlying49 rfl (lim_i HL1135.out) ?_) | ((with_reducible show wpList _ _ _ (Oper.mk none (Op.store _ (Operand.tmp 2) (Operand.tmp 32)) _ _ _ _ :: _) _ _); refine wpList_store_whole rfl 49 _ _ rfl (w.heap.size + 1) _ _ 49 (HB1142.out.get 1 rfl) rfl rfl (arr_len2 _ _ HL1135.out HLzl.out) (lim_s HL1135.out) (all_arr _ _) ?_; intro w1143 hb1143 hk1143 hz1143; have HB1143 := Lib.hid (HB1142.out.put 1 rfl hk1143 hb1143); clear hb1143 hk1143 hz1143; clear HB1142))
        (try simp only [Exit.inBlock, Exit.then])
        refine bodyPost_ret (results_cell_tmp_row rfl _ _ (w.heap.size + 1) 49 _ (0, 0) _ _ rfl (HB1143.out.get 1 rfl) Try.underlying49 rfl (lim_s HL1135.out) rfl) rfl ?_
        refine ⟨_, ?_, by rw [HR.out]; exact HZY.out, HB1143.out.below⟩
        rw [HR.out]; rfl
      · have hr := HR0.out
        rw [if_pos hb] at hr
        have HR := Lib.hid hr
        have HBT := Lib.hid (fun w => (bit_any y0 0 1 w HZY.out (by decide) (by rw [Nat.pow_zero, Nat.div_one]; exact hb) : Calls Try.prog 38 #[.agg (arr .u64 z1135), .int .i64 0] w fun e w' => e = .returned (.int .u64 1) ∧ Below w.heap.size w w'))
        clear hr hb HR0
        go_upto_region 9 with (first | ((with_reducible show wpList _ _ _ (Oper.mk (some 26) _ _ _ _ _ :: _) _ _); refine wpList_load_part rfl 49 _ rfl (g1106) (0) _ 49 (0, 0) _ (HBF6.out.get 4 rfl) rfl .u64 z1135 (arr_part _ _) Try.underlying49 rfl (lim_i HL1135.out) ?_) | ((with_reducible show Calls _ 38 #[.agg _, _] _ _); go_at_call 38; refine (HBT.out _).mono ?_; rintro e w1144 ⟨rfl, hb1144⟩; have HB1144 := Lib.hid (HBF6.out.kept hb1144); clear hb1144))
        go_upto_region 10 with (first | ((with_reducible show wpList _ _ _ (Oper.mk (some 29) _ _ _ _ _ :: _) _ _); refine wpList_build (by rfl) 49 _ rfl #[] rfl _ (HBO.out _) ?_) | ((with_reducible show wpList _ _ _ (Oper.mk (some 30) _ _ _ _ _ :: _) _ _); refine wpList_load_part rfl 49 _ rfl (g1106) (0) _ 49 (0, 0) _ (HB1144.out.get 4 rfl) rfl .u64 z1135 (arr_part _ _) Try.underlying49 rfl (lim_i HL1135.out) ?_) | ((with_reducible show Calls _ 45 #[.agg _, .agg _] _ _); go_at_call 45; refine (minus_any _ _ _ HO.out HZY.out p_pos HYL.out).mono ?_; rintro e w1145 ⟨z1145, rfl, h1145, hb1145⟩; have HZ1145 := Lib.hid h1145; have HL1145 := Lib.hid h1145.len; clear h1145; have HB1145 := Lib.hid (HB1144.out.kept hb1145); clear hb1145; clear HB1144) | ((with_reducible show wpList _ _ _ (Oper.mk none (Op.store _ (Operand.tmp 6) (Operand.tmp 31)) _ _ _ _ :: _) _ _); refine wpList_store_whole rfl 49 _ _ rfl (g1106) _ _ 49 (HB1145.out.get 4 rfl) rfl rfl (arr_len2 _ _ HL1145.out HL1135.out) (lim_s HL1145.out) (all_arr _ _) ?_; intro w1146 hb1146 hk1146 hz1146; have HB1146 := Lib.hid (HB1145.out.put 4 rfl hk1146 hb1146); clear hb1146 hk1146 hz1146; clear HB1145))
        go_wp2_with (first | ((with_reducible show wpList _ _ _ (Oper.mk (some 32) _ _ _ _ _ :: _) _ _); refine wpList_load_part rfl 49 _ rfl (g1106) (0) _ 49 (0, 0) _ (HB1146.out.get 4 rfl) rfl .u64 z1145 (arr_part _ _) Try.underlying49 rfl (lim_i HL1145.out) ?_) | ((with_reducible show wpList _ _ _ (Oper.mk none (Op.store _ (Operand.tmp 2) (Operand.tmp 32)) _ _ _ _ :: _) _ _); refine wpList_store_whole rfl 49 _ _ rfl (w.heap.size + 1) _ _ 49 (HB1146.out.get 1 rfl) rfl rfl (arr_len2 _ _ HL1145.out HLzl.out) (lim_s HL1145.out) (all_arr _ _) ?_; intro w1147 hb1147 hk1147 hz1147; have HB1147 := Lib.hid (HB1146.out.put 1 rfl hk1147 hb1147); clear hb1147 hk1147 hz1147; clear HB1146))
        (try simp only [Exit.inBlock, Exit.then])
        refine bodyPost_ret (results_cell_tmp_row rfl _ _ (w.heap.size + 1) 49 _ (0, 0) _ _ rfl (HB1147.out.get 1 rfl) Try.underlying49 rfl (lim_s HL1145.out) rfl) rfl ?_
        refine ⟨_, ?_, by rw [HR.out]; exact HZ1145.out, HB1147.out.below⟩
        rw [HR.out]; rfl
    · have HQ : Hid (decide (fmul y0 y0 ≠ a) = true) := Lib.hid (by simp [h2])
      have hr := HYQ.out
      rw [if_neg h2] at hr
      have HR0 := Lib.hid hr
      clear hr h2 HYQ
      have HK0 := Lib.hid ((Kept.refl (fun _ => False) w1136).drew)
      have HBd := Lib.hid (HB1136.out.drew)
      refine wp_region_held_drew (S := (fun w' => Kept (fun _ => False) w1136 w')) (by kernel_rfl) (HK0.out) (fun hHeld => ?_)
      generalize w1136.drew = wd at HK0 HBd hHeld ⊢
      refine' wpAnyH_take (i := 0) (oi := ({ dst := some 20, op := Op.load 49 (Operand.tmp 6), type := 49, pos := "field.go:96", after := #[], guard := none } : Oper)) (v := _) rfl (by kernel_rfl) (by kernel_rfl) (by kernel_rfl) (fun _ _ _ h => h) (yieldsIf_load_mid (by rfl) _ _ rfl _ _ rfl (z1135.map (Value.int .u64)) _ ?hS1148 Try.underlying49 rfl (by rw [List.length_map]; exact lim_i HL1135.out)) (by assumption) ?rest1148
      case hS1148 => (intro w hSw; (try dsimp only at hSw); exact range_part (hSw.blk (HB1136.out.get 4 rfl) (fun e => e.elim)) 0 _ (by rw [List.length_map]; exact arr_part _ _))
      (try simp only [Act.put, List.setIfInBounds_toArray, List.set_cons_zero, List.set_cons_succ])
      refine' wpAnyH_take (i := 1) (oi := ({ dst := some 21, op := Op.load 49 (Operand.tmp 6), type := 49, pos := "field.go:96", after := #[], guard := none } : Oper)) (v := _) rfl (by kernel_rfl) (by kernel_rfl) (by kernel_rfl) (fun _ _ _ h => h) (yieldsIf_load_mid (by rfl) _ _ rfl _ _ rfl (z1135.map (Value.int .u64)) _ ?hS1149 Try.underlying49 rfl (by rw [List.length_map]; exact lim_i HL1135.out)) (by assumption) ?rest1149
      case hS1149 => (intro w hSw; (try dsimp only at hSw); exact range_part (hSw.blk (HB1136.out.get 4 rfl) (fun e => e.elim)) 0 _ (by rw [List.length_map]; exact arr_part _ _))
      (try simp only [Act.put, List.setIfInBounds_toArray, List.set_cons_zero, List.set_cons_succ])
      refine' wpAnyH_take (i := 3) (oi := ({ dst := some 23, op := Op.load 49 (Operand.tmp 1), type := 49, pos := "field.go:96", after := #[], guard := none } : Oper)) (v := _) rfl (by kernel_rfl) (by kernel_rfl) (by kernel_rfl) (fun _ _ _ h => h) (yieldsIf_load_mid (by rfl) _ _ rfl _ _ rfl (xs.map (Value.int .u64)) _ ?hS1150 Try.underlying49 rfl (by rw [List.length_map]; exact lim_i HXL.out)) (by assumption) ?rest1150
      case hS1150 => (intro w hSw; (try dsimp only at hSw); exact range_part (hSw.blk (HB1136.out.get 0 rfl) (fun e => e.elim)) 0 _ (by rw [List.length_map]; exact arr_part _ _))
      (try simp only [Act.put, List.setIfInBounds_toArray, List.set_cons_zero, List.set_cons_succ])
      refine wpAnyH_ready (rs := [2]) (by kernel_rfl) (by simp) ?_
      refine AllReadyH.cons (o := ({ dst := some 22, op := Op.call { callee := Callee.value (Operand.func 35), args := #[Operand.tmp 20, Operand.tmp 21], argTypes := #[49, 49] }, type := 49, pos := "field.go:96", after := #[{ on := 0, ground := Ground.data }, { on := 1, ground := Ground.data }], guard := none } : Oper)) rfl (fun K hK => ?_) AllReadyH.nil
      go_simp
      go_at_call 35
      refine (times_any _ _ _ HZY.out HZY.out).mono ?_
      rintro e w1151 ⟨z1151, rfl, h1151, hb1151⟩
      have HZ1151 := Lib.hid h1151
      have HL1151 := Lib.hid h1151.len
      clear h1151
      have HB1151 := Lib.hid (HBd.out.kept hb1151)
      have HK1151 := Lib.hid (HK0.out.trans (Kept.of_below hb1151))
      clear hb1151
      (try dsimp only)
      clear HBd
      clear HK0
      clear hHeld
      refine hK.out _ _ (HK1151.out) (fun hHeld => ?_)
      clear hK K
      (try simp only [Act.put, List.setIfInBounds_toArray, List.set_cons_zero, List.set_cons_succ])
      refine wpAnyH_take (i := 4) (oi := ({ dst := some 24, op := Op.binOp BinOp.neq 49 (Operand.tmp 22) (Operand.tmp 23) 49, type := 4, pos := "field.go:96", after := #[{ on := 2, ground := Ground.data }, { on := 3, ground := Ground.data }], guard := none } : Oper)) (v := (.bool true)) rfl (by kernel_rfl) (by kernel_rfl) (by kernel_rfl) (fun _ _ _ h => h) (Or.inl ⟨by rfl, ?hy1152⟩) (by assumption) ?rest1152
      case hy1152 => (intro w hSw; (try dsimp only at hSw); exact exec_neq_limb 49 _ _ (.tmp 22) (.tmp 23) rfl 4 .u64 .u64 Try.underlying49 Try.underlying47 (fun w => by kernel_rfl) (by kernel_rfl) z1151 xs rfl rfl HL1151.out HXL.out _ (n4_neq HZ1151.out HX.out _ HQ.out))
      (try simp only [Act.put, List.setIfInBounds_toArray, List.set_cons_zero, List.set_cons_succ])
      refine wpAnyH_done (by kernel_rfl) ?_ _
      have HBF6 := HB1151
      clear HB1136
      clear HB1151
      clear HQ
      (try simp only [Exit.then])
      have HR := HR0
      clear HR0
      go_wp2_with (first | ((with_reducible show wpList _ _ _ (Oper.mk (some 25) _ _ _ _ _ :: _) _ _); refine wpList_build (by rfl) 49 _ rfl #[] rfl _ (HBO.out _) ?_) | ((with_reducible show wpList _ _ _ (Oper.mk none (Op.store _ (Operand.tmp 2) (Operand.tmp 25)) _ _ _ _ :: _) _ _); refine wpList_store_whole rfl 49 _ _ rfl (w.heap.size + 1) _ _ 49 (HBF6.out.get 1 rfl) rfl rfl (arr_len2 _ _ HOL.out HLzl.out) (lim_s HOL.out) (all_arr _ _) ?_; intro w1153 hb1153 hk1153 hz1153; have HB1153 := Lib.hid (HBF6.out.put 1 rfl hk1153 hb1153); clear hb1153 hk1153 hz1153))
      (try simp only [Exit.inBlock, Exit.then])
      refine bodyPost_ret (results_cell_tmp_row rfl _ _ (w.heap.size + 1) 49 _ (0, 0) _ _ rfl (HB1153.out.get 1 rfl) Try.underlying49 rfl (lim_s HOL.out) rfl) rfl ?_
      refine ⟨_, ?_, by rw [HR.out]; exact HO.out, HB1153.out.below⟩
      rw [HR.out]; rfl
end Go.Proofs.Ytanjhngehfbpbaa.Fp
