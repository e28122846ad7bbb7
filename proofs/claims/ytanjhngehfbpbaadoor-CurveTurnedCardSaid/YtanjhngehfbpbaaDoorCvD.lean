/- curve.read, May: what they answer. Condition: 32 bytes. -/
import Derived.Test.YtanjhngehfbpbaaDoorCvC
import Derived.Test.YtanjhngehfbpbaaDoorFz
namespace Go.Proofs.YtanjhngehfbpbaaDoor.Sl
open Go.RowKit Lm Fp Cu Rd
set_option linter.unusedSimpArgs false

theorem build_pz (w : World) : (Instr.build 58 #[]).run Tryd.prog w = .ok (.agg (arr .u64 (List.replicate 16 0))) w := by kernel_rfl
set_option maxRecDepth 100000 in
set_option maxHeartbeats 8000000 in
theorem cread_any {ks : List Int} (v : Nat) (w : World) (hk : K32 ks v) : Calls Tryd.prog 34 #[.agg (arr .u8 ks)] w fun e w' => ∃ zs, e = .returned (.tuple #[.agg (arr .u64 zs), .bool (eread v).isSome]) ∧ (zs.length = 16 ∧ ∀ P, eread v = some P → P4 zs P) ∧ Below w.heap.size w w' := by
  have p256 : (256 : Nat) ^ 32 = 2 ^ 256 := by decide
  have hv := hk.2
  rw [p256] at hv
  obtain ⟨t1, t2⟩ := top_byte256 v hv
  have htb := top_bit v
  have hds := dec_set v hv
  have hy2 : v % 2 ^ 255 < 2 ^ 255 := Nat.mod_lt _ (by decide)
  have g31 : ks.getD 31 0 = ((v / 256 ^ 31 : Nat) : Int) := by rw [hk.1, nar_get, t1]
  have hn2 : ks.set 31 ((v / 256 ^ 31 % 128 : Nat) : Int) = nar (dig 256 32 (v % 2 ^ 255)) := by rw [hk.1, ← nar_set, hds]
  have ha := sand127 (v / 256 ^ 31) t2
  have ho2 : v / 2 ^ 255 = 0 ∨ v / 2 ^ 255 = 1 := by omega
  obtain ⟨o, ho⟩ : ∃ o, o = v / 2 ^ 255 := ⟨_, rfl⟩
  rw [← ho] at htb ho2
  generalize v / 256 ^ 31 = t at g31 hn2 ha t2 htb
  obtain ⟨Y, hY⟩ : ∃ y, y = v % 2 ^ 255 := ⟨_, rfl⟩
  rw [← hY] at hn2 hy2
  have hYK : K32 (nar (dig 256 32 Y)) Y := ⟨rfl, Nat.lt_of_lt_of_le hy2 (by decide)⟩
  obtain ⟨ys, hys⟩ : ∃ x, x = nar (dig 256 32 Y) := ⟨_, rfl⟩
  rw [← hys] at hYK hn2
  have her : eread v = if Y < p then (if (fsqrt (fmul (fsub (fmul Y Y) 1) (finv (fadd (fmul dd (fmul Y Y)) 1)))).2 = true ∧ (o = 1 → (fsqrt (fmul (fsub (fmul Y Y) 1) (finv (fadd (fmul dd (fmul Y Y)) 1)))).1 ≠ 0) then some ⟨if o = 1 then fsub 0 (fsqrt (fmul (fsub (fmul Y Y) 1) (finv (fadd (fmul dd (fmul Y Y)) 1)))).1 else (fsqrt (fmul (fsub (fmul Y Y) 1) (finv (fadd (fmul dd (fmul Y Y)) 1)))).1, Y, 1, fmul (if o = 1 then fsub 0 (fsqrt (fmul (fsub (fmul Y Y) 1) (finv (fadd (fmul dd (fmul Y Y)) 1)))).1 else (fsqrt (fmul (fsub (fmul Y Y) 1) (finv (fadd (fmul dd (fmul Y Y)) 1)))).1) Y⟩ else none) else none := by rw [hY, ho]; rfl
  obtain ⟨AA, hAA⟩ : ∃ a, a = fmul (fsub (fmul Y Y) 1) (finv (fadd (fmul dd (fmul Y Y)) 1)) := ⟨_, rfl⟩
  rw [← hAA] at her
  have hsl := fsqrt_lt AA
  obtain ⟨R, hR⟩ : ∃ r, r = (fsqrt AA).1 := ⟨_, rfl⟩
  obtain ⟨k2, hk2⟩ : ∃ r, r = (fsqrt AA).2 := ⟨_, rfl⟩
  rw [← hR] at her hsl
  rw [← hk2] at her
  have hsq := fun (xs : List Int) (w : World) (h : N4 xs AA) => square_any AA w h
  rw [← hR, ← hk2] at hsq
  obtain ⟨X, hX⟩ : ∃ x, x = if o = 1 then fsub 0 R else R := ⟨_, rfl⟩
  rw [← hX] at her
  obtain ⟨er, her2⟩ : ∃ e, e = eread v := ⟨_, rfl⟩
  rw [← her2] at her ⊢
  have HSQ := Lib.hid hsq
  have HER := Lib.hid her
  have HX := Lib.hid hX
  have HAA := Lib.hid hAA
  have HYS := Lib.hid hYK
  have HYL := Lib.hid hYK.len
  have HKS := Lib.hid hk
  have HKL := Lib.hid hk.len
  have HG := Lib.hid g31
  have HN2 := Lib.hid hn2
  have HA := Lib.hid ha
  have HSL := Lib.hid hsl
  obtain ⟨zl, hzl⟩ : ∃ zs : List Int, zs = List.replicate 4 0 := ⟨_, rfl⟩
  have HZzl : Hid (∀ w, (zeroValue 56).run Tryd.prog w = .ok (.agg (arr .u64 zl)) w) := Lib.hid (by intro w; rw [hzl]; exact zero_lim w)
  have HLzl : Hid (zl.length = 4) := Lib.hid (by rw [hzl]; rfl)
  obtain ⟨zp, hzp⟩ : ∃ zs : List Int, zs = List.replicate 16 0 := ⟨_, rfl⟩
  have HZzp : Hid (∀ w, (zeroValue 58).run Tryd.prog w = .ok (.agg (arr .u64 zp)) w) := Lib.hid (by intro w; rw [hzp]; exact zero_cpt w)
  have HLzp : Hid (zp.length = 16) := Lib.hid (by rw [hzp]; rfl)
  have hk1 : N4 [(1 : Int), 0, 0, 0] 1 := n4_small 1 (by decide)
  have hbk1 := fun w => build_raw 1 w
  obtain ⟨k1, hk1e⟩ : ∃ b : List Int, b = [(1 : Int), 0, 0, 0] := ⟨_, rfl⟩
  rw [← hk1e] at hk1 hbk1
  have HK1 := Lib.hid hk1
  have HK1L := Lib.hid hk1.len
  have HBK1 := Lib.hid hbk1
  have hk0 : N4 [(0 : Int), 0, 0, 0] 0 := n4_small 0 (by decide)
  have hbk0 := fun w => build_no w
  obtain ⟨k0, hk0e⟩ : ∃ b : List Int, b = [(0 : Int), 0, 0, 0] := ⟨_, rfl⟩
  rw [← hk0e] at hk0 hbk0
  have HK0 := Lib.hid hk0
  have HK0L := Lib.hid hk0.len
  have HBK0 := Lib.hid hbk0
  clear hk1 hbk1 hk1e hk0 hbk0 hk0e
  have HBZ : Hid (∀ w, (Instr.build 58 #[]).run Tryd.prog w = .ok (.agg (arr .u64 zp)) w) := Lib.hid (by intro w; rw [hzp]; exact build_pz w)
  have HS0 := Lib.hid (Blk.two w (arr .u8 ks) (arr .u64 zp) 23 58)
  clear hzl hzp hk p256 hv t1 hds hy2 g31 hn2 ha ho hY hYK hys her hAA hsl hR hk2 hsq hX her2
  have hodd : ∃ ob : Bool, ob = decide (o = 1) ∧ ((t : Int) / 128 == 1) = ob := by
    refine ⟨_, rfl, ?_⟩
    rw [show (t : Int) / 128 = ((t / 128 : Nat) : Int) by omega, htb]
    rcases ho2 with rfl | rfl <;> rfl
  obtain ⟨ob, hob, hob2⟩ := hodd
  have HOB := Lib.hid hob
  clear hob
  go_enter Tryd.func34, Tryd.ntmps34
  go_upto_region 1 with (first | ((with_reducible refine aS 2 ?_); refine wpList_alloc_row rfl 58 rfl _ (HZzp.out _) ?_))
  (try simp only [World.size_alloc, Act.put, sA, sZ, sS])
  generalize ((w.alloc (.cells (arr .u8 ks) 23)).alloc (.cells (arr .u64 zp) 58)) = wb at HS0 ⊢
  have q0 := arr_get' (HS0.out.get 0 rfl) 31 (by rw [HKL.out]; decide)
  have q1 := free_blk (HS0.out.get 0 rfl) 31
  rw [HG.out] at q0
  have hb1 := HS0.out.cell 0 rfl 31 (.int .u8 (bits .and .u8 (t : Int) 127))
  have e2 : (arr .u8 ks).setIfInBounds 31 (.int .u8 (bits .and .u8 (t : Int) 127)) = arr .u8 ys := by rw [HA.out, arr_set, HN2.out]
  have HU1 := Lib.hid (hb1.cast (l' := [(w.heap.size, arr .u8 ys, 23), (w.heap.size + 1, arr .u64 zp, 58)]) (by rw [← e2]; rfl))
  clear hb1 e2
  go_upto_region 2 with fail
  go_upto_region 3 with fail
  generalize wb.setCell ⟨w.heap.size, 31, none⟩ (.int .u8 (bits .and .u8 (t : Int) 127)) = wu at HU1 ⊢
  clear q0 q1 hob2
  go_upto_region 4 with (first | ((with_reducible refine aS 20 ?_); refine wpList_load_part rfl 23 _ rfl (w.heap.size) (0) _ 23 (0, 0) _ (HU1.out.get 0 rfl) rfl .u8 ys (arr_part _ _) Tryd.underlying23 rfl (num_i HYL.out) ?_) | ((with_reducible show Calls _ 59 #[.agg _] _ _); go_at_call 59; refine (of4 _ _ HYS.out).mono ?_; rintro e w3601 ⟨z3601, rfl, h3601, hb3601⟩; have HZ3601 := Lib.hid h3601; have HL3601 := Lib.hid h3601.len; clear h3601; have HB3601 := Lib.hid (HU1.out.kept hb3601); clear hb3601) | ((with_reducible refine aS 5 ?_); refine wpList_alloc_row rfl 56 rfl _ (HZzl.out _) ?_; have HB3602 := Lib.hid (HB3601.out.alloc (arr .u64 zl) 56); generalize w3601.heap.size = g3602 at HB3602 ⊢; generalize w3601.alloc (.cells (arr .u64 zl) 56) = w3602 at HB3602 ⊢; clear HB3601) | ((with_reducible refine aT 5 (x := (Operand.tmp 21)) ?_); refine wpList_store_whole rfl 56 _ _ rfl (g3602) _ _ 56 (HB3602.out.get 2 rfl) rfl rfl (arr_len2 _ _ HL3601.out HLzl.out) (lim_s HL3601.out) (all_arr _ _) ?_; intro w3603 hb3603 hk3603 hz3603; have HB3603 := Lib.hid (HB3602.out.put 2 rfl hk3603 hb3603); clear hb3603 hk3603 hz3603; clear HB3602))
  (try simp only [World.size_alloc, Act.put, sA, sZ, sS])
  obtain ⟨cY, hcY⟩ : ∃ c, c = decide (Y % p ≠ Y) := ⟨_, rfl⟩
  have HCY := Lib.hid hcY
  clear hcY
  obtain ⟨z5701, hz5701⟩ : ∃ z : List Int, z = nar (dig 18446744073709551616 4 (Y % p)) := ⟨_, rfl⟩
  have HE5701 := Lib.hid hz5701
  have HL5701 : Hid (z5701.length = 4) := Lib.hid (by rw [hz5701]; exact (nar_len _).trans (dig_len _ _ _))
  clear hz5701
  refine wp_region_lin (fun (fF : Fill) (uF : World) => (∀ v, fF 0 = some v → v = .agg (arr .u64 z3601) ∧ True) ∧ (∀ v, fF 1 = some v → v = .agg (arr .u64 z5701) ∧ N4 z5701 (Y % p)) ∧ (∀ v, fF 2 = some v → v = .agg (arr .u64 z3601) ∧ True) ∧ (∀ v, fF 3 = some v → v = .bool cY ∧ True) ∧ Blk w uF ([(w.heap.size, arr .u8 ys, 23), (w.heap.size + 1, arr .u64 zp, 58), (g3602, (arr .u64 z3601), 56)])) (by kernel_rfl) (by kernel_rfl) ?zd4 ?sd4 ?ed4
  case zd4 => exact ⟨fun _ h => (by cases h), fun _ h => (by cases h), fun _ h => (by cases h), fun _ h => (by cases h), HB3603.out.drew⟩
  case sd4 =>
    refine LinAll.cons (fun fF bF uF kF hJF hfF hcF hupF hsF hKF => ?_) ?_
    · obtain ⟨j0, j1, j2, j3, hB⟩ := hJF
      have e5 : bF.eval (.tmp 5) = .pointer (some ⟨g3602, 0, none⟩) := hsF.old' 5 (by kernel_rfl) rfl
      have hB' := hB
      refine step_load_part rfl 56 _ rfl (g3602) (0) ((arr .u64 z3601)) 56 (0, 0) _ (hB'.get 2 rfl) e5 .u64 z3601 (arr_part _ _) Tryd.underlying56 rfl (lim_i HL3601.out) ?_
      exact hKF _ _ ⟨fun _ h => ⟨sI h, trivial⟩, j1, j2, j3, hB⟩
    refine LinAll.cons (fun fF bF uF kF hJF hfF hcF hupF hsF hKF => ?_) ?_
    · obtain ⟨j0, j1, j2, j3, hB⟩ := hJF
      obtain ⟨e22, p22⟩ := hsF.at hupF 0 22 (by kernel_rfl) rfl j0
      refine lin_call rfl 71 [Operand.tmp 22] _ [.agg (arr .u64 z3601)] rfl (by simp only [List.map_cons, List.map_nil, e22] <;> rfl) (fun _ _ => by kernel_rfl) ?_
      refine Calls.mono (lessen_any _ _ HZ3601.out) ?_
      rintro e w1 ⟨y5702_0, rfl, r5702_0, hb⟩
      obtain rfl : y5702_0 = z5701 := r5702_0.1.trans HE5701.out.symm
      exact ⟨_, rfl, hKF _ _ ⟨j0, fun _ h => ⟨sI h, r5702_0⟩, j2, j3, hB.kept hb⟩⟩
    refine LinAll.cons (fun fF bF uF kF hJF hfF hcF hupF hsF hKF => ?_) ?_
    · obtain ⟨j0, j1, j2, j3, hB⟩ := hJF
      have e5 : bF.eval (.tmp 5) = .pointer (some ⟨g3602, 0, none⟩) := hsF.old' 5 (by kernel_rfl) rfl
      have hB' := hB
      refine step_load_part rfl 56 _ rfl (g3602) (0) ((arr .u64 z3601)) 56 (0, 0) _ (hB'.get 2 rfl) e5 .u64 z3601 (arr_part _ _) Tryd.underlying56 rfl (lim_i HL3601.out) ?_
      exact hKF _ _ ⟨j0, j1, fun _ h => ⟨sI h, trivial⟩, j3, hB⟩
    refine LinAll.cons (fun fF bF uF kF hJF hfF hcF hupF hsF hKF => ?_) ?_
    · obtain ⟨j0, j1, j2, j3, hB⟩ := hJF
      obtain ⟨e23, p23⟩ := hsF.at hupF 1 23 (by kernel_rfl) rfl j1
      obtain ⟨e24, p24⟩ := hsF.at hupF 2 24 (by kernel_rfl) rfl j2
      have y1 := hupF 1 (by kernel_rfl)
      obtain ⟨v1, s1⟩ := sE y1
      have HZ5701 := Lib.hid (j1 _ s1).2
      exact lin_pure rfl (.bool cY) (exec_neq_limb 56 _ _ (.tmp 23) (.tmp 24) rfl 4 .u64 .u64 Tryd.underlying56 Tryd.underlying54 (fun w => by kernel_rfl) (by kernel_rfl) z5701 z3601 e23 e24 HL5701.out HL3601.out _ (n4_neq HZ5701.out HZ3601.out _ HCY.out.symm)) (hKF _ _ ⟨j0, j1, j2, fun _ h => ⟨sI h, trivial⟩, hB⟩)
    exact LinAll.nil
  case ed4 =>
  intro fF ud4 hall hJF
  obtain ⟨j0, j1, j2, j3, hB⟩ := hJF
  obtain ⟨v0, h0⟩ := sE (hall 0 (by decide))
  obtain ⟨rfl, p0⟩ := j0 _ h0
  obtain ⟨v1, h1⟩ := sE (hall 1 (by decide))
  obtain ⟨rfl, p1⟩ := j1 _ h1
  obtain ⟨v2, h2⟩ := sE (hall 2 (by decide))
  obtain ⟨rfl, p2⟩ := j2 _ h2
  obtain ⟨v3, h3⟩ := sE (hall 3 (by decide))
  obtain ⟨rfl, p3⟩ := j3 _ h3
  have HBd4 : Hid (Blk w ud4 [(w.heap.size, arr .u8 ys, 23), (w.heap.size + 1, arr .u64 zp, 58), (g3602, (arr .u64 z3601), 56)]) := Lib.hid hB
  have HZ5701 := Lib.hid p1
  simp only [laid, Nat.zero_add, Nat.reduceAdd, h0, h1, h2, h3, Act.put, sA, sZ, sS]
  clear j0 j1 j2 j3 hB h0 h1 h2 h3 hall fF HB3603
  clear p0 p1 p2 p3
  (try simp only [Exit.then])
  by_cases hlt : Y < p
  rotate_left
  · obtain rfl : cY = true := by rw [HCY.out]; exact decide_eq_true (fun e => hlt (e ▸ Nat.mod_lt _ p_pos))
    obtain rfl : er = none := by rw [HER.out]; rw [if_neg hlt]
    go_wp2_with (first | ((with_reducible refine aS 26 ?_); refine wpList_build (by rfl) 58 _ rfl #[] rfl _ (HBZ.out _) ?_) | ((with_reducible refine aT 2 (x := (Operand.tmp 26)) ?_); refine wpList_store_whole rfl 58 _ _ rfl (w.heap.size + 1) _ _ 58 (HBd4.out.get 1 rfl) rfl rfl (arr_len2 _ _ HLzp.out HLzp.out) (cpt_s HLzp.out) (all_arr _ _) ?_; intro w3604 hb3604 hk3604 hz3604; have HB3604 := Lib.hid (HBd4.out.put 1 rfl hk3604 hb3604); clear hb3604 hk3604 hz3604))
    (try simp only [Exit.then])
    refine bodyPost_ret (results_cell_tmp_row rfl _ _ (w.heap.size + 1) 58 _ (0, 0) _ _ rfl (HB3604.out.get 1 rfl) Tryd.underlying58 rfl (cpt_s HLzp.out) rfl) rfl ?_
    refine ⟨_, rfl, ?_, HB3604.out.below⟩
    first | exact HLzp.out | exact ⟨HLzp.out, fun P h => by cases h⟩
  obtain rfl : cY = false := by rw [HCY.out]; exact decide_eq_false (fun h => h (Nat.mod_eq_of_lt hlt))
  go_upto_region 7 with (first | ((with_reducible refine aS 27 ?_); refine wpList_build (by rfl) 56 _ rfl #[(0, .int .u64 1)] rfl _ (HBK1.out _) ?_) | ((with_reducible refine aS 6 ?_); refine wpList_alloc_row rfl 56 rfl _ (HZzl.out _) ?_; have HB3605 := Lib.hid (HBd4.out.alloc (arr .u64 zl) 56); generalize ud4.heap.size = g3605 at HB3605 ⊢; generalize ud4.alloc (.cells (arr .u64 zl) 56) = w3605 at HB3605 ⊢) | ((with_reducible refine aT 6 (x := (Operand.tmp 27)) ?_); refine wpList_store_whole rfl 56 _ _ rfl (g3605) _ _ 56 (HB3605.out.get 3 rfl) rfl rfl (arr_len2 _ _ HK1L.out HLzl.out) (lim_s HK1L.out) (all_arr _ _) ?_; intro w3606 hb3606 hk3606 hz3606; have HB3606 := Lib.hid (HB3605.out.put 3 rfl hk3606 hb3606); clear hb3606 hk3606 hz3606; clear HB3605))
  (try simp only [World.size_alloc, Act.put, sA, sZ, sS])
  go_upto_region 8 with (first | ((with_reducible refine aS 28 ?_); refine wpList_load_part rfl 56 _ rfl (g3602) (0) _ 56 (0, 0) _ (HB3606.out.get 2 rfl) rfl .u64 z3601 (arr_part _ _) Tryd.underlying56 rfl (lim_i HL3601.out) ?_) | ((with_reducible refine aS 29 ?_); refine wpList_load_part rfl 56 _ rfl (g3602) (0) _ 56 (0, 0) _ (HB3606.out.get 2 rfl) rfl .u64 z3601 (arr_part _ _) Tryd.underlying56 rfl (lim_i HL3601.out) ?_) | ((with_reducible show Calls _ 58 #[.agg _, .agg _] _ _); go_at_call 58; refine (times_any _ _ _ HZ3601.out HZ3601.out).mono ?_; rintro e w3607 ⟨z3607, rfl, h3607, hb3607⟩; have HZ3607 := Lib.hid h3607; have HL3607 := Lib.hid h3607.len; clear h3607; have HB3607 := Lib.hid (HB3606.out.kept hb3607); clear hb3607; clear HB3606) | ((with_reducible refine aS 7 ?_); refine wpList_alloc_row rfl 56 rfl _ (HZzl.out _) ?_; have HB3608 := Lib.hid (HB3607.out.alloc (arr .u64 zl) 56); generalize w3607.heap.size = g3608 at HB3608 ⊢; generalize w3607.alloc (.cells (arr .u64 zl) 56) = w3608 at HB3608 ⊢; clear HB3607) | ((with_reducible refine aT 7 (x := (Operand.tmp 30)) ?_); refine wpList_store_whole rfl 56 _ _ rfl (g3608) _ _ 56 (HB3608.out.get 4 rfl) rfl rfl (arr_len2 _ _ HL3607.out HLzl.out) (lim_s HL3607.out) (all_arr _ _) ?_; intro w3609 hb3609 hk3609 hz3609; have HB3609 := Lib.hid (HB3608.out.put 4 rfl hk3609 hb3609); clear hb3609 hk3609 hz3609; clear HB3608))
  (try simp only [World.size_alloc, Act.put, sA, sZ, sS])
  obtain ⟨z5703, hz5703⟩ : ∃ z : List Int, z = nar (dig 18446744073709551616 4 (fsub (fmul Y Y) 1)) := ⟨_, rfl⟩
  have HE5703 := Lib.hid hz5703
  have HL5703 : Hid (z5703.length = 4) := Lib.hid (by rw [hz5703]; exact (nar_len _).trans (dig_len _ _ _))
  clear hz5703
  obtain ⟨z5704, hz5704⟩ : ∃ z : List Int, z = nar (dig 18446744073709551616 4 dd) := ⟨_, rfl⟩
  have HE5704 := Lib.hid hz5704
  have HL5704 : Hid (z5704.length = 4) := Lib.hid (by rw [hz5704]; exact (nar_len _).trans (dig_len _ _ _))
  clear hz5704
  obtain ⟨z5705, hz5705⟩ : ∃ z : List Int, z = nar (dig 18446744073709551616 4 (fmul dd (fmul Y Y))) := ⟨_, rfl⟩
  have HE5705 := Lib.hid hz5705
  have HL5705 : Hid (z5705.length = 4) := Lib.hid (by rw [hz5705]; exact (nar_len _).trans (dig_len _ _ _))
  clear hz5705
  obtain ⟨z5706, hz5706⟩ : ∃ z : List Int, z = nar (dig 18446744073709551616 4 (fadd (fmul dd (fmul Y Y)) 1)) := ⟨_, rfl⟩
  have HE5706 := Lib.hid hz5706
  have HL5706 : Hid (z5706.length = 4) := Lib.hid (by rw [hz5706]; exact (nar_len _).trans (dig_len _ _ _))
  clear hz5706
  refine wp_region_lin (fun (fF : Fill) (uF : World) => (∀ v, fF 0 = some v → v = .agg (arr .u64 z3607) ∧ True) ∧ (∀ v, fF 1 = some v → v = .agg (arr .u64 k1) ∧ True) ∧ (∀ v, fF 2 = some v → v = .agg (arr .u64 z5703) ∧ N4 z5703 (fsub (fmul Y Y) 1)) ∧ (∀ v, fF 3 = some v → v = .agg (arr .u64 z5704) ∧ N4 z5704 dd) ∧ (∀ v, fF 4 = some v → v = .agg (arr .u64 z3607) ∧ True) ∧ (∀ v, fF 5 = some v → v = .agg (arr .u64 z5705) ∧ N4 z5705 (fmul dd (fmul Y Y))) ∧ (∀ v, fF 6 = some v → v = .agg (arr .u64 k1) ∧ True) ∧ (∀ v, fF 7 = some v → v = .agg (arr .u64 z5706) ∧ N4 z5706 (fadd (fmul dd (fmul Y Y)) 1)) ∧ (∀ v, fF 8 = some v → ∃ g : Nat, v = .pointer (some ⟨g, 0, none⟩)) ∧ (∀ v, fF 9 = some v → ∃ g : Nat, v = .pointer (some ⟨g, 0, none⟩)) ∧ Blk w uF ([(w.heap.size, arr .u8 ys, 23), (w.heap.size + 1, arr .u64 zp, 58), (g3602, (arr .u64 z3601), 56), (g3605, (arr .u64 k1), 56), (g3608, (arr .u64 z3607), 56)] ++ (ent (fF 8) ((if (fF 10).isSome = true then arr .u64 z5703 else arr .u64 zl)) 56 ++ (ent (fF 9) ((if (fF 11).isSome = true then arr .u64 z5706 else arr .u64 zl)) 56)))) (by kernel_rfl) (by kernel_rfl) ?zd8 ?sd8 ?ed8
  case zd8 => exact ⟨fun _ h => (by cases h), fun _ h => (by cases h), fun _ h => (by cases h), fun _ h => (by cases h), fun _ h => (by cases h), fun _ h => (by cases h), fun _ h => (by cases h), fun _ h => (by cases h), fun _ h => (by cases h), fun _ h => (by cases h), HB3609.out.drew⟩
  case sd8 =>
    refine LinAll.cons (fun fF bF uF kF hJF hfF hcF hupF hsF hKF => ?_) ?_
    · obtain ⟨j0, j1, j2, j3, j4, j5, j6, j7, j8, j9, hB⟩ := hJF
      have e7 : bF.eval (.tmp 7) = .pointer (some ⟨g3608, 0, none⟩) := hsF.old' 7 (by kernel_rfl) rfl
      have hB' := hB
      refine step_load_part rfl 56 _ rfl (g3608) (0) ((arr .u64 z3607)) 56 (0, 0) _ (hB'.get 4 rfl) e7 .u64 z3607 (arr_part _ _) Tryd.underlying56 rfl (lim_i HL3607.out) ?_
      exact hKF _ _ ⟨fun _ h => ⟨sI h, trivial⟩, j1, j2, j3, j4, j5, j6, j7, j8, j9, hB⟩
    refine LinAll.cons (fun fF bF uF kF hJF hfF hcF hupF hsF hKF => ?_) ?_
    · obtain ⟨j0, j1, j2, j3, j4, j5, j6, j7, j8, j9, hB⟩ := hJF
      have e6 : bF.eval (.tmp 6) = .pointer (some ⟨g3605, 0, none⟩) := hsF.old' 6 (by kernel_rfl) rfl
      have hB' := hB
      refine step_load_part rfl 56 _ rfl (g3605) (0) ((arr .u64 k1)) 56 (0, 0) _ (hB'.get 3 rfl) e6 .u64 k1 (arr_part _ _) Tryd.underlying56 rfl (lim_i HK1L.out) ?_
      exact hKF _ _ ⟨j0, fun _ h => ⟨sI h, trivial⟩, j2, j3, j4, j5, j6, j7, j8, j9, hB⟩
    refine LinAll.cons (fun fF bF uF kF hJF hfF hcF hupF hsF hKF => ?_) ?_
    · obtain ⟨j0, j1, j2, j3, j4, j5, j6, j7, j8, j9, hB⟩ := hJF
      obtain ⟨e31, p31⟩ := hsF.at hupF 0 31 (by kernel_rfl) rfl j0
      obtain ⟨e32, p32⟩ := hsF.at hupF 1 32 (by kernel_rfl) rfl j1
      refine lin_call rfl 72 [Operand.tmp 31, Operand.tmp 32] _ [.agg (arr .u64 z3607), .agg (arr .u64 k1)] rfl (by simp only [List.map_cons, List.map_nil, e31, e32] <;> rfl) (fun _ _ => by kernel_rfl) ?_
      refine Calls.mono (minus_any _ _ _ HZ3607.out HK1.out (fmul_lt _ _) one_lt) ?_
      rintro e w1 ⟨y5707_0, rfl, r5707_0, hb⟩
      obtain rfl : y5707_0 = z5703 := r5707_0.1.trans HE5703.out.symm
      exact ⟨_, rfl, hKF _ _ ⟨j0, j1, fun _ h => ⟨sI h, r5707_0⟩, j3, j4, j5, j6, j7, j8, j9, hB.kept hb⟩⟩
    refine LinAll.cons (fun fF bF uF kF hJF hfF hcF hupF hsF hKF => ?_) ?_
    · obtain ⟨j0, j1, j2, j3, j4, j5, j6, j7, j8, j9, hB⟩ := hJF
      refine lin_call rfl 74 [] _ [] rfl (by simp only [List.map_cons, List.map_nil] <;> rfl) (fun _ _ => by kernel_rfl) ?_
      refine Calls.mono (factor_any _) ?_
      rintro e w1 ⟨y5708_0, rfl, r5708_0, hb⟩
      obtain rfl : y5708_0 = z5704 := r5708_0.1.trans HE5704.out.symm
      exact ⟨_, rfl, hKF _ _ ⟨j0, j1, j2, fun _ h => ⟨sI h, r5708_0⟩, j4, j5, j6, j7, j8, j9, hB.kept hb⟩⟩
    refine LinAll.cons (fun fF bF uF kF hJF hfF hcF hupF hsF hKF => ?_) ?_
    · obtain ⟨j0, j1, j2, j3, j4, j5, j6, j7, j8, j9, hB⟩ := hJF
      have e7 : bF.eval (.tmp 7) = .pointer (some ⟨g3608, 0, none⟩) := hsF.old' 7 (by kernel_rfl) rfl
      have hB' := hB
      refine step_load_part rfl 56 _ rfl (g3608) (0) ((arr .u64 z3607)) 56 (0, 0) _ (hB'.get 4 rfl) e7 .u64 z3607 (arr_part _ _) Tryd.underlying56 rfl (lim_i HL3607.out) ?_
      exact hKF _ _ ⟨j0, j1, j2, j3, fun _ h => ⟨sI h, trivial⟩, j5, j6, j7, j8, j9, hB⟩
    refine LinAll.cons (fun fF bF uF kF hJF hfF hcF hupF hsF hKF => ?_) ?_
    · obtain ⟨j0, j1, j2, j3, j4, j5, j6, j7, j8, j9, hB⟩ := hJF
      obtain ⟨e34, p34⟩ := hsF.at hupF 3 34 (by kernel_rfl) rfl j3
      obtain ⟨e35, p35⟩ := hsF.at hupF 4 35 (by kernel_rfl) rfl j4
      have y3 := hupF 3 (by kernel_rfl)
      obtain ⟨v3, s3⟩ := sE y3
      have HZ5704 := Lib.hid (j3 _ s3).2
      refine lin_call rfl 58 [Operand.tmp 34, Operand.tmp 35] _ [.agg (arr .u64 z5704), .agg (arr .u64 z3607)] rfl (by simp only [List.map_cons, List.map_nil, e34, e35] <;> rfl) (fun _ _ => by kernel_rfl) ?_
      refine Calls.mono (times_any _ _ _ HZ5704.out HZ3607.out) ?_
      rintro e w1 ⟨y5709_0, rfl, r5709_0, hb⟩
      obtain rfl : y5709_0 = z5705 := r5709_0.1.trans HE5705.out.symm
      exact ⟨_, rfl, hKF _ _ ⟨j0, j1, j2, j3, j4, fun _ h => ⟨sI h, r5709_0⟩, j6, j7, j8, j9, hB.kept hb⟩⟩
    refine LinAll.cons (fun fF bF uF kF hJF hfF hcF hupF hsF hKF => ?_) ?_
    · obtain ⟨j0, j1, j2, j3, j4, j5, j6, j7, j8, j9, hB⟩ := hJF
      have e6 : bF.eval (.tmp 6) = .pointer (some ⟨g3605, 0, none⟩) := hsF.old' 6 (by kernel_rfl) rfl
      have hB' := hB
      refine step_load_part rfl 56 _ rfl (g3605) (0) ((arr .u64 k1)) 56 (0, 0) _ (hB'.get 3 rfl) e6 .u64 k1 (arr_part _ _) Tryd.underlying56 rfl (lim_i HK1L.out) ?_
      exact hKF _ _ ⟨j0, j1, j2, j3, j4, j5, fun _ h => ⟨sI h, trivial⟩, j7, j8, j9, hB⟩
    refine LinAll.cons (fun fF bF uF kF hJF hfF hcF hupF hsF hKF => ?_) ?_
    · obtain ⟨j0, j1, j2, j3, j4, j5, j6, j7, j8, j9, hB⟩ := hJF
      obtain ⟨e36, p36⟩ := hsF.at hupF 5 36 (by kernel_rfl) rfl j5
      obtain ⟨e37, p37⟩ := hsF.at hupF 6 37 (by kernel_rfl) rfl j6
      have y5 := hupF 5 (by kernel_rfl)
      obtain ⟨v5, s5⟩ := sE y5
      have HZ5705 := Lib.hid (j5 _ s5).2
      refine lin_call rfl 73 [Operand.tmp 36, Operand.tmp 37] _ [.agg (arr .u64 z5705), .agg (arr .u64 k1)] rfl (by simp only [List.map_cons, List.map_nil, e36, e37] <;> rfl) (fun _ _ => by kernel_rfl) ?_
      refine Calls.mono (plus_any _ _ _ HZ5705.out HK1.out) ?_
      rintro e w1 ⟨y5710_0, rfl, r5710_0, hb⟩
      obtain rfl : y5710_0 = z5706 := r5710_0.1.trans HE5706.out.symm
      exact ⟨_, rfl, hKF _ _ ⟨j0, j1, j2, j3, j4, j5, j6, fun _ h => ⟨sI h, r5710_0⟩, j8, j9, hB.kept hb⟩⟩
    refine LinAll.cons (fun fF bF uF kF hJF hfF hcF hupF hsF hKF => ?_) ?_
    · obtain ⟨j0, j1, j2, j3, j4, j5, j6, j7, j8, j9, hB⟩ := hJF
      have n10 := hcF.down 10 8 (by kernel_rfl) hfF
      refine step_alloc_row rfl 56 rfl _ (HZzl.out _) ?_
      have hB1 : Blk w (uF.alloc (.cells (arr .u64 zl) 56)) ([(w.heap.size, arr .u8 ys, 23), (w.heap.size + 1, arr .u64 zp, 58), (g3602, (arr .u64 z3601), 56), (g3605, (arr .u64 k1), 56), (g3608, (arr .u64 z3607), 56)] ++ (ent ((some (.pointer (some ⟨uF.heap.size, 0, none⟩)) : Option Value)) ((if (fF 10).isSome = true then arr .u64 z5703 else arr .u64 zl)) 56 ++ (ent (fF 9) ((if (fF 11).isSome = true then arr .u64 z5706 else arr .u64 zl)) 56))) := hB.ins (a := [(w.heap.size, arr .u8 ys, 23), (w.heap.size + 1, arr .u64 zp, 58), (g3602, (arr .u64 z3601), 56), (g3605, (arr .u64 k1), 56), (g3608, (arr .u64 z3607), 56)]) (b := ent (fF 9) ((if (fF 11).isSome = true then arr .u64 z5706 else arr .u64 zl)) 56) _ _ (by rw [hfF, n10]; simp only [ent_none, List.nil_append, List.append_nil, List.append_assoc, List.cons_append]) (by rw [n10]; simp only [ent_some, List.nil_append, List.append_nil, List.append_assoc, List.cons_append, Option.isSome_none, Bool.false_eq_true, if_false])
      exact hKF _ _ ⟨j0, j1, j2, j3, j4, j5, j6, j7, fun _ h => ⟨_, sI h⟩, j9, hB1⟩
    refine LinAll.cons (fun fF bF uF kF hJF hfF hcF hupF hsF hKF => ?_) ?_
    · obtain ⟨j0, j1, j2, j3, j4, j5, j6, j7, j8, j9, hB⟩ := hJF
      have n11 := hcF.down 11 9 (by kernel_rfl) hfF
      refine step_alloc_row rfl 56 rfl _ (HZzl.out _) ?_
      have hB1 : Blk w (uF.alloc (.cells (arr .u64 zl) 56)) ([(w.heap.size, arr .u8 ys, 23), (w.heap.size + 1, arr .u64 zp, 58), (g3602, (arr .u64 z3601), 56), (g3605, (arr .u64 k1), 56), (g3608, (arr .u64 z3607), 56)] ++ (ent (fF 8) ((if (fF 10).isSome = true then arr .u64 z5703 else arr .u64 zl)) 56 ++ (ent ((some (.pointer (some ⟨uF.heap.size, 0, none⟩)) : Option Value)) ((if (fF 11).isSome = true then arr .u64 z5706 else arr .u64 zl)) 56))) := hB.ins (a := [(w.heap.size, arr .u8 ys, 23), (w.heap.size + 1, arr .u64 zp, 58), (g3602, (arr .u64 z3601), 56), (g3605, (arr .u64 k1), 56), (g3608, (arr .u64 z3607), 56)] ++ ent (fF 8) ((if (fF 10).isSome = true then arr .u64 z5703 else arr .u64 zl)) 56) (b := []) _ _ (by rw [hfF, n11]; simp only [ent_none, List.nil_append, List.append_nil, List.append_assoc, List.cons_append]) (by rw [n11]; simp only [ent_some, List.nil_append, List.append_nil, List.append_assoc, List.cons_append, Option.isSome_none, Bool.false_eq_true, if_false])
      exact hKF _ _ ⟨j0, j1, j2, j3, j4, j5, j6, j7, j8, fun _ h => ⟨_, sI h⟩, hB1⟩
    refine LinAll.cons (fun fF bF uF kF hJF hfF hcF hupF hsF hKF => ?_) ?_
    · obtain ⟨j0, j1, j2, j3, j4, j5, j6, j7, j8, j9, hB⟩ := hJF
      have y8 := hupF 8 (by kernel_rfl)
      obtain ⟨v8, s8⟩ := sE y8
      obtain ⟨gd8_5, rfl⟩ := j8 _ s8
      have y9 := hupF 9 (by kernel_rfl)
      obtain ⟨v9, s9⟩ := sE y9
      obtain ⟨gd8_6, rfl⟩ := j9 _ s9
      have e8 := hsF.val 8 8 rfl s8
      obtain ⟨e33, p33⟩ := hsF.at hupF 2 33 (by kernel_rfl) rfl j2
      have y2 := hupF 2 (by kernel_rfl)
      obtain ⟨v2, s2⟩ := sE y2
      have HZ5703 := Lib.hid (j2 _ s2).2
      have hB' := hB
      rw [s8, s9, hfF] at hB'
      refine step_store_whole rfl 56 (.tmp 8) (.tmp 33) rfl (gd8_5) (arr .u64 zl) _ 56 (hB'.get 5 rfl) e8 e33 (arr_len2 _ _ HL5703.out HLzl.out) (lim_s HL5703.out) (all_arr _ _) ?_
      intro w1 hb1 hk1 hz1
      have hB1 : Blk w w1 ([(w.heap.size, arr .u8 ys, 23), (w.heap.size + 1, arr .u64 zp, 58), (g3602, (arr .u64 z3601), 56), (g3605, (arr .u64 k1), 56), (g3608, (arr .u64 z3607), 56)] ++ (ent (fF 8) ((if ((some undef : Option Value)).isSome = true then arr .u64 z5703 else arr .u64 zl)) 56 ++ (ent (fF 9) ((if (fF 11).isSome = true then arr .u64 z5706 else arr .u64 zl)) 56))) := by rw [s8, s9]; exact hB'.put 5 rfl hk1 hb1
      exact hKF undef w1 ⟨j0, j1, j2, j3, j4, j5, j6, j7, j8, j9, hB1⟩
    refine LinAll.cons (fun fF bF uF kF hJF hfF hcF hupF hsF hKF => ?_) ?_
    · obtain ⟨j0, j1, j2, j3, j4, j5, j6, j7, j8, j9, hB⟩ := hJF
      have y8 := hupF 8 (by kernel_rfl)
      obtain ⟨v8, s8⟩ := sE y8
      obtain ⟨gd8_5, rfl⟩ := j8 _ s8
      have y9 := hupF 9 (by kernel_rfl)
      obtain ⟨v9, s9⟩ := sE y9
      obtain ⟨gd8_6, rfl⟩ := j9 _ s9
      have e9 := hsF.val 9 9 rfl s9
      obtain ⟨e38, p38⟩ := hsF.at hupF 7 38 (by kernel_rfl) rfl j7
      have y7 := hupF 7 (by kernel_rfl)
      obtain ⟨v7, s7⟩ := sE y7
      have HZ5706 := Lib.hid (j7 _ s7).2
      have hB' := hB
      rw [s8, s9, hfF] at hB'
      refine step_store_whole rfl 56 (.tmp 9) (.tmp 38) rfl (gd8_6) (arr .u64 zl) _ 56 (hB'.get 6 rfl) e9 e38 (arr_len2 _ _ HL5706.out HLzl.out) (lim_s HL5706.out) (all_arr _ _) ?_
      intro w1 hb1 hk1 hz1
      have hB1 : Blk w w1 ([(w.heap.size, arr .u8 ys, 23), (w.heap.size + 1, arr .u64 zp, 58), (g3602, (arr .u64 z3601), 56), (g3605, (arr .u64 k1), 56), (g3608, (arr .u64 z3607), 56)] ++ (ent (fF 8) ((if (fF 10).isSome = true then arr .u64 z5703 else arr .u64 zl)) 56 ++ (ent (fF 9) ((if ((some undef : Option Value)).isSome = true then arr .u64 z5706 else arr .u64 zl)) 56))) := by rw [s8, s9]; exact hB'.put 6 rfl hk1 hb1
      exact hKF undef w1 ⟨j0, j1, j2, j3, j4, j5, j6, j7, j8, j9, hB1⟩
    exact LinAll.nil
  case ed8 =>
  intro fF ud8 hall hJF
  obtain ⟨j0, j1, j2, j3, j4, j5, j6, j7, j8, j9, hB⟩ := hJF
  obtain ⟨v0, h0⟩ := sE (hall 0 (by decide))
  obtain ⟨rfl, p0⟩ := j0 _ h0
  obtain ⟨v1, h1⟩ := sE (hall 1 (by decide))
  obtain ⟨rfl, p1⟩ := j1 _ h1
  obtain ⟨v2, h2⟩ := sE (hall 2 (by decide))
  obtain ⟨rfl, p2⟩ := j2 _ h2
  obtain ⟨v3, h3⟩ := sE (hall 3 (by decide))
  obtain ⟨rfl, p3⟩ := j3 _ h3
  obtain ⟨v4, h4⟩ := sE (hall 4 (by decide))
  obtain ⟨rfl, p4⟩ := j4 _ h4
  obtain ⟨v5, h5⟩ := sE (hall 5 (by decide))
  obtain ⟨rfl, p5⟩ := j5 _ h5
  obtain ⟨v6, h6⟩ := sE (hall 6 (by decide))
  obtain ⟨rfl, p6⟩ := j6 _ h6
  obtain ⟨v7, h7⟩ := sE (hall 7 (by decide))
  obtain ⟨rfl, p7⟩ := j7 _ h7
  obtain ⟨v8, h8⟩ := sE (hall 8 (by decide))
  obtain ⟨gd8_5, rfl⟩ := j8 _ h8
  obtain ⟨v9, h9⟩ := sE (hall 9 (by decide))
  obtain ⟨gd8_6, rfl⟩ := j9 _ h9
  obtain ⟨v10, h10⟩ := sE (hall 10 (by decide))
  obtain ⟨v11, h11⟩ := sE (hall 11 (by decide))
  rw [h8, h9, h10, h11] at hB
  have HBd8 : Hid (Blk w ud8 [(w.heap.size, arr .u8 ys, 23), (w.heap.size + 1, arr .u64 zp, 58), (g3602, (arr .u64 z3601), 56), (g3605, (arr .u64 k1), 56), (g3608, (arr .u64 z3607), 56), (gd8_5, arr .u64 z5703, 56), (gd8_6, arr .u64 z5706, 56)]) := Lib.hid hB
  have HZ5703 := Lib.hid p2
  have HZ5704 := Lib.hid p3
  have HZ5705 := Lib.hid p5
  have HZ5706 := Lib.hid p7
  simp only [laid, Nat.zero_add, Nat.reduceAdd, h0, h1, h2, h3, h4, h5, h6, h7, h8, h9, h10, h11, Act.put, sA, sZ, sS]
  clear j0 j1 j2 j3 j4 j5 j6 j7 j8 j9 hB h0 h1 h2 h3 h4 h5 h6 h7 h8 h9 h10 h11 hall fF HB3609
  clear p0 p1 p2 p3 p4 p5 p6 p7
  (try simp only [Exit.then])
  go_upto_region 9 with fail
  (try simp only [World.size_alloc, Act.put, sA, sZ, sS])
  obtain ⟨z5711, hz5711⟩ : ∃ z : List Int, z = nar (dig 18446744073709551616 4 (finv (fadd (fmul dd (fmul Y Y)) 1))) := ⟨_, rfl⟩
  have HE5711 := Lib.hid hz5711
  have HL5711 : Hid (z5711.length = 4) := Lib.hid (by rw [hz5711]; exact (nar_len _).trans (dig_len _ _ _))
  clear hz5711
  obtain ⟨z5712, hz5712⟩ : ∃ z : List Int, z = nar (dig 18446744073709551616 4 (fmul (fsub (fmul Y Y) 1) (finv (fadd (fmul dd (fmul Y Y)) 1)))) := ⟨_, rfl⟩
  have HE5712 := Lib.hid hz5712
  have HL5712 : Hid (z5712.length = 4) := Lib.hid (by rw [hz5712]; exact (nar_len _).trans (dig_len _ _ _))
  clear hz5712
  obtain ⟨z5713, hz5713⟩ : ∃ z : List Int, z = nar (dig 18446744073709551616 4 R) := ⟨_, rfl⟩
  have HE5713 := Lib.hid hz5713
  have HL5713 : Hid (z5713.length = 4) := Lib.hid (by rw [hz5713]; exact (nar_len _).trans (dig_len _ _ _))
  clear hz5713
  refine wp_region_lin (fun (fF : Fill) (uF : World) => (∀ v, fF 0 = some v → v = .agg (arr .u64 z5703) ∧ True) ∧ (∀ v, fF 1 = some v → v = .agg (arr .u64 z5706) ∧ True) ∧ (∀ v, fF 2 = some v → v = .agg (arr .u64 z5711) ∧ N4 z5711 (finv (fadd (fmul dd (fmul Y Y)) 1))) ∧ (∀ v, fF 3 = some v → v = .agg (arr .u64 z5712) ∧ N4 z5712 (fmul (fsub (fmul Y Y) 1) (finv (fadd (fmul dd (fmul Y Y)) 1)))) ∧ (∀ v, fF 4 = some v → v = .tuple #[.agg (arr .u64 z5713), .bool k2] ∧ N4 z5713 R) ∧ (∀ v, fF 5 = some v → v = .tuple #[.agg (arr .u64 z5713), .bool k2] ∧ True) ∧ (∀ v, fF 6 = some v → v = .agg (arr .u64 z5713) ∧ True) ∧ (∀ v, fF 7 = some v → v = .bool k2 ∧ True) ∧ (∀ v, fF 8 = some v → ∃ g : Nat, v = .pointer (some ⟨g, 0, none⟩)) ∧ (∀ v, fF 10 = some v → v = .bool k2 ∧ True) ∧ Blk w uF ([(w.heap.size, arr .u8 ys, 23), (w.heap.size + 1, arr .u64 zp, 58), (g3602, (arr .u64 z3601), 56), (g3605, (arr .u64 k1), 56), (g3608, (arr .u64 z3607), 56), (gd8_5, arr .u64 z5703, 56), (gd8_6, arr .u64 z5706, 56)] ++ (ent (fF 8) ((if (fF 9).isSome = true then arr .u64 z5713 else arr .u64 zl)) 56))) (by kernel_rfl) (by kernel_rfl) ?zd9 ?sd9 ?ed9
  case zd9 => exact ⟨fun _ h => (by cases h), fun _ h => (by cases h), fun _ h => (by cases h), fun _ h => (by cases h), fun _ h => (by cases h), fun _ h => (by cases h), fun _ h => (by cases h), fun _ h => (by cases h), fun _ h => (by cases h), fun _ h => (by cases h), HBd8.out.drew⟩
  case sd9 =>
    refine LinAll.cons (fun fF bF uF kF hJF hfF hcF hupF hsF hKF => ?_) ?_
    · obtain ⟨j0, j1, j2, j3, j4, j5, j6, j7, j8, j10, hB⟩ := hJF
      have e8 : bF.eval (.tmp 8) = .pointer (some ⟨gd8_5, 0, none⟩) := hsF.old' 8 (by kernel_rfl) rfl
      have hB' := hB
      refine step_load_part rfl 56 _ rfl (gd8_5) (0) (arr .u64 z5703) 56 (0, 0) _ (hB'.get 5 rfl) e8 .u64 z5703 (arr_part _ _) Tryd.underlying56 rfl (lim_i HL5703.out) ?_
      exact hKF _ _ ⟨fun _ h => ⟨sI h, trivial⟩, j1, j2, j3, j4, j5, j6, j7, j8, j10, hB⟩
    refine LinAll.cons (fun fF bF uF kF hJF hfF hcF hupF hsF hKF => ?_) ?_
    · obtain ⟨j0, j1, j2, j3, j4, j5, j6, j7, j8, j10, hB⟩ := hJF
      have e9 : bF.eval (.tmp 9) = .pointer (some ⟨gd8_6, 0, none⟩) := hsF.old' 9 (by kernel_rfl) rfl
      have hB' := hB
      refine step_load_part rfl 56 _ rfl (gd8_6) (0) (arr .u64 z5706) 56 (0, 0) _ (hB'.get 6 rfl) e9 .u64 z5706 (arr_part _ _) Tryd.underlying56 rfl (lim_i HL5706.out) ?_
      exact hKF _ _ ⟨j0, fun _ h => ⟨sI h, trivial⟩, j2, j3, j4, j5, j6, j7, j8, j10, hB⟩
    refine LinAll.cons (fun fF bF uF kF hJF hfF hcF hupF hsF hKF => ?_) ?_
    · obtain ⟨j0, j1, j2, j3, j4, j5, j6, j7, j8, j10, hB⟩ := hJF
      obtain ⟨e41, p41⟩ := hsF.at hupF 1 41 (by kernel_rfl) rfl j1
      refine lin_call rfl 62 [Operand.tmp 41] _ [.agg (arr .u64 z5706)] rfl (by simp only [List.map_cons, List.map_nil, e41] <;> rfl) (fun _ _ => by kernel_rfl) ?_
      refine Calls.mono (inverse_any _ _ HZ5706.out) ?_
      rintro e w1 ⟨y5714_0, rfl, r5714_0, hb⟩
      obtain rfl : y5714_0 = z5711 := r5714_0.1.trans HE5711.out.symm
      exact ⟨_, rfl, hKF _ _ ⟨j0, j1, fun _ h => ⟨sI h, r5714_0⟩, j3, j4, j5, j6, j7, j8, j10, hB.kept hb⟩⟩
    refine LinAll.cons (fun fF bF uF kF hJF hfF hcF hupF hsF hKF => ?_) ?_
    · obtain ⟨j0, j1, j2, j3, j4, j5, j6, j7, j8, j10, hB⟩ := hJF
      obtain ⟨e40, p40⟩ := hsF.at hupF 0 40 (by kernel_rfl) rfl j0
      obtain ⟨e42, p42⟩ := hsF.at hupF 2 42 (by kernel_rfl) rfl j2
      have y2 := hupF 2 (by kernel_rfl)
      obtain ⟨v2, s2⟩ := sE y2
      have HZ5711 := Lib.hid (j2 _ s2).2
      refine lin_call rfl 58 [Operand.tmp 40, Operand.tmp 42] _ [.agg (arr .u64 z5703), .agg (arr .u64 z5711)] rfl (by simp only [List.map_cons, List.map_nil, e40, e42] <;> rfl) (fun _ _ => by kernel_rfl) ?_
      refine Calls.mono (times_any _ _ _ HZ5703.out HZ5711.out) ?_
      rintro e w1 ⟨y5715_0, rfl, r5715_0, hb⟩
      obtain rfl : y5715_0 = z5712 := r5715_0.1.trans HE5712.out.symm
      exact ⟨_, rfl, hKF _ _ ⟨j0, j1, j2, fun _ h => ⟨sI h, r5715_0⟩, j4, j5, j6, j7, j8, j10, hB.kept hb⟩⟩
    refine LinAll.cons (fun fF bF uF kF hJF hfF hcF hupF hsF hKF => ?_) ?_
    · obtain ⟨j0, j1, j2, j3, j4, j5, j6, j7, j8, j10, hB⟩ := hJF
      obtain ⟨e43, p43⟩ := hsF.at hupF 3 43 (by kernel_rfl) rfl j3
      have y3 := hupF 3 (by kernel_rfl)
      obtain ⟨v3, s3⟩ := sE y3
      have HZ5712 := Lib.hid (j3 _ s3).2
      refine lin_call rfl 75 [Operand.tmp 43] _ [.agg (arr .u64 z5712)] rfl (by simp only [List.map_cons, List.map_nil, e43] <;> rfl) (fun _ _ => by kernel_rfl) ?_
      refine Calls.mono (HSQ.out _ _ (HZ5712.out.cast HAA.out.symm)) ?_
      rintro e w1 ⟨y5716_0, rfl, r5716_0, hb⟩
      obtain rfl : y5716_0 = z5713 := r5716_0.1.trans HE5713.out.symm
      exact ⟨_, rfl, hKF _ _ ⟨j0, j1, j2, j3, fun _ h => ⟨sI h, r5716_0⟩, j5, j6, j7, j8, j10, hB.kept hb⟩⟩
    refine LinAll.cons (fun fF bF uF kF hJF hfF hcF hupF hsF hKF => ?_) ?_
    · obtain ⟨j0, j1, j2, j3, j4, j5, j6, j7, j8, j10, hB⟩ := hJF
      obtain ⟨e44, p44⟩ := hsF.at hupF 4 44 (by kernel_rfl) rfl j4
      exact lin_pure rfl (.tuple #[.agg (arr .u64 z5713), .bool k2]) (by simp only [execOp, e44] <;> first | rfl | kernel_rfl | (go_simp; done)) (hKF _ _ ⟨j0, j1, j2, j3, j4, fun _ h => ⟨sI h, trivial⟩, j6, j7, j8, j10, hB⟩)
    refine LinAll.cons (fun fF bF uF kF hJF hfF hcF hupF hsF hKF => ?_) ?_
    · obtain ⟨j0, j1, j2, j3, j4, j5, j6, j7, j8, j10, hB⟩ := hJF
      obtain ⟨e39, p39⟩ := hsF.at hupF 5 39 (by kernel_rfl) rfl j5
      exact lin_pure rfl (.agg (arr .u64 z5713)) (by simp only [execOp, e39] <;> first | rfl | kernel_rfl | (go_simp; done)) (hKF _ _ ⟨j0, j1, j2, j3, j4, j5, fun _ h => ⟨sI h, trivial⟩, j7, j8, j10, hB⟩)
    refine LinAll.cons (fun fF bF uF kF hJF hfF hcF hupF hsF hKF => ?_) ?_
    · obtain ⟨j0, j1, j2, j3, j4, j5, j6, j7, j8, j10, hB⟩ := hJF
      obtain ⟨e39, p39⟩ := hsF.at hupF 5 39 (by kernel_rfl) rfl j5
      exact lin_pure rfl (.bool k2) (by simp only [execOp, e39] <;> first | rfl | kernel_rfl | (go_simp; done)) (hKF _ _ ⟨j0, j1, j2, j3, j4, j5, j6, fun _ h => ⟨sI h, trivial⟩, j8, j10, hB⟩)
    refine LinAll.cons (fun fF bF uF kF hJF hfF hcF hupF hsF hKF => ?_) ?_
    · obtain ⟨j0, j1, j2, j3, j4, j5, j6, j7, j8, j10, hB⟩ := hJF
      have n9 := hcF.down 9 8 (by kernel_rfl) hfF
      refine step_alloc_row rfl 56 rfl _ (HZzl.out _) ?_
      have hB1 : Blk w (uF.alloc (.cells (arr .u64 zl) 56)) ([(w.heap.size, arr .u8 ys, 23), (w.heap.size + 1, arr .u64 zp, 58), (g3602, (arr .u64 z3601), 56), (g3605, (arr .u64 k1), 56), (g3608, (arr .u64 z3607), 56), (gd8_5, arr .u64 z5703, 56), (gd8_6, arr .u64 z5706, 56)] ++ (ent ((some (.pointer (some ⟨uF.heap.size, 0, none⟩)) : Option Value)) ((if (fF 9).isSome = true then arr .u64 z5713 else arr .u64 zl)) 56)) := hB.ins (a := [(w.heap.size, arr .u8 ys, 23), (w.heap.size + 1, arr .u64 zp, 58), (g3602, (arr .u64 z3601), 56), (g3605, (arr .u64 k1), 56), (g3608, (arr .u64 z3607), 56), (gd8_5, arr .u64 z5703, 56), (gd8_6, arr .u64 z5706, 56)]) (b := []) _ _ (by rw [hfF, n9]; simp only [ent_none, List.nil_append, List.append_nil, List.append_assoc, List.cons_append]) (by rw [n9]; simp only [ent_some, List.nil_append, List.append_nil, List.append_assoc, List.cons_append, Option.isSome_none, Bool.false_eq_true, if_false])
      exact hKF _ _ ⟨j0, j1, j2, j3, j4, j5, j6, j7, fun _ h => ⟨_, sI h⟩, j10, hB1⟩
    refine LinAll.cons (fun fF bF uF kF hJF hfF hcF hupF hsF hKF => ?_) ?_
    · obtain ⟨j0, j1, j2, j3, j4, j5, j6, j7, j8, j10, hB⟩ := hJF
      have y8 := hupF 8 (by kernel_rfl)
      obtain ⟨v8, s8⟩ := sE y8
      obtain ⟨gd9_7, rfl⟩ := j8 _ s8
      have e10 := hsF.val 8 10 rfl s8
      obtain ⟨e45, p45⟩ := hsF.at hupF 6 45 (by kernel_rfl) rfl j6
      have y4 := hupF 4 (by kernel_rfl)
      obtain ⟨v4, s4⟩ := sE y4
      have HZ5713 := Lib.hid (j4 _ s4).2
      have hB' := hB
      rw [s8, hfF] at hB'
      refine step_store_whole rfl 56 (.tmp 10) (.tmp 45) rfl (gd9_7) (arr .u64 zl) _ 56 (hB'.get 7 rfl) e10 e45 (arr_len2 _ _ HL5713.out HLzl.out) (lim_s HL5713.out) (all_arr _ _) ?_
      intro w1 hb1 hk1 hz1
      have hB1 : Blk w w1 ([(w.heap.size, arr .u8 ys, 23), (w.heap.size + 1, arr .u64 zp, 58), (g3602, (arr .u64 z3601), 56), (g3605, (arr .u64 k1), 56), (g3608, (arr .u64 z3607), 56), (gd8_5, arr .u64 z5703, 56), (gd8_6, arr .u64 z5706, 56)] ++ (ent (fF 8) ((if ((some undef : Option Value)).isSome = true then arr .u64 z5713 else arr .u64 zl)) 56)) := by rw [s8]; exact hB'.put 7 rfl hk1 hb1
      exact hKF undef w1 ⟨j0, j1, j2, j3, j4, j5, j6, j7, j8, j10, hB1⟩
    refine LinAll.cons (fun fF bF uF kF hJF hfF hcF hupF hsF hKF => ?_) ?_
    · obtain ⟨j0, j1, j2, j3, j4, j5, j6, j7, j8, j10, hB⟩ := hJF
      obtain ⟨e46, p46⟩ := hsF.at hupF 7 46 (by kernel_rfl) rfl j7
      exact lin_pure rfl (.bool k2) (by simp only [execOp, e46] <;> first | rfl | kernel_rfl | (go_simp; done)) (hKF _ _ ⟨j0, j1, j2, j3, j4, j5, j6, j7, j8, fun _ h => ⟨sI h, trivial⟩, hB⟩)
    exact LinAll.nil
  case ed9 =>
  intro fF ud9 hall hJF
  obtain ⟨j0, j1, j2, j3, j4, j5, j6, j7, j8, j10, hB⟩ := hJF
  obtain ⟨v0, h0⟩ := sE (hall 0 (by decide))
  obtain ⟨rfl, p0⟩ := j0 _ h0
  obtain ⟨v1, h1⟩ := sE (hall 1 (by decide))
  obtain ⟨rfl, p1⟩ := j1 _ h1
  obtain ⟨v2, h2⟩ := sE (hall 2 (by decide))
  obtain ⟨rfl, p2⟩ := j2 _ h2
  obtain ⟨v3, h3⟩ := sE (hall 3 (by decide))
  obtain ⟨rfl, p3⟩ := j3 _ h3
  obtain ⟨v4, h4⟩ := sE (hall 4 (by decide))
  obtain ⟨rfl, p4⟩ := j4 _ h4
  obtain ⟨v5, h5⟩ := sE (hall 5 (by decide))
  obtain ⟨rfl, p5⟩ := j5 _ h5
  obtain ⟨v6, h6⟩ := sE (hall 6 (by decide))
  obtain ⟨rfl, p6⟩ := j6 _ h6
  obtain ⟨v7, h7⟩ := sE (hall 7 (by decide))
  obtain ⟨rfl, p7⟩ := j7 _ h7
  obtain ⟨v8, h8⟩ := sE (hall 8 (by decide))
  obtain ⟨gd9_7, rfl⟩ := j8 _ h8
  obtain ⟨v9, h9⟩ := sE (hall 9 (by decide))
  obtain ⟨v10, h10⟩ := sE (hall 10 (by decide))
  obtain ⟨rfl, p10⟩ := j10 _ h10
  rw [h8, h9] at hB
  have HBd9 : Hid (Blk w ud9 [(w.heap.size, arr .u8 ys, 23), (w.heap.size + 1, arr .u64 zp, 58), (g3602, (arr .u64 z3601), 56), (g3605, (arr .u64 k1), 56), (g3608, (arr .u64 z3607), 56), (gd8_5, arr .u64 z5703, 56), (gd8_6, arr .u64 z5706, 56), (gd9_7, arr .u64 z5713, 56)]) := Lib.hid hB
  have HZ5711 := Lib.hid p2
  have HZ5712 := Lib.hid p3
  have HZ5713 := Lib.hid p4
  simp only [laid, Nat.zero_add, Nat.reduceAdd, h0, h1, h2, h3, h4, h5, h6, h7, h8, h9, h10, Act.put, sA, sZ, sS]
  clear j0 j1 j2 j3 j4 j5 j6 j7 j8 j10 hB h0 h1 h2 h3 h4 h5 h6 h7 h8 h9 h10 hall fF HBd8
  clear p0 p1 p2 p3 p4 p5 p6 p7 p10
  (try simp only [Exit.then])
  rcases Bool.eq_false_or_eq_true k2 with hk | hk
  rotate_left
  · obtain rfl : er = none := by rw [HER.out]; rw [if_pos hlt, if_neg (by rw [hk]; exact fun h => by cases h.1)]
    subst hk
    go_wp2_with (first | ((with_reducible refine aS 52 ?_); refine wpList_load_part rfl 56 _ rfl (gd9_7) (0) _ 56 (0, 0) _ (HBd9.out.get 7 rfl) rfl .u64 z5713 (arr_part _ _) Tryd.underlying56 rfl (lim_i HL5713.out) ?_) | ((with_reducible refine aS 53 ?_); refine wpList_build (by rfl) 56 _ rfl #[] rfl _ (HBK0.out _) ?_) | ((with_reducible refine aS 57 ?_); refine wpList_build (by rfl) 58 _ rfl #[] rfl _ (HBZ.out _) ?_) | ((with_reducible refine aT 2 (x := (Operand.tmp 57)) ?_); refine wpList_store_whole rfl 58 _ _ rfl (w.heap.size + 1) _ _ 58 (HBd9.out.get 1 rfl) rfl rfl (arr_len2 _ _ HLzp.out HLzp.out) (cpt_s HLzp.out) (all_arr _ _) ?_; intro w3610 hb3610 hk3610 hz3610; have HB3610 := Lib.hid (HBd9.out.put 1 rfl hk3610 hb3610); clear hb3610 hk3610 hz3610))
    (try simp only [Exit.then])
    refine bodyPost_ret (results_cell_tmp_row rfl _ _ (w.heap.size + 1) 58 _ (0, 0) _ _ rfl (HB3610.out.get 1 rfl) Tryd.underlying58 rfl (cpt_s HLzp.out) rfl) rfl ?_
    refine ⟨_, rfl, ?_, HB3610.out.below⟩
    first | exact HLzp.out | exact ⟨HLzp.out, fun P h => by cases h⟩
  subst hk
  have hqz := HZ5713.out.inj HK0.out
  rcases ho2 with rfl | rfl
  · obtain rfl : ob = false := by rw [HOB.out]; rfl
    go_upto_region 14 with (first | ((with_reducible refine aS 52 ?_); refine wpList_load_part rfl 56 _ rfl (gd9_7) (0) _ 56 (0, 0) _ (HBd9.out.get 7 rfl) rfl .u64 z5713 (arr_part _ _) Tryd.underlying56 rfl (lim_i HL5713.out) ?_) | ((with_reducible refine aS 53 ?_); refine wpList_build (by rfl) 56 _ rfl #[] rfl _ (HBK0.out _) ?_))
    (try simp only [World.size_alloc, Act.put, sA, sZ, sS])
    obtain ⟨z5717, hz5717⟩ : ∃ z : List Int, z = nar (dig 18446744073709551616 4 (fmul R Y)) := ⟨_, rfl⟩
    have HE5717 := Lib.hid hz5717
    have HL5717 : Hid (z5717.length = 4) := Lib.hid (by rw [hz5717]; exact (nar_len _).trans (dig_len _ _ _))
    clear hz5717
    obtain ⟨v5718, hv5718⟩ : ∃ x, x = z5713 ++ z3601 ++ k1 ++ z5717 := ⟨_, rfl⟩
    have HR5718 : Hid (∀ w, (Instr.build 58 #[(0, .agg (arr .u64 z5713)), (1, .agg (arr .u64 z3601)), (2, .agg (arr .u64 k1)), (3, .agg (arr .u64 z5717))]).run Tryd.prog w = .ok (.agg (arr .u64 v5718)) w) := Lib.hid (fun w => by rw [hv5718]; exact build_cpt _ _ _ _ HL5713.out HL3601.out HK1L.out HL5717.out w)
    have HL5718 : Hid (v5718.length = 16) := Lib.hid (by rw [hv5718]; exact cpt_len HL5713.out HL3601.out HK1L.out HL5717.out)
    have HV5718 := Lib.hid hv5718
    clear hv5718
    refine wp_region_lin (fun (fF : Fill) (uF : World) => (∀ v, fF 0 = some v → v = .agg (arr .u64 z5713) ∧ True) ∧ (∀ v, fF 1 = some v → v = .agg (arr .u64 z3601) ∧ True) ∧ (∀ v, fF 2 = some v → v = .agg (arr .u64 k1) ∧ True) ∧ (∀ v, fF 3 = some v → v = .agg (arr .u64 z5713) ∧ True) ∧ (∀ v, fF 4 = some v → v = .agg (arr .u64 z3601) ∧ True) ∧ (∀ v, fF 5 = some v → v = .agg (arr .u64 z5717) ∧ N4 z5717 (fmul R Y)) ∧ (∀ v, fF 6 = some v → v = .agg (arr .u64 v5718) ∧ True) ∧ (∀ v, fF 8 = some v → v = .bool true ∧ True) ∧ Blk w uF ([(w.heap.size, arr .u8 ys, 23), (w.heap.size + 1, (if (fF 7).isSome = true then arr .u64 v5718 else arr .u64 zp), 58), (g3602, (arr .u64 z3601), 56), (g3605, (arr .u64 k1), 56), (g3608, (arr .u64 z3607), 56), (gd8_5, arr .u64 z5703, 56), (gd8_6, arr .u64 z5706, 56), (gd9_7, arr .u64 z5713, 56)])) (by kernel_rfl) (by kernel_rfl) ?zd144x9 ?sd144x9 ?ed144x9
    case zd144x9 => exact ⟨fun _ h => (by cases h), fun _ h => (by cases h), fun _ h => (by cases h), fun _ h => (by cases h), fun _ h => (by cases h), fun _ h => (by cases h), fun _ h => (by cases h), fun _ h => (by cases h), HBd9.out.drew⟩
    case sd144x9 =>
      refine LinAll.cons (fun fF bF uF kF hJF hfF hcF hupF hsF hKF => ?_) ?_
      · obtain ⟨j0, j1, j2, j3, j4, j5, j6, j8, hB⟩ := hJF
        have e10 : bF.eval (.tmp 10) = .pointer (some ⟨gd9_7, 0, none⟩) := hsF.old' 10 (by kernel_rfl) rfl
        have hB' := hB
        refine step_load_part rfl 56 _ rfl (gd9_7) (0) (arr .u64 z5713) 56 (0, 0) _ (hB'.get 7 rfl) e10 .u64 z5713 (arr_part _ _) Tryd.underlying56 rfl (lim_i HL5713.out) ?_
        exact hKF _ _ ⟨fun _ h => ⟨sI h, trivial⟩, j1, j2, j3, j4, j5, j6, j8, hB⟩
      refine LinAll.cons (fun fF bF uF kF hJF hfF hcF hupF hsF hKF => ?_) ?_
      · obtain ⟨j0, j1, j2, j3, j4, j5, j6, j8, hB⟩ := hJF
        have e5 : bF.eval (.tmp 5) = .pointer (some ⟨g3602, 0, none⟩) := hsF.old' 5 (by kernel_rfl) rfl
        have hB' := hB
        refine step_load_part rfl 56 _ rfl (g3602) (0) ((arr .u64 z3601)) 56 (0, 0) _ (hB'.get 2 rfl) e5 .u64 z3601 (arr_part _ _) Tryd.underlying56 rfl (lim_i HL3601.out) ?_
        exact hKF _ _ ⟨j0, fun _ h => ⟨sI h, trivial⟩, j2, j3, j4, j5, j6, j8, hB⟩
      refine LinAll.cons (fun fF bF uF kF hJF hfF hcF hupF hsF hKF => ?_) ?_
      · obtain ⟨j0, j1, j2, j3, j4, j5, j6, j8, hB⟩ := hJF
        have e6 : bF.eval (.tmp 6) = .pointer (some ⟨g3605, 0, none⟩) := hsF.old' 6 (by kernel_rfl) rfl
        have hB' := hB
        refine step_load_part rfl 56 _ rfl (g3605) (0) ((arr .u64 k1)) 56 (0, 0) _ (hB'.get 3 rfl) e6 .u64 k1 (arr_part _ _) Tryd.underlying56 rfl (lim_i HK1L.out) ?_
        exact hKF _ _ ⟨j0, j1, fun _ h => ⟨sI h, trivial⟩, j3, j4, j5, j6, j8, hB⟩
      refine LinAll.cons (fun fF bF uF kF hJF hfF hcF hupF hsF hKF => ?_) ?_
      · obtain ⟨j0, j1, j2, j3, j4, j5, j6, j8, hB⟩ := hJF
        have e10 : bF.eval (.tmp 10) = .pointer (some ⟨gd9_7, 0, none⟩) := hsF.old' 10 (by kernel_rfl) rfl
        have hB' := hB
        refine step_load_part rfl 56 _ rfl (gd9_7) (0) (arr .u64 z5713) 56 (0, 0) _ (hB'.get 7 rfl) e10 .u64 z5713 (arr_part _ _) Tryd.underlying56 rfl (lim_i HL5713.out) ?_
        exact hKF _ _ ⟨j0, j1, j2, fun _ h => ⟨sI h, trivial⟩, j4, j5, j6, j8, hB⟩
      refine LinAll.cons (fun fF bF uF kF hJF hfF hcF hupF hsF hKF => ?_) ?_
      · obtain ⟨j0, j1, j2, j3, j4, j5, j6, j8, hB⟩ := hJF
        have e5 : bF.eval (.tmp 5) = .pointer (some ⟨g3602, 0, none⟩) := hsF.old' 5 (by kernel_rfl) rfl
        have hB' := hB
        refine step_load_part rfl 56 _ rfl (g3602) (0) ((arr .u64 z3601)) 56 (0, 0) _ (hB'.get 2 rfl) e5 .u64 z3601 (arr_part _ _) Tryd.underlying56 rfl (lim_i HL3601.out) ?_
        exact hKF _ _ ⟨j0, j1, j2, j3, fun _ h => ⟨sI h, trivial⟩, j5, j6, j8, hB⟩
      refine LinAll.cons (fun fF bF uF kF hJF hfF hcF hupF hsF hKF => ?_) ?_
      · obtain ⟨j0, j1, j2, j3, j4, j5, j6, j8, hB⟩ := hJF
        obtain ⟨e65, p65⟩ := hsF.at hupF 3 65 (by kernel_rfl) rfl j3
        obtain ⟨e66, p66⟩ := hsF.at hupF 4 66 (by kernel_rfl) rfl j4
        refine lin_call rfl 58 [Operand.tmp 65, Operand.tmp 66] _ [.agg (arr .u64 z5713), .agg (arr .u64 z3601)] rfl (by simp only [List.map_cons, List.map_nil, e65, e66] <;> rfl) (fun _ _ => by kernel_rfl) ?_
        refine Calls.mono (times_any _ _ _ HZ5713.out HZ3601.out) ?_
        rintro e w1 ⟨y5719_0, rfl, r5719_0, hb⟩
        obtain rfl : y5719_0 = z5717 := r5719_0.1.trans HE5717.out.symm
        exact ⟨_, rfl, hKF _ _ ⟨j0, j1, j2, j3, j4, fun _ h => ⟨sI h, r5719_0⟩, j6, j8, hB.kept hb⟩⟩
      refine LinAll.cons (fun fF bF uF kF hJF hfF hcF hupF hsF hKF => ?_) ?_
      · obtain ⟨j0, j1, j2, j3, j4, j5, j6, j8, hB⟩ := hJF
        obtain ⟨e62, p62⟩ := hsF.at hupF 0 62 (by kernel_rfl) rfl j0
        obtain ⟨e63, p63⟩ := hsF.at hupF 1 63 (by kernel_rfl) rfl j1
        obtain ⟨e64, p64⟩ := hsF.at hupF 2 64 (by kernel_rfl) rfl j2
        obtain ⟨e67, p67⟩ := hsF.at hupF 5 67 (by kernel_rfl) rfl j5
        have y5 := hupF 5 (by kernel_rfl)
        obtain ⟨v5, s5⟩ := sE y5
        have HZ5717 := Lib.hid (j5 _ s5).2
        exact lin_pure rfl (.agg (arr .u64 v5718)) (exec_build_l 58 _ rfl #[(0, .agg (arr .u64 z5713)), (1, .agg (arr .u64 z3601)), (2, .agg (arr .u64 k1)), (3, .agg (arr .u64 z5717))] (by simp only [List.map_cons, List.map_nil, e62, e63, e64, e67] <;> rfl) _ (HR5718.out _)) (hKF _ _ ⟨j0, j1, j2, j3, j4, j5, fun _ h => ⟨sI h, trivial⟩, j8, hB⟩)
      refine LinAll.cons (fun fF bF uF kF hJF hfF hcF hupF hsF hKF => ?_) ?_
      · obtain ⟨j0, j1, j2, j3, j4, j5, j6, j8, hB⟩ := hJF
        have e2 : bF.eval (.tmp 2) = .pointer (some ⟨w.heap.size + 1, 0, none⟩) := hsF.old' 2 (by kernel_rfl) rfl
        obtain ⟨e68, p68⟩ := hsF.at hupF 6 68 (by kernel_rfl) rfl j6
        have hB' := hB
        rw [hfF] at hB'
        refine step_store_whole rfl 58 (.tmp 2) (.tmp 68) rfl (w.heap.size + 1) (arr .u64 zp) _ 58 (hB'.get 1 rfl) e2 e68 (arr_len2 _ _ HL5718.out HLzp.out) (cpt_s HL5718.out) (all_arr _ _) ?_
        intro w1 hb1 hk1 hz1
        have hB1 : Blk w w1 ([(w.heap.size, arr .u8 ys, 23), (w.heap.size + 1, (if ((some undef : Option Value)).isSome = true then arr .u64 v5718 else arr .u64 zp), 58), (g3602, (arr .u64 z3601), 56), (g3605, (arr .u64 k1), 56), (g3608, (arr .u64 z3607), 56), (gd8_5, arr .u64 z5703, 56), (gd8_6, arr .u64 z5706, 56), (gd9_7, arr .u64 z5713, 56)]) := hB'.put 1 rfl hk1 hb1
        exact hKF undef w1 ⟨j0, j1, j2, j3, j4, j5, j6, j8, hB1⟩
      refine LinAll.cons (fun fF bF uF kF hJF hfF hcF hupF hsF hKF => ?_) ?_
      · obtain ⟨j0, j1, j2, j3, j4, j5, j6, j8, hB⟩ := hJF
        exact lin_pure rfl (.bool true) (by simp only [execOp] <;> first | rfl | kernel_rfl | (go_simp; done)) (hKF _ _ ⟨j0, j1, j2, j3, j4, j5, j6, fun _ h => ⟨sI h, trivial⟩, hB⟩)
      exact LinAll.nil
    case ed144x9 =>
    intro fF ud144x9 hall hJF
    obtain ⟨j0, j1, j2, j3, j4, j5, j6, j8, hB⟩ := hJF
    obtain ⟨v0, h0⟩ := sE (hall 0 (by decide))
    obtain ⟨rfl, p0⟩ := j0 _ h0
    obtain ⟨v1, h1⟩ := sE (hall 1 (by decide))
    obtain ⟨rfl, p1⟩ := j1 _ h1
    obtain ⟨v2, h2⟩ := sE (hall 2 (by decide))
    obtain ⟨rfl, p2⟩ := j2 _ h2
    obtain ⟨v3, h3⟩ := sE (hall 3 (by decide))
    obtain ⟨rfl, p3⟩ := j3 _ h3
    obtain ⟨v4, h4⟩ := sE (hall 4 (by decide))
    obtain ⟨rfl, p4⟩ := j4 _ h4
    obtain ⟨v5, h5⟩ := sE (hall 5 (by decide))
    obtain ⟨rfl, p5⟩ := j5 _ h5
    obtain ⟨v6, h6⟩ := sE (hall 6 (by decide))
    obtain ⟨rfl, p6⟩ := j6 _ h6
    obtain ⟨v7, h7⟩ := sE (hall 7 (by decide))
    obtain ⟨v8, h8⟩ := sE (hall 8 (by decide))
    obtain ⟨rfl, p8⟩ := j8 _ h8
    rw [h7] at hB
    have HBd144x9 : Hid (Blk w ud144x9 [(w.heap.size, arr .u8 ys, 23), (w.heap.size + 1, arr .u64 v5718, 58), (g3602, (arr .u64 z3601), 56), (g3605, (arr .u64 k1), 56), (g3608, (arr .u64 z3607), 56), (gd8_5, arr .u64 z5703, 56), (gd8_6, arr .u64 z5706, 56), (gd9_7, arr .u64 z5713, 56)]) := Lib.hid hB
    have HZ5717 := Lib.hid p5
    simp only [laid, Nat.zero_add, Nat.reduceAdd, h0, h1, h2, h3, h4, h5, h6, h7, h8, Act.put, sA, sZ, sS]
    clear j0 j1 j2 j3 j4 j5 j6 j8 hB h0 h1 h2 h3 h4 h5 h6 h7 h8 hall fF HBd9
    clear p0 p1 p2 p3 p4 p5 p6 p8
    (try simp only [Exit.then])
    go_wp2_with fail
    (try simp only [Exit.then])
    refine bodyPost_ret (results_cell_tmp_row rfl _ _ (w.heap.size + 1) 58 _ (0, 0) _ _ rfl (HBd144x9.out.get 1 rfl) Tryd.underlying58 rfl (cpt_s HL5718.out) rfl) rfl ?_
    have hxe : X = R := by rw [HX.out]; rfl
    obtain rfl : er = some ⟨R, Y, 1, fmul R Y⟩ := by rw [HER.out, if_pos hlt, hxe]; exact if_pos (by simp)
    exact ⟨_, rfl, ⟨HL5718.out, fun P h => by cases h; rw [HV5718.out]; exact P4.of HZ5713.out HZ3601.out HK1.out HZ5717.out ⟨HSL.out, hlt, one_lt, fmul_lt _ _⟩⟩, HBd144x9.out.below⟩
  · obtain rfl : ob = true := by rw [HOB.out]; rfl
    by_cases hz : R = 0
    · rw [decide_eq_true hz] at hqz
      have HQZ := Lib.hid hqz
      clear hqz
      obtain rfl : er = none := by rw [HER.out]; rw [if_pos hlt, if_neg (fun h => h.2 rfl hz)]
      go_wp2_with (first | ((with_reducible refine aS 52 ?_); refine wpList_load_wanted (by rfl) 56 _ rfl (gd9_7) (0) _ 56 (0, 0) _ (HBd9.out.get 7 rfl) rfl .u64 z5713 (arr_part _ _) Tryd.underlying56 rfl (lim_i HL5713.out) ?_) | ((with_reducible refine aS 54 ?_); refine wpList_eql_arr (by rfl) 56 _ _ (.tmp 52) (.tmp 53) rfl 4 .u64 .u64 Tryd.underlying56 Tryd.underlying54 (fun w => by kernel_rfl) (by kernel_rfl) z5713 k0 rfl rfl HL5713.out HK0L.out true HQZ.out ?_) | ((with_reducible refine aS 52 ?_); refine wpList_load_part rfl 56 _ rfl (gd9_7) (0) _ 56 (0, 0) _ (HBd9.out.get 7 rfl) rfl .u64 z5713 (arr_part _ _) Tryd.underlying56 rfl (lim_i HL5713.out) ?_) | ((with_reducible refine aS 53 ?_); refine wpList_build (by rfl) 56 _ rfl #[] rfl _ (HBK0.out _) ?_) | ((with_reducible refine aS 57 ?_); refine wpList_build (by rfl) 58 _ rfl #[] rfl _ (HBZ.out _) ?_) | ((with_reducible refine aT 2 (x := (Operand.tmp 57)) ?_); refine wpList_store_whole rfl 58 _ _ rfl (w.heap.size + 1) _ _ 58 (HBd9.out.get 1 rfl) rfl rfl (arr_len2 _ _ HLzp.out HLzp.out) (cpt_s HLzp.out) (all_arr _ _) ?_; intro w3611 hb3611 hk3611 hz3611; have HB3611 := Lib.hid (HBd9.out.put 1 rfl hk3611 hb3611); clear hb3611 hk3611 hz3611))
      (try simp only [Exit.then])
      refine bodyPost_ret (results_cell_tmp_row rfl _ _ (w.heap.size + 1) 58 _ (0, 0) _ _ rfl (HB3611.out.get 1 rfl) Tryd.underlying58 rfl (cpt_s HLzp.out) rfl) rfl ?_
      refine ⟨_, rfl, ?_, HB3611.out.below⟩
      first | exact HLzp.out | exact ⟨HLzp.out, fun P h => by cases h⟩
    · rw [decide_eq_false hz] at hqz
      have HQZ := Lib.hid hqz
      clear hqz
      go_upto_region 13 with (first | ((with_reducible refine aS 52 ?_); refine wpList_load_wanted (by rfl) 56 _ rfl (gd9_7) (0) _ 56 (0, 0) _ (HBd9.out.get 7 rfl) rfl .u64 z5713 (arr_part _ _) Tryd.underlying56 rfl (lim_i HL5713.out) ?_) | ((with_reducible refine aS 54 ?_); refine wpList_eql_arr (by rfl) 56 _ _ (.tmp 52) (.tmp 53) rfl 4 .u64 .u64 Tryd.underlying56 Tryd.underlying54 (fun w => by kernel_rfl) (by kernel_rfl) z5713 k0 rfl rfl HL5713.out HK0L.out false HQZ.out ?_) | ((with_reducible refine aS 52 ?_); refine wpList_load_part rfl 56 _ rfl (gd9_7) (0) _ 56 (0, 0) _ (HBd9.out.get 7 rfl) rfl .u64 z5713 (arr_part _ _) Tryd.underlying56 rfl (lim_i HL5713.out) ?_) | ((with_reducible refine aS 53 ?_); refine wpList_build (by rfl) 56 _ rfl #[] rfl _ (HBK0.out _) ?_))
      go_upto_region 14 with (first | ((with_reducible refine aS 59 ?_); refine wpList_build (by rfl) 56 _ rfl #[] rfl _ (HBK0.out _) ?_) | ((with_reducible refine aS 60 ?_); refine wpList_load_part rfl 56 _ rfl (gd9_7) (0) _ 56 (0, 0) _ (HBd9.out.get 7 rfl) rfl .u64 z5713 (arr_part _ _) Tryd.underlying56 rfl (lim_i HL5713.out) ?_) | ((with_reducible show Calls _ 72 #[.agg _, .agg _] _ _); go_at_call 72; refine (minus_any _ _ _ HK0.out HZ5713.out p_pos HSL.out).mono ?_; rintro e w3612 ⟨z3612, rfl, h3612, hb3612⟩; have HZ3612 := Lib.hid h3612; have HL3612 := Lib.hid h3612.len; clear h3612; have HB3612 := Lib.hid (HBd9.out.kept hb3612); clear hb3612) | ((with_reducible refine aT 10 (x := (Operand.tmp 61)) ?_); refine wpList_store_whole rfl 56 _ _ rfl (gd9_7) _ _ 56 (HB3612.out.get 7 rfl) rfl rfl (arr_len2 _ _ HL3612.out HL5713.out) (lim_s HL3612.out) (all_arr _ _) ?_; intro w3613 hb3613 hk3613 hz3613; have HB3613 := Lib.hid (HB3612.out.put 7 rfl hk3613 hb3613); clear hb3613 hk3613 hz3613; clear HB3612))
      (try simp only [World.size_alloc, Act.put, sA, sZ, sS])
      obtain ⟨z5720, hz5720⟩ : ∃ z : List Int, z = nar (dig 18446744073709551616 4 (fmul (fsub 0 R) Y)) := ⟨_, rfl⟩
      have HE5720 := Lib.hid hz5720
      have HL5720 : Hid (z5720.length = 4) := Lib.hid (by rw [hz5720]; exact (nar_len _).trans (dig_len _ _ _))
      clear hz5720
      obtain ⟨v5721, hv5721⟩ : ∃ x, x = z3612 ++ z3601 ++ k1 ++ z5720 := ⟨_, rfl⟩
      have HR5721 : Hid (∀ w, (Instr.build 58 #[(0, .agg (arr .u64 z3612)), (1, .agg (arr .u64 z3601)), (2, .agg (arr .u64 k1)), (3, .agg (arr .u64 z5720))]).run Tryd.prog w = .ok (.agg (arr .u64 v5721)) w) := Lib.hid (fun w => by rw [hv5721]; exact build_cpt _ _ _ _ HL3612.out HL3601.out HK1L.out HL5720.out w)
      have HL5721 : Hid (v5721.length = 16) := Lib.hid (by rw [hv5721]; exact cpt_len HL3612.out HL3601.out HK1L.out HL5720.out)
      have HV5721 := Lib.hid hv5721
      clear hv5721
      refine wp_region_lin (fun (fF : Fill) (uF : World) => (∀ v, fF 0 = some v → v = .agg (arr .u64 z3612) ∧ True) ∧ (∀ v, fF 1 = some v → v = .agg (arr .u64 z3601) ∧ True) ∧ (∀ v, fF 2 = some v → v = .agg (arr .u64 k1) ∧ True) ∧ (∀ v, fF 3 = some v → v = .agg (arr .u64 z3612) ∧ True) ∧ (∀ v, fF 4 = some v → v = .agg (arr .u64 z3601) ∧ True) ∧ (∀ v, fF 5 = some v → v = .agg (arr .u64 z5720) ∧ N4 z5720 (fmul (fsub 0 R) Y)) ∧ (∀ v, fF 6 = some v → v = .agg (arr .u64 v5721) ∧ True) ∧ (∀ v, fF 8 = some v → v = .bool true ∧ True) ∧ Blk w uF ([(w.heap.size, arr .u8 ys, 23), (w.heap.size + 1, (if (fF 7).isSome = true then arr .u64 v5721 else arr .u64 zp), 58), (g3602, (arr .u64 z3601), 56), (g3605, (arr .u64 k1), 56), (g3608, (arr .u64 z3607), 56), (gd8_5, arr .u64 z5703, 56), (gd8_6, arr .u64 z5706, 56), (gd9_7, (arr .u64 z3612), 56)])) (by kernel_rfl) (by kernel_rfl) ?zd14613 ?sd14613 ?ed14613
      case zd14613 => exact ⟨fun _ h => (by cases h), fun _ h => (by cases h), fun _ h => (by cases h), fun _ h => (by cases h), fun _ h => (by cases h), fun _ h => (by cases h), fun _ h => (by cases h), fun _ h => (by cases h), HB3613.out.drew⟩
      case sd14613 =>
        refine LinAll.cons (fun fF bF uF kF hJF hfF hcF hupF hsF hKF => ?_) ?_
        · obtain ⟨j0, j1, j2, j3, j4, j5, j6, j8, hB⟩ := hJF
          have e10 : bF.eval (.tmp 10) = .pointer (some ⟨gd9_7, 0, none⟩) := hsF.old' 10 (by kernel_rfl) rfl
          have hB' := hB
          refine step_load_part rfl 56 _ rfl (gd9_7) (0) ((arr .u64 z3612)) 56 (0, 0) _ (hB'.get 7 rfl) e10 .u64 z3612 (arr_part _ _) Tryd.underlying56 rfl (lim_i HL3612.out) ?_
          exact hKF _ _ ⟨fun _ h => ⟨sI h, trivial⟩, j1, j2, j3, j4, j5, j6, j8, hB⟩
        refine LinAll.cons (fun fF bF uF kF hJF hfF hcF hupF hsF hKF => ?_) ?_
        · obtain ⟨j0, j1, j2, j3, j4, j5, j6, j8, hB⟩ := hJF
          have e5 : bF.eval (.tmp 5) = .pointer (some ⟨g3602, 0, none⟩) := hsF.old' 5 (by kernel_rfl) rfl
          have hB' := hB
          refine step_load_part rfl 56 _ rfl (g3602) (0) ((arr .u64 z3601)) 56 (0, 0) _ (hB'.get 2 rfl) e5 .u64 z3601 (arr_part _ _) Tryd.underlying56 rfl (lim_i HL3601.out) ?_
          exact hKF _ _ ⟨j0, fun _ h => ⟨sI h, trivial⟩, j2, j3, j4, j5, j6, j8, hB⟩
        refine LinAll.cons (fun fF bF uF kF hJF hfF hcF hupF hsF hKF => ?_) ?_
        · obtain ⟨j0, j1, j2, j3, j4, j5, j6, j8, hB⟩ := hJF
          have e6 : bF.eval (.tmp 6) = .pointer (some ⟨g3605, 0, none⟩) := hsF.old' 6 (by kernel_rfl) rfl
          have hB' := hB
          refine step_load_part rfl 56 _ rfl (g3605) (0) ((arr .u64 k1)) 56 (0, 0) _ (hB'.get 3 rfl) e6 .u64 k1 (arr_part _ _) Tryd.underlying56 rfl (lim_i HK1L.out) ?_
          exact hKF _ _ ⟨j0, j1, fun _ h => ⟨sI h, trivial⟩, j3, j4, j5, j6, j8, hB⟩
        refine LinAll.cons (fun fF bF uF kF hJF hfF hcF hupF hsF hKF => ?_) ?_
        · obtain ⟨j0, j1, j2, j3, j4, j5, j6, j8, hB⟩ := hJF
          have e10 : bF.eval (.tmp 10) = .pointer (some ⟨gd9_7, 0, none⟩) := hsF.old' 10 (by kernel_rfl) rfl
          have hB' := hB
          refine step_load_part rfl 56 _ rfl (gd9_7) (0) ((arr .u64 z3612)) 56 (0, 0) _ (hB'.get 7 rfl) e10 .u64 z3612 (arr_part _ _) Tryd.underlying56 rfl (lim_i HL3612.out) ?_
          exact hKF _ _ ⟨j0, j1, j2, fun _ h => ⟨sI h, trivial⟩, j4, j5, j6, j8, hB⟩
        refine LinAll.cons (fun fF bF uF kF hJF hfF hcF hupF hsF hKF => ?_) ?_
        · obtain ⟨j0, j1, j2, j3, j4, j5, j6, j8, hB⟩ := hJF
          have e5 : bF.eval (.tmp 5) = .pointer (some ⟨g3602, 0, none⟩) := hsF.old' 5 (by kernel_rfl) rfl
          have hB' := hB
          refine step_load_part rfl 56 _ rfl (g3602) (0) ((arr .u64 z3601)) 56 (0, 0) _ (hB'.get 2 rfl) e5 .u64 z3601 (arr_part _ _) Tryd.underlying56 rfl (lim_i HL3601.out) ?_
          exact hKF _ _ ⟨j0, j1, j2, j3, fun _ h => ⟨sI h, trivial⟩, j5, j6, j8, hB⟩
        refine LinAll.cons (fun fF bF uF kF hJF hfF hcF hupF hsF hKF => ?_) ?_
        · obtain ⟨j0, j1, j2, j3, j4, j5, j6, j8, hB⟩ := hJF
          obtain ⟨e65, p65⟩ := hsF.at hupF 3 65 (by kernel_rfl) rfl j3
          obtain ⟨e66, p66⟩ := hsF.at hupF 4 66 (by kernel_rfl) rfl j4
          refine lin_call rfl 58 [Operand.tmp 65, Operand.tmp 66] _ [.agg (arr .u64 z3612), .agg (arr .u64 z3601)] rfl (by simp only [List.map_cons, List.map_nil, e65, e66] <;> rfl) (fun _ _ => by kernel_rfl) ?_
          refine Calls.mono (times_any _ _ _ HZ3612.out HZ3601.out) ?_
          rintro e w1 ⟨y5722_0, rfl, r5722_0, hb⟩
          obtain rfl : y5722_0 = z5720 := r5722_0.1.trans HE5720.out.symm
          exact ⟨_, rfl, hKF _ _ ⟨j0, j1, j2, j3, j4, fun _ h => ⟨sI h, r5722_0⟩, j6, j8, hB.kept hb⟩⟩
        refine LinAll.cons (fun fF bF uF kF hJF hfF hcF hupF hsF hKF => ?_) ?_
        · obtain ⟨j0, j1, j2, j3, j4, j5, j6, j8, hB⟩ := hJF
          obtain ⟨e62, p62⟩ := hsF.at hupF 0 62 (by kernel_rfl) rfl j0
          obtain ⟨e63, p63⟩ := hsF.at hupF 1 63 (by kernel_rfl) rfl j1
          obtain ⟨e64, p64⟩ := hsF.at hupF 2 64 (by kernel_rfl) rfl j2
          obtain ⟨e67, p67⟩ := hsF.at hupF 5 67 (by kernel_rfl) rfl j5
          have y5 := hupF 5 (by kernel_rfl)
          obtain ⟨v5, s5⟩ := sE y5
          have HZ5720 := Lib.hid (j5 _ s5).2
          exact lin_pure rfl (.agg (arr .u64 v5721)) (exec_build_l 58 _ rfl #[(0, .agg (arr .u64 z3612)), (1, .agg (arr .u64 z3601)), (2, .agg (arr .u64 k1)), (3, .agg (arr .u64 z5720))] (by simp only [List.map_cons, List.map_nil, e62, e63, e64, e67] <;> rfl) _ (HR5721.out _)) (hKF _ _ ⟨j0, j1, j2, j3, j4, j5, fun _ h => ⟨sI h, trivial⟩, j8, hB⟩)
        refine LinAll.cons (fun fF bF uF kF hJF hfF hcF hupF hsF hKF => ?_) ?_
        · obtain ⟨j0, j1, j2, j3, j4, j5, j6, j8, hB⟩ := hJF
          have e2 : bF.eval (.tmp 2) = .pointer (some ⟨w.heap.size + 1, 0, none⟩) := hsF.old' 2 (by kernel_rfl) rfl
          obtain ⟨e68, p68⟩ := hsF.at hupF 6 68 (by kernel_rfl) rfl j6
          have hB' := hB
          rw [hfF] at hB'
          refine step_store_whole rfl 58 (.tmp 2) (.tmp 68) rfl (w.heap.size + 1) (arr .u64 zp) _ 58 (hB'.get 1 rfl) e2 e68 (arr_len2 _ _ HL5721.out HLzp.out) (cpt_s HL5721.out) (all_arr _ _) ?_
          intro w1 hb1 hk1 hz1
          have hB1 : Blk w w1 ([(w.heap.size, arr .u8 ys, 23), (w.heap.size + 1, (if ((some undef : Option Value)).isSome = true then arr .u64 v5721 else arr .u64 zp), 58), (g3602, (arr .u64 z3601), 56), (g3605, (arr .u64 k1), 56), (g3608, (arr .u64 z3607), 56), (gd8_5, arr .u64 z5703, 56), (gd8_6, arr .u64 z5706, 56), (gd9_7, (arr .u64 z3612), 56)]) := hB'.put 1 rfl hk1 hb1
          exact hKF undef w1 ⟨j0, j1, j2, j3, j4, j5, j6, j8, hB1⟩
        refine LinAll.cons (fun fF bF uF kF hJF hfF hcF hupF hsF hKF => ?_) ?_
        · obtain ⟨j0, j1, j2, j3, j4, j5, j6, j8, hB⟩ := hJF
          exact lin_pure rfl (.bool true) (by simp only [execOp] <;> first | rfl | kernel_rfl | (go_simp; done)) (hKF _ _ ⟨j0, j1, j2, j3, j4, j5, j6, fun _ h => ⟨sI h, trivial⟩, hB⟩)
        exact LinAll.nil
      case ed14613 =>
      intro fF ud14613 hall hJF
      obtain ⟨j0, j1, j2, j3, j4, j5, j6, j8, hB⟩ := hJF
      obtain ⟨v0, h0⟩ := sE (hall 0 (by decide))
      obtain ⟨rfl, p0⟩ := j0 _ h0
      obtain ⟨v1, h1⟩ := sE (hall 1 (by decide))
      obtain ⟨rfl, p1⟩ := j1 _ h1
      obtain ⟨v2, h2⟩ := sE (hall 2 (by decide))
      obtain ⟨rfl, p2⟩ := j2 _ h2
      obtain ⟨v3, h3⟩ := sE (hall 3 (by decide))
      obtain ⟨rfl, p3⟩ := j3 _ h3
      obtain ⟨v4, h4⟩ := sE (hall 4 (by decide))
      obtain ⟨rfl, p4⟩ := j4 _ h4
      obtain ⟨v5, h5⟩ := sE (hall 5 (by decide))
      obtain ⟨rfl, p5⟩ := j5 _ h5
      obtain ⟨v6, h6⟩ := sE (hall 6 (by decide))
      obtain ⟨rfl, p6⟩ := j6 _ h6
      obtain ⟨v7, h7⟩ := sE (hall 7 (by decide))
      obtain ⟨v8, h8⟩ := sE (hall 8 (by decide))
      obtain ⟨rfl, p8⟩ := j8 _ h8
      rw [h7] at hB
      have HBd14613 : Hid (Blk w ud14613 [(w.heap.size, arr .u8 ys, 23), (w.heap.size + 1, arr .u64 v5721, 58), (g3602, (arr .u64 z3601), 56), (g3605, (arr .u64 k1), 56), (g3608, (arr .u64 z3607), 56), (gd8_5, arr .u64 z5703, 56), (gd8_6, arr .u64 z5706, 56), (gd9_7, (arr .u64 z3612), 56)]) := Lib.hid hB
      have HZ5720 := Lib.hid p5
      simp only [laid, Nat.zero_add, Nat.reduceAdd, h0, h1, h2, h3, h4, h5, h6, h7, h8, Act.put, sA, sZ, sS]
      clear j0 j1 j2 j3 j4 j5 j6 j8 hB h0 h1 h2 h3 h4 h5 h6 h7 h8 hall fF HB3613
      clear p0 p1 p2 p3 p4 p5 p6 p8
      (try simp only [Exit.then])
      go_wp2_with fail
      (try simp only [Exit.then])
      refine bodyPost_ret (results_cell_tmp_row rfl _ _ (w.heap.size + 1) 58 _ (0, 0) _ _ rfl (HBd14613.out.get 1 rfl) Tryd.underlying58 rfl (cpt_s HL5721.out) rfl) rfl ?_
      have hxe : X = (fsub 0 R) := by rw [HX.out]; rfl
      obtain rfl : er = some ⟨(fsub 0 R), Y, 1, fmul (fsub 0 R) Y⟩ := by rw [HER.out, if_pos hlt, hxe]; exact if_pos (by simp [hz])
      exact ⟨_, rfl, ⟨HL5721.out, fun P h => by cases h; rw [HV5721.out]; exact P4.of HZ3612.out HZ3601.out HK1.out HZ5720.out ⟨fsub_lt _ _, hlt, one_lt, fmul_lt _ _⟩⟩, HBd14613.out.below⟩

set_option maxRecDepth 100000 in
set_option maxHeartbeats 4000000 in
theorem cmay_any {ks : List Int} (v : Nat) (w : World) (hk : K32 ks v) : Calls Tryd.prog 12 #[.agg (arr .u8 ks)] w fun e w' => e = .returned (.bool (eread v).isSome) ∧ Below w.heap.size w w' := by
  have HKS := Lib.hid hk
  have HKL := Lib.hid hk.len
  have hr := fun (w : World) => cread_any v w hk
  obtain ⟨bb, hbb⟩ : ∃ b, b = (eread v).isSome := ⟨_, rfl⟩
  rw [← hbb] at hr ⊢
  have HR := Lib.hid hr
  obtain ⟨zp, hzp⟩ : ∃ zs : List Int, zs = List.replicate 16 0 := ⟨_, rfl⟩
  have HZzp : Hid (∀ w, (zeroValue 58).run Tryd.prog w = .ok (.agg (arr .u64 zp)) w) := Lib.hid (by intro w; rw [hzp]; exact zero_cpt w)
  have HLzp : Hid (zp.length = 16) := Lib.hid (by rw [hzp]; rfl)
  have HS0 := Lib.hid (Blk.one w (arr .u8 ks) 23)
  clear hzp hk hr hbb
  go_enter Tryd.func12, Tryd.ntmps12
  go_wp2_with (first | ((with_reducible refine aS 6 ?_); refine wpList_load_part rfl 23 _ rfl (w.heap.size) 0 _ 23 (0, 0) _ (HS0.out.get 0 rfl) rfl .u8 ks (arr_part _ _) Tryd.underlying23 rfl (num_i HKL.out) ?_) | ((with_reducible show Calls _ 34 #[.agg _] _ _); go_at_call 34; refine (HR.out _).mono ?_; rintro e w1 ⟨z1, rfl, h1, hb1⟩; have HL1 := Lib.hid h1.1; have HB1 := Lib.hid (HS0.out.kept hb1); clear h1 hb1) | ((with_reducible refine aS 3 ?_); refine wpList_alloc_row rfl 58 rfl _ (HZzp.out _) ?_; have HB2 := Lib.hid (HB1.out.alloc (arr .u64 zp) 58); generalize w1.heap.size = g1 at HB2 ⊢; generalize w1.alloc (.cells (arr .u64 zp) 58) = w2 at HB2 ⊢) | ((with_reducible refine aT 3 ?_); refine wpList_store_whole rfl 58 _ _ rfl (g1) _ _ 58 (HB2.out.get 1 rfl) rfl rfl (arr_len2 _ _ HL1.out HLzp.out) (cpt_s HL1.out) (all_arr _ _) ?_; intro w3 hb3 hk3 hz3; have HB3 := Lib.hid (HB2.out.put 1 rfl hk3 hb3); clear hb3 hk3 hz3))
  go_ret
  exact ⟨rfl, HB3.out.below⟩
end Go.Proofs.YtanjhngehfbpbaaDoor.Sl
