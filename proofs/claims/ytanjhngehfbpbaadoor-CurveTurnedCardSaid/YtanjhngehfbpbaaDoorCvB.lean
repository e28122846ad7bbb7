/- curve.base, none, point.times: what they answer. Condition: numbers below p. -/
import Derived.Test.YtanjhngehfbpbaaDoorCvA
namespace Go.Proofs.YtanjhngehfbpbaaDoor.Sl
open Go.RowKit Lm Fp Cu Rd
set_option linter.unusedSimpArgs false

set_option maxRecDepth 100000 in
set_option maxHeartbeats 4000000 in
theorem base_any (w : World) : Calls Tryd.prog 27 #[] w fun e w' => ∃ zs, e = .returned (.agg (arr .u64 zs)) ∧ P4 zs base ∧ Below w.heap.size w w' := by
  have hbx := fun w => build_bx w
  have hx := n4_lt (show bx < p by decide +kernel)
  obtain ⟨xl, hxl⟩ : ∃ x, x = nar (dig 18446744073709551616 4 bx) := ⟨_, rfl⟩
  rw [← hxl] at hbx hx
  have HBX := Lib.hid hbx
  have HX := Lib.hid hx
  have HXL := Lib.hid hx.len
  have hby := fun w => build_by w
  have hy := n4_lt (show bY < p by decide +kernel)
  obtain ⟨yl, hyl⟩ : ∃ x, x = nar (dig 18446744073709551616 4 bY) := ⟨_, rfl⟩
  rw [← hyl] at hby hy
  have HBY := Lib.hid hby
  have HY := Lib.hid hy
  have HYL := Lib.hid hy.len
  obtain ⟨zl, hzl⟩ : ∃ zs : List Int, zs = List.replicate 4 0 := ⟨_, rfl⟩
  have HZzl : Hid (∀ w, (zeroValue 56).run Tryd.prog w = .ok (.agg (arr .u64 zl)) w) := Lib.hid (by intro w; rw [hzl]; exact zero_lim w)
  have HLzl : Hid (zl.length = 4) := Lib.hid (by rw [hzl]; rfl)
  obtain ⟨zp, hzp⟩ : ∃ zs : List Int, zs = List.replicate 16 0 := ⟨_, rfl⟩
  have HZzp : Hid (∀ w, (zeroValue 58).run Tryd.prog w = .ok (.agg (arr .u64 zp)) w) := Lib.hid (by intro w; rw [hzp]; exact zero_cpt w)
  have HLzp : Hid (zp.length = 16) := Lib.hid (by rw [hzp]; rfl)
  have hk1 : N4 [(1 : Int), 0, 0, 0] 1 := n4_small 1 (by decide)
  have hbk1 := fun w => build_raw 1 w
  obtain ⟨k1, hk1e⟩ : ∃ b : List Int, b = [(1 : Int), 0, 0, 0] := ⟨_, rfl⟩
  rw [← hk1e] at hk1 hbk1
  have HK1 := Lib.hid hk1
  have HK1L := Lib.hid hk1.len
  have HBK1 := Lib.hid hbk1
  have hk0 : N4 [(0 : Int), 0, 0, 0] 0 := n4_small 0 (by decide)
  have hbk0 := fun w => build_no w
  obtain ⟨k0, hk0e⟩ : ∃ b : List Int, b = [(0 : Int), 0, 0, 0] := ⟨_, rfl⟩
  rw [← hk0e] at hk0 hbk0
  have HK0 := Lib.hid hk0
  have HK0L := Lib.hid hk0.len
  have HBK0 := Lib.hid hbk0
  clear hk1 hbk1 hk1e hk0 hbk0 hk0e
  have HS0 := Lib.hid (Blk.one w (arr .u64 zp) 58)
  clear hzl hzp hbx hx hxl hby hy hyl
  go_enter Tryd.func27, Tryd.ntmps27
  go_upto_region 1 with (first | ((with_reducible refine aS 0 ?_); refine wpList_alloc_row rfl 58 rfl _ (HZzp.out _) ?_))
  (try simp only [World.size_alloc, Act.put, sA, sZ, sS])
  generalize (w.alloc (.cells (arr .u64 zp) 58)) = wb at HS0 ⊢
  go_upto_region 2 with (first | ((with_reducible refine aS 3 ?_); refine wpList_build (by rfl) 56 _ rfl #[(0, .int .u64 14507833142362363162), (1, .int .u64 7578651490590762930), (2, .int .u64 13881468655802702940), (3, .int .u64 2407515759118799870)] rfl _ (HBX.out _) ?_) | ((with_reducible refine aS 1 ?_); refine wpList_alloc_row rfl 56 rfl _ (HZzl.out _) ?_; have HB3301 := Lib.hid (HS0.out.alloc (arr .u64 zl) 56); generalize wb.heap.size = g3301 at HB3301 ⊢; generalize wb.alloc (.cells (arr .u64 zl) 56) = w3301 at HB3301 ⊢) | ((with_reducible refine aT 1 (x := (Operand.tmp 3)) ?_); refine wpList_store_whole rfl 56 _ _ rfl (g3301) _ _ 56 (HB3301.out.get 1 rfl) rfl rfl (arr_len2 _ _ HXL.out HLzl.out) (lim_s HXL.out) (all_arr _ _) ?_; intro w3302 hb3302 hk3302 hz3302; have HB3302 := Lib.hid (HB3301.out.put 1 rfl hk3302 hb3302); clear hb3302 hk3302 hz3302; clear HB3301))
  (try simp only [World.size_alloc, Act.put, sA, sZ, sS])
  go_upto_region 3 with (first | ((with_reducible refine aS 4 ?_); refine wpList_build (by rfl) 56 _ rfl #[(0, .int .u64 7378697629483820632), (1, .int .u64 7378697629483820646), (2, .int .u64 7378697629483820646), (3, .int .u64 7378697629483820646)] rfl _ (HBY.out _) ?_) | ((with_reducible refine aS 2 ?_); refine wpList_alloc_row rfl 56 rfl _ (HZzl.out _) ?_; have HB3303 := Lib.hid (HB3302.out.alloc (arr .u64 zl) 56); generalize w3302.heap.size = g3303 at HB3303 ⊢; generalize w3302.alloc (.cells (arr .u64 zl) 56) = w3303 at HB3303 ⊢; clear HB3302) | ((with_reducible refine aT 2 (x := (Operand.tmp 4)) ?_); refine wpList_store_whole rfl 56 _ _ rfl (g3303) _ _ 56 (HB3303.out.get 2 rfl) rfl rfl (arr_len2 _ _ HYL.out HLzl.out) (lim_s HYL.out) (all_arr _ _) ?_; intro w3304 hb3304 hk3304 hz3304; have HB3304 := Lib.hid (HB3303.out.put 2 rfl hk3304 hb3304); clear hb3304 hk3304 hz3304; clear HB3303))
  (try simp only [World.size_alloc, Act.put, sA, sZ, sS])
  obtain ⟨z5401, hz5401⟩ : ∃ z : List Int, z = nar (dig 18446744073709551616 4 (fmul bx bY)) := ⟨_, rfl⟩
  have HE5401 := Lib.hid hz5401
  have HL5401 : Hid (z5401.length = 4) := Lib.hid (by rw [hz5401]; exact (nar_len _).trans (dig_len _ _ _))
  clear hz5401
  obtain ⟨v5402, hv5402⟩ : ∃ x, x = xl ++ yl ++ k1 ++ z5401 := ⟨_, rfl⟩
  have HR5402 : Hid (∀ w, (Instr.build 58 #[(0, .agg (arr .u64 xl)), (1, .agg (arr .u64 yl)), (2, .agg (arr .u64 k1)), (3, .agg (arr .u64 z5401))]).run Tryd.prog w = .ok (.agg (arr .u64 v5402)) w) := Lib.hid (fun w => by rw [hv5402]; exact build_cpt _ _ _ _ HXL.out HYL.out HK1L.out HL5401.out w)
  have HL5402 : Hid (v5402.length = 16) := Lib.hid (by rw [hv5402]; exact cpt_len HXL.out HYL.out HK1L.out HL5401.out)
  have HV5402 := Lib.hid hv5402
  clear hv5402
  refine wp_region_lin (fun (fF : Fill) (uF : World) => (∀ v, fF 0 = some v → v = .agg (arr .u64 xl) ∧ True) ∧ (∀ v, fF 1 = some v → v = .agg (arr .u64 yl) ∧ True) ∧ (∀ v, fF 2 = some v → v = .agg (arr .u64 k1) ∧ True) ∧ (∀ v, fF 3 = some v → v = .agg (arr .u64 xl) ∧ True) ∧ (∀ v, fF 4 = some v → v = .agg (arr .u64 yl) ∧ True) ∧ (∀ v, fF 5 = some v → v = .agg (arr .u64 z5401) ∧ N4 z5401 (fmul bx bY)) ∧ (∀ v, fF 6 = some v → v = .agg (arr .u64 v5402) ∧ True) ∧ Blk w uF ([(w.heap.size, (if (fF 7).isSome = true then arr .u64 v5402 else arr .u64 zp), 58), (g3301, (arr .u64 xl), 56), (g3303, (arr .u64 yl), 56)])) (by kernel_rfl) (by kernel_rfl) ?zb3 ?sb3 ?eb3
  case zb3 => exact ⟨fun _ h => (by cases h), fun _ h => (by cases h), fun _ h => (by cases h), fun _ h => (by cases h), fun _ h => (by cases h), fun _ h => (by cases h), fun _ h => (by cases h), HB3304.out.drew⟩
  case sb3 =>
    refine LinAll.cons (fun fF bF uF kF hJF hfF hcF hupF hsF hKF => ?_) ?_
    · obtain ⟨j0, j1, j2, j3, j4, j5, j6, hB⟩ := hJF
      have e1 : bF.eval (.tmp 1) = .pointer (some ⟨g3301, 0, none⟩) := hsF.old' 1 (by kernel_rfl) rfl
      have hB' := hB
      refine step_load_part rfl 56 _ rfl (g3301) (0) ((arr .u64 xl)) 56 (0, 0) _ (hB'.get 1 rfl) e1 .u64 xl (arr_part _ _) Tryd.underlying56 rfl (lim_i HXL.out) ?_
      exact hKF _ _ ⟨fun _ h => ⟨sI h, trivial⟩, j1, j2, j3, j4, j5, j6, hB⟩
    refine LinAll.cons (fun fF bF uF kF hJF hfF hcF hupF hsF hKF => ?_) ?_
    · obtain ⟨j0, j1, j2, j3, j4, j5, j6, hB⟩ := hJF
      have e2 : bF.eval (.tmp 2) = .pointer (some ⟨g3303, 0, none⟩) := hsF.old' 2 (by kernel_rfl) rfl
      have hB' := hB
      refine step_load_part rfl 56 _ rfl (g3303) (0) ((arr .u64 yl)) 56 (0, 0) _ (hB'.get 2 rfl) e2 .u64 yl (arr_part _ _) Tryd.underlying56 rfl (lim_i HYL.out) ?_
      exact hKF _ _ ⟨j0, fun _ h => ⟨sI h, trivial⟩, j2, j3, j4, j5, j6, hB⟩
    refine LinAll.cons (fun fF bF uF kF hJF hfF hcF hupF hsF hKF => ?_) ?_
    · obtain ⟨j0, j1, j2, j3, j4, j5, j6, hB⟩ := hJF
      exact lin_pure rfl (.agg (arr .u64 k1)) (exec_build_l 56 _ rfl #[(0, .int .u64 1)] (by simp only [List.map_cons, List.map_nil] <;> rfl) _ (HBK1.out _)) (hKF _ _ ⟨j0, j1, fun _ h => ⟨sI h, trivial⟩, j3, j4, j5, j6, hB⟩)
    refine LinAll.cons (fun fF bF uF kF hJF hfF hcF hupF hsF hKF => ?_) ?_
    · obtain ⟨j0, j1, j2, j3, j4, j5, j6, hB⟩ := hJF
      have e1 : bF.eval (.tmp 1) = .pointer (some ⟨g3301, 0, none⟩) := hsF.old' 1 (by kernel_rfl) rfl
      have hB' := hB
      refine step_load_part rfl 56 _ rfl (g3301) (0) ((arr .u64 xl)) 56 (0, 0) _ (hB'.get 1 rfl) e1 .u64 xl (arr_part _ _) Tryd.underlying56 rfl (lim_i HXL.out) ?_
      exact hKF _ _ ⟨j0, j1, j2, fun _ h => ⟨sI h, trivial⟩, j4, j5, j6, hB⟩
    refine LinAll.cons (fun fF bF uF kF hJF hfF hcF hupF hsF hKF => ?_) ?_
    · obtain ⟨j0, j1, j2, j3, j4, j5, j6, hB⟩ := hJF
      have e2 : bF.eval (.tmp 2) = .pointer (some ⟨g3303, 0, none⟩) := hsF.old' 2 (by kernel_rfl) rfl
      have hB' := hB
      refine step_load_part rfl 56 _ rfl (g3303) (0) ((arr .u64 yl)) 56 (0, 0) _ (hB'.get 2 rfl) e2 .u64 yl (arr_part _ _) Tryd.underlying56 rfl (lim_i HYL.out) ?_
      exact hKF _ _ ⟨j0, j1, j2, j3, fun _ h => ⟨sI h, trivial⟩, j5, j6, hB⟩
    refine LinAll.cons (fun fF bF uF kF hJF hfF hcF hupF hsF hKF => ?_) ?_
    · obtain ⟨j0, j1, j2, j3, j4, j5, j6, hB⟩ := hJF
      obtain ⟨e8, p8⟩ := hsF.at hupF 3 8 (by kernel_rfl) rfl j3
      obtain ⟨e9, p9⟩ := hsF.at hupF 4 9 (by kernel_rfl) rfl j4
      refine lin_call rfl 58 [Operand.tmp 8, Operand.tmp 9] _ [.agg (arr .u64 xl), .agg (arr .u64 yl)] rfl (by simp only [List.map_cons, List.map_nil, e8, e9] <;> rfl) (fun _ _ => by kernel_rfl) ?_
      refine Calls.mono (times_any _ _ _ HX.out HY.out) ?_
      rintro e w1 ⟨y5403_0, rfl, r5403_0, hb⟩
      obtain rfl : y5403_0 = z5401 := r5403_0.1.trans HE5401.out.symm
      exact ⟨_, rfl, hKF _ _ ⟨j0, j1, j2, j3, j4, fun _ h => ⟨sI h, r5403_0⟩, j6, hB.kept hb⟩⟩
    refine LinAll.cons (fun fF bF uF kF hJF hfF hcF hupF hsF hKF => ?_) ?_
    · obtain ⟨j0, j1, j2, j3, j4, j5, j6, hB⟩ := hJF
      obtain ⟨e5, p5⟩ := hsF.at hupF 0 5 (by kernel_rfl) rfl j0
      obtain ⟨e6, p6⟩ := hsF.at hupF 1 6 (by kernel_rfl) rfl j1
      obtain ⟨e7, p7⟩ := hsF.at hupF 2 7 (by kernel_rfl) rfl j2
      obtain ⟨e10, p10⟩ := hsF.at hupF 5 10 (by kernel_rfl) rfl j5
      have y5 := hupF 5 (by kernel_rfl)
      obtain ⟨v5, s5⟩ := sE y5
      have HZ5401 := Lib.hid (j5 _ s5).2
      exact lin_pure rfl (.agg (arr .u64 v5402)) (exec_build_l 58 _ rfl #[(0, .agg (arr .u64 xl)), (1, .agg (arr .u64 yl)), (2, .agg (arr .u64 k1)), (3, .agg (arr .u64 z5401))] (by simp only [List.map_cons, List.map_nil, e5, e6, e7, e10] <;> rfl) _ (HR5402.out _)) (hKF _ _ ⟨j0, j1, j2, j3, j4, j5, fun _ h => ⟨sI h, trivial⟩, hB⟩)
    refine LinAll.cons (fun fF bF uF kF hJF hfF hcF hupF hsF hKF => ?_) ?_
    · obtain ⟨j0, j1, j2, j3, j4, j5, j6, hB⟩ := hJF
      have e0 : bF.eval (.tmp 0) = .pointer (some ⟨w.heap.size, 0, none⟩) := hsF.old' 0 (by kernel_rfl) rfl
      obtain ⟨e11, p11⟩ := hsF.at hupF 6 11 (by kernel_rfl) rfl j6
      have hB' := hB
      rw [hfF] at hB'
      refine step_store_whole rfl 58 (.tmp 0) (.tmp 11) rfl (w.heap.size) (arr .u64 zp) _ 58 (hB'.get 0 rfl) e0 e11 (arr_len2 _ _ HL5402.out HLzp.out) (cpt_s HL5402.out) (all_arr _ _) ?_
      intro w1 hb1 hk1 hz1
      have hB1 : Blk w w1 ([(w.heap.size, (if ((some undef : Option Value)).isSome = true then arr .u64 v5402 else arr .u64 zp), 58), (g3301, (arr .u64 xl), 56), (g3303, (arr .u64 yl), 56)]) := hB'.put 0 rfl hk1 hb1
      exact hKF undef w1 ⟨j0, j1, j2, j3, j4, j5, j6, hB1⟩
    exact LinAll.nil
  case eb3 =>
  intro fF ub3 hall hJF
  obtain ⟨j0, j1, j2, j3, j4, j5, j6, hB⟩ := hJF
  obtain ⟨v0, h0⟩ := sE (hall 0 (by decide))
  obtain ⟨rfl, p0⟩ := j0 _ h0
  obtain ⟨v1, h1⟩ := sE (hall 1 (by decide))
  obtain ⟨rfl, p1⟩ := j1 _ h1
  obtain ⟨v2, h2⟩ := sE (hall 2 (by decide))
  obtain ⟨rfl, p2⟩ := j2 _ h2
  obtain ⟨v3, h3⟩ := sE (hall 3 (by decide))
  obtain ⟨rfl, p3⟩ := j3 _ h3
  obtain ⟨v4, h4⟩ := sE (hall 4 (by decide))
  obtain ⟨rfl, p4⟩ := j4 _ h4
  obtain ⟨v5, h5⟩ := sE (hall 5 (by decide))
  obtain ⟨rfl, p5⟩ := j5 _ h5
  obtain ⟨v6, h6⟩ := sE (hall 6 (by decide))
  obtain ⟨rfl, p6⟩ := j6 _ h6
  obtain ⟨v7, h7⟩ := sE (hall 7 (by decide))
  rw [h7] at hB
  have HBb3 : Hid (Blk w ub3 [(w.heap.size, arr .u64 v5402, 58), (g3301, (arr .u64 xl), 56), (g3303, (arr .u64 yl), 56)]) := Lib.hid hB
  have HZ5401 := Lib.hid p5
  simp only [laid, Nat.zero_add, Nat.reduceAdd, h0, h1, h2, h3, h4, h5, h6, h7, Act.put, sA, sZ, sS]
  clear j0 j1 j2 j3 j4 j5 j6 hB h0 h1 h2 h3 h4 h5 h6 h7 hall fF HB3304
  clear p0 p1 p2 p3 p4 p5 p6
  (try simp only [Exit.then])
  go_wp2_with fail
  refine bodyPost_ret (results_cell_row rfl _ _ (w.heap.size) 58 _ (0, 0) _ rfl (HBb3.out.get 0 rfl) Tryd.underlying58 rfl (cpt_s HL5402.out)) rfl ?_
  exact ⟨_, rfl, by rw [HV5402.out]; exact P4.of HX.out HY.out HK1.out HZ5401.out base_ok, HBb3.out.below⟩

theorem build_pno (w : World) : (Instr.build 58 #[(1, .agg (arr .u64 [1, 0, 0, 0])), (2, .agg (arr .u64 [1, 0, 0, 0]))]).run Tryd.prog w = .ok (.agg (arr .u64 (ptl nought))) w := by kernel_rfl
set_option maxRecDepth 100000 in
set_option maxHeartbeats 4000000 in
theorem none_any (w : World) : Calls Tryd.prog 60 #[] w fun e w' => ∃ zs, e = .returned (.agg (arr .u64 zs)) ∧ P4 zs nought ∧ Below w.heap.size w w' := by
  have hbp := fun w => build_pno w
  have hp : P4 (ptl nought) nought := ⟨rfl, nought_ok⟩
  obtain ⟨pl, hpl⟩ : ∃ x, x = ptl nought := ⟨_, rfl⟩
  rw [← hpl] at hbp hp
  have hbk1 := fun w => build_raw 1 w
  obtain ⟨k1, hk1e⟩ : ∃ b : List Int, b = [(1 : Int), 0, 0, 0] := ⟨_, rfl⟩
  rw [← hk1e] at hbp hbk1
  have HBK1 := Lib.hid hbk1
  have HBP := Lib.hid hbp
  have HP := Lib.hid hp
  have HPL := Lib.hid hp.len
  obtain ⟨zp, hzp⟩ : ∃ zs : List Int, zs = List.replicate 16 0 := ⟨_, rfl⟩
  have HZzp : Hid (∀ w, (zeroValue 58).run Tryd.prog w = .ok (.agg (arr .u64 zp)) w) := Lib.hid (by intro w; rw [hzp]; exact zero_cpt w)
  have HLzp : Hid (zp.length = 16) := Lib.hid (by rw [hzp]; rfl)
  have HS0 := Lib.hid (Blk.one w (arr .u64 zp) 58)
  clear hzp hbp hp hpl hbk1 hk1e
  go_enter Tryd.func60, Tryd.ntmps60
  go_wp2_with (first | ((with_reducible refine aS 0 ?_); refine wpList_alloc_row rfl 58 rfl _ (HZzp.out _) ?_) | ((with_reducible refine aS 1 ?_); refine wpList_build (by rfl) 56 _ rfl #[(0, .int .u64 1)] rfl _ (HBK1.out _) ?_) | ((with_reducible refine aS 2 ?_); refine wpList_build (by rfl) 56 _ rfl #[(0, .int .u64 1)] rfl _ (HBK1.out _) ?_) | ((with_reducible refine aS 3 ?_); refine wpList_build (by rfl) 58 _ rfl #[(1, .agg (arr .u64 k1)), (2, .agg (arr .u64 k1))] rfl _ (HBP.out _) ?_) | ((with_reducible refine aT 0 ?_); refine wpList_store_whole rfl 58 _ _ rfl (w.heap.size) _ _ 58 (HS0.out.get 0 rfl) rfl rfl (arr_len2 _ _ HPL.out HLzp.out) (cpt_s HPL.out) (all_arr _ _) ?_; intro w7 hb7 hk7 hz7; have HB7 := Lib.hid (HS0.out.put 0 rfl hk7 hb7); clear hb7 hk7 hz7))
  (try simp only [Exit.then])
  refine bodyPost_ret (results_cell_row rfl _ _ (w.heap.size) 58 _ (0, 0) _ rfl (HB7.out.get 0 rfl) Tryd.underlying58 rfl (cpt_s HPL.out)) rfl ?_
  exact ⟨_, rfl, HP.out, HB7.out.below⟩

theorem emul_next (P : Pt) (k n : Nat) : emul P k (n + 1) = if k / 2 ^ (255 - n) % 2 = 1 then eadd (eadd (emul P k n) (emul P k n)) P else eadd (emul P k n) (emul P k n) := rfl
set_option maxRecDepth 100000 in
set_option maxHeartbeats 4000000 in
theorem ptimes_any {ps ks : List Int} (P : Pt) (k : Nat) (w : World) (hp : P4 ps P) (hk : K32 ks k) : Calls Tryd.prog 28 #[.agg (arr .u64 ps), .agg (arr .u8 ks)] w fun e w' => ∃ zs, e = .returned (.agg (arr .u64 zs)) ∧ P4 zs (emul P k 256) ∧ Below w.heap.size w w' := by
  have HP := Lib.hid hp
  have HPL := Lib.hid hp.len
  have HK := Lib.hid hk
  have HKL := Lib.hid hk.len
  obtain ⟨zl, hzl⟩ : ∃ zs : List Int, zs = List.replicate 4 0 := ⟨_, rfl⟩
  have HZzl : Hid (∀ w, (zeroValue 56).run Tryd.prog w = .ok (.agg (arr .u64 zl)) w) := Lib.hid (by intro w; rw [hzl]; exact zero_lim w)
  have HLzl : Hid (zl.length = 4) := Lib.hid (by rw [hzl]; rfl)
  obtain ⟨zp, hzp⟩ : ∃ zs : List Int, zs = List.replicate 16 0 := ⟨_, rfl⟩
  have HZzp : Hid (∀ w, (zeroValue 58).run Tryd.prog w = .ok (.agg (arr .u64 zp)) w) := Lib.hid (by intro w; rw [hzp]; exact zero_cpt w)
  have HLzp : Hid (zp.length = 16) := Lib.hid (by rw [hzp]; rfl)
  have HS0 := Lib.hid (Blk.three w (arr .u64 ps) (arr .u8 ks) (arr .u64 zp) 58 23 58)
  clear hzl hzp hp hk
  go_enter Tryd.func28, Tryd.ntmps28
  go_upto_region 1 with (first | ((with_reducible refine aS 4 ?_); refine wpList_alloc_row rfl 58 rfl _ (HZzp.out _) ?_))
  (try simp only [World.size_alloc, Act.put, sA, sZ, sS])
  generalize (((w.alloc (.cells (arr .u64 ps) 58)).alloc (.cells (arr .u8 ks) 23)).alloc (.cells (arr .u64 zp) 58)) = wb at HS0 ⊢
  go_upto_region 2 with (first | ((with_reducible refine aS 8 ?_); refine wpList_load_part rfl 23 _ rfl (w.heap.size + 1) (0) _ 23 (0, 0) _ (HS0.out.get 1 rfl) rfl .u8 ks (arr_part _ _) Tryd.underlying23 rfl (num_i HKL.out) ?_) | ((with_reducible show Calls _ 59 #[.agg _] _ _); go_at_call 59; refine (of4 _ _ HK.out).mono ?_; rintro e w3305 ⟨z3305, rfl, h3305, hb3305⟩; have HZ3305 := Lib.hid h3305; have HL3305 := Lib.hid h3305.len; clear h3305; have HB3305 := Lib.hid (HS0.out.kept hb3305); clear hb3305) | ((with_reducible refine aS 5 ?_); refine wpList_alloc_row rfl 56 rfl _ (HZzl.out _) ?_; have HB3306 := Lib.hid (HB3305.out.alloc (arr .u64 zl) 56); generalize w3305.heap.size = g3306 at HB3306 ⊢; generalize w3305.alloc (.cells (arr .u64 zl) 56) = w3306 at HB3306 ⊢; clear HB3305) | ((with_reducible refine aT 5 (x := (Operand.tmp 9)) ?_); refine wpList_store_whole rfl 56 _ _ rfl (g3306) _ _ 56 (HB3306.out.get 3 rfl) rfl rfl (arr_len2 _ _ HL3305.out HLzl.out) (lim_s HL3305.out) (all_arr _ _) ?_; intro w3307 hb3307 hk3307 hz3307; have HB3307 := Lib.hid (HB3306.out.put 3 rfl hk3307 hb3307); clear hb3307 hk3307 hz3307; clear HB3306))
  (try simp only [World.size_alloc, Act.put, sA, sZ, sS])
  go_wp2_with (first | ((with_reducible show Calls _ 60 #[] _ _); go_at_call 60; refine (none_any _).mono ?_; rintro e w3308 ⟨z3308, rfl, h3308, hb3308⟩; have HZ3308 := Lib.hid h3308; have HL3308 := Lib.hid h3308.len; clear h3308; have HB3308 := Lib.hid (HB3307.out.kept hb3308); clear hb3308; clear HB3307) | ((with_reducible refine aS 6 ?_); refine wpList_alloc_row rfl 58 rfl _ (HZzp.out _) ?_; have HB3309 := Lib.hid (HB3308.out.alloc (arr .u64 zp) 58); generalize w3308.heap.size = g3309 at HB3309 ⊢; generalize w3308.alloc (.cells (arr .u64 zp) 58) = w3309 at HB3309 ⊢; clear HB3308) | ((with_reducible refine aT 6 (x := (Operand.tmp 10)) ?_); refine wpList_store_whole rfl 58 _ _ rfl (g3309) _ _ 58 (HB3309.out.get 4 rfl) rfl rfl (arr_len2 _ _ HL3308.out HLzp.out) (cpt_s HL3308.out) (all_arr _ _) ?_; intro w3310 hb3310 hk3310 hz3310; have HB3310 := Lib.hid (HB3309.out.put 4 rfl hk3310 hb3310); clear hb3310 hk3310 hz3310; clear HB3309))
  go_loopw [7] (fun v' wr => ∃ n : Nat, n ≤ 256 ∧ v' = .int .i64 (255 - (n : Int)) ∧ ∃ cs : List Int, P4 cs (emul P k n) ∧ Blk w wr [(w.heap.size, arr .u64 ps, 58), (w.heap.size + 1, arr .u8 ks, 23), (w.heap.size + 1 + 1, arr .u64 zp, 58), (g3306, (arr .u64 z3305), 56), (g3309, arr .u64 cs, 58)]) (fun v' _ => (intOf v' + 1).toNat)
  case atStart => exact ⟨0, Nat.zero_le _, rfl, _, HZ3308.out, HB3310.out⟩
  case round =>
  obtain ⟨n, hn, rfl, cs, hcs, hB⟩ := hrel
  have HCS := Lib.hid hcs
  have HCL := Lib.hid hcs.len
  have HB := Lib.hid hB
  clear hcs hB HB3310
  by_cases hlt : n < 256
  · obtain ⟨i, hi⟩ : ∃ i : Nat, i + n = 255 := ⟨255 - n, by omega⟩
    have hz : (255 : Int) - (n : Int) = (i : Int) := by omega
    have hi2 : i < 256 := by omega
    have hpn := emul_next P k n
    rw [show 255 - n = i by omega] at hpn
    rw [hz]
    have HI := Lib.hid hi
    clear hz hi
    have q9 : 0 ≤ (i : Int) := by omega
    rcases (show k / 2 ^ i % 2 = 0 ∨ k / 2 ^ i % 2 = 1 by omega) with hb | hb
    · rw [if_neg (by omega)] at hpn
      have HPN := Lib.hid hpn
      have HBT := Lib.hid hb
      clear hpn hb
      go_upto_region 7 with (first | ((with_reducible refine aS 15 ?_); refine wpList_load_part rfl 58 _ rfl (g3309) (0) _ 58 (0, 0) _ (HB.out.get 4 rfl) rfl .u64 cs (arr_part _ _) Tryd.underlying58 rfl (cpt_i HCL.out) ?_) | ((with_reducible refine aS 16 ?_); refine wpList_load_part rfl 58 _ rfl (g3309) (0) _ 58 (0, 0) _ (HB.out.get 4 rfl) rfl .u64 cs (arr_part _ _) Tryd.underlying58 rfl (cpt_i HCL.out) ?_) | ((with_reducible show Calls _ 42 #[.agg _, .agg _] _ _); go_at_call 42; refine (padd_any _ _ _ HCS.out HCS.out).mono ?_; rintro e w3311 ⟨z3311, rfl, h3311, hb3311⟩; have HZ3311 := Lib.hid h3311; have HL3311 := Lib.hid h3311.len; clear h3311; have HB3311 := Lib.hid (HB.out.kept hb3311); clear hb3311) | ((with_reducible refine aT 6 (x := (Operand.tmp 17)) ?_); refine wpList_store_whole rfl 58 _ _ rfl (g3309) _ _ 58 (HB3311.out.get 4 rfl) rfl rfl (arr_len2 _ _ HL3311.out HCL.out) (cpt_s HL3311.out) (all_arr _ _) ?_; intro w3312 hb3312 hk3312 hz3312; have HB3312 := Lib.hid (HB3311.out.put 4 rfl hk3312 hb3312); clear hb3312 hk3312 hz3312; clear HB3311))
      (try simp only [World.size_alloc, Act.put, sA, sZ, sS])
      have hbv : (((0 : Nat) : Int) == 1) = false := rfl
      go_wp2_with (first | ((with_reducible refine aS 18 ?_); refine wpList_load_part rfl 56 _ rfl (g3306) (0) _ 56 (0, 0) _ (HB3312.out.get 3 rfl) rfl .u64 z3305 (arr_part _ _) Tryd.underlying56 rfl (lim_i HL3305.out) ?_) | ((with_reducible show Calls _ 61 #[.agg _, _] _ _); go_at_call 61; refine (bit_any _ i _ _ HZ3305.out hi2 HBT.out).mono ?_; rintro e w3313 ⟨rfl, hb3313⟩; have HB3313 := Lib.hid (HB3312.out.kept hb3313); clear hb3313; clear HB3312))
      go_roundw
      case rel =>
        have e := HI.out
        exact ⟨n + 1, by omega, by congr 1; omega, _, by rw [HPN.out]; exact HZ3311.out, HB3313.out⟩
      case measure => simp [intOf]
    · rw [if_pos hb] at hpn
      have HPN := Lib.hid hpn
      have HBT := Lib.hid hb
      clear hpn hb
      go_upto_region 7 with (first | ((with_reducible refine aS 15 ?_); refine wpList_load_part rfl 58 _ rfl (g3309) (0) _ 58 (0, 0) _ (HB.out.get 4 rfl) rfl .u64 cs (arr_part _ _) Tryd.underlying58 rfl (cpt_i HCL.out) ?_) | ((with_reducible refine aS 16 ?_); refine wpList_load_part rfl 58 _ rfl (g3309) (0) _ 58 (0, 0) _ (HB.out.get 4 rfl) rfl .u64 cs (arr_part _ _) Tryd.underlying58 rfl (cpt_i HCL.out) ?_) | ((with_reducible show Calls _ 42 #[.agg _, .agg _] _ _); go_at_call 42; refine (padd_any _ _ _ HCS.out HCS.out).mono ?_; rintro e w3314 ⟨z3314, rfl, h3314, hb3314⟩; have HZ3314 := Lib.hid h3314; have HL3314 := Lib.hid h3314.len; clear h3314; have HB3314 := Lib.hid (HB.out.kept hb3314); clear hb3314) | ((with_reducible refine aT 6 (x := (Operand.tmp 17)) ?_); refine wpList_store_whole rfl 58 _ _ rfl (g3309) _ _ 58 (HB3314.out.get 4 rfl) rfl rfl (arr_len2 _ _ HL3314.out HCL.out) (cpt_s HL3314.out) (all_arr _ _) ?_; intro w3315 hb3315 hk3315 hz3315; have HB3315 := Lib.hid (HB3314.out.put 4 rfl hk3315 hb3315); clear hb3315 hk3315 hz3315; clear HB3314))
      (try simp only [World.size_alloc, Act.put, sA, sZ, sS])
      have hbv : (((1 : Nat) : Int) == 1) = true := rfl
      go_wp2_with (first | ((with_reducible refine aS 18 ?_); refine wpList_load_part rfl 56 _ rfl (g3306) (0) _ 56 (0, 0) _ (HB3315.out.get 3 rfl) rfl .u64 z3305 (arr_part _ _) Tryd.underlying56 rfl (lim_i HL3305.out) ?_) | ((with_reducible show Calls _ 61 #[.agg _, _] _ _); go_at_call 61; refine (bit_any _ i _ _ HZ3305.out hi2 HBT.out).mono ?_; rintro e w3316 ⟨rfl, hb3316⟩; have HB3316 := Lib.hid (HB3315.out.kept hb3316); clear hb3316; clear HB3315) | ((with_reducible refine aS 22 ?_); refine wpList_load_part rfl 58 _ rfl (g3309) (0) _ 58 (0, 0) _ (HB3316.out.get 4 rfl) rfl .u64 z3314 (arr_part _ _) Tryd.underlying58 rfl (cpt_i HL3314.out) ?_) | ((with_reducible refine aS 23 ?_); refine wpList_load_part rfl 58 _ rfl (w.heap.size) (0) _ 58 (0, 0) _ (HB3316.out.get 0 rfl) rfl .u64 ps (arr_part _ _) Tryd.underlying58 rfl (cpt_i HPL.out) ?_) | ((with_reducible show Calls _ 42 #[.agg _, .agg _] _ _); go_at_call 42; refine (padd_any _ _ _ HZ3314.out HP.out).mono ?_; rintro e w3317 ⟨z3317, rfl, h3317, hb3317⟩; have HZ3317 := Lib.hid h3317; have HL3317 := Lib.hid h3317.len; clear h3317; have HB3317 := Lib.hid (HB3316.out.kept hb3317); clear hb3317; clear HB3316) | ((with_reducible refine aT 6 (x := (Operand.tmp 24)) ?_); refine wpList_store_whole rfl 58 _ _ rfl (g3309) _ _ 58 (HB3317.out.get 4 rfl) rfl rfl (arr_len2 _ _ HL3317.out HL3314.out) (cpt_s HL3317.out) (all_arr _ _) ?_; intro w3318 hb3318 hk3318 hz3318; have HB3318 := Lib.hid (HB3317.out.put 4 rfl hk3318 hb3318); clear hb3318 hk3318 hz3318; clear HB3317))
      go_roundw
      case rel =>
        have e := HI.out
        exact ⟨n + 1, by omega, by congr 1; omega, _, by rw [HPN.out]; exact HZ3317.out, HB3318.out⟩
      case measure => simp [intOf]
  · obtain rfl : n = 256 := by omega
    have hz : (255 : Int) - ((256 : Nat) : Int) = -1 := by omega
    rw [hz]
    clear hz
    go_wp2_with (first | ((with_reducible refine aS 25 ?_); refine wpList_load_part rfl 58 _ rfl (g3309) (0) _ 58 (0, 0) _ (HB.out.get 4 rfl) rfl .u64 cs (arr_part _ _) Tryd.underlying58 rfl (cpt_i HCL.out) ?_) | ((with_reducible refine aT 4 (x := (Operand.tmp 25)) ?_); refine wpList_store_whole rfl 58 _ _ rfl (w.heap.size + 1 + 1) _ _ 58 (HB.out.get 2 rfl) rfl rfl (arr_len2 _ _ HCL.out HLzp.out) (cpt_s HCL.out) (all_arr _ _) ?_; intro w3319 hb3319 hk3319 hz3319; have HB3319 := Lib.hid (HB.out.put 2 rfl hk3319 hb3319); clear hb3319 hk3319 hz3319))
    (try simp only [Exit.inBlock, Exit.then])
    refine bodyPost_ret (results_cell_row rfl _ _ (w.heap.size + 1 + 1) 58 _ (0, 0) _ rfl (HB3319.out.get 2 rfl) Tryd.underlying58 rfl (cpt_s HCL.out)) rfl ?_
    exact ⟨_, rfl, HCS.out, HB3319.out.below⟩
end Go.Proofs.YtanjhngehfbpbaaDoor.Sl
