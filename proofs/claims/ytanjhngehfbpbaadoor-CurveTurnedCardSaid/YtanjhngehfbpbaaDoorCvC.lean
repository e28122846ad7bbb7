/- point.bytes: what it answers. Condition: numbers below p. -/
import Derived.Test.YtanjhngehfbpbaaDoorCvB
namespace Go.Proofs.YtanjhngehfbpbaaDoor.Sl
open Go.RowKit Lm Fp Cu Rd
set_option linter.unusedSimpArgs false

theorem or_top (t b : Nat) (ht : t < 128) (hb : b = 0 ∨ b = 1) : bits .or .u8 (t : Int) ((b : Int) * 128) = ((t + 128 * b : Nat) : Int) := by
  have h1 : (BitVec.ofInt 8 (t : Int)).toNat = t := by rw [BitVec.ofInt_natCast, BitVec.toNat_ofNat]; exact Nat.mod_eq_of_lt (by omega)
  rcases hb with rfl | rfl
  · show IntKind.u8.wrap ((BitVec.ofInt 8 (t : Int) ||| BitVec.ofInt 8 (((0 : Nat) : Int) * 128)).toNat : Int) = _
    rw [BitVec.toNat_or, h1, show (BitVec.ofInt 8 (((0 : Nat) : Int) * 128)).toNat = 0 from by decide, Nat.or_zero, IntKind.wrap_u8]
    omega
  · show IntKind.u8.wrap ((BitVec.ofInt 8 (t : Int) ||| BitVec.ofInt 8 (((1 : Nat) : Int) * 128)).toNat : Int) = _
    have h3 : t ||| 128 = 128 + t := by
      rw [Nat.or_comm]
      have := Nat.two_pow_add_eq_or_of_lt (i := 7) (b := t) (by omega) 1
      simpa using this.symm
    rw [BitVec.toNat_or, h1, show (BitVec.ofInt 8 (((1 : Nat) : Int) * 128)).toNat = 128 from by decide, h3, IntKind.wrap_u8]
    omega

set_option maxRecDepth 100000 in
set_option maxHeartbeats 8000000 in
theorem pbytes_any {ps : List Int} (P : Pt) (w : World) (hp : P4 ps P) : Calls Tryd.prog 29 #[.agg (arr .u64 ps)] w fun e w' => ∃ zs, e = .returned (.agg (arr .u8 zs)) ∧ K32 zs (ebytes P) ∧ Below w.heap.size w w' := by
  obtain ⟨mx, my, mz, mt, hme, hmx, hmy, hmz, hmt, hmok⟩ := hp.parts
  have Hmx := Lib.hid hmx
  have HmxL := Lib.hid hmx.len
  have Hmy := Lib.hid hmy
  have HmyL := Lib.hid hmy.len
  have Hmz := Lib.hid hmz
  have HmzL := Lib.hid hmz.len
  have Hmt := Lib.hid hmt
  have HmtL := Lib.hid hmt.len
  have HmW := Lib.hid hp.len
  have Hmok := Lib.hid hmok
  have hmP := four_part4 .u64 mx my mz mt 4 hmx.len hmy.len hmz.len hmt.len
  rw [← hme] at hmP
  have HmP := Lib.hid hmP
  clear hmx hmy hmz hmt hme hmP hmok
  obtain ⟨zl, hzl⟩ : ∃ zs : List Int, zs = List.replicate 4 0 := ⟨_, rfl⟩
  have HZzl : Hid (∀ w, (zeroValue 56).run Tryd.prog w = .ok (.agg (arr .u64 zl)) w) := Lib.hid (by intro w; rw [hzl]; exact zero_lim w)
  have HLzl : Hid (zl.length = 4) := Lib.hid (by rw [hzl]; rfl)
  obtain ⟨zn, hzn⟩ : ∃ zs : List Int, zs = List.replicate 32 0 := ⟨_, rfl⟩
  have HZzn : Hid (∀ w, (zeroValue 23).run Tryd.prog w = .ok (.agg (arr .u8 zn)) w) := Lib.hid (by intro w; rw [hzn]; exact zero_num w)
  have HLzn : Hid (zn.length = 32) := Lib.hid (by rw [hzn]; rfl)
  obtain ⟨X, hX⟩ : ∃ x, x = fmul P.x (finv P.z) := ⟨_, rfl⟩
  obtain ⟨Y, hY⟩ : ∃ x, x = fmul P.y (finv P.z) := ⟨_, rfl⟩
  have hYlt : Y < 2 ^ 255 := by rw [hY]; exact Nat.lt_of_lt_of_le (fmul_lt _ _) (by decide +kernel)
  have hYK : Y < 256 ^ 32 := Nat.lt_of_lt_of_le hYlt (by decide)
  have hen := enc_set Y (X % 2) hYlt (by omega)
  obtain ⟨ht1, ht2⟩ := top_byte Y hYlt
  have heb : ebytes P = Y + 2 ^ 255 * (X % 2) := by rw [hX, hY]; rfl
  have hebl := ebytes_lt P
  obtain ⟨E, hE⟩ : ∃ x, x = ebytes P := ⟨_, rfl⟩
  rw [← hE] at heb hebl
  rw [← hE]
  rw [← heb] at hen
  have g1 : (nar (dig 256 32 Y)).getD 31 0 = ((Y / 256 ^ 31 : Nat) : Int) := by rw [nar_get, ht1]
  have hfin : (nar (dig 256 32 Y)).set 31 ((Y / 256 ^ 31 + 128 * (X % 2) : Nat) : Int) = nar (dig 256 32 E) := by rw [← nar_set, hen]
  have hb0 : X / 2 ^ 0 % 2 = X % 2 := by simp
  have hb01 : X % 2 = 0 ∨ X % 2 = 1 := by omega
  have hor := or_top (Y / 256 ^ 31) (X % 2) ht2 hb01
  generalize X % 2 = bq at hfin hb0 hb01 hor
  generalize Y / 256 ^ 31 = tq at g1 hfin hor
  obtain ⟨rs, hrs⟩ : ∃ r, r = nar (dig 256 32 E) := ⟨_, rfl⟩
  obtain ⟨ys, hys⟩ : ∃ r, r = nar (dig 256 32 Y) := ⟨_, rfl⟩
  have HRS : Hid (K32 rs E) := Lib.hid ⟨hrs, hebl⟩
  have HRL := Lib.hid HRS.out.len
  have HYS : Hid (K32 ys Y) := Lib.hid ⟨hys, hYK⟩
  have HYL := Lib.hid HYS.out.len
  rw [← hys] at g1 hfin
  rw [← hrs] at hfin
  have HG1 := Lib.hid g1
  have HFN := Lib.hid hfin
  have HOR := Lib.hid hor
  have HX := Lib.hid hX
  have HY := Lib.hid hY
  have HB0 := Lib.hid hb0
  have HB01 := Lib.hid hb01
  have HS0 := Lib.hid (Blk.two w (arr .u64 ps) (arr .u8 zn) 58 23)
  clear hzl hzn hp hX hY hYlt hYK hen ht1 ht2 heb hebl hE g1 hfin hb0 hb01 hor hrs hys
  go_enter Tryd.func29, Tryd.ntmps29
  go_upto_region 1 with (first | ((with_reducible refine aS 2 ?_); refine wpList_alloc_row rfl 23 rfl _ (HZzn.out _) ?_))
  (try simp only [World.size_alloc, Act.put, sA, sZ, sS])
  generalize ((w.alloc (.cells (arr .u64 ps) 58)).alloc (.cells (arr .u8 zn) 23)) = wb at HS0 ⊢
  go_upto_region 2 with (first | ((with_reducible refine aS 6 ?_); refine wpList_load_part rfl 56 _ rfl (w.heap.size) (8) _ 58 (0, 0) _ (HS0.out.get 0 rfl) rfl .u64 mz (HmP.out.2.2.1) Tryd.underlying56 rfl (lim_i HmzL.out) ?_) | ((with_reducible show Calls _ 62 #[.agg _] _ _); go_at_call 62; refine (inverse_any _ _ Hmz.out).mono ?_; rintro e w3401 ⟨z3401, rfl, h3401, hb3401⟩; have HZ3401 := Lib.hid h3401; have HL3401 := Lib.hid h3401.len; clear h3401; have HB3401 := Lib.hid (HS0.out.kept hb3401); clear hb3401) | ((with_reducible refine aS 3 ?_); refine wpList_alloc_row rfl 56 rfl _ (HZzl.out _) ?_; have HB3402 := Lib.hid (HB3401.out.alloc (arr .u64 zl) 56); generalize w3401.heap.size = g3402 at HB3402 ⊢; generalize w3401.alloc (.cells (arr .u64 zl) 56) = w3402 at HB3402 ⊢; clear HB3401) | ((with_reducible refine aT 3 (x := (Operand.tmp 7)) ?_); refine wpList_store_whole rfl 56 _ _ rfl (g3402) _ _ 56 (HB3402.out.get 2 rfl) rfl rfl (arr_len2 _ _ HL3401.out HLzl.out) (lim_s HL3401.out) (all_arr _ _) ?_; intro w3403 hb3403 hk3403 hz3403; have HB3403 := Lib.hid (HB3402.out.put 2 rfl hk3403 hb3403); clear hb3403 hk3403 hz3403; clear HB3402))
  (try simp only [World.size_alloc, Act.put, sA, sZ, sS])
  go_upto_region 3 with (first | ((with_reducible refine aS 9 ?_); refine wpList_load_part rfl 56 _ rfl (w.heap.size) (4) _ 58 (0, 0) _ (HB3403.out.get 0 rfl) rfl .u64 my (HmP.out.2.1) Tryd.underlying56 rfl (lim_i HmyL.out) ?_) | ((with_reducible refine aS 10 ?_); refine wpList_load_part rfl 56 _ rfl (g3402) (0) _ 56 (0, 0) _ (HB3403.out.get 2 rfl) rfl .u64 z3401 (arr_part _ _) Tryd.underlying56 rfl (lim_i HL3401.out) ?_) | ((with_reducible show Calls _ 58 #[.agg _, .agg _] _ _); go_at_call 58; refine (times_any _ _ _ Hmy.out HZ3401.out).mono ?_; rintro e w3404 ⟨z3404, rfl, h3404, hb3404⟩; have HZ3404 := Lib.hid h3404; have HL3404 := Lib.hid h3404.len; clear h3404; have HB3404 := Lib.hid (HB3403.out.kept hb3404); clear hb3404; clear HB3403) | ((with_reducible show Calls _ 63 #[.agg _] _ _); go_at_call 63; refine (num4 _ _ HZ3404.out).mono ?_; rintro e w3405 ⟨z3405, rfl, h3405, hb3405⟩; have HZ3405 := Lib.hid h3405; have HL3405 := Lib.hid h3405.len; clear h3405; have HB3405 := Lib.hid (HB3404.out.kept hb3405); clear hb3405; clear HB3404) | ((with_reducible refine aS 4 ?_); refine wpList_alloc_row rfl 23 rfl _ (HZzn.out _) ?_; have HB3406 := Lib.hid (HB3405.out.alloc (arr .u8 zn) 23); generalize w3405.heap.size = g3406 at HB3406 ⊢; generalize w3405.alloc (.cells (arr .u8 zn) 23) = w3406 at HB3406 ⊢; clear HB3405) | ((with_reducible refine aT 4 (x := (Operand.tmp 12)) ?_); refine wpList_store_whole rfl 23 _ _ rfl (g3406) _ _ 23 (HB3406.out.get 3 rfl) rfl rfl (arr_len2 _ _ HL3405.out HLzn.out) (num_s HL3405.out) (all_arr _ _) ?_; intro w3407 hb3407 hk3407 hz3407; have HB3407 := Lib.hid (HB3406.out.put 3 rfl hk3407 hb3407); clear hb3407 hk3407 hz3407; clear HB3406))
  (try simp only [World.size_alloc, Act.put, sA, sZ, sS])
  obtain rfl : z3405 = ys := by rw [HZ3405.out.1, HYS.out.1, HY.out]
  obtain ⟨z5501, hz5501⟩ : ∃ z : List Int, z = nar (dig 18446744073709551616 4 (fmul P.x (finv P.z))) := ⟨_, rfl⟩
  have HE5501 := Lib.hid hz5501
  have HL5501 : Hid (z5501.length = 4) := Lib.hid (by rw [hz5501]; exact (nar_len _).trans (dig_len _ _ _))
  clear hz5501
  refine wp_region_lin (fun (fF : Fill) (uF : World) => (∀ v, fF 0 = some v → v = .pointer (some ⟨g3406, 31, none⟩) ∧ True) ∧ (∀ v, fF 1 = some v → v = .int .u8 (tq : Int) ∧ True) ∧ (∀ v, fF 2 = some v → v = .pointer (some ⟨w.heap.size, 0, none⟩) ∧ True) ∧ (∀ v, fF 3 = some v → v = .agg (arr .u64 mx) ∧ True) ∧ (∀ v, fF 4 = some v → v = .agg (arr .u64 z3401) ∧ True) ∧ (∀ v, fF 5 = some v → v = .agg (arr .u64 z5501) ∧ N4 z5501 (fmul P.x (finv P.z))) ∧ (∀ v, fF 6 = some v → v = .int .u64 (bq : Int) ∧ True) ∧ (∀ v, fF 7 = some v → v = .int .u8 (bq : Int) ∧ True) ∧ (∀ v, fF 8 = some v → v = .int .u8 ((bq : Int) * 128) ∧ True) ∧ (∀ v, fF 9 = some v → v = .int .u8 (bits .or .u8 (tq : Int) ((bq : Int) * 128)) ∧ True) ∧ (∀ v, fF 10 = some v → v = .pointer (some ⟨g3406, 31, none⟩) ∧ True) ∧ Blk w uF ([(w.heap.size, arr .u64 ps, 58), (w.heap.size + 1, arr .u8 zn, 23), (g3402, (arr .u64 z3401), 56), (g3406, (if (fF 11).isSome = true then arr .u8 rs else (arr .u8 z3405)), 23)])) (by kernel_rfl) (by kernel_rfl) ?zb3 ?sb3 ?eb3
  case zb3 => exact ⟨fun _ h => (by cases h), fun _ h => (by cases h), fun _ h => (by cases h), fun _ h => (by cases h), fun _ h => (by cases h), fun _ h => (by cases h), fun _ h => (by cases h), fun _ h => (by cases h), fun _ h => (by cases h), fun _ h => (by cases h), fun _ h => (by cases h), HB3407.out.drew⟩
  case sb3 =>
    refine LinAll.cons (fun fF bF uF kF hJF hfF hcF hupF hsF hKF => ?_) ?_
    · obtain ⟨j0, j1, j2, j3, j4, j5, j6, j7, j8, j9, j10, hB⟩ := hJF
      have e4 : bF.eval (.tmp 4) = .pointer (some ⟨g3406, 0, none⟩) := hsF.old' 4 (by kernel_rfl) rfl
      exact lin_pure rfl (.pointer (some ⟨g3406, 31, none⟩)) (by simp only [execOp, e4] <;> first | rfl | kernel_rfl | (go_simp; done)) (hKF _ _ ⟨fun _ h => ⟨sI h, trivial⟩, j1, j2, j3, j4, j5, j6, j7, j8, j9, j10, hB⟩)
    refine LinAll.cons (fun fF bF uF kF hJF hfF hcF hupF hsF hKF => ?_) ?_
    · obtain ⟨j0, j1, j2, j3, j4, j5, j6, j7, j8, j9, j10, hB⟩ := hJF
      obtain ⟨e13, p13⟩ := hsF.at hupF 0 13 (by kernel_rfl) rfl j0
      have n11 := hcF.down 11 1 (by kernel_rfl) hfF
      have hB' := hB
      rw [n11] at hB'
      have q0 := arr_get' (k := .u8) (xs := z3405) (hB'.get 3 rfl) 31 (by rw [HYL.out]; decide)
      rw [HG1.out] at q0
      exact lin_pure rfl (.int .u8 (tq : Int)) (by simp only [execOp, e13]; go_simp; done) (hKF _ _ ⟨j0, fun _ h => ⟨sI h, trivial⟩, j2, j3, j4, j5, j6, j7, j8, j9, j10, hB⟩)
    refine LinAll.cons (fun fF bF uF kF hJF hfF hcF hupF hsF hKF => ?_) ?_
    · obtain ⟨j0, j1, j2, j3, j4, j5, j6, j7, j8, j9, j10, hB⟩ := hJF
      have e1 : bF.eval (.tmp 1) = .pointer (some ⟨w.heap.size, 0, none⟩) := hsF.old' 1 (by kernel_rfl) rfl
      exact lin_pure rfl (.pointer (some ⟨w.heap.size, 0, none⟩)) (by simp only [execOp, e1] <;> first | rfl | kernel_rfl | (go_simp; done)) (hKF _ _ ⟨j0, j1, fun _ h => ⟨sI h, trivial⟩, j3, j4, j5, j6, j7, j8, j9, j10, hB⟩)
    refine LinAll.cons (fun fF bF uF kF hJF hfF hcF hupF hsF hKF => ?_) ?_
    · obtain ⟨j0, j1, j2, j3, j4, j5, j6, j7, j8, j9, j10, hB⟩ := hJF
      obtain ⟨e15, p15⟩ := hsF.at hupF 2 15 (by kernel_rfl) rfl j2
      have hB' := hB
      refine step_load_part rfl 56 _ rfl (w.heap.size) (0) (arr .u64 ps) 58 (0, 0) _ (hB'.get 0 rfl) e15 .u64 mx (HmP.out.1) Tryd.underlying56 rfl (lim_i HmxL.out) ?_
      exact hKF _ _ ⟨j0, j1, j2, fun _ h => ⟨sI h, trivial⟩, j4, j5, j6, j7, j8, j9, j10, hB⟩
    refine LinAll.cons (fun fF bF uF kF hJF hfF hcF hupF hsF hKF => ?_) ?_
    · obtain ⟨j0, j1, j2, j3, j4, j5, j6, j7, j8, j9, j10, hB⟩ := hJF
      have e3 : bF.eval (.tmp 3) = .pointer (some ⟨g3402, 0, none⟩) := hsF.old' 3 (by kernel_rfl) rfl
      have hB' := hB
      refine step_load_part rfl 56 _ rfl (g3402) (0) ((arr .u64 z3401)) 56 (0, 0) _ (hB'.get 2 rfl) e3 .u64 z3401 (arr_part _ _) Tryd.underlying56 rfl (lim_i HL3401.out) ?_
      exact hKF _ _ ⟨j0, j1, j2, j3, fun _ h => ⟨sI h, trivial⟩, j5, j6, j7, j8, j9, j10, hB⟩
    refine LinAll.cons (fun fF bF uF kF hJF hfF hcF hupF hsF hKF => ?_) ?_
    · obtain ⟨j0, j1, j2, j3, j4, j5, j6, j7, j8, j9, j10, hB⟩ := hJF
      obtain ⟨e16, p16⟩ := hsF.at hupF 3 16 (by kernel_rfl) rfl j3
      obtain ⟨e17, p17⟩ := hsF.at hupF 4 17 (by kernel_rfl) rfl j4
      refine lin_call rfl 58 [Operand.tmp 16, Operand.tmp 17] _ [.agg (arr .u64 mx), .agg (arr .u64 z3401)] rfl (by simp only [List.map_cons, List.map_nil, e16, e17] <;> rfl) (fun _ _ => by kernel_rfl) ?_
      refine Calls.mono (times_any _ _ _ Hmx.out HZ3401.out) ?_
      rintro e w1 ⟨y5502_0, rfl, r5502_0, hb⟩
      obtain rfl : y5502_0 = z5501 := r5502_0.1.trans HE5501.out.symm
      exact ⟨_, rfl, hKF _ _ ⟨j0, j1, j2, j3, j4, fun _ h => ⟨sI h, r5502_0⟩, j6, j7, j8, j9, j10, hB.kept hb⟩⟩
    refine LinAll.cons (fun fF bF uF kF hJF hfF hcF hupF hsF hKF => ?_) ?_
    · obtain ⟨j0, j1, j2, j3, j4, j5, j6, j7, j8, j9, j10, hB⟩ := hJF
      obtain ⟨e18, p18⟩ := hsF.at hupF 5 18 (by kernel_rfl) rfl j5
      have y5 := hupF 5 (by kernel_rfl)
      obtain ⟨v5, s5⟩ := sE y5
      have HZ5501 := Lib.hid (j5 _ s5).2
      refine lin_call rfl 61 [Operand.tmp 18, Operand.const (Value.int IntKind.i64 0)] _ [.agg (arr .u64 z5501), .int .i64 0] rfl (by simp only [List.map_cons, List.map_nil, e18] <;> rfl) (fun _ _ => by kernel_rfl) ?_
      refine Calls.mono (bit_any X 0 bq _ (by rw [HX.out]; exact HZ5501.out) (by decide) HB0.out) ?_
      rintro e w1 ⟨rfl, hb⟩
      exact ⟨_, rfl, hKF _ _ ⟨j0, j1, j2, j3, j4, j5, fun _ h => ⟨sI h, trivial⟩, j7, j8, j9, j10, hB.kept hb⟩⟩
    refine LinAll.cons (fun fF bF uF kF hJF hfF hcF hupF hsF hKF => ?_) ?_
    · obtain ⟨j0, j1, j2, j3, j4, j5, j6, j7, j8, j9, j10, hB⟩ := hJF
      obtain ⟨e19, p19⟩ := hsF.at hupF 6 19 (by kernel_rfl) rfl j6
      exact lin_pure rfl (.int .u8 (bq : Int)) (by simp only [execOp, e19]; have hb01 := HB01.out; clear HB01; rcases hb01 with rfl | rfl <;> rfl) (hKF _ _ ⟨j0, j1, j2, j3, j4, j5, j6, fun _ h => ⟨sI h, trivial⟩, j8, j9, j10, hB⟩)
    refine LinAll.cons (fun fF bF uF kF hJF hfF hcF hupF hsF hKF => ?_) ?_
    · obtain ⟨j0, j1, j2, j3, j4, j5, j6, j7, j8, j9, j10, hB⟩ := hJF
      obtain ⟨e20, p20⟩ := hsF.at hupF 7 20 (by kernel_rfl) rfl j7
      exact lin_pure rfl (.int .u8 ((bq : Int) * 128)) (by simp only [execOp, e20]; have hb01 := HB01.out; clear HB01; rcases hb01 with rfl | rfl <;> rfl) (hKF _ _ ⟨j0, j1, j2, j3, j4, j5, j6, j7, fun _ h => ⟨sI h, trivial⟩, j9, j10, hB⟩)
    refine LinAll.cons (fun fF bF uF kF hJF hfF hcF hupF hsF hKF => ?_) ?_
    · obtain ⟨j0, j1, j2, j3, j4, j5, j6, j7, j8, j9, j10, hB⟩ := hJF
      obtain ⟨e14, p14⟩ := hsF.at hupF 1 14 (by kernel_rfl) rfl j1
      obtain ⟨e21, p21⟩ := hsF.at hupF 8 21 (by kernel_rfl) rfl j8
      exact lin_pure rfl (.int .u8 (bits .or .u8 (tq : Int) ((bq : Int) * 128))) (by simp only [execOp, e14, e21]; first | rfl | (go_simp; done)) (hKF _ _ ⟨j0, j1, j2, j3, j4, j5, j6, j7, j8, fun _ h => ⟨sI h, trivial⟩, j10, hB⟩)
    refine LinAll.cons (fun fF bF uF kF hJF hfF hcF hupF hsF hKF => ?_) ?_
    · obtain ⟨j0, j1, j2, j3, j4, j5, j6, j7, j8, j9, j10, hB⟩ := hJF
      have e4 : bF.eval (.tmp 4) = .pointer (some ⟨g3406, 0, none⟩) := hsF.old' 4 (by kernel_rfl) rfl
      exact lin_pure rfl (.pointer (some ⟨g3406, 31, none⟩)) (by simp only [execOp, e4] <;> first | rfl | kernel_rfl | (go_simp; done)) (hKF _ _ ⟨j0, j1, j2, j3, j4, j5, j6, j7, j8, j9, fun _ h => ⟨sI h, trivial⟩, hB⟩)
    refine LinAll.cons (fun fF bF uF kF hJF hfF hcF hupF hsF hKF => ?_) ?_
    · obtain ⟨j0, j1, j2, j3, j4, j5, j6, j7, j8, j9, j10, hB⟩ := hJF
      obtain ⟨e23, p23⟩ := hsF.at hupF 10 23 (by kernel_rfl) rfl j10
      obtain ⟨e22, p22⟩ := hsF.at hupF 9 22 (by kernel_rfl) rfl j9
      have hB' := hB
      rw [hfF] at hB'
      have q0 := arr_get' (k := .u8) (xs := z3405) (hB'.get 3 rfl) 31 (by rw [HYL.out]; decide)
      have q1 := free_blk (hB'.get 3 rfl) 31
      have hb2 := hB'.cell 3 rfl 31 (.int .u8 (bits .or .u8 (tq : Int) ((bq : Int) * 128)))
      have e9 : (arr .u8 z3405).setIfInBounds 31 (.int .u8 (bits .or .u8 (tq : Int) ((bq : Int) * 128))) = arr .u8 rs := by rw [HOR.out, arr_set, HFN.out]
      have hB1 : Blk w (uF.setCell ⟨g3406, 31, none⟩ (.int .u8 (bits .or .u8 (tq : Int) ((bq : Int) * 128)))) ([(w.heap.size, arr .u64 ps, 58), (w.heap.size + 1, arr .u8 zn, 23), (g3402, (arr .u64 z3401), 56), (g3406, (if ((some undef : Option Value)).isSome = true then arr .u8 rs else (arr .u8 z3405)), 23)]) := hb2.cast (by rw [← e9]; rfl)
      rw [if_pos (by simp [Region.wanted])]
      unfold Oper.wp
      simp only [execOp, e23, e22]
      go_simp
      exact hKF undef _ ⟨j0, j1, j2, j3, j4, j5, j6, j7, j8, j9, j10, hB1⟩
    exact LinAll.nil
  case eb3 =>
  intro fF ub3 hall hJF
  obtain ⟨j0, j1, j2, j3, j4, j5, j6, j7, j8, j9, j10, hB⟩ := hJF
  obtain ⟨v0, h0⟩ := sE (hall 0 (by decide))
  obtain ⟨rfl, p0⟩ := j0 _ h0
  obtain ⟨v1, h1⟩ := sE (hall 1 (by decide))
  obtain ⟨rfl, p1⟩ := j1 _ h1
  obtain ⟨v2, h2⟩ := sE (hall 2 (by decide))
  obtain ⟨rfl, p2⟩ := j2 _ h2
  obtain ⟨v3, h3⟩ := sE (hall 3 (by decide))
  obtain ⟨rfl, p3⟩ := j3 _ h3
  obtain ⟨v4, h4⟩ := sE (hall 4 (by decide))
  obtain ⟨rfl, p4⟩ := j4 _ h4
  obtain ⟨v5, h5⟩ := sE (hall 5 (by decide))
  obtain ⟨rfl, p5⟩ := j5 _ h5
  obtain ⟨v6, h6⟩ := sE (hall 6 (by decide))
  obtain ⟨rfl, p6⟩ := j6 _ h6
  obtain ⟨v7, h7⟩ := sE (hall 7 (by decide))
  obtain ⟨rfl, p7⟩ := j7 _ h7
  obtain ⟨v8, h8⟩ := sE (hall 8 (by decide))
  obtain ⟨rfl, p8⟩ := j8 _ h8
  obtain ⟨v9, h9⟩ := sE (hall 9 (by decide))
  obtain ⟨rfl, p9⟩ := j9 _ h9
  obtain ⟨v10, h10⟩ := sE (hall 10 (by decide))
  obtain ⟨rfl, p10⟩ := j10 _ h10
  obtain ⟨v11, h11⟩ := sE (hall 11 (by decide))
  rw [h11] at hB
  have HBb3 : Hid (Blk w ub3 [(w.heap.size, arr .u64 ps, 58), (w.heap.size + 1, arr .u8 zn, 23), (g3402, (arr .u64 z3401), 56), (g3406, arr .u8 rs, 23)]) := Lib.hid hB
  have HZ5501 := Lib.hid p5
  simp only [laid, Nat.zero_add, Nat.reduceAdd, h0, h1, h2, h3, h4, h5, h6, h7, h8, h9, h10, h11, Act.put, sA, sZ, sS]
  clear j0 j1 j2 j3 j4 j5 j6 j7 j8 j9 j10 hB h0 h1 h2 h3 h4 h5 h6 h7 h8 h9 h10 h11 hall fF HB3407
  clear p0 p1 p2 p3 p4 p5 p6 p7 p8 p9 p10
  (try simp only [Exit.then])
  go_wp2_with (first | ((with_reducible refine aS 24 ?_); refine wpList_load_part rfl 23 _ rfl (g3406) (0) _ 23 (0, 0) _ (HBb3.out.get 3 rfl) rfl .u8 rs (arr_part _ _) Tryd.underlying23 rfl (num_i HRL.out) ?_) | ((with_reducible refine aT 2 (x := (Operand.tmp 24)) ?_); refine wpList_store_whole rfl 23 _ _ rfl (w.heap.size + 1) _ _ 23 (HBb3.out.get 1 rfl) rfl rfl (arr_len2 _ _ HRL.out HLzn.out) (num_s HRL.out) (all_arr _ _) ?_; intro w3408 hb3408 hk3408 hz3408; have HB3408 := Lib.hid (HBb3.out.put 1 rfl hk3408 hb3408); clear hb3408 hk3408 hz3408))
  (try simp only [Exit.then])
  refine bodyPost_ret (results_cell_row rfl _ _ (w.heap.size + 1) 23 _ (0, 0) _ rfl (HB3408.out.get 1 rfl) Tryd.underlying23 rfl (num_s HRL.out)) rfl ?_
  exact ⟨_, rfl, HRS.out, HB3408.out.below⟩
end Go.Proofs.YtanjhngehfbpbaaDoor.Sl
