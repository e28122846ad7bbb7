/- The document's nought, base, many: what they answer. Condition: rows that stand for points; the tables hold what their text lays. -/
import Derived.Test.YtanjhngehfbpbaaDoorRpA
namespace Go.Proofs.YtanjhngehfbpbaaDoor.Rd
open Go.RowKit Lm Fp Cu

set_option maxRecDepth 100000 in
set_option maxHeartbeats 4000000 in
theorem nought_any (w : World) : Calls Tryd.prog 69 #[] w fun e w' => ∃ zs, e = .returned (.agg (arr .i64 zs)) ∧ PtEl zs nought ∧ Below w.heap.size w w' := by
  obtain ⟨ze, hze⟩ : ∃ zs : List Int, zs = List.replicate 16 0 := ⟨_, rfl⟩
  have HZze : Hid (∀ w, (zeroValue 64).run Tryd.prog w = .ok (.agg (arr .i64 ze)) w) := Lib.hid (by intro w; rw [hze]; exact zero_el w)
  have HLze : Hid (ze.length = 16) := Lib.hid (by rw [hze]; rfl)
  obtain ⟨zp, hzp⟩ : ∃ zs : List Int, zs = List.replicate 64 0 := ⟨_, rfl⟩
  have HZzp : Hid (∀ w, (zeroValue 66).run Tryd.prog w = .ok (.agg (arr .i64 zp)) w) := Lib.hid (by intro w; rw [hzp]; exact zero_pt w)
  have HLzp : Hid (zp.length = 64) := Lib.hid (by rw [hzp]; rfl)
  have HEz : Hid (El ze 0) := Lib.hid (by rw [hze]; exact el_zero)
  have HBE : Hid (∀ w, (Instr.build 64 #[]).run Tryd.prog w = .ok (.agg (arr .i64 ze)) w) := Lib.hid (by intro w; rw [hze]; exact build_el0 w)
  have HS0 := Lib.hid (Blk.one w (arr .i64 zp) 66)
  clear hze hzp
  go_enter Tryd.func69, Tryd.ntmps69
  go_upto_region 1 with (first | ((with_reducible refine aS 0 ?_); refine wpList_alloc_row rfl 66 rfl _ (HZzp.out _) ?_))
  (try simp only [Act.put, sA, sZ])
  generalize (w.alloc (.cells (arr .i64 zp) 66)) = wb at HS0 ⊢
  go_wp2_with (first | ((with_reducible refine aS 1 ?_); refine wpList_build (by rfl) 64 _ rfl #[] rfl _ (HBE.out _) ?_) | ((with_reducible show Calls _ 70 #[_] _ _); go_at_call 70; refine (one_any 1 _ (by decide)).mono ?_; rintro e w301 ⟨z301, rfl, h301, hb301⟩; have HZ301 := Lib.hid h301; have HL301 := Lib.hid h301.1; clear h301; have HB301 := Lib.hid (HS0.out.kept hb301); clear hb301) | ((with_reducible show Calls _ 70 #[_] _ _); go_at_call 70; refine (one_any 1 _ (by decide)).mono ?_; rintro e w302 ⟨z302, rfl, h302, hb302⟩; have HZ302 := Lib.hid h302; have HL302 := Lib.hid h302.1; clear h302; have HB302 := Lib.hid (HB301.out.kept hb302); clear hb302) | ((with_reducible refine aS 4 ?_); refine wpList_build (by rfl) 64 _ rfl #[] rfl _ (HBE.out _) ?_) | ((with_reducible refine aS 5 ?_); obtain ⟨v303, hv303⟩ : ∃ x, x = ze ++ z301 ++ z302 ++ ze := ⟨_, rfl⟩; have HR303 : Hid (∀ w, (Instr.build 66 #[(0, .agg (arr .i64 ze)), (1, .agg (arr .i64 z301)), (2, .agg (arr .i64 z302)), (3, .agg (arr .i64 ze))]).run Tryd.prog w = .ok (.agg (arr .i64 v303)) w) := Lib.hid (fun w => by rw [hv303]; exact build_pt _ _ _ _ HLze.out HL301.out HL302.out HLze.out w); have HL303 : Hid (v303.length = 64) := Lib.hid (by rw [hv303]; exact pt_len HLze.out HL301.out HL302.out HLze.out); have HV303 := Lib.hid hv303; clear hv303; refine wpList_build (by rfl) 66 _ rfl #[(0, .agg (arr .i64 ze)), (1, .agg (arr .i64 z301)), (2, .agg (arr .i64 z302)), (3, .agg (arr .i64 ze))] rfl _ (HR303.out _) ?_) | ((with_reducible refine aT 0 (x := (Operand.tmp 5)) ?_); refine wpList_store_whole rfl 66 _ _ rfl (w.heap.size) _ _ 66 (HB302.out.get 0 rfl) rfl rfl (arr_len2 _ _ HL303.out HLzp.out) (pt_s HL303.out) (all_arr _ _) ?_; intro w304 hb304 hk304 hz304; have HB304 := Lib.hid (HB302.out.put 0 rfl hk304 hb304); clear hb304 hk304 hz304))
  (try simp only [Exit.then])
  refine bodyPost_ret (results_cell_row rfl _ _ (w.heap.size) 66 _ (0, 0) _ rfl (HB304.out.get 0 rfl) Tryd.underlying66 rfl (pt_s HL303.out)) rfl ?_
  exact ⟨_, rfl, ⟨_, _, _, _, HV303.out, HEz.out, HZ301.out, HZ302.out, HEz.out⟩, HB304.out.below⟩

set_option maxRecDepth 100000 in
set_option maxHeartbeats 4000000 in
theorem base_any (w : World) (hX : TabX w) (hY : TabY w) : Calls Tryd.prog 33 #[] w fun e w' => ∃ zs, e = .returned (.agg (arr .i64 zs)) ∧ PtEl zs base ∧ Below w.heap.size w w' := by
  obtain ⟨zp, hzp⟩ : ∃ zs : List Int, zs = List.replicate 64 0 := ⟨_, rfl⟩
  have HZzp : Hid (∀ w, (zeroValue 66).run Tryd.prog w = .ok (.agg (arr .i64 zp)) w) := Lib.hid (by intro w; rw [hzp]; exact zero_pt w)
  have HLzp : Hid (zp.length = 64) := Lib.hid (by rw [hzp]; rfl)
  obtain ⟨xl, hxl⟩ : ∃ x, x = xL := ⟨_, rfl⟩
  obtain ⟨yl, hyl⟩ : ∃ x, x = yL := ⟨_, rfl⟩
  have HXe : Hid (El xl bx) := Lib.hid (by rw [hxl]; exact xL_el)
  have HXl := Lib.hid HXe.out.1
  have HYe : Hid (El yl bY) := Lib.hid (by rw [hyl]; exact yL_el)
  have HYl := Lib.hid HYe.out.1
  unfold TabX at hX
  unfold TabY at hY
  rw [← hxl] at hX
  rw [← hyl] at hY
  have HS0 := Lib.hid (Blk.one w (arr .i64 zp) 66)
  have HTX := Lib.hid (range_below hX HS0.out.below)
  have HTY := Lib.hid (range_below hY HS0.out.below)
  have HGX : Hid (¬ 0 = w.heap.size) := Lib.hid (by rw [hxl] at hX; exact Nat.ne_of_lt (range_lt hX))
  have HGY : Hid (¬ 1 = w.heap.size) := Lib.hid (by rw [hyl] at hY; exact Nat.ne_of_lt (range_lt hY))
  clear hzp hX hY hxl hyl
  go_enter Tryd.func33, Tryd.ntmps33
  go_upto_region 1 with (first | ((with_reducible refine aS 0 ?_); refine wpList_alloc_row rfl 66 rfl _ (HZzp.out _) ?_))
  (try simp only [Act.put, sA, sZ])
  generalize (w.alloc (.cells (arr .i64 zp) 66)) = wb at HS0 HTX HTY ⊢
  have HK0 := Lib.hid ((Kept.refl (fun x => x = w.heap.size) wb).drew)
  have HBd := Lib.hid (HS0.out.drew)
  refine wp_region_held_drew (S := (fun w' => Kept (fun x => x = w.heap.size) wb w')) (by kernel_rfl) (HK0.out) (fun hHeld => ?_)
  generalize wb.drew = wd at HK0 HBd hHeld ⊢
  refine' wpAnyH_take (i := 0) (oi := (⟨some 1, _, _, _, _, none⟩ : Oper)) (v := _) rfl (by kernel_rfl) (by kernel_rfl) (by kernel_rfl) (fun _ _ _ h => h) (yieldsIf_load_mid (by rfl) _ _ rfl _ _ rfl (xl.map (Value.int .i64)) _ ?hS305 Tryd.underlying64 rfl (by rw [List.length_map]; exact el_i HXl.out)) (by assumption) ?rest305
  case hS305 => (intro w hSw; (try dsimp only at hSw); exact range_kept HTX.out (hSw) (by first | exact HGX.out | exact HGY.out))
  (try simp only [Act.put, sA, sZ, sS])
  refine' wpAnyH_take (i := 1) (oi := (⟨some 2, _, _, _, _, none⟩ : Oper)) (v := _) rfl (by kernel_rfl) (by kernel_rfl) (by kernel_rfl) (fun _ _ _ h => h) (yieldsIf_load_mid (by rfl) _ _ rfl _ _ rfl (yl.map (Value.int .i64)) _ ?hS306 Tryd.underlying64 rfl (by rw [List.length_map]; exact el_i HYl.out)) (by assumption) ?rest306
  case hS306 => (intro w hSw; (try dsimp only at hSw); exact range_kept HTY.out (hSw) (by first | exact HGX.out | exact HGY.out))
  (try simp only [Act.put, sA, sZ, sS])
  refine' wpAnyH_take (i := 3) (oi := (⟨some 4, _, _, _, _, none⟩ : Oper)) (v := _) rfl (by kernel_rfl) (by kernel_rfl) (by kernel_rfl) (fun _ _ _ h => h) (yieldsIf_load_mid (by rfl) _ _ rfl _ _ rfl (xl.map (Value.int .i64)) _ ?hS307 Tryd.underlying64 rfl (by rw [List.length_map]; exact el_i HXl.out)) (by assumption) ?rest307
  case hS307 => (intro w hSw; (try dsimp only at hSw); exact range_kept HTX.out (hSw) (by first | exact HGX.out | exact HGY.out))
  (try simp only [Act.put, sA, sZ, sS])
  refine' wpAnyH_take (i := 4) (oi := (⟨some 5, _, _, _, _, none⟩ : Oper)) (v := _) rfl (by kernel_rfl) (by kernel_rfl) (by kernel_rfl) (fun _ _ _ h => h) (yieldsIf_load_mid (by rfl) _ _ rfl _ _ rfl (yl.map (Value.int .i64)) _ ?hS308 Tryd.underlying64 rfl (by rw [List.length_map]; exact el_i HYl.out)) (by assumption) ?rest308
  case hS308 => (intro w hSw; (try dsimp only at hSw); exact range_kept HTY.out (hSw) (by first | exact HGX.out | exact HGY.out))
  (try simp only [Act.put, sA, sZ, sS])
  refine wpAnyH_ready (rs := [2]) (by kernel_rfl) (by simp) ?_
  refine AllReadyH.cons (o := (⟨some 3, _, _, _, _, none⟩ : Oper)) rfl (fun K hK => ?_) AllReadyH.nil
  go_simp
  go_at_call 70
  refine (one_any 1 _ (by decide)).mono ?_
  rintro e w309 ⟨z309, rfl, h309, hb309⟩
  have HZ309 := Lib.hid h309
  have HL309 := Lib.hid h309.1
  clear h309
  have HB309 := Lib.hid (HBd.out.kept hb309)
  have HK309 := Lib.hid (HK0.out.trans (Kept.of_below hb309))
  clear hb309
  (try dsimp only)
  refine hK.out _ _ (HK309.out) (fun hHeld => ?_)
  clear hK K
  (try simp only [Act.put, sA, sZ, sS])
  refine wpAnyH_ready (rs := [5]) (by kernel_rfl) (by simp) ?_
  refine AllReadyH.cons (o := (⟨some 6, _, _, _, _, none⟩ : Oper)) rfl (fun K hK => ?_) AllReadyH.nil
  go_simp
  go_at_call 68
  refine (mul_any _ _ _ _ _ HXe.out HYe.out).mono ?_
  rintro e w310 ⟨z310, rfl, h310, hb310⟩
  have HZ310 := Lib.hid h310
  have HL310 := Lib.hid h310.1
  clear h310
  have HB310 := Lib.hid (HB309.out.kept hb310)
  have HK310 := Lib.hid (HK309.out.trans (Kept.of_below hb310))
  clear hb310
  (try dsimp only)
  refine hK.out _ _ (HK310.out) (fun hHeld => ?_)
  clear hK K
  (try simp only [Act.put, sA, sZ, sS])
  obtain ⟨v312, hv312⟩ : ∃ x, x = xl ++ yl ++ z309 ++ z310 := ⟨_, rfl⟩
  have HR312 : Hid (∀ w, (Instr.build 66 #[(0, .agg (arr .i64 xl)), (1, .agg (arr .i64 yl)), (2, .agg (arr .i64 z309)), (3, .agg (arr .i64 z310))]).run Tryd.prog w = .ok (.agg (arr .i64 v312)) w) := Lib.hid (fun w => by rw [hv312]; exact build_pt _ _ _ _ HXl.out HYl.out HL309.out HL310.out w)
  have HL312 : Hid (v312.length = 64) := Lib.hid (by rw [hv312]; exact pt_len HXl.out HYl.out HL309.out HL310.out)
  have HV312 := Lib.hid hv312
  clear hv312
  refine wpAnyH_take (i := 6) (oi := (⟨some 7, _, _, _, _, none⟩ : Oper)) (v := (.agg (arr .i64 v312))) rfl (by kernel_rfl) (by kernel_rfl) (by kernel_rfl) (fun _ _ _ h => h) (Or.inl ⟨by rfl, ?hy311⟩) (by assumption) ?rest311
  case hy311 => (intro w hSw; (try dsimp only at hSw); exact exec_build 66 _ rfl #[(0, .agg (arr .i64 xl)), (1, .agg (arr .i64 yl)), (2, .agg (arr .i64 z309)), (3, .agg (arr .i64 z310))] rfl _ (HR312.out _))
  (try simp only [Act.put, sA, sZ, sS])
  refine wpAnyH_ready (rs := [7]) (by kernel_rfl) (by simp) ?_
  refine AllReadyH.cons (o := (⟨none, _, _, _, _, none⟩ : Oper)) rfl (fun K hK => ?_) AllReadyH.nil
  refine step_store_whole rfl 66 (.tmp 0) (.tmp 7) rfl (w.heap.size) _ _ _ (HB310.out.get 0 rfl) rfl rfl (arr_len2 _ _ HL312.out HLzp.out) (pt_s HL312.out) (all_arr _ _) ?_
  intro w313 hb313 hk313 hz313
  have HB313 := Lib.hid (HB310.out.put 0 rfl hk313 hb313)
  have HK313 := Lib.hid (HK310.out.trans hk313)
  clear hb313 hk313 hz313
  refine hK.out _ _ (HK313.out) (fun hHeld => ?_)
  clear hK K
  (try simp only [Act.put])
  refine wpAnyH_done (by kernel_rfl) ?_ _
  have HBF := HB313
  have HWF := HL312
  have HF0 := HV312
  have HF1 := HXe
  have HF2 := HYe
  have HF3 := HZ309
  have HF4 := HZ310
  (try simp only [Exit.then])
  go_wp2_with fail
  refine bodyPost_ret (results_cell_row rfl _ _ (w.heap.size) 66 _ (0, 0) _ rfl (HBF.out.get 0 rfl) Tryd.underlying66 rfl (pt_s HWF.out)) rfl ?_
  exact ⟨_, rfl, ⟨_, _, _, _, HF0.out, HF1.out, HF2.out, HF3.out, HF4.out⟩, HBF.out.below⟩

theorem mul_next (P : Pt) (k n : Nat) : emul P k (n + 1) = if k / 2 ^ (255 - n) % 2 = 1 then eadd (eadd (emul P k n) (emul P k n)) P else eadd (emul P k n) (emul P k n) := rfl
set_option maxRecDepth 100000 in
set_option maxHeartbeats 4000000 in
theorem many_any (ps : List Int) (P : Pt) (v : Nat) (w : World) (hp : PtEl ps P) (hT : TabD w) :
    Calls Tryd.prog 32 #[.agg (arr .i64 ps), .agg (arr .u8 (nar (dig 256 32 v)))] w fun e w' => ∃ zs, e = .returned (.agg (arr .i64 zs)) ∧ PtEl zs (emul P v 256) ∧ Below w.heap.size w w' := by
  obtain ⟨zp, hzp⟩ : ∃ zs : List Int, zs = List.replicate 64 0 := ⟨_, rfl⟩
  have HZzp : Hid (∀ w, (zeroValue 66).run Tryd.prog w = .ok (.agg (arr .i64 zp)) w) := Lib.hid (by intro w; rw [hzp]; exact zero_pt w)
  have HLzp : Hid (zp.length = 64) := Lib.hid (by rw [hzp]; rfl)
  obtain ⟨es, hes⟩ : ∃ x, x = nar (dig 256 32 v) := ⟨_, rfl⟩
  rw [← hes]
  have HES := Lib.hid hes
  have HEL : Hid (es.length = 32) := Lib.hid (by rw [hes, nar_len, dig_len])
  have HX := Lib.hid hp
  have HXL := Lib.hid hp.len
  have HT := Lib.hid hT
  have HS0 := Lib.hid (Blk.three w (arr .i64 ps) (arr .u8 es) (arr .i64 zp) 66 23 66)
  clear hzp hes hp hT
  go_enter Tryd.func32, Tryd.ntmps32
  go_wp2_with (first | ((with_reducible refine aS 4 ?_); refine wpList_alloc_row rfl 66 rfl _ (HZzp.out _) ?_) | ((with_reducible show Calls _ _ #[] _ _); go_at_call 69; refine (nought_any _).mono ?_; rintro e w1 ⟨z1, rfl, h1, hb1⟩; have HZ1 := Lib.hid h1; have HL1 := Lib.hid h1.len; have HB1 := Lib.hid (HS0.out.kept hb1); clear h1 hb1) | ((with_reducible refine aS 5 ?_); refine wpList_alloc_row rfl 66 rfl _ (HZzp.out _) ?_; have HB2 := Lib.hid (HB1.out.alloc (arr .i64 zp) 66); generalize w1.heap.size = gx at HB2 ⊢) | ((with_reducible refine aT 5 ?_); refine wpList_store_whole rfl 66 _ _ rfl (gx) _ _ 66 (HB2.out.get 3 rfl) rfl rfl (arr_len2 _ _ HL1.out HLzp.out) (pt_s HL1.out) (all_arr _ _) ?_; intro w3 hb3 hk3 hz3; have HB3 := Lib.hid (HB2.out.put 3 rfl hk3 hb3); clear hb3 hk3 hz3))
  go_loopw [6] (fun v' wr => ∃ n : Nat, n ≤ 256 ∧ v' = .int .i64 (255 - (n : Int)) ∧ ∃ cs : List Int, PtEl cs (emul P v n) ∧ Blk w wr [(w.heap.size, arr .i64 ps, 66), (w.heap.size + 1, arr .u8 es, 23), (w.heap.size + 1 + 1, arr .i64 zp, 66), (gx, arr .i64 cs, 66)]) (fun v' _ => (intOf v' + 1).toNat)
  case atStart => exact ⟨0, Nat.zero_le _, rfl, _, HZ1.out, HB3.out⟩
  clear HS0 HB1 HB2 HB3
  case round =>
  obtain ⟨n, hn, rfl, cs, hcs, hB⟩ := hrel
  by_cases hlt : n < 256
  · obtain ⟨i, hi⟩ : ∃ i : Nat, i + n = 255 := ⟨255 - n, by omega⟩
    have hz : (255 : Int) - (n : Int) = (i : Int) := by omega
    have hi2 : i < 256 := by omega
    obtain ⟨y, hy, hy2, hbit⟩ := code_bit es v i HES.out hi2
    have hpn := mul_next P v n
    rw [show 255 - n = i by omega] at hpn
    rw [hz]
    have HCS := Lib.hid hcs
    have HCL := Lib.hid hcs.len
    have HB := Lib.hid hB
    have HI := Lib.hid hi
    have HY := Lib.hid hy
    clear hcs hB hy hz hi
    have q9 : 0 ≤ (i : Int) := by omega
    rcases (show v / 2 ^ i % 2 = 0 ∨ v / 2 ^ i % 2 = 1 by omega) with hb | hb
    · rw [hb] at hbit
      rw [if_neg (by omega)] at hpn
      have hbit0 : bits .and .u8 ((y : Int) / 2 ^ (i % 8)) 1 = 0 := hbit
      have HPN := Lib.hid hpn
      clear hpn hb hbit
      go_wp2_with (first | ((with_reducible refine aS 12 ?_); refine wpList_load_part rfl 66 _ rfl (gx) 0 _ 66 (0, 0) _ (HB.out.get 3 rfl) rfl .i64 cs (arr_part _ _) Tryd.underlying66 rfl (pt_i HCL.out) ?_) | ((with_reducible refine aS 13 ?_); refine wpList_load_part rfl 66 _ rfl (gx) 0 _ 66 (0, 0) _ (HB.out.get 3 rfl) rfl .i64 cs (arr_part _ _) Tryd.underlying66 rfl (pt_i HCL.out) ?_) | ((with_reducible show Calls _ _ #[.agg (arr _ cs), .agg (arr _ cs)] _ _); go_at_call 45; refine (sum_any _ _ _ _ _ HCS.out HCS.out (range_below HT.out HB.out.below)).mono ?_; rintro e w5 ⟨z5, rfl, h5, hb5⟩; have HZ5 := Lib.hid h5; have HL5 := Lib.hid h5.len; have HB5 := Lib.hid (HB.out.kept hb5); clear h5 hb5) | ((with_reducible refine aT 5 ?_); refine wpList_store_whole rfl 66 _ _ rfl (gx) _ _ 66 (HB5.out.get 3 rfl) rfl rfl (arr_len2 _ _ HL5.out HCL.out) (pt_s HL5.out) (all_arr _ _) ?_; intro w6 hb6 hk6 hz6; have HB6 := Lib.hid (HB5.out.put 3 rfl hk6 hb6); have q1 := arr_get' (HB6.out.get 1 rfl) (i / 8) (by rw [HEL.out]; omega); rw [HY.out] at q1; clear hb6 hk6 hz6))
      go_roundw
      case rel =>
        have e := HI.out
        exact ⟨n + 1, by omega, by congr 1; omega, _, by rw [HPN.out]; exact HZ5.out, HB6.out⟩
      case measure => simp [intOf]
    · rw [if_pos hb] at hpn
      rw [hb] at hbit
      have hbit1 : bits .and .u8 ((y : Int) / 2 ^ (i % 8)) 1 = 1 := hbit
      have HPN := Lib.hid hpn
      clear hpn hb hbit
      go_wp2_with (first | ((with_reducible refine aS 12 ?_); refine wpList_load_part rfl 66 _ rfl (gx) 0 _ 66 (0, 0) _ (HB.out.get 3 rfl) rfl .i64 cs (arr_part _ _) Tryd.underlying66 rfl (pt_i HCL.out) ?_) | ((with_reducible refine aS 13 ?_); refine wpList_load_part rfl 66 _ rfl (gx) 0 _ 66 (0, 0) _ (HB.out.get 3 rfl) rfl .i64 cs (arr_part _ _) Tryd.underlying66 rfl (pt_i HCL.out) ?_) | ((with_reducible show Calls _ _ #[.agg (arr _ cs), .agg (arr _ cs)] _ _); go_at_call 45; refine (sum_any _ _ _ _ _ HCS.out HCS.out (range_below HT.out HB.out.below)).mono ?_; rintro e w5 ⟨z5, rfl, h5, hb5⟩; have HZ5 := Lib.hid h5; have HL5 := Lib.hid h5.len; have HB5 := Lib.hid (HB.out.kept hb5); clear h5 hb5) | (with_reducible refine aT 5 (x := (Operand.tmp 14)) ?_); ((with_reducible refine aT 5 ?_); refine wpList_store_whole rfl 66 _ _ rfl (gx) _ _ 66 (HB5.out.get 3 rfl) rfl rfl (arr_len2 _ _ HL5.out HCL.out) (pt_s HL5.out) (all_arr _ _) ?_; intro w6 hb6 hk6 hz6; have HB6 := Lib.hid (HB5.out.put 3 rfl hk6 hb6); have q1 := arr_get' (HB6.out.get 1 rfl) (i / 8) (by rw [HEL.out]; omega); rw [HY.out] at q1; clear hb6 hk6 hz6) | ((with_reducible refine aS 25 ?_); refine wpList_load_part rfl 66 _ rfl (gx) 0 _ 66 (0, 0) _ (HB6.out.get 3 rfl) rfl .i64 z5 (arr_part _ _) Tryd.underlying66 rfl (pt_i HL5.out) ?_) | ((with_reducible refine aS 26 ?_); refine wpList_load_part rfl 66 _ rfl (w.heap.size) 0 _ 66 (0, 0) _ (HB6.out.get 0 rfl) rfl .i64 ps (arr_part _ _) Tryd.underlying66 rfl (pt_i HXL.out) ?_) | ((with_reducible show Calls _ _ #[.agg (arr _ z5), .agg (arr _ ps)] _ _); go_at_call 45; refine (sum_any _ _ _ _ _ HZ5.out HX.out (range_below HT.out HB6.out.below)).mono ?_; rintro e w7 ⟨z7, rfl, h7, hb7⟩; have HZ7 := Lib.hid h7; have HL7 := Lib.hid h7.len; have HB7 := Lib.hid (HB6.out.kept hb7); clear h7 hb7) | (with_reducible refine aT 5 (x := (Operand.tmp 27)) ?_); ((with_reducible refine aT 5 ?_); refine wpList_store_whole rfl 66 _ _ rfl (gx) _ _ 66 (HB7.out.get 3 rfl) rfl rfl (arr_len2 _ _ HL7.out HL5.out) (pt_s HL7.out) (all_arr _ _) ?_; intro w8 hb8 hk8 hz8; have HB8 := Lib.hid (HB7.out.put 3 rfl hk8 hb8); clear hb8 hk8 hz8))
      go_roundw
      case rel =>
        have e := HI.out
        exact ⟨n + 1, by omega, by congr 1; omega, _, by rw [HPN.out]; exact HZ7.out, HB8.out⟩
      case measure => simp [intOf]
  · obtain rfl : n = 256 := by omega
    have hz : (255 : Int) - ((256 : Nat) : Int) = -1 := by omega
    rw [hz]
    have HCS := Lib.hid hcs
    have HCL := Lib.hid hcs.len
    have HB := Lib.hid hB
    clear hcs hB hz
    go_wp2_with (first | ((with_reducible refine aS 28 ?_); refine wpList_load_part rfl 66 _ rfl (gx) 0 _ 66 (0, 0) _ (HB.out.get 3 rfl) rfl .i64 cs (arr_part _ _) Tryd.underlying66 rfl (pt_i HCL.out) ?_) | ((with_reducible refine aT 4 ?_); refine wpList_store_whole rfl 66 _ _ rfl (w.heap.size + 1 + 1) _ _ 66 (HB.out.get 2 rfl) rfl rfl (arr_len2 _ _ HCL.out HLzp.out) (pt_s HCL.out) (all_arr _ _) ?_; intro w8 hb8 hk8 hz8; have HB8 := Lib.hid (HB.out.put 2 rfl hk8 hb8); clear hb8 hk8 hz8))
    (try simp only [Exit.inBlock, Exit.then])
    refine bodyPost_ret (results_cell_row rfl _ _ (w.heap.size + 1 + 1) 66 _ (0, 0) _ rfl (HB8.out.get 2 rfl) Tryd.underlying66 rfl (pt_s HCL.out)) rfl ?_
    exact ⟨_, rfl, HCS.out, HB8.out.below⟩
end Go.Proofs.YtanjhngehfbpbaaDoor.Rd
