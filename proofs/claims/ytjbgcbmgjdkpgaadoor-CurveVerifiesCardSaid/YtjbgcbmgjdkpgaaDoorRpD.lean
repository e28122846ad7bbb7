/- The document's read, May: what they answer. Condition: 32 bytes; the tables hold what their text lays. -/
import Derived.Test.YtjbgcbmgjdkpgaaDoorRpC
namespace Go.Proofs.YtjbgcbmgjdkpgaaDoor.Rd
open Go.RowKit Lm Fp Cu


theorem build_num0 (w : World) : (Instr.build 23 #[]).run Tryd.prog w = .ok (.agg (arr .u8 (List.replicate 32 0))) w := by kernel_rfl
theorem and127 (t : Nat) (h : t < 256) : bits .and .u8 (t : Int) 127 = ((t % 128 : Nat) : Int) := by
  have e : t &&& 127 = t % 128 := Nat.and_two_pow_sub_one_eq_mod t 7
  have h1 : (BitVec.ofInt 8 (t : Int)).toNat = t := by rw [BitVec.ofInt_natCast, BitVec.toNat_ofNat]; exact Nat.mod_eq_of_lt (by omega)
  have h2 : (BitVec.ofInt 8 (127 : Int)).toNat = 127 := by decide
  show IntKind.u8.wrap ((BitVec.ofInt 8 (t : Int) &&& BitVec.ofInt 8 (127 : Int)).toNat : Int) = _
  rw [BitVec.toNat_and, h1, h2, e, IntKind.wrap_u8]
  omega
theorem dig32_inj {a b : Nat} (ha : a < 256 ^ 32) (hb : b < 256 ^ 32) : (nar (dig 256 32 a) == nar (dig 256 32 b)) = decide (a = b) := by
  by_cases e : a = b
  · subst e; simp
  · rw [decide_eq_false e, beq_eq_false_iff_ne]
    intro h
    have h3 : dig 256 32 a = dig 256 32 b := by
      have := congrArg (List.map Int.toNat) h
      have e : ∀ l : List Nat, (nar l).map Int.toNat = l := fun l => by rw [nar, List.map_map]; exact List.map_id l
      rwa [e, e] at this
    have h4 := congrArg (val 256) h3
    rw [val32 a ha, val32 b hb] at h4
    exact e h4
theorem zero_dig : (List.replicate 32 0 : List Int) = nar (dig 256 32 0) := by decide +kernel

set_option maxRecDepth 100000 in
set_option maxHeartbeats 16000000 in
theorem read_any (v : Nat) (w : World) (hv : v < 2 ^ 256) (hTd : TabD w) (hTi : TabI w) :
    Calls Tryd.prog 31 #[.agg (arr .u8 (nar (dig 256 32 v)))] w fun e w' => ∃ zs, e = .returned (.tuple #[.agg (arr .i64 zs), .bool (eread v).isSome]) ∧ zs.length = 64 ∧ (∀ P, eread v = some P → PtEl zs P) ∧ Below w.heap.size w w' := by
  obtain ⟨y, hy⟩ : ∃ y, y = v % 2 ^ 255 := ⟨_, rfl⟩
  obtain ⟨b, hb⟩ : ∃ b, b = v / 2 ^ 255 := ⟨_, rfl⟩
  have hy2 : y < 2 ^ 255 := by rw [hy]; exact Nat.mod_lt _ (by decide)
  have hy32 : y < 256 ^ 32 := Nat.lt_of_lt_of_le hy2 (by decide)
  obtain ⟨t1, t2⟩ := top_byte256 v hv
  have hds := dec_set v hv
  have htb := top_bit v
  have hb2 : b ≤ 1 := by
    rw [hb]
    have : v / 2 ^ 255 < 2 := Nat.div_lt_of_lt_mul (by rw [← Nat.pow_succ]; exact hv)
    omega
  rw [← hy] at hds
  rw [← hb] at htb
  generalize v / 256 ^ 31 = t at t1 t2 hds htb
  have hbt : (t : Int) / 128 = (b : Int) := by omega
  have ha := and127 t t2
  have hE1 := eread_none_big v
  have hE2 := eread_none_root v
  have hE3 := eread_none_zero v
  have hE4 := fun r h1 h2 h3 h4 => eread_some v r hv h1 h2 h3 h4
  rw [← hy] at hE1 hE2 hE3 hE4
  rw [← hb] at hE3 hE4
  obtain ⟨ev, hev⟩ : ∃ e, e = eread v := ⟨_, rfl⟩
  rw [← hev] at hE1 hE2 hE3 hE4 ⊢
  obtain ⟨ns, hns⟩ : ∃ x, x = nar (dig 256 32 v) := ⟨_, rfl⟩
  have HNL : Hid (ns.length = 32) := Lib.hid (by rw [hns, nar_len, dig_len])
  have g31 : ns.getD 31 0 = (t : Int) := by rw [hns, nar_get, t1]
  have hn2 : ns.set 31 ((t % 128 : Nat) : Int) = nar (dig 256 32 y) := by rw [hns, ← nar_set, hds]
  rw [← hns]
  have hin := fun w => in_num y w hy32
  have hca := fun w => canon_any y w hy32
  have hne : (!(nar (dig 256 32 (y % p)) == nar (dig 256 32 y))) = decide (¬ y < p) := by
    rw [dig32_inj (Nat.lt_trans (Nat.mod_lt _ p_pos) p_lt32) hy32]
    by_cases h : y < p
    · rw [Nat.mod_eq_of_lt h]; simp [h]
    · have : ¬ y % p = y := by have := Nat.mod_lt y p_pos; omega
      simp [this, h]
  have HY2 := Lib.hid hy2
  obtain ⟨ms, hms⟩ : ∃ x, x = nar (dig 256 32 y) := ⟨_, rfl⟩
  have HML : Hid (ms.length = 32) := Lib.hid (by rw [hms, nar_len, dig_len])
  obtain ⟨ks, hks⟩ : ∃ x, x = nar (dig 256 32 (y % p)) := ⟨_, rfl⟩
  have HKL : Hid (ks.length = 32) := Lib.hid (by rw [hks, nar_len, dig_len])
  rw [← hms] at hin hca hn2 hne
  rw [← hks] at hca hne
  have HIN := Lib.hid hin
  have HCA := Lib.hid hca
  have HNE := Lib.hid hne
  have HA := Lib.hid ha
  have HBT := Lib.hid hbt
  have HE1 := Lib.hid hE1
  have HE2 := Lib.hid hE2
  have HE3 := Lib.hid hE3
  have HE4 := Lib.hid hE4
  have HB2 := Lib.hid hb2
  obtain ⟨dl, hdl⟩ : ∃ x, x = dL := ⟨_, rfl⟩
  have HD : Hid (El dl dd) := Lib.hid (by rw [hdl]; exact dL_el)
  have HDL := Lib.hid HD.out.1
  have HTI := Lib.hid hTi
  unfold TabD at hTd
  rw [← hdl] at hTd
  have HTD := Lib.hid hTd
  obtain ⟨ze, hze⟩ : ∃ zs : List Int, zs = List.replicate 16 0 := ⟨_, rfl⟩
  have HZze : Hid (∀ w, (zeroValue 63).run Tryd.prog w = .ok (.agg (arr .i64 ze)) w) := Lib.hid (by intro w; rw [hze]; exact zero_el w)
  have HLze : Hid (ze.length = 16) := Lib.hid (by rw [hze]; rfl)
  obtain ⟨zn, hzn⟩ : ∃ zs : List Int, zs = List.replicate 32 0 := ⟨_, rfl⟩
  have HZzn : Hid (∀ w, (zeroValue 23).run Tryd.prog w = .ok (.agg (arr .u8 zn)) w) := Lib.hid (by intro w; rw [hzn]; exact zero_num w)
  have HLzn : Hid (zn.length = 32) := Lib.hid (by rw [hzn]; rfl)
  obtain ⟨zp, hzp⟩ : ∃ zs : List Int, zs = List.replicate 64 0 := ⟨_, rfl⟩
  have HZzp : Hid (∀ w, (zeroValue 65).run Tryd.prog w = .ok (.agg (arr .i64 zp)) w) := Lib.hid (by intro w; rw [hzp]; exact zero_pt w)
  have HLzp : Hid (zp.length = 64) := Lib.hid (by rw [hzp]; rfl)
  have HEz : Hid (El ze 0) := Lib.hid (by rw [hze]; exact el_zero)
  have HNz : Hid (zn = nar (dig 256 32 0)) := Lib.hid (by rw [hzn]; exact zero_dig)
  have HBE : Hid (∀ w, (Instr.build 63 #[]).run Tryd.prog w = .ok (.agg (arr .i64 ze)) w) := Lib.hid (by intro w; rw [hze]; exact build_el0 w)
  have HBP : Hid (∀ w, (Instr.build 65 #[]).run Tryd.prog w = .ok (.agg (arr .i64 zp)) w) := Lib.hid (by intro w; rw [hzp]; exact build_pt0 w)
  have HBN : Hid (∀ w, (Instr.build 23 #[]).run Tryd.prog w = .ok (.agg (arr .u8 zn)) w) := Lib.hid (by intro w; rw [hzn]; exact build_num0 w)
  have hS0 := Blk.two w (arr .u8 ns) (arr .i64 zp) 23 65
  have q0 := arr_get' (hS0.get 0 rfl) 31 (by rw [HNL.out]; decide)
  have q1 := free_blk (hS0.get 0 rfl) 31
  rw [g31] at q0
  have e2 : (arr .u8 ns).setIfInBounds 31 (.int .u8 (bits .and .u8 (t : Int) 127)) = arr .u8 ms := by rw [HA.out, arr_set, hn2]
  have HS1 := Lib.hid ((Blk.two w ((arr .u8 ns).setIfInBounds 31 (.int .u8 (bits .and .u8 (t : Int) 127))) (arr .i64 zp) 23 65).cast (l' := [(w.heap.size, arr .u8 ms, 23), (w.heap.size + 1, arr .i64 zp, 65)]) (by rw [e2]))
  clear hze hzn hzp hdl hTd hTi hin hca hne ha hbt hE1 hE2 hE3 hE4 hb2 hy hb hy2 hy32 t1 hds htb hev hns g31 hn2 hms hks hS0 e2
  go_enter Tryd.func31, Tryd.ntmps31
  go_upto_region 3 with (first | ((with_reducible refine aS 2 ?_); refine wpList_alloc_row rfl 65 rfl _ (HZzp.out _) ?_))
  rw [HBT.out]
  generalize ((w.alloc (.cells ((arr .u8 ns).setIfInBounds 31 (.int .u8 (bits .and .u8 (t : Int) 127))) 23)).alloc (.cells (arr .i64 zp) 65)) = wb at HS1 ⊢
  by_cases hyp : y < p
  rotate_left
  · have hn := HNE.out
    rw [decide_eq_true hyp] at hn
    have HNB := Lib.hid hn
    clear hn
    have HK0 := Lib.hid ((Kept.refl (fun _ => False) wb).drew)
    have HBd := Lib.hid (HS1.out.drew)
    refine wp_region_held_drew (S := (fun w' => Kept (fun _ => False) wb w')) (by kernel_rfl) (HK0.out) (fun hHeld => ?_)
    generalize wb.drew = wd at HK0 HBd hHeld ⊢
    refine' wpAnyH_take (i := 0) (oi := (⟨some 17, _, _, _, _, none⟩ : Oper)) (v := _) rfl (by kernel_rfl) (by kernel_rfl) (by kernel_rfl) (fun _ _ _ h => h) (yieldsIf_load_mid (by rfl) _ _ rfl _ _ rfl (ms.map (Value.int .u8)) _ ?hS701 Tryd.underlying23 rfl (by rw [List.length_map]; exact num_i HML.out)) (by assumption) ?rest701
    case hS701 => (intro w hSw; (try dsimp only at hSw); exact range_part (hSw.blk (HS1.out.get 0 rfl) (fun e => e.elim)) 0 _ (by rw [List.length_map]; exact arr_part _ _))
    (try simp only [Act.put, sA, sZ, sS])
    refine' wpAnyH_take (i := 2) (oi := (⟨some 19, _, _, _, _, none⟩ : Oper)) (v := _) rfl (by kernel_rfl) (by kernel_rfl) (by kernel_rfl) (fun _ _ _ h => h) (yieldsIf_load_mid (by rfl) _ _ rfl _ _ rfl (ms.map (Value.int .u8)) _ ?hS702 Tryd.underlying23 rfl (by rw [List.length_map]; exact num_i HML.out)) (by assumption) ?rest702
    case hS702 => (intro w hSw; (try dsimp only at hSw); exact range_part (hSw.blk (HS1.out.get 0 rfl) (fun e => e.elim)) 0 _ (by rw [List.length_map]; exact arr_part _ _))
    (try simp only [Act.put, sA, sZ, sS])
    refine wpAnyH_ready (rs := [1]) (by kernel_rfl) (by simp) ?_
    refine AllReadyH.cons (o := (⟨some 18, _, _, _, _, none⟩ : Oper)) rfl (fun K hK => ?_) AllReadyH.nil
    go_simp
    go_at_call 69
    refine (HCA.out _).mono ?_
    rintro e w703 ⟨rfl, hb703⟩
    have HB703 := Lib.hid (HBd.out.kept hb703)
    have HK703 := Lib.hid (HK0.out.trans (Kept.of_below hb703))
    clear hb703
    (try dsimp only)
    clear HBd
    clear HK0
    clear hHeld
    refine hK.out _ _ (HK703.out) (fun hHeld => ?_)
    clear hK K
    (try simp only [Act.put, sA, sZ, sS])
    refine wpAnyH_take (i := 3) (oi := (⟨some 20, _, _, _, _, none⟩ : Oper)) (v := (.bool true)) rfl (by kernel_rfl) (by kernel_rfl) (by kernel_rfl) (fun _ _ _ h => h) (Or.inl ⟨by rfl, ?hy704⟩) (by assumption) ?rest704
    case hy704 => (intro w hSw; (try dsimp only at hSw); exact exec_neq_arr 23 _ _ (.tmp 18) (.tmp 19) rfl 32 .u8 .u8 Tryd.underlying23 Tryd.underlying5 (fun w => by kernel_rfl) (by kernel_rfl) ks ms rfl rfl HKL.out HML.out _ HNB.out)
    (try simp only [Act.put, sA, sZ, sS])
    refine wpAnyH_done (by kernel_rfl) ?_ _
    have HBF := HB703
    clear HS1
    (try simp only [Exit.then])
    go_wp2_with (first | ((with_reducible refine aS 21 ?_); refine wpList_build (by rfl) 65 _ rfl #[] rfl _ (HBP.out _) ?_) | ((with_reducible refine aT 2 ?_); refine wpList_store_whole rfl 65 _ _ rfl (w.heap.size + 1) _ _ 65 (HBF.out.get 1 rfl) rfl rfl (arr_len2 _ _ HLzp.out HLzp.out) (pt_s HLzp.out) (all_arr _ _) ?_; intro w99 hb99 hk99 hz99; have HBZ := Lib.hid (HBF.out.put 1 rfl hk99 hb99); clear hb99 hk99 hz99))
    (try simp only [Exit.then])
    refine bodyPost_ret (results_cell_tmp_row rfl _ _ (w.heap.size + 1) 65 _ (0, 0) _ _ rfl (HBZ.out.get 1 rfl) Tryd.underlying65 rfl (pt_s HLzp.out) rfl) rfl ?_
    have hev := HE1.out hyp
    exact ⟨zp, by rw [hev]; rfl, HLzp.out, (fun P h => by rw [hev] at h; cases h), HBZ.out.below⟩
  · have hn := HNE.out
    rw [decide_eq_false (fun h => h hyp)] at hn
    have HNB := Lib.hid hn
    clear hn
    have HK0 := Lib.hid ((Kept.refl (fun _ => False) wb).drew)
    have HBd := Lib.hid (HS1.out.drew)
    refine wp_region_held_drew (S := (fun w' => Kept (fun _ => False) wb w')) (by kernel_rfl) (HK0.out) (fun hHeld => ?_)
    generalize wb.drew = wd at HK0 HBd hHeld ⊢
    refine' wpAnyH_take (i := 0) (oi := (⟨some 17, _, _, _, _, none⟩ : Oper)) (v := _) rfl (by kernel_rfl) (by kernel_rfl) (by kernel_rfl) (fun _ _ _ h => h) (yieldsIf_load_mid (by rfl) _ _ rfl _ _ rfl (ms.map (Value.int .u8)) _ ?hS705 Tryd.underlying23 rfl (by rw [List.length_map]; exact num_i HML.out)) (by assumption) ?rest705
    case hS705 => (intro w hSw; (try dsimp only at hSw); exact range_part (hSw.blk (HS1.out.get 0 rfl) (fun e => e.elim)) 0 _ (by rw [List.length_map]; exact arr_part _ _))
    (try simp only [Act.put, sA, sZ, sS])
    refine' wpAnyH_take (i := 2) (oi := (⟨some 19, _, _, _, _, none⟩ : Oper)) (v := _) rfl (by kernel_rfl) (by kernel_rfl) (by kernel_rfl) (fun _ _ _ h => h) (yieldsIf_load_mid (by rfl) _ _ rfl _ _ rfl (ms.map (Value.int .u8)) _ ?hS706 Tryd.underlying23 rfl (by rw [List.length_map]; exact num_i HML.out)) (by assumption) ?rest706
    case hS706 => (intro w hSw; (try dsimp only at hSw); exact range_part (hSw.blk (HS1.out.get 0 rfl) (fun e => e.elim)) 0 _ (by rw [List.length_map]; exact arr_part _ _))
    (try simp only [Act.put, sA, sZ, sS])
    refine wpAnyH_ready (rs := [1]) (by kernel_rfl) (by simp) ?_
    refine AllReadyH.cons (o := (⟨some 18, _, _, _, _, none⟩ : Oper)) rfl (fun K hK => ?_) AllReadyH.nil
    go_simp
    go_at_call 69
    refine (HCA.out _).mono ?_
    rintro e w707 ⟨rfl, hb707⟩
    have HB707 := Lib.hid (HBd.out.kept hb707)
    have HK707 := Lib.hid (HK0.out.trans (Kept.of_below hb707))
    clear hb707
    (try dsimp only)
    clear HBd
    clear HK0
    clear hHeld
    refine hK.out _ _ (HK707.out) (fun hHeld => ?_)
    clear hK K
    (try simp only [Act.put, sA, sZ, sS])
    refine wpAnyH_take (i := 3) (oi := (⟨some 20, _, _, _, _, none⟩ : Oper)) (v := (.bool false)) rfl (by kernel_rfl) (by kernel_rfl) (by kernel_rfl) (fun _ _ _ h => h) (Or.inl ⟨by rfl, ?hy708⟩) (by assumption) ?rest708
    case hy708 => (intro w hSw; (try dsimp only at hSw); exact exec_neq_arr 23 _ _ (.tmp 18) (.tmp 19) rfl 32 .u8 .u8 Tryd.underlying23 Tryd.underlying5 (fun w => by kernel_rfl) (by kernel_rfl) ks ms rfl rfl HKL.out HML.out _ HNB.out)
    (try simp only [Act.put, sA, sZ, sS])
    refine wpAnyH_done (by kernel_rfl) ?_ _
    have HBF := HB707
    clear HS1
    (try simp only [Exit.then])
    have hin2 := HIN.out
    rw [Nat.mod_eq_of_lt hyp] at hin2
    have HINy := Lib.hid hin2
    clear hin2
    have hbf := HBF.out
    have HBF' := Lib.hid hbf
    clear hbf
    go_upto_region 7 with (first | ((with_reducible refine aS 22 ?_); refine wpList_load_part rfl 23 _ rfl (w.heap.size) (0) _ 23 (0, 0) _ (HBF'.out.get 0 rfl) rfl .u8 ms (arr_part _ _) Tryd.underlying23 rfl (num_i HML.out) ?_) | ((with_reducible show Calls _ 70 #[.agg _] _ _); go_at_call 70; refine (HINy.out _).mono ?_; rintro e w709 ⟨z709, rfl, h709, hb709⟩; have HZ709 := Lib.hid h709; have HL709 := Lib.hid h709.1; clear h709; have HB709 := Lib.hid (HBF'.out.kept hb709); clear hb709) | ((with_reducible refine aS 5 ?_); refine wpList_alloc_row rfl 63 rfl _ (HZze.out _) ?_; have HB710 := Lib.hid (HB709.out.alloc (arr .i64 ze) 63); generalize w709.heap.size = g710 at HB710 ⊢; generalize w709.alloc (.cells (arr .i64 ze) 63) = w710 at HB710 ⊢; clear HB709) | ((with_reducible refine aT 5 (x := (Operand.tmp 23)) ?_); refine wpList_store_whole rfl 63 _ _ rfl (g710) _ _ 63 (HB710.out.get 2 rfl) rfl rfl (arr_len2 _ _ HL709.out HLze.out) (el_s HL709.out) (all_arr _ _) ?_; intro w711 hb711 hk711 hz711; have HB711 := Lib.hid (HB710.out.put 2 rfl hk711 hb711); clear hb711 hk711 hz711; clear HB710) | ((with_reducible refine aS 24 ?_); refine wpList_load_part rfl 63 _ rfl (g710) (0) _ 63 (0, 0) _ (HB711.out.get 2 rfl) rfl .i64 z709 (arr_part _ _) Tryd.underlying63 rfl (el_i HL709.out) ?_) | ((with_reducible refine aS 25 ?_); refine wpList_load_part rfl 63 _ rfl (g710) (0) _ 63 (0, 0) _ (HB711.out.get 2 rfl) rfl .i64 z709 (arr_part _ _) Tryd.underlying63 rfl (el_i HL709.out) ?_) | ((with_reducible show Calls _ 71 #[.agg _, .agg _] _ _); go_at_call 71; refine (mul_any _ _ _ _ _ HZ709.out HZ709.out).mono ?_; rintro e w712 ⟨z712, rfl, h712, hb712⟩; have HZ712 := Lib.hid h712; have HL712 := Lib.hid h712.1; clear h712; have HB712 := Lib.hid (HB711.out.kept hb712); clear hb712; clear HB711) | ((with_reducible refine aS 6 ?_); refine wpList_alloc_row rfl 63 rfl _ (HZze.out _) ?_; have HB713 := Lib.hid (HB712.out.alloc (arr .i64 ze) 63); generalize w712.heap.size = g713 at HB713 ⊢; generalize w712.alloc (.cells (arr .i64 ze) 63) = w713 at HB713 ⊢; clear HB712) | ((with_reducible refine aT 6 (x := (Operand.tmp 26)) ?_); refine wpList_store_whole rfl 63 _ _ rfl (g713) _ _ 63 (HB713.out.get 3 rfl) rfl rfl (arr_len2 _ _ HL712.out HLze.out) (el_s HL712.out) (all_arr _ _) ?_; intro w714 hb714 hk714 hz714; have HB714 := Lib.hid (HB713.out.put 3 rfl hk714 hb714); clear hb714 hk714 hz714; clear HB713))
    (try simp only [Act.put, sA, sZ, sS])
    obtain ⟨U, hU⟩ : ∃ u, u = under y := ⟨_, rfl⟩
    have hE2 := HE2.out
    have hE3 := HE3.out
    have hE4 := HE4.out
    have hU2 : fmul (fsub (fmul y y) 1) (finv (fadd (fmul dd (fmul y y)) 1)) = U := hU.symm
    rw [← hU] at hE2 hE3 hE4
    have HE2' := Lib.hid hE2
    have HE3' := Lib.hid hE3
    have HE4' := Lib.hid hE4
    have HUU := Lib.hid hU2
    clear hE2 hE3 hE4 hU hU2
    have HTb := Lib.hid (range_below HTD.out HB714.out.below)
    go_cut [7, 8] (fun u7 u8 wx => ∃ gg xx, u7 = .pointer (some ⟨gg, 0, none⟩) ∧ u8 = .bool (rsqrt U).2 ∧ El xx (rsqrt U).1 ∧ Blk w wx [(w.heap.size, arr .u8 ms, 23), (w.heap.size + 1, arr .i64 zp, 65), (g710, (arr .i64 z709), 63), (g713, (arr .i64 z712), 63), (gg, arr .i64 xx, 63)])
    case first =>
      have HK0 := Lib.hid ((Kept.refl (fun _ => False) w714).drew)
      have HBd := Lib.hid (HB714.out.drew)
      refine wp_region_held_drew (S := (fun w' => Kept (fun _ => False) w714 w')) (by kernel_rfl) (HK0.out) (fun hHeld => ?_)
      generalize w714.drew = wd at HK0 HBd hHeld ⊢
      refine' wpAnyH_take (i := 0) (oi := (⟨some 28, _, _, _, _, none⟩ : Oper)) (v := _) rfl (by kernel_rfl) (by kernel_rfl) (by kernel_rfl) (fun _ _ _ h => h) (yieldsIf_load_mid (by rfl) _ _ rfl _ _ rfl (z712.map (Value.int .i64)) _ ?hS715 Tryd.underlying63 rfl (by rw [List.length_map]; exact el_i HL712.out)) (by assumption) ?rest715
      case hS715 => (intro w hSw; (try dsimp only at hSw); exact range_part (hSw.blk (HB714.out.get 3 rfl) (fun e => e.elim)) 0 _ (by rw [List.length_map]; exact arr_part _ _))
      (try simp only [Act.put, sA, sZ, sS])
      refine' wpAnyH_take (i := 3) (oi := (⟨some 31, _, _, _, _, none⟩ : Oper)) (v := _) rfl (by kernel_rfl) (by kernel_rfl) (by kernel_rfl) (fun _ _ _ h => h) (yieldsIf_load_mid (by rfl) _ _ rfl _ _ rfl (dl.map (Value.int .i64)) _ ?hS716 Tryd.underlying63 rfl (by rw [List.length_map]; exact el_i HDL.out)) (by assumption) ?rest716
      case hS716 => (intro w hSw; (try dsimp only at hSw); exact range_kept HTb.out (hSw) (id))
      (try simp only [Act.put, sA, sZ, sS])
      refine' wpAnyH_take (i := 4) (oi := (⟨some 32, _, _, _, _, none⟩ : Oper)) (v := _) rfl (by kernel_rfl) (by kernel_rfl) (by kernel_rfl) (fun _ _ _ h => h) (yieldsIf_load_mid (by rfl) _ _ rfl _ _ rfl (z712.map (Value.int .i64)) _ ?hS717 Tryd.underlying63 rfl (by rw [List.length_map]; exact el_i HL712.out)) (by assumption) ?rest717
      case hS717 => (intro w hSw; (try dsimp only at hSw); exact range_part (hSw.blk (HB714.out.get 3 rfl) (fun e => e.elim)) 0 _ (by rw [List.length_map]; exact arr_part _ _))
      (try simp only [Act.put, sA, sZ, sS])
      refine wpAnyH_ready (rs := [1, 14]) (by kernel_rfl) (by simp) ?_
      refine AllReadyH.cons (o := (⟨some 29, _, _, _, _, none⟩ : Oper)) rfl (fun K hK => ?_) ?_
      · go_simp
        go_at_call 74
        refine (one_any 1 _ (by decide)).mono ?_
        rintro e w718 ⟨z718, rfl, h718, hb718⟩
        have HZ718 := Lib.hid h718
        have HL718 := Lib.hid h718.1
        clear h718
        have HB718 := Lib.hid (HBd.out.kept hb718)
        have HK718 := Lib.hid (HK0.out.trans (Kept.of_below hb718))
        clear hb718
        (try dsimp only)
        clear HBd
        clear HK0
        clear hHeld
        refine hK.out _ _ (HK718.out) (fun hHeld => ?_)
        clear hK K
        (try simp only [Act.put, sA, sZ, sS])
        refine wpAnyH_ready (rs := [2, 14]) (by kernel_rfl) (by simp) ?_
        refine AllReadyH.cons (o := (⟨some 30, _, _, _, _, none⟩ : Oper)) rfl (fun K hK => ?_) ?_
        · go_simp
          go_at_call 73
          refine (sub_any _ _ _ _ _ HZ712.out HZ718.out).mono ?_
          rintro e w719 ⟨z719, rfl, h719, hb719⟩
          have HZ719 := Lib.hid h719
          have HL719 := Lib.hid h719.1
          clear h719
          have HB719 := Lib.hid (HB718.out.kept hb719)
          have HK719 := Lib.hid (HK718.out.trans (Kept.of_below hb719))
          clear hb719
          (try dsimp only)
          clear HB718
          clear HK718
          clear hHeld
          refine hK.out _ _ (HK719.out) (fun hHeld => ?_)
          clear hK K
          (try simp only [Act.put, sA, sZ, sS])
          refine wpAnyH_ready (rs := [5, 14]) (by kernel_rfl) (by simp) ?_
          refine AllReadyH.cons (o := (⟨some 33, _, _, _, _, none⟩ : Oper)) rfl (fun K hK => ?_) ?_
          · go_simp
            go_at_call 71
            refine (mul_any _ _ _ _ _ HD.out HZ712.out).mono ?_
            rintro e w720 ⟨z720, rfl, h720, hb720⟩
            have HZ720 := Lib.hid h720
            have HL720 := Lib.hid h720.1
            clear h720
            have HB720 := Lib.hid (HB719.out.kept hb720)
            have HK720 := Lib.hid (HK719.out.trans (Kept.of_below hb720))
            clear hb720
            (try dsimp only)
            clear HB719
            clear HK719
            clear hHeld
            refine hK.out _ _ (HK720.out) (fun hHeld => ?_)
            clear hK K
            (try simp only [Act.put, sA, sZ, sS])
            refine wpAnyH_ready (rs := [6, 14]) (by kernel_rfl) (by simp) ?_
            refine AllReadyH.cons (o := (⟨some 34, _, _, _, _, none⟩ : Oper)) rfl (fun K hK => ?_) ?_
            · go_simp
              go_at_call 74
              refine (one_any 1 _ (by decide)).mono ?_
              rintro e w721 ⟨z721, rfl, h721, hb721⟩
              have HZ721 := Lib.hid h721
              have HL721 := Lib.hid h721.1
              clear h721
              have HB721 := Lib.hid (HB720.out.kept hb721)
              have HK721 := Lib.hid (HK720.out.trans (Kept.of_below hb721))
              clear hb721
              (try dsimp only)
              clear HB720
              clear HK720
              clear hHeld
              refine hK.out _ _ (HK721.out) (fun hHeld => ?_)
              clear hK K
              (try simp only [Act.put, sA, sZ, sS])
              refine wpAnyH_ready (rs := [7, 14]) (by kernel_rfl) (by simp) ?_
              refine AllReadyH.cons (o := (⟨some 35, _, _, _, _, none⟩ : Oper)) rfl (fun K hK => ?_) ?_
              · go_simp
                go_at_call 76
                refine (add_any _ _ _ _ _ HZ720.out HZ721.out).mono ?_
                rintro e w722 ⟨z722, rfl, h722, hb722⟩
                have HZ722 := Lib.hid h722
                have HL722 := Lib.hid h722.1
                clear h722
                have HB722 := Lib.hid (HB721.out.kept hb722)
                have HK722 := Lib.hid (HK721.out.trans (Kept.of_below hb722))
                clear hb722
                (try dsimp only)
                clear HB721
                clear HK721
                clear hHeld
                refine hK.out _ _ (HK722.out) (fun hHeld => ?_)
                clear hK K
                (try simp only [Act.put, sA, sZ, sS])
                refine wpAnyH_ready (rs := [8, 14]) (by kernel_rfl) (by simp) ?_
                refine AllReadyH.cons (o := (⟨some 36, _, _, _, _, none⟩ : Oper)) rfl (fun K hK => ?_) ?_
                · go_simp
                  go_at_call 75
                  refine (inv_any _ _ _ HZ722.out).mono ?_
                  rintro e w723 ⟨z723, rfl, h723, hb723⟩
                  have HZ723 := Lib.hid h723
                  have HL723 := Lib.hid h723.1
                  clear h723
                  have HB723 := Lib.hid (HB722.out.kept hb723)
                  have HK723 := Lib.hid (HK722.out.trans (Kept.of_below hb723))
                  clear hb723
                  (try dsimp only)
                  clear HB722
                  clear HK722
                  clear hHeld
                  refine hK.out _ _ (HK723.out) (fun hHeld => ?_)
                  clear hK K
                  (try simp only [Act.put, sA, sZ, sS])
                  refine wpAnyH_ready (rs := [9, 14]) (by kernel_rfl) (by simp) ?_
                  refine AllReadyH.cons (o := (⟨some 37, _, _, _, _, none⟩ : Oper)) rfl (fun K hK => ?_) ?_
                  · go_simp
                    go_at_call 71
                    refine (mul_any _ _ _ _ _ HZ719.out HZ723.out).mono ?_
                    rintro e w724 ⟨z724, rfl, h724, hb724⟩
                    have HZ724 := Lib.hid h724
                    have HL724 := Lib.hid h724.1
                    clear h724
                    have HB724 := Lib.hid (HB723.out.kept hb724)
                    have HK724 := Lib.hid (HK723.out.trans (Kept.of_below hb724))
                    clear hb724
                    (try dsimp only)
                    clear HB723
                    clear HK723
                    clear hHeld
                    refine hK.out _ _ (HK724.out) (fun hHeld => ?_)
                    clear hK K
                    (try simp only [Act.put, sA, sZ, sS])
                    refine wpAnyH_ready (rs := [10, 14]) (by kernel_rfl) (by simp) ?_
                    refine AllReadyH.cons (o := ({ dst := some 38, op := Op.call { callee := Callee.value (Operand.func 72), args := #[Operand.tmp 37], argTypes := #[63] }, type := 97, pos := "curves.go:397", after := #[{ on := 9, ground := Ground.data }, { on := 9, ground := Ground.chain }], guard := none } : Oper)) rfl (fun K hK => ?_) ?_
                    · go_simp
                      go_at_call 72
                      refine (root_any _ U _ (by rw [← HUU.out]; exact HZ724.out) (range_below HTI.out HB724.out.below)).mono ?_
                      rintro e w725 ⟨z725, rfl, h725, hb725⟩
                      have HZ725 := Lib.hid h725
                      have HL725 := Lib.hid h725.1
                      clear h725
                      have HB725 := Lib.hid (HB724.out.kept hb725)
                      have HK725 := Lib.hid (HK724.out.trans (Kept.of_below hb725))
                      clear hb725
                      (try dsimp only)
                      clear HB724
                      clear HK724
                      clear hHeld
                      refine hK.out _ _ (HK725.out) (fun hHeld => ?_)
                      clear hK K
                      (try simp only [Act.put, sA, sZ, sS])
                      refine wpAnyH_take (i := 11) (oi := ({ dst := some 27, op := Op.move (Operand.tmp 38), type := 97, pos := "curves.go:397", after := #[{ on := 10, ground := Ground.data }], guard := none } : Oper)) (v := ?v726) rfl (by kernel_rfl) (by kernel_rfl) (by kernel_rfl) (fun _ _ _ h => h) (Or.inl ⟨by rfl, ?hy726⟩) (by assumption) ?rest726
                      case hy726 => (intro w hSw; (try dsimp only at hSw); go_simp; try (with_reducible rfl))
                      (try simp only [Act.put, sA, sZ, sS])
                      refine wpAnyH_take (i := 12) (oi := (⟨some 39, _, _, _, _, none⟩ : Oper)) (v := ?v727) rfl (by kernel_rfl) (by kernel_rfl) (by kernel_rfl) (fun _ _ _ h => h) (Or.inl ⟨by rfl, ?hy727⟩) (by assumption) ?rest727
                      case hy727 => (intro w hSw; (try dsimp only at hSw); go_simp; try (with_reducible rfl))
                      (try simp only [Act.put, sA, sZ, sS])
                      refine wpAnyH_take (i := 13) (oi := (⟨some 40, _, _, _, _, none⟩ : Oper)) (v := ?v728) rfl (by kernel_rfl) (by kernel_rfl) (by kernel_rfl) (fun _ _ _ h => h) (Or.inl ⟨by rfl, ?hy728⟩) (by assumption) ?rest728
                      case hy728 => (intro w hSw; (try dsimp only at hSw); go_simp; try (with_reducible rfl))
                      (try simp only [Act.put, sA, sZ, sS])
                      refine wpAnyH_ready (rs := [14]) (by kernel_rfl) (by simp) ?_
                      refine AllReadyH.cons (o := (⟨some 7, _, _, _, _, none⟩ : Oper)) rfl (fun K hK => ?_) AllReadyH.nil
                      refine step_alloc_row rfl 63 rfl _ (HZze.out _) ?_
                      have HB729 := Lib.hid (HB725.out.alloc (arr .i64 ze) 63)
                      have HK729 := Lib.hid (HK725.out.alloc (.cells (arr .i64 ze) 63))
                      have HN729 := Lib.hid (show w714.heap.size ≤ (w725).heap.size from HK725.out.size)
                      generalize (w725).heap.size = g729 at HB729 HN729 ⊢
                      generalize (w725).alloc (.cells (arr .i64 ze) 63) = w729 at HB729 HK729 ⊢
                      clear HB725
                      clear HK725
                      clear hHeld
                      refine hK.out _ _ (HK729.out) (fun hHeld => ?_)
                      clear hK K
                      (try simp only [Act.put, sA, sZ, sS])
                      refine wpAnyH_ready (rs := [15]) (by kernel_rfl) (by simp) ?_
                      refine AllReadyH.cons (o := (⟨none, _, _, _, _, none⟩ : Oper)) rfl (fun K hK => ?_) AllReadyH.nil
                      refine step_store_whole rfl 63 (.tmp 7) (.tmp 39) rfl (g729) _ _ _ (HB729.out.get 4 rfl) rfl rfl (arr_len2 _ _ HL725.out HLze.out) (el_s HL725.out) (all_arr _ _) ?_
                      intro w730 hb730 hk730 hz730
                      have HB730 := Lib.hid (HB729.out.put 4 rfl hk730 hb730)
                      have HK730 := Lib.hid (HK729.out.trans_new hk730 (fun i hi e => absurd hi (by rw [e]; exact Nat.not_lt.2 HN729.out)))
                      clear hb730 hk730 hz730
                      clear HB729
                      clear HK729
                      clear hHeld
                      refine hK.out _ _ (HK730.out) (fun hHeld => ?_)
                      clear hK K
                      (try simp only [Act.put])
                      refine wpAnyH_take (i := 16) (oi := (⟨some 8, _, _, _, _, none⟩ : Oper)) (v := ?v731) rfl (by kernel_rfl) (by kernel_rfl) (by kernel_rfl) (fun _ _ _ h => h) (Or.inl ⟨by rfl, ?hy731⟩) (by assumption) ?rest731
                      case hy731 => (intro w hSw; (try dsimp only at hSw); go_simp; try (with_reducible rfl))
                      (try simp only [Act.put, sA, sZ, sS])
                      refine wpAnyH_done (by kernel_rfl) ?_ _
                      go_wp2_with fail
                      go_meet
                      exact ⟨_, _, rfl, rfl, HZ725.out, HB730.out⟩
                    refine AllReadyH.cons (o := (⟨some 7, _, _, _, _, none⟩ : Oper)) rfl (fun K hK => ?_) ?_
                    · refine step_alloc_row rfl 63 rfl _ (HZze.out _) ?_
                      have HB732 := Lib.hid (HB724.out.alloc (arr .i64 ze) 63)
                      have HK732 := Lib.hid (HK724.out.alloc (.cells (arr .i64 ze) 63))
                      have HN732 := Lib.hid (show w714.heap.size ≤ (w724).heap.size from HK724.out.size)
                      generalize (w724).heap.size = g732 at HB732 HN732 ⊢
                      generalize (w724).alloc (.cells (arr .i64 ze) 63) = w732 at HB732 HK732 ⊢
                      clear HB724
                      clear HK724
                      clear hHeld
                      refine hK.out _ _ (HK732.out) (fun hHeld => ?_)
                      clear hK K
                      (try simp only [Act.put, sA, sZ, sS])
                      refine wpAnyH_ready (rs := [10]) (by kernel_rfl) (by simp) ?_
                      refine AllReadyH.cons (o := ({ dst := some 38, op := Op.call { callee := Callee.value (Operand.func 72), args := #[Operand.tmp 37], argTypes := #[63] }, type := 97, pos := "curves.go:397", after := #[{ on := 9, ground := Ground.data }, { on := 9, ground := Ground.chain }], guard := none } : Oper)) rfl (fun K hK => ?_) AllReadyH.nil
                      go_simp
                      go_at_call 72
                      refine (root_any _ U _ (by rw [← HUU.out]; exact HZ724.out) (range_below HTI.out HB732.out.below)).mono ?_
                      rintro e w733 ⟨z733, rfl, h733, hb733⟩
                      have HZ733 := Lib.hid h733
                      have HL733 := Lib.hid h733.1
                      clear h733
                      have HB733 := Lib.hid (HB732.out.kept hb733)
                      have HK733 := Lib.hid (HK732.out.trans (Kept.of_below hb733))
                      clear hb733
                      (try dsimp only)
                      clear HB732
                      clear HK732
                      clear hHeld
                      refine hK.out _ _ (HK733.out) (fun hHeld => ?_)
                      clear hK K
                      (try simp only [Act.put, sA, sZ, sS])
                      refine wpAnyH_take (i := 11) (oi := ({ dst := some 27, op := Op.move (Operand.tmp 38), type := 97, pos := "curves.go:397", after := #[{ on := 10, ground := Ground.data }], guard := none } : Oper)) (v := ?v734) rfl (by kernel_rfl) (by kernel_rfl) (by kernel_rfl) (fun _ _ _ h => h) (Or.inl ⟨by rfl, ?hy734⟩) (by assumption) ?rest734
                      case hy734 => (intro w hSw; (try dsimp only at hSw); go_simp; try (with_reducible rfl))
                      (try simp only [Act.put, sA, sZ, sS])
                      refine wpAnyH_take (i := 12) (oi := (⟨some 39, _, _, _, _, none⟩ : Oper)) (v := ?v735) rfl (by kernel_rfl) (by kernel_rfl) (by kernel_rfl) (fun _ _ _ h => h) (Or.inl ⟨by rfl, ?hy735⟩) (by assumption) ?rest735
                      case hy735 => (intro w hSw; (try dsimp only at hSw); go_simp; try (with_reducible rfl))
                      (try simp only [Act.put, sA, sZ, sS])
                      refine wpAnyH_take (i := 13) (oi := (⟨some 40, _, _, _, _, none⟩ : Oper)) (v := ?v736) rfl (by kernel_rfl) (by kernel_rfl) (by kernel_rfl) (fun _ _ _ h => h) (Or.inl ⟨by rfl, ?hy736⟩) (by assumption) ?rest736
                      case hy736 => (intro w hSw; (try dsimp only at hSw); go_simp; try (with_reducible rfl))
                      (try simp only [Act.put, sA, sZ, sS])
                      refine wpAnyH_ready (rs := [15]) (by kernel_rfl) (by simp) ?_
                      refine AllReadyH.cons (o := (⟨none, _, _, _, _, none⟩ : Oper)) rfl (fun K hK => ?_) AllReadyH.nil
                      refine step_store_whole rfl 63 (.tmp 7) (.tmp 39) rfl (g732) _ _ _ (HB733.out.get 4 rfl) rfl rfl (arr_len2 _ _ HL733.out HLze.out) (el_s HL733.out) (all_arr _ _) ?_
                      intro w737 hb737 hk737 hz737
                      have HB737 := Lib.hid (HB733.out.put 4 rfl hk737 hb737)
                      have HK737 := Lib.hid (HK733.out.trans_new hk737 (fun i hi e => absurd hi (by rw [e]; exact Nat.not_lt.2 HN732.out)))
                      clear hb737 hk737 hz737
                      clear HB733
                      clear HK733
                      clear hHeld
                      refine hK.out _ _ (HK737.out) (fun hHeld => ?_)
                      clear hK K
                      (try simp only [Act.put])
                      refine wpAnyH_take (i := 16) (oi := (⟨some 8, _, _, _, _, none⟩ : Oper)) (v := ?v738) rfl (by kernel_rfl) (by kernel_rfl) (by kernel_rfl) (fun _ _ _ h => h) (Or.inl ⟨by rfl, ?hy738⟩) (by assumption) ?rest738
                      case hy738 => (intro w hSw; (try dsimp only at hSw); go_simp; try (with_reducible rfl))
                      (try simp only [Act.put, sA, sZ, sS])
                      refine wpAnyH_done (by kernel_rfl) ?_ _
                      go_wp2_with fail
                      go_meet
                      exact ⟨_, _, rfl, rfl, HZ733.out, HB737.out⟩
                    exact AllReadyH.nil
                  refine AllReadyH.cons (o := (⟨some 7, _, _, _, _, none⟩ : Oper)) rfl (fun K hK => ?_) ?_
                  · refine step_alloc_row rfl 63 rfl _ (HZze.out _) ?_
                    have HB739 := Lib.hid (HB723.out.alloc (arr .i64 ze) 63)
                    have HK739 := Lib.hid (HK723.out.alloc (.cells (arr .i64 ze) 63))
                    have HN739 := Lib.hid (show w714.heap.size ≤ (w723).heap.size from HK723.out.size)
                    generalize (w723).heap.size = g739 at HB739 HN739 ⊢
                    generalize (w723).alloc (.cells (arr .i64 ze) 63) = w739 at HB739 HK739 ⊢
                    clear HB723
                    clear HK723
                    clear hHeld
                    refine hK.out _ _ (HK739.out) (fun hHeld => ?_)
                    clear hK K
                    (try simp only [Act.put, sA, sZ, sS])
                    refine wpAnyH_ready (rs := [9]) (by kernel_rfl) (by simp) ?_
                    refine AllReadyH.cons (o := (⟨some 37, _, _, _, _, none⟩ : Oper)) rfl (fun K hK => ?_) AllReadyH.nil
                    go_simp
                    go_at_call 71
                    refine (mul_any _ _ _ _ _ HZ719.out HZ723.out).mono ?_
                    rintro e w740 ⟨z740, rfl, h740, hb740⟩
                    have HZ740 := Lib.hid h740
                    have HL740 := Lib.hid h740.1
                    clear h740
                    have HB740 := Lib.hid (HB739.out.kept hb740)
                    have HK740 := Lib.hid (HK739.out.trans (Kept.of_below hb740))
                    clear hb740
                    (try dsimp only)
                    clear HB739
                    clear HK739
                    clear hHeld
                    refine hK.out _ _ (HK740.out) (fun hHeld => ?_)
                    clear hK K
                    (try simp only [Act.put, sA, sZ, sS])
                    refine wpAnyH_ready (rs := [10]) (by kernel_rfl) (by simp) ?_
                    refine AllReadyH.cons (o := ({ dst := some 38, op := Op.call { callee := Callee.value (Operand.func 72), args := #[Operand.tmp 37], argTypes := #[63] }, type := 97, pos := "curves.go:397", after := #[{ on := 9, ground := Ground.data }, { on := 9, ground := Ground.chain }], guard := none } : Oper)) rfl (fun K hK => ?_) AllReadyH.nil
                    go_simp
                    go_at_call 72
                    refine (root_any _ U _ (by rw [← HUU.out]; exact HZ740.out) (range_below HTI.out HB740.out.below)).mono ?_
                    rintro e w741 ⟨z741, rfl, h741, hb741⟩
                    have HZ741 := Lib.hid h741
                    have HL741 := Lib.hid h741.1
                    clear h741
                    have HB741 := Lib.hid (HB740.out.kept hb741)
                    have HK741 := Lib.hid (HK740.out.trans (Kept.of_below hb741))
                    clear hb741
                    (try dsimp only)
                    clear HB740
                    clear HK740
                    clear hHeld
                    refine hK.out _ _ (HK741.out) (fun hHeld => ?_)
                    clear hK K
                    (try simp only [Act.put, sA, sZ, sS])
                    refine wpAnyH_take (i := 11) (oi := ({ dst := some 27, op := Op.move (Operand.tmp 38), type := 97, pos := "curves.go:397", after := #[{ on := 10, ground := Ground.data }], guard := none } : Oper)) (v := ?v742) rfl (by kernel_rfl) (by kernel_rfl) (by kernel_rfl) (fun _ _ _ h => h) (Or.inl ⟨by rfl, ?hy742⟩) (by assumption) ?rest742
                    case hy742 => (intro w hSw; (try dsimp only at hSw); go_simp; try (with_reducible rfl))
                    (try simp only [Act.put, sA, sZ, sS])
                    refine wpAnyH_take (i := 12) (oi := (⟨some 39, _, _, _, _, none⟩ : Oper)) (v := ?v743) rfl (by kernel_rfl) (by kernel_rfl) (by kernel_rfl) (fun _ _ _ h => h) (Or.inl ⟨by rfl, ?hy743⟩) (by assumption) ?rest743
                    case hy743 => (intro w hSw; (try dsimp only at hSw); go_simp; try (with_reducible rfl))
                    (try simp only [Act.put, sA, sZ, sS])
                    refine wpAnyH_take (i := 13) (oi := (⟨some 40, _, _, _, _, none⟩ : Oper)) (v := ?v744) rfl (by kernel_rfl) (by kernel_rfl) (by kernel_rfl) (fun _ _ _ h => h) (Or.inl ⟨by rfl, ?hy744⟩) (by assumption) ?rest744
                    case hy744 => (intro w hSw; (try dsimp only at hSw); go_simp; try (with_reducible rfl))
                    (try simp only [Act.put, sA, sZ, sS])
                    refine wpAnyH_ready (rs := [15]) (by kernel_rfl) (by simp) ?_
                    refine AllReadyH.cons (o := (⟨none, _, _, _, _, none⟩ : Oper)) rfl (fun K hK => ?_) AllReadyH.nil
                    refine step_store_whole rfl 63 (.tmp 7) (.tmp 39) rfl (g739) _ _ _ (HB741.out.get 4 rfl) rfl rfl (arr_len2 _ _ HL741.out HLze.out) (el_s HL741.out) (all_arr _ _) ?_
                    intro w745 hb745 hk745 hz745
                    have HB745 := Lib.hid (HB741.out.put 4 rfl hk745 hb745)
                    have HK745 := Lib.hid (HK741.out.trans_new hk745 (fun i hi e => absurd hi (by rw [e]; exact Nat.not_lt.2 HN739.out)))
                    clear hb745 hk745 hz745
                    clear HB741
                    clear HK741
                    clear hHeld
                    refine hK.out _ _ (HK745.out) (fun hHeld => ?_)
                    clear hK K
                    (try simp only [Act.put])
                    refine wpAnyH_take (i := 16) (oi := (⟨some 8, _, _, _, _, none⟩ : Oper)) (v := ?v746) rfl (by kernel_rfl) (by kernel_rfl) (by kernel_rfl) (fun _ _ _ h => h) (Or.inl ⟨by rfl, ?hy746⟩) (by assumption) ?rest746
                    case hy746 => (intro w hSw; (try dsimp only at hSw); go_simp; try (with_reducible rfl))
                    (try simp only [Act.put, sA, sZ, sS])
                    refine wpAnyH_done (by kernel_rfl) ?_ _
                    go_wp2_with fail
                    go_meet
                    exact ⟨_, _, rfl, rfl, HZ741.out, HB745.out⟩
                  exact AllReadyH.nil
                refine AllReadyH.cons (o := (⟨some 7, _, _, _, _, none⟩ : Oper)) rfl (fun K hK => ?_) ?_
                · refine step_alloc_row rfl 63 rfl _ (HZze.out _) ?_
                  have HB747 := Lib.hid (HB722.out.alloc (arr .i64 ze) 63)
                  have HK747 := Lib.hid (HK722.out.alloc (.cells (arr .i64 ze) 63))
                  have HN747 := Lib.hid (show w714.heap.size ≤ (w722).heap.size from HK722.out.size)
                  generalize (w722).heap.size = g747 at HB747 HN747 ⊢
                  generalize (w722).alloc (.cells (arr .i64 ze) 63) = w747 at HB747 HK747 ⊢
                  clear HB722
                  clear HK722
                  clear hHeld
                  refine hK.out _ _ (HK747.out) (fun hHeld => ?_)
                  clear hK K
                  (try simp only [Act.put, sA, sZ, sS])
                  refine wpAnyH_ready (rs := [8]) (by kernel_rfl) (by simp) ?_
                  refine AllReadyH.cons (o := (⟨some 36, _, _, _, _, none⟩ : Oper)) rfl (fun K hK => ?_) AllReadyH.nil
                  go_simp
                  go_at_call 75
                  refine (inv_any _ _ _ HZ722.out).mono ?_
                  rintro e w748 ⟨z748, rfl, h748, hb748⟩
                  have HZ748 := Lib.hid h748
                  have HL748 := Lib.hid h748.1
                  clear h748
                  have HB748 := Lib.hid (HB747.out.kept hb748)
                  have HK748 := Lib.hid (HK747.out.trans (Kept.of_below hb748))
                  clear hb748
                  (try dsimp only)
                  clear HB747
                  clear HK747
                  clear hHeld
                  refine hK.out _ _ (HK748.out) (fun hHeld => ?_)
                  clear hK K
                  (try simp only [Act.put, sA, sZ, sS])
                  refine wpAnyH_ready (rs := [9]) (by kernel_rfl) (by simp) ?_
                  refine AllReadyH.cons (o := (⟨some 37, _, _, _, _, none⟩ : Oper)) rfl (fun K hK => ?_) AllReadyH.nil
                  go_simp
                  go_at_call 71
                  refine (mul_any _ _ _ _ _ HZ719.out HZ748.out).mono ?_
                  rintro e w749 ⟨z749, rfl, h749, hb749⟩
                  have HZ749 := Lib.hid h749
                  have HL749 := Lib.hid h749.1
                  clear h749
                  have HB749 := Lib.hid (HB748.out.kept hb749)
                  have HK749 := Lib.hid (HK748.out.trans (Kept.of_below hb749))
                  clear hb749
                  (try dsimp only)
                  clear HB748
                  clear HK748
                  clear hHeld
                  refine hK.out _ _ (HK749.out) (fun hHeld => ?_)
                  clear hK K
                  (try simp only [Act.put, sA, sZ, sS])
                  refine wpAnyH_ready (rs := [10]) (by kernel_rfl) (by simp) ?_
                  refine AllReadyH.cons (o := ({ dst := some 38, op := Op.call { callee := Callee.value (Operand.func 72), args := #[Operand.tmp 37], argTypes := #[63] }, type := 97, pos := "curves.go:397", after := #[{ on := 9, ground := Ground.data }, { on := 9, ground := Ground.chain }], guard := none } : Oper)) rfl (fun K hK => ?_) AllReadyH.nil
                  go_simp
                  go_at_call 72
                  refine (root_any _ U _ (by rw [← HUU.out]; exact HZ749.out) (range_below HTI.out HB749.out.below)).mono ?_
                  rintro e w750 ⟨z750, rfl, h750, hb750⟩
                  have HZ750 := Lib.hid h750
                  have HL750 := Lib.hid h750.1
                  clear h750
                  have HB750 := Lib.hid (HB749.out.kept hb750)
                  have HK750 := Lib.hid (HK749.out.trans (Kept.of_below hb750))
                  clear hb750
                  (try dsimp only)
                  clear HB749
                  clear HK749
                  clear hHeld
                  refine hK.out _ _ (HK750.out) (fun hHeld => ?_)
                  clear hK K
                  (try simp only [Act.put, sA, sZ, sS])
                  refine wpAnyH_take (i := 11) (oi := ({ dst := some 27, op := Op.move (Operand.tmp 38), type := 97, pos := "curves.go:397", after := #[{ on := 10, ground := Ground.data }], guard := none } : Oper)) (v := ?v751) rfl (by kernel_rfl) (by kernel_rfl) (by kernel_rfl) (fun _ _ _ h => h) (Or.inl ⟨by rfl, ?hy751⟩) (by assumption) ?rest751
                  case hy751 => (intro w hSw; (try dsimp only at hSw); go_simp; try (with_reducible rfl))
                  (try simp only [Act.put, sA, sZ, sS])
                  refine wpAnyH_take (i := 12) (oi := (⟨some 39, _, _, _, _, none⟩ : Oper)) (v := ?v752) rfl (by kernel_rfl) (by kernel_rfl) (by kernel_rfl) (fun _ _ _ h => h) (Or.inl ⟨by rfl, ?hy752⟩) (by assumption) ?rest752
                  case hy752 => (intro w hSw; (try dsimp only at hSw); go_simp; try (with_reducible rfl))
                  (try simp only [Act.put, sA, sZ, sS])
                  refine wpAnyH_take (i := 13) (oi := (⟨some 40, _, _, _, _, none⟩ : Oper)) (v := ?v753) rfl (by kernel_rfl) (by kernel_rfl) (by kernel_rfl) (fun _ _ _ h => h) (Or.inl ⟨by rfl, ?hy753⟩) (by assumption) ?rest753
                  case hy753 => (intro w hSw; (try dsimp only at hSw); go_simp; try (with_reducible rfl))
                  (try simp only [Act.put, sA, sZ, sS])
                  refine wpAnyH_ready (rs := [15]) (by kernel_rfl) (by simp) ?_
                  refine AllReadyH.cons (o := (⟨none, _, _, _, _, none⟩ : Oper)) rfl (fun K hK => ?_) AllReadyH.nil
                  refine step_store_whole rfl 63 (.tmp 7) (.tmp 39) rfl (g747) _ _ _ (HB750.out.get 4 rfl) rfl rfl (arr_len2 _ _ HL750.out HLze.out) (el_s HL750.out) (all_arr _ _) ?_
                  intro w754 hb754 hk754 hz754
                  have HB754 := Lib.hid (HB750.out.put 4 rfl hk754 hb754)
                  have HK754 := Lib.hid (HK750.out.trans_new hk754 (fun i hi e => absurd hi (by rw [e]; exact Nat.not_lt.2 HN747.out)))
                  clear hb754 hk754 hz754
                  clear HB750
                  clear HK750
                  clear hHeld
                  refine hK.out _ _ (HK754.out) (fun hHeld => ?_)
                  clear hK K
                  (try simp only [Act.put])
                  refine wpAnyH_take (i := 16) (oi := (⟨some 8, _, _, _, _, none⟩ : Oper)) (v := ?v755) rfl (by kernel_rfl) (by kernel_rfl) (by kernel_rfl) (fun _ _ _ h => h) (Or.inl ⟨by rfl, ?hy755⟩) (by assumption) ?rest755
                  case hy755 => (intro w hSw; (try dsimp only at hSw); go_simp; try (with_reducible rfl))
                  (try simp only [Act.put, sA, sZ, sS])
                  refine wpAnyH_done (by kernel_rfl) ?_ _
                  go_wp2_with fail
                  go_meet
                  exact ⟨_, _, rfl, rfl, HZ750.out, HB754.out⟩
                exact AllReadyH.nil
              refine AllReadyH.cons (o := (⟨some 7, _, _, _, _, none⟩ : Oper)) rfl (fun K hK => ?_) ?_
              · refine step_alloc_row rfl 63 rfl _ (HZze.out _) ?_
                have HB756 := Lib.hid (HB721.out.alloc (arr .i64 ze) 63)
                have HK756 := Lib.hid (HK721.out.alloc (.cells (arr .i64 ze) 63))
                have HN756 := Lib.hid (show w714.heap.size ≤ (w721).heap.size from HK721.out.size)
                generalize (w721).heap.size = g756 at HB756 HN756 ⊢
                generalize (w721).alloc (.cells (arr .i64 ze) 63) = w756 at HB756 HK756 ⊢
                clear HB721
                clear HK721
                clear hHeld
                refine hK.out _ _ (HK756.out) (fun hHeld => ?_)
                clear hK K
                (try simp only [Act.put, sA, sZ, sS])
                refine wpAnyH_ready (rs := [7]) (by kernel_rfl) (by simp) ?_
                refine AllReadyH.cons (o := (⟨some 35, _, _, _, _, none⟩ : Oper)) rfl (fun K hK => ?_) AllReadyH.nil
                go_simp
                go_at_call 76
                refine (add_any _ _ _ _ _ HZ720.out HZ721.out).mono ?_
                rintro e w757 ⟨z757, rfl, h757, hb757⟩
                have HZ757 := Lib.hid h757
                have HL757 := Lib.hid h757.1
                clear h757
                have HB757 := Lib.hid (HB756.out.kept hb757)
                have HK757 := Lib.hid (HK756.out.trans (Kept.of_below hb757))
                clear hb757
                (try dsimp only)
                clear HB756
                clear HK756
                clear hHeld
                refine hK.out _ _ (HK757.out) (fun hHeld => ?_)
                clear hK K
                (try simp only [Act.put, sA, sZ, sS])
                refine wpAnyH_ready (rs := [8]) (by kernel_rfl) (by simp) ?_
                refine AllReadyH.cons (o := (⟨some 36, _, _, _, _, none⟩ : Oper)) rfl (fun K hK => ?_) AllReadyH.nil
                go_simp
                go_at_call 75
                refine (inv_any _ _ _ HZ757.out).mono ?_
                rintro e w758 ⟨z758, rfl, h758, hb758⟩
                have HZ758 := Lib.hid h758
                have HL758 := Lib.hid h758.1
                clear h758
                have HB758 := Lib.hid (HB757.out.kept hb758)
                have HK758 := Lib.hid (HK757.out.trans (Kept.of_below hb758))
                clear hb758
                (try dsimp only)
                clear HB757
                clear HK757
                clear hHeld
                refine hK.out _ _ (HK758.out) (fun hHeld => ?_)
                clear hK K
                (try simp only [Act.put, sA, sZ, sS])
                refine wpAnyH_ready (rs := [9]) (by kernel_rfl) (by simp) ?_
                refine AllReadyH.cons (o := (⟨some 37, _, _, _, _, none⟩ : Oper)) rfl (fun K hK => ?_) AllReadyH.nil
                go_simp
                go_at_call 71
                refine (mul_any _ _ _ _ _ HZ719.out HZ758.out).mono ?_
                rintro e w759 ⟨z759, rfl, h759, hb759⟩
                have HZ759 := Lib.hid h759
                have HL759 := Lib.hid h759.1
                clear h759
                have HB759 := Lib.hid (HB758.out.kept hb759)
                have HK759 := Lib.hid (HK758.out.trans (Kept.of_below hb759))
                clear hb759
                (try dsimp only)
                clear HB758
                clear HK758
                clear hHeld
                refine hK.out _ _ (HK759.out) (fun hHeld => ?_)
                clear hK K
                (try simp only [Act.put, sA, sZ, sS])
                refine wpAnyH_ready (rs := [10]) (by kernel_rfl) (by simp) ?_
                refine AllReadyH.cons (o := ({ dst := some 38, op := Op.call { callee := Callee.value (Operand.func 72), args := #[Operand.tmp 37], argTypes := #[63] }, type := 97, pos := "curves.go:397", after := #[{ on := 9, ground := Ground.data }, { on := 9, ground := Ground.chain }], guard := none } : Oper)) rfl (fun K hK => ?_) AllReadyH.nil
                go_simp
                go_at_call 72
                refine (root_any _ U _ (by rw [← HUU.out]; exact HZ759.out) (range_below HTI.out HB759.out.below)).mono ?_
                rintro e w760 ⟨z760, rfl, h760, hb760⟩
                have HZ760 := Lib.hid h760
                have HL760 := Lib.hid h760.1
                clear h760
                have HB760 := Lib.hid (HB759.out.kept hb760)
                have HK760 := Lib.hid (HK759.out.trans (Kept.of_below hb760))
                clear hb760
                (try dsimp only)
                clear HB759
                clear HK759
                clear hHeld
                refine hK.out _ _ (HK760.out) (fun hHeld => ?_)
                clear hK K
                (try simp only [Act.put, sA, sZ, sS])
                refine wpAnyH_take (i := 11) (oi := ({ dst := some 27, op := Op.move (Operand.tmp 38), type := 97, pos := "curves.go:397", after := #[{ on := 10, ground := Ground.data }], guard := none } : Oper)) (v := ?v761) rfl (by kernel_rfl) (by kernel_rfl) (by kernel_rfl) (fun _ _ _ h => h) (Or.inl ⟨by rfl, ?hy761⟩) (by assumption) ?rest761
                case hy761 => (intro w hSw; (try dsimp only at hSw); go_simp; try (with_reducible rfl))
                (try simp only [Act.put, sA, sZ, sS])
                refine wpAnyH_take (i := 12) (oi := (⟨some 39, _, _, _, _, none⟩ : Oper)) (v := ?v762) rfl (by kernel_rfl) (by kernel_rfl) (by kernel_rfl) (fun _ _ _ h => h) (Or.inl ⟨by rfl, ?hy762⟩) (by assumption) ?rest762
                case hy762 => (intro w hSw; (try dsimp only at hSw); go_simp; try (with_reducible rfl))
                (try simp only [Act.put, sA, sZ, sS])
                refine wpAnyH_take (i := 13) (oi := (⟨some 40, _, _, _, _, none⟩ : Oper)) (v := ?v763) rfl (by kernel_rfl) (by kernel_rfl) (by kernel_rfl) (fun _ _ _ h => h) (Or.inl ⟨by rfl, ?hy763⟩) (by assumption) ?rest763
                case hy763 => (intro w hSw; (try dsimp only at hSw); go_simp; try (with_reducible rfl))
                (try simp only [Act.put, sA, sZ, sS])
                refine wpAnyH_ready (rs := [15]) (by kernel_rfl) (by simp) ?_
                refine AllReadyH.cons (o := (⟨none, _, _, _, _, none⟩ : Oper)) rfl (fun K hK => ?_) AllReadyH.nil
                refine step_store_whole rfl 63 (.tmp 7) (.tmp 39) rfl (g756) _ _ _ (HB760.out.get 4 rfl) rfl rfl (arr_len2 _ _ HL760.out HLze.out) (el_s HL760.out) (all_arr _ _) ?_
                intro w764 hb764 hk764 hz764
                have HB764 := Lib.hid (HB760.out.put 4 rfl hk764 hb764)
                have HK764 := Lib.hid (HK760.out.trans_new hk764 (fun i hi e => absurd hi (by rw [e]; exact Nat.not_lt.2 HN756.out)))
                clear hb764 hk764 hz764
                clear HB760
                clear HK760
                clear hHeld
                refine hK.out _ _ (HK764.out) (fun hHeld => ?_)
                clear hK K
                (try simp only [Act.put])
                refine wpAnyH_take (i := 16) (oi := (⟨some 8, _, _, _, _, none⟩ : Oper)) (v := ?v765) rfl (by kernel_rfl) (by kernel_rfl) (by kernel_rfl) (fun _ _ _ h => h) (Or.inl ⟨by rfl, ?hy765⟩) (by assumption) ?rest765
                case hy765 => (intro w hSw; (try dsimp only at hSw); go_simp; try (with_reducible rfl))
                (try simp only [Act.put, sA, sZ, sS])
                refine wpAnyH_done (by kernel_rfl) ?_ _
                go_wp2_with fail
                go_meet
                exact ⟨_, _, rfl, rfl, HZ760.out, HB764.out⟩
              exact AllReadyH.nil
            refine AllReadyH.cons (o := (⟨some 7, _, _, _, _, none⟩ : Oper)) rfl (fun K hK => ?_) ?_
            · refine step_alloc_row rfl 63 rfl _ (HZze.out _) ?_
              have HB766 := Lib.hid (HB720.out.alloc (arr .i64 ze) 63)
              have HK766 := Lib.hid (HK720.out.alloc (.cells (arr .i64 ze) 63))
              have HN766 := Lib.hid (show w714.heap.size ≤ (w720).heap.size from HK720.out.size)
              generalize (w720).heap.size = g766 at HB766 HN766 ⊢
              generalize (w720).alloc (.cells (arr .i64 ze) 63) = w766 at HB766 HK766 ⊢
              clear HB720
              clear HK720
              clear hHeld
              refine hK.out _ _ (HK766.out) (fun hHeld => ?_)
              clear hK K
              (try simp only [Act.put, sA, sZ, sS])
              refine wpAnyH_ready (rs := [6]) (by kernel_rfl) (by simp) ?_
              refine AllReadyH.cons (o := (⟨some 34, _, _, _, _, none⟩ : Oper)) rfl (fun K hK => ?_) AllReadyH.nil
              go_simp
              go_at_call 74
              refine (one_any 1 _ (by decide)).mono ?_
              rintro e w767 ⟨z767, rfl, h767, hb767⟩
              have HZ767 := Lib.hid h767
              have HL767 := Lib.hid h767.1
              clear h767
              have HB767 := Lib.hid (HB766.out.kept hb767)
              have HK767 := Lib.hid (HK766.out.trans (Kept.of_below hb767))
              clear hb767
              (try dsimp only)
              clear HB766
              clear HK766
              clear hHeld
              refine hK.out _ _ (HK767.out) (fun hHeld => ?_)
              clear hK K
              (try simp only [Act.put, sA, sZ, sS])
              refine wpAnyH_ready (rs := [7]) (by kernel_rfl) (by simp) ?_
              refine AllReadyH.cons (o := (⟨some 35, _, _, _, _, none⟩ : Oper)) rfl (fun K hK => ?_) AllReadyH.nil
              go_simp
              go_at_call 76
              refine (add_any _ _ _ _ _ HZ720.out HZ767.out).mono ?_
              rintro e w768 ⟨z768, rfl, h768, hb768⟩
              have HZ768 := Lib.hid h768
              have HL768 := Lib.hid h768.1
              clear h768
              have HB768 := Lib.hid (HB767.out.kept hb768)
              have HK768 := Lib.hid (HK767.out.trans (Kept.of_below hb768))
              clear hb768
              (try dsimp only)
              clear HB767
              clear HK767
              clear hHeld
              refine hK.out _ _ (HK768.out) (fun hHeld => ?_)
              clear hK K
              (try simp only [Act.put, sA, sZ, sS])
              refine wpAnyH_ready (rs := [8]) (by kernel_rfl) (by simp) ?_
              refine AllReadyH.cons (o := (⟨some 36, _, _, _, _, none⟩ : Oper)) rfl (fun K hK => ?_) AllReadyH.nil
              go_simp
              go_at_call 75
              refine (inv_any _ _ _ HZ768.out).mono ?_
              rintro e w769 ⟨z769, rfl, h769, hb769⟩
              have HZ769 := Lib.hid h769
              have HL769 := Lib.hid h769.1
              clear h769
              have HB769 := Lib.hid (HB768.out.kept hb769)
              have HK769 := Lib.hid (HK768.out.trans (Kept.of_below hb769))
              clear hb769
              (try dsimp only)
              clear HB768
              clear HK768
              clear hHeld
              refine hK.out _ _ (HK769.out) (fun hHeld => ?_)
              clear hK K
              (try simp only [Act.put, sA, sZ, sS])
              refine wpAnyH_ready (rs := [9]) (by kernel_rfl) (by simp) ?_
              refine AllReadyH.cons (o := (⟨some 37, _, _, _, _, none⟩ : Oper)) rfl (fun K hK => ?_) AllReadyH.nil
              go_simp
              go_at_call 71
              refine (mul_any _ _ _ _ _ HZ719.out HZ769.out).mono ?_
              rintro e w770 ⟨z770, rfl, h770, hb770⟩
              have HZ770 := Lib.hid h770
              have HL770 := Lib.hid h770.1
              clear h770
              have HB770 := Lib.hid (HB769.out.kept hb770)
              have HK770 := Lib.hid (HK769.out.trans (Kept.of_below hb770))
              clear hb770
              (try dsimp only)
              clear HB769
              clear HK769
              clear hHeld
              refine hK.out _ _ (HK770.out) (fun hHeld => ?_)
              clear hK K
              (try simp only [Act.put, sA, sZ, sS])
              refine wpAnyH_ready (rs := [10]) (by kernel_rfl) (by simp) ?_
              refine AllReadyH.cons (o := ({ dst := some 38, op := Op.call { callee := Callee.value (Operand.func 72), args := #[Operand.tmp 37], argTypes := #[63] }, type := 97, pos := "curves.go:397", after := #[{ on := 9, ground := Ground.data }, { on := 9, ground := Ground.chain }], guard := none } : Oper)) rfl (fun K hK => ?_) AllReadyH.nil
              go_simp
              go_at_call 72
              refine (root_any _ U _ (by rw [← HUU.out]; exact HZ770.out) (range_below HTI.out HB770.out.below)).mono ?_
              rintro e w771 ⟨z771, rfl, h771, hb771⟩
              have HZ771 := Lib.hid h771
              have HL771 := Lib.hid h771.1
              clear h771
              have HB771 := Lib.hid (HB770.out.kept hb771)
              have HK771 := Lib.hid (HK770.out.trans (Kept.of_below hb771))
              clear hb771
              (try dsimp only)
              clear HB770
              clear HK770
              clear hHeld
              refine hK.out _ _ (HK771.out) (fun hHeld => ?_)
              clear hK K
              (try simp only [Act.put, sA, sZ, sS])
              refine wpAnyH_take (i := 11) (oi := ({ dst := some 27, op := Op.move (Operand.tmp 38), type := 97, pos := "curves.go:397", after := #[{ on := 10, ground := Ground.data }], guard := none } : Oper)) (v := ?v772) rfl (by kernel_rfl) (by kernel_rfl) (by kernel_rfl) (fun _ _ _ h => h) (Or.inl ⟨by rfl, ?hy772⟩) (by assumption) ?rest772
              case hy772 => (intro w hSw; (try dsimp only at hSw); go_simp; try (with_reducible rfl))
              (try simp only [Act.put, sA, sZ, sS])
              refine wpAnyH_take (i := 12) (oi := (⟨some 39, _, _, _, _, none⟩ : Oper)) (v := ?v773) rfl (by kernel_rfl) (by kernel_rfl) (by kernel_rfl) (fun _ _ _ h => h) (Or.inl ⟨by rfl, ?hy773⟩) (by assumption) ?rest773
              case hy773 => (intro w hSw; (try dsimp only at hSw); go_simp; try (with_reducible rfl))
              (try simp only [Act.put, sA, sZ, sS])
              refine wpAnyH_take (i := 13) (oi := (⟨some 40, _, _, _, _, none⟩ : Oper)) (v := ?v774) rfl (by kernel_rfl) (by kernel_rfl) (by kernel_rfl) (fun _ _ _ h => h) (Or.inl ⟨by rfl, ?hy774⟩) (by assumption) ?rest774
              case hy774 => (intro w hSw; (try dsimp only at hSw); go_simp; try (with_reducible rfl))
              (try simp only [Act.put, sA, sZ, sS])
              refine wpAnyH_ready (rs := [15]) (by kernel_rfl) (by simp) ?_
              refine AllReadyH.cons (o := (⟨none, _, _, _, _, none⟩ : Oper)) rfl (fun K hK => ?_) AllReadyH.nil
              refine step_store_whole rfl 63 (.tmp 7) (.tmp 39) rfl (g766) _ _ _ (HB771.out.get 4 rfl) rfl rfl (arr_len2 _ _ HL771.out HLze.out) (el_s HL771.out) (all_arr _ _) ?_
              intro w775 hb775 hk775 hz775
              have HB775 := Lib.hid (HB771.out.put 4 rfl hk775 hb775)
              have HK775 := Lib.hid (HK771.out.trans_new hk775 (fun i hi e => absurd hi (by rw [e]; exact Nat.not_lt.2 HN766.out)))
              clear hb775 hk775 hz775
              clear HB771
              clear HK771
              clear hHeld
              refine hK.out _ _ (HK775.out) (fun hHeld => ?_)
              clear hK K
              (try simp only [Act.put])
              refine wpAnyH_take (i := 16) (oi := (⟨some 8, _, _, _, _, none⟩ : Oper)) (v := ?v776) rfl (by kernel_rfl) (by kernel_rfl) (by kernel_rfl) (fun _ _ _ h => h) (Or.inl ⟨by rfl, ?hy776⟩) (by assumption) ?rest776
              case hy776 => (intro w hSw; (try dsimp only at hSw); go_simp; try (with_reducible rfl))
              (try simp only [Act.put, sA, sZ, sS])
              refine wpAnyH_done (by kernel_rfl) ?_ _
              go_wp2_with fail
              go_meet
              exact ⟨_, _, rfl, rfl, HZ771.out, HB775.out⟩
            exact AllReadyH.nil
          refine AllReadyH.cons (o := (⟨some 7, _, _, _, _, none⟩ : Oper)) rfl (fun K hK => ?_) ?_
          · refine step_alloc_row rfl 63 rfl _ (HZze.out _) ?_
            have HB777 := Lib.hid (HB719.out.alloc (arr .i64 ze) 63)
            have HK777 := Lib.hid (HK719.out.alloc (.cells (arr .i64 ze) 63))
            have HN777 := Lib.hid (show w714.heap.size ≤ (w719).heap.size from HK719.out.size)
            generalize (w719).heap.size = g777 at HB777 HN777 ⊢
            generalize (w719).alloc (.cells (arr .i64 ze) 63) = w777 at HB777 HK777 ⊢
            clear HB719
            clear HK719
            clear hHeld
            refine hK.out _ _ (HK777.out) (fun hHeld => ?_)
            clear hK K
            (try simp only [Act.put, sA, sZ, sS])
            refine wpAnyH_ready (rs := [5]) (by kernel_rfl) (by simp) ?_
            refine AllReadyH.cons (o := (⟨some 33, _, _, _, _, none⟩ : Oper)) rfl (fun K hK => ?_) AllReadyH.nil
            go_simp
            go_at_call 71
            refine (mul_any _ _ _ _ _ HD.out HZ712.out).mono ?_
            rintro e w778 ⟨z778, rfl, h778, hb778⟩
            have HZ778 := Lib.hid h778
            have HL778 := Lib.hid h778.1
            clear h778
            have HB778 := Lib.hid (HB777.out.kept hb778)
            have HK778 := Lib.hid (HK777.out.trans (Kept.of_below hb778))
            clear hb778
            (try dsimp only)
            clear HB777
            clear HK777
            clear hHeld
            refine hK.out _ _ (HK778.out) (fun hHeld => ?_)
            clear hK K
            (try simp only [Act.put, sA, sZ, sS])
            refine wpAnyH_ready (rs := [6]) (by kernel_rfl) (by simp) ?_
            refine AllReadyH.cons (o := (⟨some 34, _, _, _, _, none⟩ : Oper)) rfl (fun K hK => ?_) AllReadyH.nil
            go_simp
            go_at_call 74
            refine (one_any 1 _ (by decide)).mono ?_
            rintro e w779 ⟨z779, rfl, h779, hb779⟩
            have HZ779 := Lib.hid h779
            have HL779 := Lib.hid h779.1
            clear h779
            have HB779 := Lib.hid (HB778.out.kept hb779)
            have HK779 := Lib.hid (HK778.out.trans (Kept.of_below hb779))
            clear hb779
            (try dsimp only)
            clear HB778
            clear HK778
            clear hHeld
            refine hK.out _ _ (HK779.out) (fun hHeld => ?_)
            clear hK K
            (try simp only [Act.put, sA, sZ, sS])
            refine wpAnyH_ready (rs := [7]) (by kernel_rfl) (by simp) ?_
            refine AllReadyH.cons (o := (⟨some 35, _, _, _, _, none⟩ : Oper)) rfl (fun K hK => ?_) AllReadyH.nil
            go_simp
            go_at_call 76
            refine (add_any _ _ _ _ _ HZ778.out HZ779.out).mono ?_
            rintro e w780 ⟨z780, rfl, h780, hb780⟩
            have HZ780 := Lib.hid h780
            have HL780 := Lib.hid h780.1
            clear h780
            have HB780 := Lib.hid (HB779.out.kept hb780)
            have HK780 := Lib.hid (HK779.out.trans (Kept.of_below hb780))
            clear hb780
            (try dsimp only)
            clear HB779
            clear HK779
            clear hHeld
            refine hK.out _ _ (HK780.out) (fun hHeld => ?_)
            clear hK K
            (try simp only [Act.put, sA, sZ, sS])
            refine wpAnyH_ready (rs := [8]) (by kernel_rfl) (by simp) ?_
            refine AllReadyH.cons (o := (⟨some 36, _, _, _, _, none⟩ : Oper)) rfl (fun K hK => ?_) AllReadyH.nil
            go_simp
            go_at_call 75
            refine (inv_any _ _ _ HZ780.out).mono ?_
            rintro e w781 ⟨z781, rfl, h781, hb781⟩
            have HZ781 := Lib.hid h781
            have HL781 := Lib.hid h781.1
            clear h781
            have HB781 := Lib.hid (HB780.out.kept hb781)
            have HK781 := Lib.hid (HK780.out.trans (Kept.of_below hb781))
            clear hb781
            (try dsimp only)
            clear HB780
            clear HK780
            clear hHeld
            refine hK.out _ _ (HK781.out) (fun hHeld => ?_)
            clear hK K
            (try simp only [Act.put, sA, sZ, sS])
            refine wpAnyH_ready (rs := [9]) (by kernel_rfl) (by simp) ?_
            refine AllReadyH.cons (o := (⟨some 37, _, _, _, _, none⟩ : Oper)) rfl (fun K hK => ?_) AllReadyH.nil
            go_simp
            go_at_call 71
            refine (mul_any _ _ _ _ _ HZ719.out HZ781.out).mono ?_
            rintro e w782 ⟨z782, rfl, h782, hb782⟩
            have HZ782 := Lib.hid h782
            have HL782 := Lib.hid h782.1
            clear h782
            have HB782 := Lib.hid (HB781.out.kept hb782)
            have HK782 := Lib.hid (HK781.out.trans (Kept.of_below hb782))
            clear hb782
            (try dsimp only)
            clear HB781
            clear HK781
            clear hHeld
            refine hK.out _ _ (HK782.out) (fun hHeld => ?_)
            clear hK K
            (try simp only [Act.put, sA, sZ, sS])
            refine wpAnyH_ready (rs := [10]) (by kernel_rfl) (by simp) ?_
            refine AllReadyH.cons (o := ({ dst := some 38, op := Op.call { callee := Callee.value (Operand.func 72), args := #[Operand.tmp 37], argTypes := #[63] }, type := 97, pos := "curves.go:397", after := #[{ on := 9, ground := Ground.data }, { on := 9, ground := Ground.chain }], guard := none } : Oper)) rfl (fun K hK => ?_) AllReadyH.nil
            go_simp
            go_at_call 72
            refine (root_any _ U _ (by rw [← HUU.out]; exact HZ782.out) (range_below HTI.out HB782.out.below)).mono ?_
            rintro e w783 ⟨z783, rfl, h783, hb783⟩
            have HZ783 := Lib.hid h783
            have HL783 := Lib.hid h783.1
            clear h783
            have HB783 := Lib.hid (HB782.out.kept hb783)
            have HK783 := Lib.hid (HK782.out.trans (Kept.of_below hb783))
            clear hb783
            (try dsimp only)
            clear HB782
            clear HK782
            clear hHeld
            refine hK.out _ _ (HK783.out) (fun hHeld => ?_)
            clear hK K
            (try simp only [Act.put, sA, sZ, sS])
            refine wpAnyH_take (i := 11) (oi := ({ dst := some 27, op := Op.move (Operand.tmp 38), type := 97, pos := "curves.go:397", after := #[{ on := 10, ground := Ground.data }], guard := none } : Oper)) (v := ?v784) rfl (by kernel_rfl) (by kernel_rfl) (by kernel_rfl) (fun _ _ _ h => h) (Or.inl ⟨by rfl, ?hy784⟩) (by assumption) ?rest784
            case hy784 => (intro w hSw; (try dsimp only at hSw); go_simp; try (with_reducible rfl))
            (try simp only [Act.put, sA, sZ, sS])
            refine wpAnyH_take (i := 12) (oi := (⟨some 39, _, _, _, _, none⟩ : Oper)) (v := ?v785) rfl (by kernel_rfl) (by kernel_rfl) (by kernel_rfl) (fun _ _ _ h => h) (Or.inl ⟨by rfl, ?hy785⟩) (by assumption) ?rest785
            case hy785 => (intro w hSw; (try dsimp only at hSw); go_simp; try (with_reducible rfl))
            (try simp only [Act.put, sA, sZ, sS])
            refine wpAnyH_take (i := 13) (oi := (⟨some 40, _, _, _, _, none⟩ : Oper)) (v := ?v786) rfl (by kernel_rfl) (by kernel_rfl) (by kernel_rfl) (fun _ _ _ h => h) (Or.inl ⟨by rfl, ?hy786⟩) (by assumption) ?rest786
            case hy786 => (intro w hSw; (try dsimp only at hSw); go_simp; try (with_reducible rfl))
            (try simp only [Act.put, sA, sZ, sS])
            refine wpAnyH_ready (rs := [15]) (by kernel_rfl) (by simp) ?_
            refine AllReadyH.cons (o := (⟨none, _, _, _, _, none⟩ : Oper)) rfl (fun K hK => ?_) AllReadyH.nil
            refine step_store_whole rfl 63 (.tmp 7) (.tmp 39) rfl (g777) _ _ _ (HB783.out.get 4 rfl) rfl rfl (arr_len2 _ _ HL783.out HLze.out) (el_s HL783.out) (all_arr _ _) ?_
            intro w787 hb787 hk787 hz787
            have HB787 := Lib.hid (HB783.out.put 4 rfl hk787 hb787)
            have HK787 := Lib.hid (HK783.out.trans_new hk787 (fun i hi e => absurd hi (by rw [e]; exact Nat.not_lt.2 HN777.out)))
            clear hb787 hk787 hz787
            clear HB783
            clear HK783
            clear hHeld
            refine hK.out _ _ (HK787.out) (fun hHeld => ?_)
            clear hK K
            (try simp only [Act.put])
            refine wpAnyH_take (i := 16) (oi := (⟨some 8, _, _, _, _, none⟩ : Oper)) (v := ?v788) rfl (by kernel_rfl) (by kernel_rfl) (by kernel_rfl) (fun _ _ _ h => h) (Or.inl ⟨by rfl, ?hy788⟩) (by assumption) ?rest788
            case hy788 => (intro w hSw; (try dsimp only at hSw); go_simp; try (with_reducible rfl))
            (try simp only [Act.put, sA, sZ, sS])
            refine wpAnyH_done (by kernel_rfl) ?_ _
            go_wp2_with fail
            go_meet
            exact ⟨_, _, rfl, rfl, HZ783.out, HB787.out⟩
          exact AllReadyH.nil
        refine AllReadyH.cons (o := (⟨some 7, _, _, _, _, none⟩ : Oper)) rfl (fun K hK => ?_) ?_
        · refine step_alloc_row rfl 63 rfl _ (HZze.out _) ?_
          have HB789 := Lib.hid (HB718.out.alloc (arr .i64 ze) 63)
          have HK789 := Lib.hid (HK718.out.alloc (.cells (arr .i64 ze) 63))
          have HN789 := Lib.hid (show w714.heap.size ≤ (w718).heap.size from HK718.out.size)
          generalize (w718).heap.size = g789 at HB789 HN789 ⊢
          generalize (w718).alloc (.cells (arr .i64 ze) 63) = w789 at HB789 HK789 ⊢
          clear HB718
          clear HK718
          clear hHeld
          refine hK.out _ _ (HK789.out) (fun hHeld => ?_)
          clear hK K
          (try simp only [Act.put, sA, sZ, sS])
          refine wpAnyH_ready (rs := [2]) (by kernel_rfl) (by simp) ?_
          refine AllReadyH.cons (o := (⟨some 30, _, _, _, _, none⟩ : Oper)) rfl (fun K hK => ?_) AllReadyH.nil
          go_simp
          go_at_call 73
          refine (sub_any _ _ _ _ _ HZ712.out HZ718.out).mono ?_
          rintro e w790 ⟨z790, rfl, h790, hb790⟩
          have HZ790 := Lib.hid h790
          have HL790 := Lib.hid h790.1
          clear h790
          have HB790 := Lib.hid (HB789.out.kept hb790)
          have HK790 := Lib.hid (HK789.out.trans (Kept.of_below hb790))
          clear hb790
          (try dsimp only)
          clear HB789
          clear HK789
          clear hHeld
          refine hK.out _ _ (HK790.out) (fun hHeld => ?_)
          clear hK K
          (try simp only [Act.put, sA, sZ, sS])
          refine wpAnyH_ready (rs := [5]) (by kernel_rfl) (by simp) ?_
          refine AllReadyH.cons (o := (⟨some 33, _, _, _, _, none⟩ : Oper)) rfl (fun K hK => ?_) AllReadyH.nil
          go_simp
          go_at_call 71
          refine (mul_any _ _ _ _ _ HD.out HZ712.out).mono ?_
          rintro e w791 ⟨z791, rfl, h791, hb791⟩
          have HZ791 := Lib.hid h791
          have HL791 := Lib.hid h791.1
          clear h791
          have HB791 := Lib.hid (HB790.out.kept hb791)
          have HK791 := Lib.hid (HK790.out.trans (Kept.of_below hb791))
          clear hb791
          (try dsimp only)
          clear HB790
          clear HK790
          clear hHeld
          refine hK.out _ _ (HK791.out) (fun hHeld => ?_)
          clear hK K
          (try simp only [Act.put, sA, sZ, sS])
          refine wpAnyH_ready (rs := [6]) (by kernel_rfl) (by simp) ?_
          refine AllReadyH.cons (o := (⟨some 34, _, _, _, _, none⟩ : Oper)) rfl (fun K hK => ?_) AllReadyH.nil
          go_simp
          go_at_call 74
          refine (one_any 1 _ (by decide)).mono ?_
          rintro e w792 ⟨z792, rfl, h792, hb792⟩
          have HZ792 := Lib.hid h792
          have HL792 := Lib.hid h792.1
          clear h792
          have HB792 := Lib.hid (HB791.out.kept hb792)
          have HK792 := Lib.hid (HK791.out.trans (Kept.of_below hb792))
          clear hb792
          (try dsimp only)
          clear HB791
          clear HK791
          clear hHeld
          refine hK.out _ _ (HK792.out) (fun hHeld => ?_)
          clear hK K
          (try simp only [Act.put, sA, sZ, sS])
          refine wpAnyH_ready (rs := [7]) (by kernel_rfl) (by simp) ?_
          refine AllReadyH.cons (o := (⟨some 35, _, _, _, _, none⟩ : Oper)) rfl (fun K hK => ?_) AllReadyH.nil
          go_simp
          go_at_call 76
          refine (add_any _ _ _ _ _ HZ791.out HZ792.out).mono ?_
          rintro e w793 ⟨z793, rfl, h793, hb793⟩
          have HZ793 := Lib.hid h793
          have HL793 := Lib.hid h793.1
          clear h793
          have HB793 := Lib.hid (HB792.out.kept hb793)
          have HK793 := Lib.hid (HK792.out.trans (Kept.of_below hb793))
          clear hb793
          (try dsimp only)
          clear HB792
          clear HK792
          clear hHeld
          refine hK.out _ _ (HK793.out) (fun hHeld => ?_)
          clear hK K
          (try simp only [Act.put, sA, sZ, sS])
          refine wpAnyH_ready (rs := [8]) (by kernel_rfl) (by simp) ?_
          refine AllReadyH.cons (o := (⟨some 36, _, _, _, _, none⟩ : Oper)) rfl (fun K hK => ?_) AllReadyH.nil
          go_simp
          go_at_call 75
          refine (inv_any _ _ _ HZ793.out).mono ?_
          rintro e w794 ⟨z794, rfl, h794, hb794⟩
          have HZ794 := Lib.hid h794
          have HL794 := Lib.hid h794.1
          clear h794
          have HB794 := Lib.hid (HB793.out.kept hb794)
          have HK794 := Lib.hid (HK793.out.trans (Kept.of_below hb794))
          clear hb794
          (try dsimp only)
          clear HB793
          clear HK793
          clear hHeld
          refine hK.out _ _ (HK794.out) (fun hHeld => ?_)
          clear hK K
          (try simp only [Act.put, sA, sZ, sS])
          refine wpAnyH_ready (rs := [9]) (by kernel_rfl) (by simp) ?_
          refine AllReadyH.cons (o := (⟨some 37, _, _, _, _, none⟩ : Oper)) rfl (fun K hK => ?_) AllReadyH.nil
          go_simp
          go_at_call 71
          refine (mul_any _ _ _ _ _ HZ790.out HZ794.out).mono ?_
          rintro e w795 ⟨z795, rfl, h795, hb795⟩
          have HZ795 := Lib.hid h795
          have HL795 := Lib.hid h795.1
          clear h795
          have HB795 := Lib.hid (HB794.out.kept hb795)
          have HK795 := Lib.hid (HK794.out.trans (Kept.of_below hb795))
          clear hb795
          (try dsimp only)
          clear HB794
          clear HK794
          clear hHeld
          refine hK.out _ _ (HK795.out) (fun hHeld => ?_)
          clear hK K
          (try simp only [Act.put, sA, sZ, sS])
          refine wpAnyH_ready (rs := [10]) (by kernel_rfl) (by simp) ?_
          refine AllReadyH.cons (o := ({ dst := some 38, op := Op.call { callee := Callee.value (Operand.func 72), args := #[Operand.tmp 37], argTypes := #[63] }, type := 97, pos := "curves.go:397", after := #[{ on := 9, ground := Ground.data }, { on := 9, ground := Ground.chain }], guard := none } : Oper)) rfl (fun K hK => ?_) AllReadyH.nil
          go_simp
          go_at_call 72
          refine (root_any _ U _ (by rw [← HUU.out]; exact HZ795.out) (range_below HTI.out HB795.out.below)).mono ?_
          rintro e w796 ⟨z796, rfl, h796, hb796⟩
          have HZ796 := Lib.hid h796
          have HL796 := Lib.hid h796.1
          clear h796
          have HB796 := Lib.hid (HB795.out.kept hb796)
          have HK796 := Lib.hid (HK795.out.trans (Kept.of_below hb796))
          clear hb796
          (try dsimp only)
          clear HB795
          clear HK795
          clear hHeld
          refine hK.out _ _ (HK796.out) (fun hHeld => ?_)
          clear hK K
          (try simp only [Act.put, sA, sZ, sS])
          refine wpAnyH_take (i := 11) (oi := ({ dst := some 27, op := Op.move (Operand.tmp 38), type := 97, pos := "curves.go:397", after := #[{ on := 10, ground := Ground.data }], guard := none } : Oper)) (v := ?v797) rfl (by kernel_rfl) (by kernel_rfl) (by kernel_rfl) (fun _ _ _ h => h) (Or.inl ⟨by rfl, ?hy797⟩) (by assumption) ?rest797
          case hy797 => (intro w hSw; (try dsimp only at hSw); go_simp; try (with_reducible rfl))
          (try simp only [Act.put, sA, sZ, sS])
          refine wpAnyH_take (i := 12) (oi := (⟨some 39, _, _, _, _, none⟩ : Oper)) (v := ?v798) rfl (by kernel_rfl) (by kernel_rfl) (by kernel_rfl) (fun _ _ _ h => h) (Or.inl ⟨by rfl, ?hy798⟩) (by assumption) ?rest798
          case hy798 => (intro w hSw; (try dsimp only at hSw); go_simp; try (with_reducible rfl))
          (try simp only [Act.put, sA, sZ, sS])
          refine wpAnyH_take (i := 13) (oi := (⟨some 40, _, _, _, _, none⟩ : Oper)) (v := ?v799) rfl (by kernel_rfl) (by kernel_rfl) (by kernel_rfl) (fun _ _ _ h => h) (Or.inl ⟨by rfl, ?hy799⟩) (by assumption) ?rest799
          case hy799 => (intro w hSw; (try dsimp only at hSw); go_simp; try (with_reducible rfl))
          (try simp only [Act.put, sA, sZ, sS])
          refine wpAnyH_ready (rs := [15]) (by kernel_rfl) (by simp) ?_
          refine AllReadyH.cons (o := (⟨none, _, _, _, _, none⟩ : Oper)) rfl (fun K hK => ?_) AllReadyH.nil
          refine step_store_whole rfl 63 (.tmp 7) (.tmp 39) rfl (g789) _ _ _ (HB796.out.get 4 rfl) rfl rfl (arr_len2 _ _ HL796.out HLze.out) (el_s HL796.out) (all_arr _ _) ?_
          intro w800 hb800 hk800 hz800
          have HB800 := Lib.hid (HB796.out.put 4 rfl hk800 hb800)
          have HK800 := Lib.hid (HK796.out.trans_new hk800 (fun i hi e => absurd hi (by rw [e]; exact Nat.not_lt.2 HN789.out)))
          clear hb800 hk800 hz800
          clear HB796
          clear HK796
          clear hHeld
          refine hK.out _ _ (HK800.out) (fun hHeld => ?_)
          clear hK K
          (try simp only [Act.put])
          refine wpAnyH_take (i := 16) (oi := (⟨some 8, _, _, _, _, none⟩ : Oper)) (v := ?v801) rfl (by kernel_rfl) (by kernel_rfl) (by kernel_rfl) (fun _ _ _ h => h) (Or.inl ⟨by rfl, ?hy801⟩) (by assumption) ?rest801
          case hy801 => (intro w hSw; (try dsimp only at hSw); go_simp; try (with_reducible rfl))
          (try simp only [Act.put, sA, sZ, sS])
          refine wpAnyH_done (by kernel_rfl) ?_ _
          go_wp2_with fail
          go_meet
          exact ⟨_, _, rfl, rfl, HZ796.out, HB800.out⟩
        exact AllReadyH.nil
      refine AllReadyH.cons (o := (⟨some 7, _, _, _, _, none⟩ : Oper)) rfl (fun K hK => ?_) ?_
      · refine step_alloc_row rfl 63 rfl _ (HZze.out _) ?_
        have HB802 := Lib.hid (HBd.out.alloc (arr .i64 ze) 63)
        have HK802 := Lib.hid (HK0.out.alloc (.cells (arr .i64 ze) 63))
        have HN802 := Lib.hid (show w714.heap.size ≤ (wd).heap.size from HK0.out.size)
        generalize (wd).heap.size = g802 at HB802 HN802 ⊢
        generalize (wd).alloc (.cells (arr .i64 ze) 63) = w802 at HB802 HK802 ⊢
        clear HBd
        clear HK0
        clear hHeld
        refine hK.out _ _ (HK802.out) (fun hHeld => ?_)
        clear hK K
        (try simp only [Act.put, sA, sZ, sS])
        refine wpAnyH_ready (rs := [1]) (by kernel_rfl) (by simp) ?_
        refine AllReadyH.cons (o := (⟨some 29, _, _, _, _, none⟩ : Oper)) rfl (fun K hK => ?_) AllReadyH.nil
        go_simp
        go_at_call 74
        refine (one_any 1 _ (by decide)).mono ?_
        rintro e w803 ⟨z803, rfl, h803, hb803⟩
        have HZ803 := Lib.hid h803
        have HL803 := Lib.hid h803.1
        clear h803
        have HB803 := Lib.hid (HB802.out.kept hb803)
        have HK803 := Lib.hid (HK802.out.trans (Kept.of_below hb803))
        clear hb803
        (try dsimp only)
        clear HB802
        clear HK802
        clear hHeld
        refine hK.out _ _ (HK803.out) (fun hHeld => ?_)
        clear hK K
        (try simp only [Act.put, sA, sZ, sS])
        refine wpAnyH_ready (rs := [2]) (by kernel_rfl) (by simp) ?_
        refine AllReadyH.cons (o := (⟨some 30, _, _, _, _, none⟩ : Oper)) rfl (fun K hK => ?_) AllReadyH.nil
        go_simp
        go_at_call 73
        refine (sub_any _ _ _ _ _ HZ712.out HZ803.out).mono ?_
        rintro e w804 ⟨z804, rfl, h804, hb804⟩
        have HZ804 := Lib.hid h804
        have HL804 := Lib.hid h804.1
        clear h804
        have HB804 := Lib.hid (HB803.out.kept hb804)
        have HK804 := Lib.hid (HK803.out.trans (Kept.of_below hb804))
        clear hb804
        (try dsimp only)
        clear HB803
        clear HK803
        clear hHeld
        refine hK.out _ _ (HK804.out) (fun hHeld => ?_)
        clear hK K
        (try simp only [Act.put, sA, sZ, sS])
        refine wpAnyH_ready (rs := [5]) (by kernel_rfl) (by simp) ?_
        refine AllReadyH.cons (o := (⟨some 33, _, _, _, _, none⟩ : Oper)) rfl (fun K hK => ?_) AllReadyH.nil
        go_simp
        go_at_call 71
        refine (mul_any _ _ _ _ _ HD.out HZ712.out).mono ?_
        rintro e w805 ⟨z805, rfl, h805, hb805⟩
        have HZ805 := Lib.hid h805
        have HL805 := Lib.hid h805.1
        clear h805
        have HB805 := Lib.hid (HB804.out.kept hb805)
        have HK805 := Lib.hid (HK804.out.trans (Kept.of_below hb805))
        clear hb805
        (try dsimp only)
        clear HB804
        clear HK804
        clear hHeld
        refine hK.out _ _ (HK805.out) (fun hHeld => ?_)
        clear hK K
        (try simp only [Act.put, sA, sZ, sS])
        refine wpAnyH_ready (rs := [6]) (by kernel_rfl) (by simp) ?_
        refine AllReadyH.cons (o := (⟨some 34, _, _, _, _, none⟩ : Oper)) rfl (fun K hK => ?_) AllReadyH.nil
        go_simp
        go_at_call 74
        refine (one_any 1 _ (by decide)).mono ?_
        rintro e w806 ⟨z806, rfl, h806, hb806⟩
        have HZ806 := Lib.hid h806
        have HL806 := Lib.hid h806.1
        clear h806
        have HB806 := Lib.hid (HB805.out.kept hb806)
        have HK806 := Lib.hid (HK805.out.trans (Kept.of_below hb806))
        clear hb806
        (try dsimp only)
        clear HB805
        clear HK805
        clear hHeld
        refine hK.out _ _ (HK806.out) (fun hHeld => ?_)
        clear hK K
        (try simp only [Act.put, sA, sZ, sS])
        refine wpAnyH_ready (rs := [7]) (by kernel_rfl) (by simp) ?_
        refine AllReadyH.cons (o := (⟨some 35, _, _, _, _, none⟩ : Oper)) rfl (fun K hK => ?_) AllReadyH.nil
        go_simp
        go_at_call 76
        refine (add_any _ _ _ _ _ HZ805.out HZ806.out).mono ?_
        rintro e w807 ⟨z807, rfl, h807, hb807⟩
        have HZ807 := Lib.hid h807
        have HL807 := Lib.hid h807.1
        clear h807
        have HB807 := Lib.hid (HB806.out.kept hb807)
        have HK807 := Lib.hid (HK806.out.trans (Kept.of_below hb807))
        clear hb807
        (try dsimp only)
        clear HB806
        clear HK806
        clear hHeld
        refine hK.out _ _ (HK807.out) (fun hHeld => ?_)
        clear hK K
        (try simp only [Act.put, sA, sZ, sS])
        refine wpAnyH_ready (rs := [8]) (by kernel_rfl) (by simp) ?_
        refine AllReadyH.cons (o := (⟨some 36, _, _, _, _, none⟩ : Oper)) rfl (fun K hK => ?_) AllReadyH.nil
        go_simp
        go_at_call 75
        refine (inv_any _ _ _ HZ807.out).mono ?_
        rintro e w808 ⟨z808, rfl, h808, hb808⟩
        have HZ808 := Lib.hid h808
        have HL808 := Lib.hid h808.1
        clear h808
        have HB808 := Lib.hid (HB807.out.kept hb808)
        have HK808 := Lib.hid (HK807.out.trans (Kept.of_below hb808))
        clear hb808
        (try dsimp only)
        clear HB807
        clear HK807
        clear hHeld
        refine hK.out _ _ (HK808.out) (fun hHeld => ?_)
        clear hK K
        (try simp only [Act.put, sA, sZ, sS])
        refine wpAnyH_ready (rs := [9]) (by kernel_rfl) (by simp) ?_
        refine AllReadyH.cons (o := (⟨some 37, _, _, _, _, none⟩ : Oper)) rfl (fun K hK => ?_) AllReadyH.nil
        go_simp
        go_at_call 71
        refine (mul_any _ _ _ _ _ HZ804.out HZ808.out).mono ?_
        rintro e w809 ⟨z809, rfl, h809, hb809⟩
        have HZ809 := Lib.hid h809
        have HL809 := Lib.hid h809.1
        clear h809
        have HB809 := Lib.hid (HB808.out.kept hb809)
        have HK809 := Lib.hid (HK808.out.trans (Kept.of_below hb809))
        clear hb809
        (try dsimp only)
        clear HB808
        clear HK808
        clear hHeld
        refine hK.out _ _ (HK809.out) (fun hHeld => ?_)
        clear hK K
        (try simp only [Act.put, sA, sZ, sS])
        refine wpAnyH_ready (rs := [10]) (by kernel_rfl) (by simp) ?_
        refine AllReadyH.cons (o := ({ dst := some 38, op := Op.call { callee := Callee.value (Operand.func 72), args := #[Operand.tmp 37], argTypes := #[63] }, type := 97, pos := "curves.go:397", after := #[{ on := 9, ground := Ground.data }, { on := 9, ground := Ground.chain }], guard := none } : Oper)) rfl (fun K hK => ?_) AllReadyH.nil
        go_simp
        go_at_call 72
        refine (root_any _ U _ (by rw [← HUU.out]; exact HZ809.out) (range_below HTI.out HB809.out.below)).mono ?_
        rintro e w810 ⟨z810, rfl, h810, hb810⟩
        have HZ810 := Lib.hid h810
        have HL810 := Lib.hid h810.1
        clear h810
        have HB810 := Lib.hid (HB809.out.kept hb810)
        have HK810 := Lib.hid (HK809.out.trans (Kept.of_below hb810))
        clear hb810
        (try dsimp only)
        clear HB809
        clear HK809
        clear hHeld
        refine hK.out _ _ (HK810.out) (fun hHeld => ?_)
        clear hK K
        (try simp only [Act.put, sA, sZ, sS])
        refine wpAnyH_take (i := 11) (oi := ({ dst := some 27, op := Op.move (Operand.tmp 38), type := 97, pos := "curves.go:397", after := #[{ on := 10, ground := Ground.data }], guard := none } : Oper)) (v := ?v811) rfl (by kernel_rfl) (by kernel_rfl) (by kernel_rfl) (fun _ _ _ h => h) (Or.inl ⟨by rfl, ?hy811⟩) (by assumption) ?rest811
        case hy811 => (intro w hSw; (try dsimp only at hSw); go_simp; try (with_reducible rfl))
        (try simp only [Act.put, sA, sZ, sS])
        refine wpAnyH_take (i := 12) (oi := (⟨some 39, _, _, _, _, none⟩ : Oper)) (v := ?v812) rfl (by kernel_rfl) (by kernel_rfl) (by kernel_rfl) (fun _ _ _ h => h) (Or.inl ⟨by rfl, ?hy812⟩) (by assumption) ?rest812
        case hy812 => (intro w hSw; (try dsimp only at hSw); go_simp; try (with_reducible rfl))
        (try simp only [Act.put, sA, sZ, sS])
        refine wpAnyH_take (i := 13) (oi := (⟨some 40, _, _, _, _, none⟩ : Oper)) (v := ?v813) rfl (by kernel_rfl) (by kernel_rfl) (by kernel_rfl) (fun _ _ _ h => h) (Or.inl ⟨by rfl, ?hy813⟩) (by assumption) ?rest813
        case hy813 => (intro w hSw; (try dsimp only at hSw); go_simp; try (with_reducible rfl))
        (try simp only [Act.put, sA, sZ, sS])
        refine wpAnyH_ready (rs := [15]) (by kernel_rfl) (by simp) ?_
        refine AllReadyH.cons (o := (⟨none, _, _, _, _, none⟩ : Oper)) rfl (fun K hK => ?_) AllReadyH.nil
        refine step_store_whole rfl 63 (.tmp 7) (.tmp 39) rfl (g802) _ _ _ (HB810.out.get 4 rfl) rfl rfl (arr_len2 _ _ HL810.out HLze.out) (el_s HL810.out) (all_arr _ _) ?_
        intro w814 hb814 hk814 hz814
        have HB814 := Lib.hid (HB810.out.put 4 rfl hk814 hb814)
        have HK814 := Lib.hid (HK810.out.trans_new hk814 (fun i hi e => absurd hi (by rw [e]; exact Nat.not_lt.2 HN802.out)))
        clear hb814 hk814 hz814
        clear HB810
        clear HK810
        clear hHeld
        refine hK.out _ _ (HK814.out) (fun hHeld => ?_)
        clear hK K
        (try simp only [Act.put])
        refine wpAnyH_take (i := 16) (oi := (⟨some 8, _, _, _, _, none⟩ : Oper)) (v := ?v815) rfl (by kernel_rfl) (by kernel_rfl) (by kernel_rfl) (fun _ _ _ h => h) (Or.inl ⟨by rfl, ?hy815⟩) (by assumption) ?rest815
        case hy815 => (intro w hSw; (try dsimp only at hSw); go_simp; try (with_reducible rfl))
        (try simp only [Act.put, sA, sZ, sS])
        refine wpAnyH_done (by kernel_rfl) ?_ _
        go_wp2_with fail
        go_meet
        exact ⟨_, _, rfl, rfl, HZ810.out, HB814.out⟩
      exact AllReadyH.nil
    case rest =>
    obtain ⟨wy, rfl⟩ : ∃ x : World, x = wc := ⟨_, rfl⟩
    obtain ⟨gx, xr, rfl, rfl, h1, hb1⟩ := hcut
    have HB8 := Lib.hid hb1
    have HXR := Lib.hid h1
    have HXL := Lib.hid h1.1
    clear h1 hb1 HTb
    obtain ⟨r, hr⟩ : ∃ r, r = (rsqrt U).1 := ⟨_, rfl⟩
    have HR := Lib.hid hr
    rw [← hr] at HXR
    have hrl : r < p := by rw [hr]; exact rsqrt_lt U
    have HRL := Lib.hid hrl
    clear hr hrl
    cases hok : (rsqrt U).2 with
    | false =>
      have HOK := Lib.hid hok
      clear hok
      go_wp2_with (first | ((with_reducible refine aS 43 ?_); refine wpList_build (by rfl) 65 _ rfl #[] rfl _ (HBP.out _) ?_) | ((with_reducible refine aT 2 ?_); refine wpList_store_whole rfl 65 _ _ rfl (w.heap.size + 1) _ _ 65 (HB8.out.get 1 rfl) rfl rfl (arr_len2 _ _ HLzp.out HLzp.out) (pt_s HLzp.out) (all_arr _ _) ?_; intro w99 hb99 hk99 hz99; have HBZ := Lib.hid (HB8.out.put 1 rfl hk99 hb99); clear hb99 hk99 hz99))
      (try simp only [Exit.then])
      refine bodyPost_ret (results_cell_tmp_row rfl _ _ (w.heap.size + 1) 65 _ (0, 0) _ _ rfl (HBZ.out.get 1 rfl) Tryd.underlying65 rfl (pt_s HLzp.out) rfl) rfl ?_
      have hev := HE2'.out HOK.out
      exact ⟨zp, by rw [hev]; rfl, HLzp.out, (fun P h => by rw [hev] at h; cases h), HBZ.out.below⟩
    | true =>
      have HOK := Lib.hid hok
      clear hok
      have how := fun w => out_any xr r w HXR.out
      have hz := dig32_inj (Nat.lt_trans HRL.out p_lt32) (show 0 < 256 ^ 32 by decide)
      rw [← HNz.out] at hz
      have hlo : (nar (dig 256 32 r)).getD 0 0 = ((r % 256 : Nat) : Int) := by rw [nar_get, low_byte]
      obtain ⟨rw8, hrw⟩ : ∃ x, x = nar (dig 256 32 r) := ⟨_, rfl⟩
      have HWL : Hid (rw8.length = 32) := Lib.hid (by rw [hrw, nar_len, dig_len])
      rw [← hrw] at how hz hlo
      have HOW := Lib.hid how
      have HZZ := Lib.hid hz
      have HLO := Lib.hid hlo
      clear how hz hlo hrw
      go_upto_region 11 with (first | ((with_reducible refine aS 44 ?_); refine wpList_load_part rfl 63 _ rfl (gx) (0) _ 63 (0, 0) _ (HB8.out.get 4 rfl) rfl .i64 xr (arr_part _ _) Tryd.underlying63 rfl (el_i HXL.out) ?_) | ((with_reducible show Calls _ 77 #[.agg _] _ _); go_at_call 77; refine (HOW.out _).mono ?_; rintro e w816 ⟨rfl, hb816⟩; have HB816 := Lib.hid (HB8.out.kept hb816); clear hb816) | ((with_reducible refine aS 9 ?_); refine wpList_alloc_row rfl 23 rfl _ (HZzn.out _) ?_; have HB817 := Lib.hid (HB816.out.alloc (arr .u8 zn) 23); generalize w816.heap.size = g817 at HB817 ⊢; generalize w816.alloc (.cells (arr .u8 zn) 23) = w817 at HB817 ⊢; clear HB816) | ((with_reducible refine aT 9 (x := (Operand.tmp 45)) ?_); refine wpList_store_whole rfl 23 _ _ rfl (g817) _ _ 23 (HB817.out.get 5 rfl) rfl rfl (arr_len2 _ _ HWL.out HLzn.out) (num_s HWL.out) (all_arr _ _) ?_; intro w818 hb818 hk818 hz818; have HB818 := Lib.hid (HB817.out.put 5 rfl hk818 hb818); clear hb818 hk818 hz818; clear HB817))
      by_cases hz : r = 0 ∧ b = 1
      · obtain ⟨hz1, hz2⟩ := hz
        have hzb := HZZ.out
        rw [decide_eq_true hz1] at hzb
        have HZB := Lib.hid hzb
        have HNO := Lib.hid (HE3'.out hz2 (by rw [← HR.out]; exact hz1))
        have hb1 : ((b : Int) == 1) = true := by rw [hz2]; rfl
        clear hzb hz1 hz2
        go_upto_region 12 with (first | ((with_reducible refine aS 46 ?_); refine wpList_load_part rfl 23 _ rfl (g817) 0 _ 23 (0, 0) _ (HB818.out.get 5 rfl) rfl .u8 rw8 (arr_part _ _) Tryd.underlying23 rfl (num_i HWL.out) ?_) | ((with_reducible refine aS 47 ?_); refine wpList_build (by rfl) 23 _ rfl #[] rfl _ (HBN.out _) ?_) | ((with_reducible refine aS 48 ?_); refine wpList_eql_arr (by rfl) 23 _ _ (.tmp 46) (.tmp 47) rfl 32 .u8 .u8 Tryd.underlying23 Tryd.underlying5 (fun w => by kernel_rfl) (by kernel_rfl) rw8 zn rfl rfl HWL.out HLzn.out true HZB.out ?_))
        go_wp2_with (first | ((with_reducible refine aS 53 ?_); refine wpList_build (by rfl) 65 _ rfl #[] rfl _ (HBP.out _) ?_) | ((with_reducible refine aT 2 ?_); refine wpList_store_whole rfl 65 _ _ rfl (w.heap.size + 1) _ _ 65 (HB818.out.get 1 rfl) rfl rfl (arr_len2 _ _ HLzp.out HLzp.out) (pt_s HLzp.out) (all_arr _ _) ?_; intro w99 hb99 hk99 hz99; have HBZ := Lib.hid (HB818.out.put 1 rfl hk99 hb99); clear hb99 hk99 hz99))
        (try simp only [Exit.then])
        refine bodyPost_ret (results_cell_tmp_row rfl _ _ (w.heap.size + 1) 65 _ (0, 0) _ _ rfl (HBZ.out.get 1 rfl) Tryd.underlying65 rfl (pt_s HLzp.out) rfl) rfl ?_
        have hev := HNO.out
        exact ⟨zp, by rw [hev]; rfl, HLzp.out, (fun P h => by rw [hev] at h; cases h), HBZ.out.below⟩
      · have HSO := Lib.hid (HE4'.out r hyp HR.out.symm HOK.out hz)
        have q0 := arr_get' (HB818.out.get 5 rfl) 0 (by rw [HWL.out]; decide)
        rw [HLO.out] at q0
        have ha2 := and1u (r % 256) (Nat.mod_lt _ (by decide))
        rw [Nat.mod_mod_of_dvd r (show 2 ∣ 256 by decide)] at ha2
        have hbb := HB2.out
        by_cases hz1 : r = 0
        · have hzb := HZZ.out
          rw [decide_eq_true hz1] at hzb
          have HZB := Lib.hid hzb
          have hb0 : ((b : Int) == 1) = false := by rw [beq_eq_false_iff_ne]; omega
          clear hzb hz
          by_cases hf : r % 2 ≠ b
          · have HFL := Lib.hid hf
            have hw : (bits .and .u8 ((r % 256 : Nat) : Int) 1 == (b : Int)) = false := by rw [ha2]; rw [beq_eq_false_iff_ne]; omega
            generalize r % 256 = rb at q0 hw
            clear hf ha2
            go_upto_region 13 with (first | ((with_reducible refine aS 46 ?_); refine wpList_load_part rfl 23 _ rfl (g817) 0 _ 23 (0, 0) _ (HB818.out.get 5 rfl) rfl .u8 rw8 (arr_part _ _) Tryd.underlying23 rfl (num_i HWL.out) ?_) | ((with_reducible refine aS 47 ?_); refine wpList_build (by rfl) 23 _ rfl #[] rfl _ (HBN.out _) ?_) | ((with_reducible refine aS 48 ?_); refine wpList_eql_arr (by rfl) 23 _ _ (.tmp 46) (.tmp 47) rfl 32 .u8 .u8 Tryd.underlying23 Tryd.underlying5 (fun w => by kernel_rfl) (by kernel_rfl) rw8 zn rfl rfl HWL.out HLzn.out true HZB.out ?_))
            go_upto_region 15 with (first | ((with_reducible refine aS 59 ?_); refine wpList_build (by rfl) 63 _ rfl #[] rfl _ (HBE.out _) ?_) | ((with_reducible refine aS 60 ?_); refine wpList_load_part rfl 63 _ rfl (gx) (0) _ 63 (0, 0) _ (HB818.out.get 4 rfl) rfl .i64 xr (arr_part _ _) Tryd.underlying63 rfl (el_i HXL.out) ?_) | ((with_reducible show Calls _ 73 #[.agg _, .agg _] _ _); go_at_call 73; refine (sub_any _ _ _ _ _ HEz.out HXR.out).mono ?_; rintro e w819 ⟨z819, rfl, h819, hb819⟩; have HZ819 := Lib.hid h819; have HL819 := Lib.hid h819.1; clear h819; have HB819 := Lib.hid (HB818.out.kept hb819); clear hb819; clear HB818) | ((with_reducible refine aT 7 (x := (Operand.tmp 61)) ?_); refine wpList_store_whole rfl 63 _ _ rfl (gx) _ _ 63 (HB819.out.get 4 rfl) rfl rfl (arr_len2 _ _ HL819.out HXL.out) (el_s HL819.out) (all_arr _ _) ?_; intro w820 hb820 hk820 hz820; have HB820 := Lib.hid (HB819.out.put 4 rfl hk820 hb820); clear hb820 hk820 hz820; clear HB819))
            have HK0 := Lib.hid ((Kept.refl (fun x => x = w.heap.size + 1) w820).drew)
            have HBd := Lib.hid (HB820.out.drew)
            refine wp_region_held_drew (S := (fun w' => Kept (fun x => x = w.heap.size + 1) w820 w')) (by kernel_rfl) (HK0.out) (fun hHeld => ?_)
            generalize w820.drew = wd at HK0 HBd hHeld ⊢
            refine' wpAnyH_take (i := 0) (oi := (⟨some 62, _, _, _, _, none⟩ : Oper)) (v := _) rfl (by kernel_rfl) (by kernel_rfl) (by kernel_rfl) (fun _ _ _ h => h) (yieldsIf_load_mid (by rfl) _ _ rfl _ _ rfl (z819.map (Value.int .i64)) _ ?hS821 Tryd.underlying63 rfl (by rw [List.length_map]; exact el_i HL819.out)) (by assumption) ?rest821
            case hS821 => (intro w hSw; (try dsimp only at hSw); exact range_part (hSw.blk (HB820.out.get 4 rfl) (HB820.out.ne 4 1 rfl rfl (by decide))) 0 _ (by rw [List.length_map]; exact arr_part _ _))
            (try simp only [Act.put, sA, sZ, sS])
            refine' wpAnyH_take (i := 1) (oi := (⟨some 63, _, _, _, _, none⟩ : Oper)) (v := _) rfl (by kernel_rfl) (by kernel_rfl) (by kernel_rfl) (fun _ _ _ h => h) (yieldsIf_load_mid (by rfl) _ _ rfl _ _ rfl (z709.map (Value.int .i64)) _ ?hS822 Tryd.underlying63 rfl (by rw [List.length_map]; exact el_i HL709.out)) (by assumption) ?rest822
            case hS822 => (intro w hSw; (try dsimp only at hSw); exact range_part (hSw.blk (HB820.out.get 2 rfl) (HB820.out.ne 2 1 rfl rfl (by decide))) 0 _ (by rw [List.length_map]; exact arr_part _ _))
            (try simp only [Act.put, sA, sZ, sS])
            refine' wpAnyH_take (i := 3) (oi := (⟨some 65, _, _, _, _, none⟩ : Oper)) (v := _) rfl (by kernel_rfl) (by kernel_rfl) (by kernel_rfl) (fun _ _ _ h => h) (yieldsIf_load_mid (by rfl) _ _ rfl _ _ rfl (z819.map (Value.int .i64)) _ ?hS823 Tryd.underlying63 rfl (by rw [List.length_map]; exact el_i HL819.out)) (by assumption) ?rest823
            case hS823 => (intro w hSw; (try dsimp only at hSw); exact range_part (hSw.blk (HB820.out.get 4 rfl) (HB820.out.ne 4 1 rfl rfl (by decide))) 0 _ (by rw [List.length_map]; exact arr_part _ _))
            (try simp only [Act.put, sA, sZ, sS])
            refine' wpAnyH_take (i := 4) (oi := (⟨some 66, _, _, _, _, none⟩ : Oper)) (v := _) rfl (by kernel_rfl) (by kernel_rfl) (by kernel_rfl) (fun _ _ _ h => h) (yieldsIf_load_mid (by rfl) _ _ rfl _ _ rfl (z709.map (Value.int .i64)) _ ?hS824 Tryd.underlying63 rfl (by rw [List.length_map]; exact el_i HL709.out)) (by assumption) ?rest824
            case hS824 => (intro w hSw; (try dsimp only at hSw); exact range_part (hSw.blk (HB820.out.get 2 rfl) (HB820.out.ne 2 1 rfl rfl (by decide))) 0 _ (by rw [List.length_map]; exact arr_part _ _))
            (try simp only [Act.put, sA, sZ, sS])
            refine wpAnyH_ready (rs := [2]) (by kernel_rfl) (by simp) ?_
            refine AllReadyH.cons (o := (⟨some 64, _, _, _, _, none⟩ : Oper)) rfl (fun K hK => ?_) AllReadyH.nil
            go_simp
            go_at_call 74
            refine (one_any 1 _ (by decide)).mono ?_
            rintro e w825 ⟨z825, rfl, h825, hb825⟩
            have HZ825 := Lib.hid h825
            have HL825 := Lib.hid h825.1
            clear h825
            have HB825 := Lib.hid (HBd.out.kept hb825)
            have HK825 := Lib.hid (HK0.out.trans (Kept.of_below hb825))
            clear hb825
            (try dsimp only)
            clear HBd
            clear HK0
            clear hHeld
            refine hK.out _ _ (HK825.out) (fun hHeld => ?_)
            clear hK K
            (try simp only [Act.put, sA, sZ, sS])
            refine wpAnyH_ready (rs := [5]) (by kernel_rfl) (by simp) ?_
            refine AllReadyH.cons (o := (⟨some 67, _, _, _, _, none⟩ : Oper)) rfl (fun K hK => ?_) AllReadyH.nil
            go_simp
            go_at_call 71
            refine (mul_any _ _ _ _ _ HZ819.out HZ709.out).mono ?_
            rintro e w826 ⟨z826, rfl, h826, hb826⟩
            have HZ826 := Lib.hid h826
            have HL826 := Lib.hid h826.1
            clear h826
            have HB826 := Lib.hid (HB825.out.kept hb826)
            have HK826 := Lib.hid (HK825.out.trans (Kept.of_below hb826))
            clear hb826
            (try dsimp only)
            clear HB825
            clear HK825
            clear hHeld
            refine hK.out _ _ (HK826.out) (fun hHeld => ?_)
            clear hK K
            (try simp only [Act.put, sA, sZ, sS])
            obtain ⟨v828, hv828⟩ : ∃ x, x = z819 ++ z709 ++ z825 ++ z826 := ⟨_, rfl⟩
            have HR828 : Hid (∀ w, (Instr.build 65 #[(0, .agg (arr .i64 z819)), (1, .agg (arr .i64 z709)), (2, .agg (arr .i64 z825)), (3, .agg (arr .i64 z826))]).run Tryd.prog w = .ok (.agg (arr .i64 v828)) w) := Lib.hid (fun w => by rw [hv828]; exact build_pt _ _ _ _ HL819.out HL709.out HL825.out HL826.out w)
            have HL828 : Hid (v828.length = 64) := Lib.hid (by rw [hv828]; exact pt_len HL819.out HL709.out HL825.out HL826.out)
            have HV828 := Lib.hid hv828
            clear hv828
            refine wpAnyH_take (i := 6) (oi := (⟨some 68, _, _, _, _, none⟩ : Oper)) (v := (.agg (arr .i64 v828))) rfl (by kernel_rfl) (by kernel_rfl) (by kernel_rfl) (fun _ _ _ h => h) (Or.inl ⟨by rfl, ?hy827⟩) (by assumption) ?rest827
            case hy827 => (intro w hSw; (try dsimp only at hSw); exact exec_build 65 _ rfl #[(0, .agg (arr .i64 z819)), (1, .agg (arr .i64 z709)), (2, .agg (arr .i64 z825)), (3, .agg (arr .i64 z826))] rfl _ (HR828.out _))
            (try simp only [Act.put, sA, sZ, sS])
            refine wpAnyH_ready (rs := [7]) (by kernel_rfl) (by simp) ?_
            refine AllReadyH.cons (o := (⟨none, _, _, _, _, none⟩ : Oper)) rfl (fun K hK => ?_) AllReadyH.nil
            refine step_store_whole rfl 65 (.tmp 2) (.tmp 68) rfl (w.heap.size + 1) _ _ _ (HB826.out.get 1 rfl) rfl rfl (arr_len2 _ _ HL828.out HLzp.out) (pt_s HL828.out) (all_arr _ _) ?_
            intro w829 hb829 hk829 hz829
            have HB829 := Lib.hid (HB826.out.put 1 rfl hk829 hb829)
            have HK829 := Lib.hid (HK826.out.trans hk829)
            clear hb829 hk829 hz829
            clear HB826
            clear HK826
            clear hHeld
            refine hK.out _ _ (HK829.out) (fun hHeld => ?_)
            clear hK K
            (try simp only [Act.put])
            refine wpAnyH_take (i := 8) (oi := (⟨some 3, _, _, _, _, none⟩ : Oper)) (v := ?v830) rfl (by kernel_rfl) (by kernel_rfl) (by kernel_rfl) (fun _ _ _ h => h) (Or.inl ⟨by rfl, ?hy830⟩) (by assumption) ?rest830
            case hy830 => (intro w hSw; (try dsimp only at hSw); go_simp; try (with_reducible rfl))
            (try simp only [Act.put, sA, sZ, sS])
            refine wpAnyH_done (by kernel_rfl) ?_ _
            have HBQ := HB829
            have HWQ := HL828
            have HF0 := HV828
            have HF1 := HZ819
            have HF2 := HZ709
            have HF3 := HZ825
            have HF4 := HZ826
            (try simp only [Exit.then])
            go_wp2_with fail
            refine bodyPost_ret (results_cell_tmp_row rfl _ _ (w.heap.size + 1) 65 _ (0, 0) _ _ rfl (HBQ.out.get 1 rfl) Tryd.underlying65 rfl (pt_s HWQ.out) rfl) rfl ?_
            have hev := HSO.out
            rw [if_pos HFL.out] at hev
            refine ⟨_, by rw [hev]; rfl, HWQ.out, (fun P h => ?_), HBQ.out.below⟩
            rw [hev] at h
            cases h
            exact ⟨_, _, _, _, HF0.out, HF1.out, HF2.out, HF3.out, HF4.out⟩
          · have HFL := Lib.hid hf
            have hw : (bits .and .u8 ((r % 256 : Nat) : Int) 1 == (b : Int)) = true := by rw [ha2]; rw [beq_iff_eq]; omega
            generalize r % 256 = rb at q0 hw
            clear hf ha2
            go_upto_region 13 with (first | ((with_reducible refine aS 46 ?_); refine wpList_load_part rfl 23 _ rfl (g817) 0 _ 23 (0, 0) _ (HB818.out.get 5 rfl) rfl .u8 rw8 (arr_part _ _) Tryd.underlying23 rfl (num_i HWL.out) ?_) | ((with_reducible refine aS 47 ?_); refine wpList_build (by rfl) 23 _ rfl #[] rfl _ (HBN.out _) ?_) | ((with_reducible refine aS 48 ?_); refine wpList_eql_arr (by rfl) 23 _ _ (.tmp 46) (.tmp 47) rfl 32 .u8 .u8 Tryd.underlying23 Tryd.underlying5 (fun w => by kernel_rfl) (by kernel_rfl) rw8 zn rfl rfl HWL.out HLzn.out true HZB.out ?_))
            go_upto_region 15 with fail
            have HK0 := Lib.hid ((Kept.refl (fun x => x = w.heap.size + 1) w818).drew)
            have HBd := Lib.hid (HB818.out.drew)
            refine wp_region_held_drew (S := (fun w' => Kept (fun x => x = w.heap.size + 1) w818 w')) (by kernel_rfl) (HK0.out) (fun hHeld => ?_)
            generalize w818.drew = wd at HK0 HBd hHeld ⊢
            refine' wpAnyH_take (i := 0) (oi := (⟨some 62, _, _, _, _, none⟩ : Oper)) (v := _) rfl (by kernel_rfl) (by kernel_rfl) (by kernel_rfl) (fun _ _ _ h => h) (yieldsIf_load_mid (by rfl) _ _ rfl _ _ rfl (xr.map (Value.int .i64)) _ ?hS831 Tryd.underlying63 rfl (by rw [List.length_map]; exact el_i HXL.out)) (by assumption) ?rest831
            case hS831 => (intro w hSw; (try dsimp only at hSw); exact range_part (hSw.blk (HB818.out.get 4 rfl) (HB818.out.ne 4 1 rfl rfl (by decide))) 0 _ (by rw [List.length_map]; exact arr_part _ _))
            (try simp only [Act.put, sA, sZ, sS])
            refine' wpAnyH_take (i := 1) (oi := (⟨some 63, _, _, _, _, none⟩ : Oper)) (v := _) rfl (by kernel_rfl) (by kernel_rfl) (by kernel_rfl) (fun _ _ _ h => h) (yieldsIf_load_mid (by rfl) _ _ rfl _ _ rfl (z709.map (Value.int .i64)) _ ?hS832 Tryd.underlying63 rfl (by rw [List.length_map]; exact el_i HL709.out)) (by assumption) ?rest832
            case hS832 => (intro w hSw; (try dsimp only at hSw); exact range_part (hSw.blk (HB818.out.get 2 rfl) (HB818.out.ne 2 1 rfl rfl (by decide))) 0 _ (by rw [List.length_map]; exact arr_part _ _))
            (try simp only [Act.put, sA, sZ, sS])
            refine' wpAnyH_take (i := 3) (oi := (⟨some 65, _, _, _, _, none⟩ : Oper)) (v := _) rfl (by kernel_rfl) (by kernel_rfl) (by kernel_rfl) (fun _ _ _ h => h) (yieldsIf_load_mid (by rfl) _ _ rfl _ _ rfl (xr.map (Value.int .i64)) _ ?hS833 Tryd.underlying63 rfl (by rw [List.length_map]; exact el_i HXL.out)) (by assumption) ?rest833
            case hS833 => (intro w hSw; (try dsimp only at hSw); exact range_part (hSw.blk (HB818.out.get 4 rfl) (HB818.out.ne 4 1 rfl rfl (by decide))) 0 _ (by rw [List.length_map]; exact arr_part _ _))
            (try simp only [Act.put, sA, sZ, sS])
            refine' wpAnyH_take (i := 4) (oi := (⟨some 66, _, _, _, _, none⟩ : Oper)) (v := _) rfl (by kernel_rfl) (by kernel_rfl) (by kernel_rfl) (fun _ _ _ h => h) (yieldsIf_load_mid (by rfl) _ _ rfl _ _ rfl (z709.map (Value.int .i64)) _ ?hS834 Tryd.underlying63 rfl (by rw [List.length_map]; exact el_i HL709.out)) (by assumption) ?rest834
            case hS834 => (intro w hSw; (try dsimp only at hSw); exact range_part (hSw.blk (HB818.out.get 2 rfl) (HB818.out.ne 2 1 rfl rfl (by decide))) 0 _ (by rw [List.length_map]; exact arr_part _ _))
            (try simp only [Act.put, sA, sZ, sS])
            refine wpAnyH_ready (rs := [2]) (by kernel_rfl) (by simp) ?_
            refine AllReadyH.cons (o := (⟨some 64, _, _, _, _, none⟩ : Oper)) rfl (fun K hK => ?_) AllReadyH.nil
            go_simp
            go_at_call 74
            refine (one_any 1 _ (by decide)).mono ?_
            rintro e w835 ⟨z835, rfl, h835, hb835⟩
            have HZ835 := Lib.hid h835
            have HL835 := Lib.hid h835.1
            clear h835
            have HB835 := Lib.hid (HBd.out.kept hb835)
            have HK835 := Lib.hid (HK0.out.trans (Kept.of_below hb835))
            clear hb835
            (try dsimp only)
            clear HBd
            clear HK0
            clear hHeld
            refine hK.out _ _ (HK835.out) (fun hHeld => ?_)
            clear hK K
            (try simp only [Act.put, sA, sZ, sS])
            refine wpAnyH_ready (rs := [5]) (by kernel_rfl) (by simp) ?_
            refine AllReadyH.cons (o := (⟨some 67, _, _, _, _, none⟩ : Oper)) rfl (fun K hK => ?_) AllReadyH.nil
            go_simp
            go_at_call 71
            refine (mul_any _ _ _ _ _ HXR.out HZ709.out).mono ?_
            rintro e w836 ⟨z836, rfl, h836, hb836⟩
            have HZ836 := Lib.hid h836
            have HL836 := Lib.hid h836.1
            clear h836
            have HB836 := Lib.hid (HB835.out.kept hb836)
            have HK836 := Lib.hid (HK835.out.trans (Kept.of_below hb836))
            clear hb836
            (try dsimp only)
            clear HB835
            clear HK835
            clear hHeld
            refine hK.out _ _ (HK836.out) (fun hHeld => ?_)
            clear hK K
            (try simp only [Act.put, sA, sZ, sS])
            obtain ⟨v838, hv838⟩ : ∃ x, x = xr ++ z709 ++ z835 ++ z836 := ⟨_, rfl⟩
            have HR838 : Hid (∀ w, (Instr.build 65 #[(0, .agg (arr .i64 xr)), (1, .agg (arr .i64 z709)), (2, .agg (arr .i64 z835)), (3, .agg (arr .i64 z836))]).run Tryd.prog w = .ok (.agg (arr .i64 v838)) w) := Lib.hid (fun w => by rw [hv838]; exact build_pt _ _ _ _ HXL.out HL709.out HL835.out HL836.out w)
            have HL838 : Hid (v838.length = 64) := Lib.hid (by rw [hv838]; exact pt_len HXL.out HL709.out HL835.out HL836.out)
            have HV838 := Lib.hid hv838
            clear hv838
            refine wpAnyH_take (i := 6) (oi := (⟨some 68, _, _, _, _, none⟩ : Oper)) (v := (.agg (arr .i64 v838))) rfl (by kernel_rfl) (by kernel_rfl) (by kernel_rfl) (fun _ _ _ h => h) (Or.inl ⟨by rfl, ?hy837⟩) (by assumption) ?rest837
            case hy837 => (intro w hSw; (try dsimp only at hSw); exact exec_build 65 _ rfl #[(0, .agg (arr .i64 xr)), (1, .agg (arr .i64 z709)), (2, .agg (arr .i64 z835)), (3, .agg (arr .i64 z836))] rfl _ (HR838.out _))
            (try simp only [Act.put, sA, sZ, sS])
            refine wpAnyH_ready (rs := [7]) (by kernel_rfl) (by simp) ?_
            refine AllReadyH.cons (o := (⟨none, _, _, _, _, none⟩ : Oper)) rfl (fun K hK => ?_) AllReadyH.nil
            refine step_store_whole rfl 65 (.tmp 2) (.tmp 68) rfl (w.heap.size + 1) _ _ _ (HB836.out.get 1 rfl) rfl rfl (arr_len2 _ _ HL838.out HLzp.out) (pt_s HL838.out) (all_arr _ _) ?_
            intro w839 hb839 hk839 hz839
            have HB839 := Lib.hid (HB836.out.put 1 rfl hk839 hb839)
            have HK839 := Lib.hid (HK836.out.trans hk839)
            clear hb839 hk839 hz839
            clear HB836
            clear HK836
            clear hHeld
            refine hK.out _ _ (HK839.out) (fun hHeld => ?_)
            clear hK K
            (try simp only [Act.put])
            refine wpAnyH_take (i := 8) (oi := (⟨some 3, _, _, _, _, none⟩ : Oper)) (v := ?v840) rfl (by kernel_rfl) (by kernel_rfl) (by kernel_rfl) (fun _ _ _ h => h) (Or.inl ⟨by rfl, ?hy840⟩) (by assumption) ?rest840
            case hy840 => (intro w hSw; (try dsimp only at hSw); go_simp; try (with_reducible rfl))
            (try simp only [Act.put, sA, sZ, sS])
            refine wpAnyH_done (by kernel_rfl) ?_ _
            have HBQ := HB839
            have HWQ := HL838
            have HF0 := HV838
            have HF1 := HXR
            have HF2 := HZ709
            have HF3 := HZ835
            have HF4 := HZ836
            (try simp only [Exit.then])
            go_wp2_with fail
            refine bodyPost_ret (results_cell_tmp_row rfl _ _ (w.heap.size + 1) 65 _ (0, 0) _ _ rfl (HBQ.out.get 1 rfl) Tryd.underlying65 rfl (pt_s HWQ.out) rfl) rfl ?_
            have hev := HSO.out
            rw [if_neg HFL.out] at hev
            refine ⟨_, by rw [hev]; rfl, HWQ.out, (fun P h => ?_), HBQ.out.below⟩
            rw [hev] at h
            cases h
            exact ⟨_, _, _, _, HF0.out, HF1.out, HF2.out, HF3.out, HF4.out⟩
        · have hzb := HZZ.out
          rw [decide_eq_false hz1] at hzb
          have HZB := Lib.hid hzb
          clear hzb hz
          by_cases hf : r % 2 ≠ b
          · have HFL := Lib.hid hf
            have hw : (bits .and .u8 ((r % 256 : Nat) : Int) 1 == (b : Int)) = false := by rw [ha2]; rw [beq_eq_false_iff_ne]; omega
            generalize r % 256 = rb at q0 hw
            clear hf ha2
            go_upto_region 13 with (first | ((with_reducible refine aS 46 ?_); refine wpList_load_part rfl 23 _ rfl (g817) 0 _ 23 (0, 0) _ (HB818.out.get 5 rfl) rfl .u8 rw8 (arr_part _ _) Tryd.underlying23 rfl (num_i HWL.out) ?_) | ((with_reducible refine aS 47 ?_); refine wpList_build (by rfl) 23 _ rfl #[] rfl _ (HBN.out _) ?_) | ((with_reducible refine aS 48 ?_); refine wpList_eql_arr (by rfl) 23 _ _ (.tmp 46) (.tmp 47) rfl 32 .u8 .u8 Tryd.underlying23 Tryd.underlying5 (fun w => by kernel_rfl) (by kernel_rfl) rw8 zn rfl rfl HWL.out HLzn.out false HZB.out ?_))
            go_upto_region 15 with (first | ((with_reducible refine aS 59 ?_); refine wpList_build (by rfl) 63 _ rfl #[] rfl _ (HBE.out _) ?_) | ((with_reducible refine aS 60 ?_); refine wpList_load_part rfl 63 _ rfl (gx) (0) _ 63 (0, 0) _ (HB818.out.get 4 rfl) rfl .i64 xr (arr_part _ _) Tryd.underlying63 rfl (el_i HXL.out) ?_) | ((with_reducible show Calls _ 73 #[.agg _, .agg _] _ _); go_at_call 73; refine (sub_any _ _ _ _ _ HEz.out HXR.out).mono ?_; rintro e w841 ⟨z841, rfl, h841, hb841⟩; have HZ841 := Lib.hid h841; have HL841 := Lib.hid h841.1; clear h841; have HB841 := Lib.hid (HB818.out.kept hb841); clear hb841; clear HB818) | ((with_reducible refine aT 7 (x := (Operand.tmp 61)) ?_); refine wpList_store_whole rfl 63 _ _ rfl (gx) _ _ 63 (HB841.out.get 4 rfl) rfl rfl (arr_len2 _ _ HL841.out HXL.out) (el_s HL841.out) (all_arr _ _) ?_; intro w842 hb842 hk842 hz842; have HB842 := Lib.hid (HB841.out.put 4 rfl hk842 hb842); clear hb842 hk842 hz842; clear HB841))
            have HK0 := Lib.hid ((Kept.refl (fun x => x = w.heap.size + 1) w842).drew)
            have HBd := Lib.hid (HB842.out.drew)
            refine wp_region_held_drew (S := (fun w' => Kept (fun x => x = w.heap.size + 1) w842 w')) (by kernel_rfl) (HK0.out) (fun hHeld => ?_)
            generalize w842.drew = wd at HK0 HBd hHeld ⊢
            refine' wpAnyH_take (i := 0) (oi := (⟨some 62, _, _, _, _, none⟩ : Oper)) (v := _) rfl (by kernel_rfl) (by kernel_rfl) (by kernel_rfl) (fun _ _ _ h => h) (yieldsIf_load_mid (by rfl) _ _ rfl _ _ rfl (z841.map (Value.int .i64)) _ ?hS843 Tryd.underlying63 rfl (by rw [List.length_map]; exact el_i HL841.out)) (by assumption) ?rest843
            case hS843 => (intro w hSw; (try dsimp only at hSw); exact range_part (hSw.blk (HB842.out.get 4 rfl) (HB842.out.ne 4 1 rfl rfl (by decide))) 0 _ (by rw [List.length_map]; exact arr_part _ _))
            (try simp only [Act.put, sA, sZ, sS])
            refine' wpAnyH_take (i := 1) (oi := (⟨some 63, _, _, _, _, none⟩ : Oper)) (v := _) rfl (by kernel_rfl) (by kernel_rfl) (by kernel_rfl) (fun _ _ _ h => h) (yieldsIf_load_mid (by rfl) _ _ rfl _ _ rfl (z709.map (Value.int .i64)) _ ?hS844 Tryd.underlying63 rfl (by rw [List.length_map]; exact el_i HL709.out)) (by assumption) ?rest844
            case hS844 => (intro w hSw; (try dsimp only at hSw); exact range_part (hSw.blk (HB842.out.get 2 rfl) (HB842.out.ne 2 1 rfl rfl (by decide))) 0 _ (by rw [List.length_map]; exact arr_part _ _))
            (try simp only [Act.put, sA, sZ, sS])
            refine' wpAnyH_take (i := 3) (oi := (⟨some 65, _, _, _, _, none⟩ : Oper)) (v := _) rfl (by kernel_rfl) (by kernel_rfl) (by kernel_rfl) (fun _ _ _ h => h) (yieldsIf_load_mid (by rfl) _ _ rfl _ _ rfl (z841.map (Value.int .i64)) _ ?hS845 Tryd.underlying63 rfl (by rw [List.length_map]; exact el_i HL841.out)) (by assumption) ?rest845
            case hS845 => (intro w hSw; (try dsimp only at hSw); exact range_part (hSw.blk (HB842.out.get 4 rfl) (HB842.out.ne 4 1 rfl rfl (by decide))) 0 _ (by rw [List.length_map]; exact arr_part _ _))
            (try simp only [Act.put, sA, sZ, sS])
            refine' wpAnyH_take (i := 4) (oi := (⟨some 66, _, _, _, _, none⟩ : Oper)) (v := _) rfl (by kernel_rfl) (by kernel_rfl) (by kernel_rfl) (fun _ _ _ h => h) (yieldsIf_load_mid (by rfl) _ _ rfl _ _ rfl (z709.map (Value.int .i64)) _ ?hS846 Tryd.underlying63 rfl (by rw [List.length_map]; exact el_i HL709.out)) (by assumption) ?rest846
            case hS846 => (intro w hSw; (try dsimp only at hSw); exact range_part (hSw.blk (HB842.out.get 2 rfl) (HB842.out.ne 2 1 rfl rfl (by decide))) 0 _ (by rw [List.length_map]; exact arr_part _ _))
            (try simp only [Act.put, sA, sZ, sS])
            refine wpAnyH_ready (rs := [2]) (by kernel_rfl) (by simp) ?_
            refine AllReadyH.cons (o := (⟨some 64, _, _, _, _, none⟩ : Oper)) rfl (fun K hK => ?_) AllReadyH.nil
            go_simp
            go_at_call 74
            refine (one_any 1 _ (by decide)).mono ?_
            rintro e w847 ⟨z847, rfl, h847, hb847⟩
            have HZ847 := Lib.hid h847
            have HL847 := Lib.hid h847.1
            clear h847
            have HB847 := Lib.hid (HBd.out.kept hb847)
            have HK847 := Lib.hid (HK0.out.trans (Kept.of_below hb847))
            clear hb847
            (try dsimp only)
            clear HBd
            clear HK0
            clear hHeld
            refine hK.out _ _ (HK847.out) (fun hHeld => ?_)
            clear hK K
            (try simp only [Act.put, sA, sZ, sS])
            refine wpAnyH_ready (rs := [5]) (by kernel_rfl) (by simp) ?_
            refine AllReadyH.cons (o := (⟨some 67, _, _, _, _, none⟩ : Oper)) rfl (fun K hK => ?_) AllReadyH.nil
            go_simp
            go_at_call 71
            refine (mul_any _ _ _ _ _ HZ841.out HZ709.out).mono ?_
            rintro e w848 ⟨z848, rfl, h848, hb848⟩
            have HZ848 := Lib.hid h848
            have HL848 := Lib.hid h848.1
            clear h848
            have HB848 := Lib.hid (HB847.out.kept hb848)
            have HK848 := Lib.hid (HK847.out.trans (Kept.of_below hb848))
            clear hb848
            (try dsimp only)
            clear HB847
            clear HK847
            clear hHeld
            refine hK.out _ _ (HK848.out) (fun hHeld => ?_)
            clear hK K
            (try simp only [Act.put, sA, sZ, sS])
            obtain ⟨v850, hv850⟩ : ∃ x, x = z841 ++ z709 ++ z847 ++ z848 := ⟨_, rfl⟩
            have HR850 : Hid (∀ w, (Instr.build 65 #[(0, .agg (arr .i64 z841)), (1, .agg (arr .i64 z709)), (2, .agg (arr .i64 z847)), (3, .agg (arr .i64 z848))]).run Tryd.prog w = .ok (.agg (arr .i64 v850)) w) := Lib.hid (fun w => by rw [hv850]; exact build_pt _ _ _ _ HL841.out HL709.out HL847.out HL848.out w)
            have HL850 : Hid (v850.length = 64) := Lib.hid (by rw [hv850]; exact pt_len HL841.out HL709.out HL847.out HL848.out)
            have HV850 := Lib.hid hv850
            clear hv850
            refine wpAnyH_take (i := 6) (oi := (⟨some 68, _, _, _, _, none⟩ : Oper)) (v := (.agg (arr .i64 v850))) rfl (by kernel_rfl) (by kernel_rfl) (by kernel_rfl) (fun _ _ _ h => h) (Or.inl ⟨by rfl, ?hy849⟩) (by assumption) ?rest849
            case hy849 => (intro w hSw; (try dsimp only at hSw); exact exec_build 65 _ rfl #[(0, .agg (arr .i64 z841)), (1, .agg (arr .i64 z709)), (2, .agg (arr .i64 z847)), (3, .agg (arr .i64 z848))] rfl _ (HR850.out _))
            (try simp only [Act.put, sA, sZ, sS])
            refine wpAnyH_ready (rs := [7]) (by kernel_rfl) (by simp) ?_
            refine AllReadyH.cons (o := (⟨none, _, _, _, _, none⟩ : Oper)) rfl (fun K hK => ?_) AllReadyH.nil
            refine step_store_whole rfl 65 (.tmp 2) (.tmp 68) rfl (w.heap.size + 1) _ _ _ (HB848.out.get 1 rfl) rfl rfl (arr_len2 _ _ HL850.out HLzp.out) (pt_s HL850.out) (all_arr _ _) ?_
            intro w851 hb851 hk851 hz851
            have HB851 := Lib.hid (HB848.out.put 1 rfl hk851 hb851)
            have HK851 := Lib.hid (HK848.out.trans hk851)
            clear hb851 hk851 hz851
            clear HB848
            clear HK848
            clear hHeld
            refine hK.out _ _ (HK851.out) (fun hHeld => ?_)
            clear hK K
            (try simp only [Act.put])
            refine wpAnyH_take (i := 8) (oi := (⟨some 3, _, _, _, _, none⟩ : Oper)) (v := ?v852) rfl (by kernel_rfl) (by kernel_rfl) (by kernel_rfl) (fun _ _ _ h => h) (Or.inl ⟨by rfl, ?hy852⟩) (by assumption) ?rest852
            case hy852 => (intro w hSw; (try dsimp only at hSw); go_simp; try (with_reducible rfl))
            (try simp only [Act.put, sA, sZ, sS])
            refine wpAnyH_done (by kernel_rfl) ?_ _
            have HBQ := HB851
            have HWQ := HL850
            have HF0 := HV850
            have HF1 := HZ841
            have HF2 := HZ709
            have HF3 := HZ847
            have HF4 := HZ848
            (try simp only [Exit.then])
            go_wp2_with fail
            refine bodyPost_ret (results_cell_tmp_row rfl _ _ (w.heap.size + 1) 65 _ (0, 0) _ _ rfl (HBQ.out.get 1 rfl) Tryd.underlying65 rfl (pt_s HWQ.out) rfl) rfl ?_
            have hev := HSO.out
            rw [if_pos HFL.out] at hev
            refine ⟨_, by rw [hev]; rfl, HWQ.out, (fun P h => ?_), HBQ.out.below⟩
            rw [hev] at h
            cases h
            exact ⟨_, _, _, _, HF0.out, HF1.out, HF2.out, HF3.out, HF4.out⟩
          · have HFL := Lib.hid hf
            have hw : (bits .and .u8 ((r % 256 : Nat) : Int) 1 == (b : Int)) = true := by rw [ha2]; rw [beq_iff_eq]; omega
            generalize r % 256 = rb at q0 hw
            clear hf ha2
            go_upto_region 13 with (first | ((with_reducible refine aS 46 ?_); refine wpList_load_part rfl 23 _ rfl (g817) 0 _ 23 (0, 0) _ (HB818.out.get 5 rfl) rfl .u8 rw8 (arr_part _ _) Tryd.underlying23 rfl (num_i HWL.out) ?_) | ((with_reducible refine aS 47 ?_); refine wpList_build (by rfl) 23 _ rfl #[] rfl _ (HBN.out _) ?_) | ((with_reducible refine aS 48 ?_); refine wpList_eql_arr (by rfl) 23 _ _ (.tmp 46) (.tmp 47) rfl 32 .u8 .u8 Tryd.underlying23 Tryd.underlying5 (fun w => by kernel_rfl) (by kernel_rfl) rw8 zn rfl rfl HWL.out HLzn.out false HZB.out ?_))
            go_upto_region 15 with fail
            have HK0 := Lib.hid ((Kept.refl (fun x => x = w.heap.size + 1) w818).drew)
            have HBd := Lib.hid (HB818.out.drew)
            refine wp_region_held_drew (S := (fun w' => Kept (fun x => x = w.heap.size + 1) w818 w')) (by kernel_rfl) (HK0.out) (fun hHeld => ?_)
            generalize w818.drew = wd at HK0 HBd hHeld ⊢
            refine' wpAnyH_take (i := 0) (oi := (⟨some 62, _, _, _, _, none⟩ : Oper)) (v := _) rfl (by kernel_rfl) (by kernel_rfl) (by kernel_rfl) (fun _ _ _ h => h) (yieldsIf_load_mid (by rfl) _ _ rfl _ _ rfl (xr.map (Value.int .i64)) _ ?hS853 Tryd.underlying63 rfl (by rw [List.length_map]; exact el_i HXL.out)) (by assumption) ?rest853
            case hS853 => (intro w hSw; (try dsimp only at hSw); exact range_part (hSw.blk (HB818.out.get 4 rfl) (HB818.out.ne 4 1 rfl rfl (by decide))) 0 _ (by rw [List.length_map]; exact arr_part _ _))
            (try simp only [Act.put, sA, sZ, sS])
            refine' wpAnyH_take (i := 1) (oi := (⟨some 63, _, _, _, _, none⟩ : Oper)) (v := _) rfl (by kernel_rfl) (by kernel_rfl) (by kernel_rfl) (fun _ _ _ h => h) (yieldsIf_load_mid (by rfl) _ _ rfl _ _ rfl (z709.map (Value.int .i64)) _ ?hS854 Tryd.underlying63 rfl (by rw [List.length_map]; exact el_i HL709.out)) (by assumption) ?rest854
            case hS854 => (intro w hSw; (try dsimp only at hSw); exact range_part (hSw.blk (HB818.out.get 2 rfl) (HB818.out.ne 2 1 rfl rfl (by decide))) 0 _ (by rw [List.length_map]; exact arr_part _ _))
            (try simp only [Act.put, sA, sZ, sS])
            refine' wpAnyH_take (i := 3) (oi := (⟨some 65, _, _, _, _, none⟩ : Oper)) (v := _) rfl (by kernel_rfl) (by kernel_rfl) (by kernel_rfl) (fun _ _ _ h => h) (yieldsIf_load_mid (by rfl) _ _ rfl _ _ rfl (xr.map (Value.int .i64)) _ ?hS855 Tryd.underlying63 rfl (by rw [List.length_map]; exact el_i HXL.out)) (by assumption) ?rest855
            case hS855 => (intro w hSw; (try dsimp only at hSw); exact range_part (hSw.blk (HB818.out.get 4 rfl) (HB818.out.ne 4 1 rfl rfl (by decide))) 0 _ (by rw [List.length_map]; exact arr_part _ _))
            (try simp only [Act.put, sA, sZ, sS])
            refine' wpAnyH_take (i := 4) (oi := (⟨some 66, _, _, _, _, none⟩ : Oper)) (v := _) rfl (by kernel_rfl) (by kernel_rfl) (by kernel_rfl) (fun _ _ _ h => h) (yieldsIf_load_mid (by rfl) _ _ rfl _ _ rfl (z709.map (Value.int .i64)) _ ?hS856 Tryd.underlying63 rfl (by rw [List.length_map]; exact el_i HL709.out)) (by assumption) ?rest856
            case hS856 => (intro w hSw; (try dsimp only at hSw); exact range_part (hSw.blk (HB818.out.get 2 rfl) (HB818.out.ne 2 1 rfl rfl (by decide))) 0 _ (by rw [List.length_map]; exact arr_part _ _))
            (try simp only [Act.put, sA, sZ, sS])
            refine wpAnyH_ready (rs := [2]) (by kernel_rfl) (by simp) ?_
            refine AllReadyH.cons (o := (⟨some 64, _, _, _, _, none⟩ : Oper)) rfl (fun K hK => ?_) AllReadyH.nil
            go_simp
            go_at_call 74
            refine (one_any 1 _ (by decide)).mono ?_
            rintro e w857 ⟨z857, rfl, h857, hb857⟩
            have HZ857 := Lib.hid h857
            have HL857 := Lib.hid h857.1
            clear h857
            have HB857 := Lib.hid (HBd.out.kept hb857)
            have HK857 := Lib.hid (HK0.out.trans (Kept.of_below hb857))
            clear hb857
            (try dsimp only)
            clear HBd
            clear HK0
            clear hHeld
            refine hK.out _ _ (HK857.out) (fun hHeld => ?_)
            clear hK K
            (try simp only [Act.put, sA, sZ, sS])
            refine wpAnyH_ready (rs := [5]) (by kernel_rfl) (by simp) ?_
            refine AllReadyH.cons (o := (⟨some 67, _, _, _, _, none⟩ : Oper)) rfl (fun K hK => ?_) AllReadyH.nil
            go_simp
            go_at_call 71
            refine (mul_any _ _ _ _ _ HXR.out HZ709.out).mono ?_
            rintro e w858 ⟨z858, rfl, h858, hb858⟩
            have HZ858 := Lib.hid h858
            have HL858 := Lib.hid h858.1
            clear h858
            have HB858 := Lib.hid (HB857.out.kept hb858)
            have HK858 := Lib.hid (HK857.out.trans (Kept.of_below hb858))
            clear hb858
            (try dsimp only)
            clear HB857
            clear HK857
            clear hHeld
            refine hK.out _ _ (HK858.out) (fun hHeld => ?_)
            clear hK K
            (try simp only [Act.put, sA, sZ, sS])
            obtain ⟨v860, hv860⟩ : ∃ x, x = xr ++ z709 ++ z857 ++ z858 := ⟨_, rfl⟩
            have HR860 : Hid (∀ w, (Instr.build 65 #[(0, .agg (arr .i64 xr)), (1, .agg (arr .i64 z709)), (2, .agg (arr .i64 z857)), (3, .agg (arr .i64 z858))]).run Tryd.prog w = .ok (.agg (arr .i64 v860)) w) := Lib.hid (fun w => by rw [hv860]; exact build_pt _ _ _ _ HXL.out HL709.out HL857.out HL858.out w)
            have HL860 : Hid (v860.length = 64) := Lib.hid (by rw [hv860]; exact pt_len HXL.out HL709.out HL857.out HL858.out)
            have HV860 := Lib.hid hv860
            clear hv860
            refine wpAnyH_take (i := 6) (oi := (⟨some 68, _, _, _, _, none⟩ : Oper)) (v := (.agg (arr .i64 v860))) rfl (by kernel_rfl) (by kernel_rfl) (by kernel_rfl) (fun _ _ _ h => h) (Or.inl ⟨by rfl, ?hy859⟩) (by assumption) ?rest859
            case hy859 => (intro w hSw; (try dsimp only at hSw); exact exec_build 65 _ rfl #[(0, .agg (arr .i64 xr)), (1, .agg (arr .i64 z709)), (2, .agg (arr .i64 z857)), (3, .agg (arr .i64 z858))] rfl _ (HR860.out _))
            (try simp only [Act.put, sA, sZ, sS])
            refine wpAnyH_ready (rs := [7]) (by kernel_rfl) (by simp) ?_
            refine AllReadyH.cons (o := (⟨none, _, _, _, _, none⟩ : Oper)) rfl (fun K hK => ?_) AllReadyH.nil
            refine step_store_whole rfl 65 (.tmp 2) (.tmp 68) rfl (w.heap.size + 1) _ _ _ (HB858.out.get 1 rfl) rfl rfl (arr_len2 _ _ HL860.out HLzp.out) (pt_s HL860.out) (all_arr _ _) ?_
            intro w861 hb861 hk861 hz861
            have HB861 := Lib.hid (HB858.out.put 1 rfl hk861 hb861)
            have HK861 := Lib.hid (HK858.out.trans hk861)
            clear hb861 hk861 hz861
            clear HB858
            clear HK858
            clear hHeld
            refine hK.out _ _ (HK861.out) (fun hHeld => ?_)
            clear hK K
            (try simp only [Act.put])
            refine wpAnyH_take (i := 8) (oi := (⟨some 3, _, _, _, _, none⟩ : Oper)) (v := ?v862) rfl (by kernel_rfl) (by kernel_rfl) (by kernel_rfl) (fun _ _ _ h => h) (Or.inl ⟨by rfl, ?hy862⟩) (by assumption) ?rest862
            case hy862 => (intro w hSw; (try dsimp only at hSw); go_simp; try (with_reducible rfl))
            (try simp only [Act.put, sA, sZ, sS])
            refine wpAnyH_done (by kernel_rfl) ?_ _
            have HBQ := HB861
            have HWQ := HL860
            have HF0 := HV860
            have HF1 := HXR
            have HF2 := HZ709
            have HF3 := HZ857
            have HF4 := HZ858
            (try simp only [Exit.then])
            go_wp2_with fail
            refine bodyPost_ret (results_cell_tmp_row rfl _ _ (w.heap.size + 1) 65 _ (0, 0) _ _ rfl (HBQ.out.get 1 rfl) Tryd.underlying65 rfl (pt_s HWQ.out) rfl) rfl ?_
            have hev := HSO.out
            rw [if_neg HFL.out] at hev
            refine ⟨_, by rw [hev]; rfl, HWQ.out, (fun P h => ?_), HBQ.out.below⟩
            rw [hev] at h
            cases h
            exact ⟨_, _, _, _, HF0.out, HF1.out, HF2.out, HF3.out, HF4.out⟩
end Go.Proofs.YtjbgcbmgjdkpgaaDoor.Rd
