/- The document's root: what it answers. Condition: a row that stands for a number modulo p; the tables hold what their text lays. -/
import Derived.Test.YtanjhngehfbpbaaDoorRdE
import Derived.Test.YtanjhngehfbpbaaDoorRpP
namespace Go.Proofs.YtanjhngehfbpbaaDoor.Rd
open Go.RowKit Lm Fp

def imL : List Int := [0xa0b0, 0x4a0e, 0x1b27, 0xc4ee, 0xe478, 0xad2f, 0x1806, 0x2f43, 0xd7a7, 0x3dfb, 0x99, 0x2b4d, 0xdf0b, 0x4fc1, 0x2480, 0x2b83]
theorem imL_el : El imL im := by refine ⟨rfl, by decide +kernel, by decide +kernel⟩
/-- The table's numbers. -/
def TabI (w : World) : Prop := w.rangeAt 5 0 (imL.map (Value.int .i64))
theorem range_below {a b : World} {g o : Nat} {xs : List Value} (h : a.rangeAt g o xs) (k : Below a.heap.size a b) : b.rangeAt g o xs := range_kept h (Kept.of_below k (T := fun _ => False)) id
theorem range_lt {a : World} {g o : Nat} {x : Value} {xs : List Value} (h : a.rangeAt g o (x :: xs)) : g < a.heap.size := World.block_lt_of_cell? _ _ (h 0 x rfl)
set_option maxRecDepth 100000 in
set_option maxHeartbeats 4000000 in
theorem root_any (xs : List Int) (a : Nat) (w : World) (hx : El xs a) (hT : TabI w) :
    Calls Tryd.prog 85 #[.agg (arr .i64 xs)] w fun e w' => ∃ zs, e = .returned (.tuple #[.agg (arr .i64 zs), .bool (rsqrt a).2]) ∧ El zs (rsqrt a).1 ∧ Below w.heap.size w w' := by
  have hm := eighth_any
  have hp := fun w => pow_any xs a eighth w hx
  obtain ⟨es, hes⟩ : ∃ x, x = nar (dig 256 32 eighth) := ⟨_, rfl⟩
  rw [← hes] at hm hp
  have HEL : Hid (es.length = 32) := Lib.hid (by rw [hes, nar_len, dig_len])
  obtain ⟨iL, hiL⟩ : ∃ x, x = imL := ⟨_, rfl⟩
  have HI : Hid (El iL im) := Lib.hid (by rw [hiL]; exact imL_el)
  have HIL := Lib.hid HI.out.1
  unfold TabI at hT
  rw [← hiL] at hT
  have HT := Lib.hid hT
  have HGL : Hid (5 < w.heap.size) := Lib.hid (by rw [hiL] at hT; exact range_lt hT)
  obtain ⟨x0, hx0⟩ : ∃ x, x = fpow a eighth 256 := ⟨_, rfl⟩
  rw [← hx0] at hp
  have hrs : rsqrt a = if fmul x0 x0 = a then (x0, true) else (fmul x0 im, decide (fmul (fmul x0 im) (fmul x0 im) = a)) := by rw [hx0]; rfl
  have HRS := Lib.hid hrs
  obtain ⟨ze, hze⟩ : ∃ zs : List Int, zs = List.replicate 16 0 := ⟨_, rfl⟩
  have HZze : Hid (∀ w, (zeroValue 64).run Tryd.prog w = .ok (.agg (arr .i64 ze)) w) := Lib.hid (by intro w; rw [hze]; exact zero_el w)
  have HLze : Hid (ze.length = 16) := Lib.hid (by rw [hze]; rfl)
  have HM := Lib.hid hm
  have HP := Lib.hid hp
  have HX := Lib.hid hx
  have HXL := Lib.hid hx.1
  have HS0 := Lib.hid (Blk.two w (arr .i64 xs) (arr .i64 ze) 64 64)
  clear hze hes hx hm hp hiL hT hx0 hrs
  go_enter Tryd.func85, Tryd.ntmps85
  go_upto_region 1 with (first | ((with_reducible refine aS 2 ?_); refine wpList_alloc_row rfl 64 rfl _ (HZze.out _) ?_))
  generalize ((w.alloc (.cells (arr .i64 xs) 64)).alloc (.cells (arr .i64 ze) 64)) = wb at HS0 ⊢
  go_cut [4] (fun u4 wx => ∃ g x1, u4 = .pointer (some ⟨g, 0, none⟩) ∧ El x1 x0 ∧ Blk w wx [(w.heap.size, arr .i64 xs, 64), (w.heap.size + 1, arr .i64 ze, 64), (g, arr .i64 x1, 64)])
  case first =>
    have HK0 := Lib.hid ((Kept.refl (fun _ => False) wb).drew)
    have HBd := Lib.hid (HS0.out.drew)
    refine wp_region_held_drew (S := (fun w' => Kept (fun _ => False) wb w')) (by kernel_rfl) (HK0.out) (fun hHeld => ?_)
    generalize wb.drew = wd at HK0 HBd hHeld ⊢
    refine' wpAnyH_take (i := 0) (oi := (⟨some 5, _, _, _, _, none⟩ : Oper)) (v := _) rfl (by kernel_rfl) (by kernel_rfl) (by kernel_rfl) (fun _ _ _ h => h) (yieldsIf_load_mid (by rfl) _ _ rfl _ _ rfl (xs.map (Value.int .i64)) _ ?hS101 Tryd.underlying64 rfl (by rw [List.length_map]; exact el_i HXL.out)) (by assumption) ?rest101
    case hS101 => (intro w hSw; (try dsimp only at hSw); exact range_part (hSw.blk (HS0.out.get 0 rfl) (fun e => e.elim)) 0 _ (by rw [List.length_map]; exact arr_part _ _))
    (try simp only [Act.put, sA, sZ, sS])
    refine wpAnyH_ready (rs := [1, 3]) (by kernel_rfl) (by simp) ?_
    refine AllReadyH.cons (o := (⟨some 6, _, _, _, _, none⟩ : Oper)) rfl (fun K hK => ?_) ?_
    · go_simp
      go_at_call 114
      refine (HM.out _).mono ?_
      rintro e w102 ⟨rfl, hb102⟩
      have HB102 := Lib.hid (HBd.out.kept hb102)
      have HK102 := Lib.hid (HK0.out.trans (Kept.of_below hb102))
      clear hb102
      (try dsimp only)
      refine hK.out _ _ (HK102.out) (fun hHeld => ?_)
      clear hK K
      (try simp only [Act.put, sA, sZ, sS])
      refine wpAnyH_ready (rs := [2, 3]) (by kernel_rfl) (by simp) ?_
      refine AllReadyH.cons (o := (⟨some 7, _, _, _, _, none⟩ : Oper)) rfl (fun K hK => ?_) ?_
      · go_simp
        go_at_call 110
        refine (HP.out _).mono ?_
        rintro e w103 ⟨z103, rfl, h103, hb103⟩
        have HZ103 := Lib.hid h103
        have HL103 := Lib.hid h103.1
        clear h103
        have HB103 := Lib.hid (HB102.out.kept hb103)
        have HK103 := Lib.hid (HK102.out.trans (Kept.of_below hb103))
        clear hb103
        (try dsimp only)
        refine hK.out _ _ (HK103.out) (fun hHeld => ?_)
        clear hK K
        (try simp only [Act.put, sA, sZ, sS])
        refine wpAnyH_ready (rs := [3]) (by kernel_rfl) (by simp) ?_
        refine AllReadyH.cons (o := (⟨some 4, _, _, _, _, none⟩ : Oper)) rfl (fun K hK => ?_) AllReadyH.nil
        refine step_alloc_row rfl 64 rfl _ (HZze.out _) ?_
        have HB104 := Lib.hid (HB103.out.alloc (arr .i64 ze) 64)
        have HK104 := Lib.hid (HK103.out.alloc (.cells (arr .i64 ze) 64))
        have HN104 := Lib.hid (show wb.heap.size ≤ (w103).heap.size from HK103.out.size)
        generalize (w103).heap.size = g104 at HB104 HN104 ⊢
        generalize (w103).alloc (.cells (arr .i64 ze) 64) = w104 at HB104 HK104 ⊢
        refine hK.out _ _ (HK104.out) (fun hHeld => ?_)
        clear hK K
        (try simp only [Act.put, sA, sZ, sS])
        refine wpAnyH_ready (rs := [4]) (by kernel_rfl) (by simp) ?_
        refine AllReadyH.cons (o := (⟨none, _, _, _, _, none⟩ : Oper)) rfl (fun K hK => ?_) AllReadyH.nil
        refine step_store_whole rfl 64 (.tmp 4) (.tmp 7) rfl (g104) _ _ _ (HB104.out.get 2 rfl) rfl rfl (arr_len2 _ _ HL103.out HLze.out) (el_s HL103.out) (all_arr _ _) ?_
        intro w105 hb105 hk105 hz105
        have HB105 := Lib.hid (HB104.out.put 2 rfl hk105 hb105)
        have HK105 := Lib.hid (HK104.out.trans_new hk105 (fun i hi e => absurd hi (by rw [e]; exact Nat.not_lt.2 HN104.out)))
        clear hb105 hk105 hz105
        refine hK.out _ _ (HK105.out) (fun hHeld => ?_)
        clear hK K
        (try simp only [Act.put])
        refine wpAnyH_done (by kernel_rfl) ?_ _
        go_wp2_with fail
        go_meet
        exact ⟨_, _, rfl, HZ103.out, HB105.out⟩
      refine AllReadyH.cons (o := (⟨some 4, _, _, _, _, none⟩ : Oper)) rfl (fun K hK => ?_) ?_
      · refine step_alloc_row rfl 64 rfl _ (HZze.out _) ?_
        have HB106 := Lib.hid (HB102.out.alloc (arr .i64 ze) 64)
        have HK106 := Lib.hid (HK102.out.alloc (.cells (arr .i64 ze) 64))
        have HN106 := Lib.hid (show wb.heap.size ≤ (w102).heap.size from HK102.out.size)
        generalize (w102).heap.size = g106 at HB106 HN106 ⊢
        generalize (w102).alloc (.cells (arr .i64 ze) 64) = w106 at HB106 HK106 ⊢
        refine hK.out _ _ (HK106.out) (fun hHeld => ?_)
        clear hK K
        (try simp only [Act.put, sA, sZ, sS])
        refine wpAnyH_ready (rs := [2]) (by kernel_rfl) (by simp) ?_
        refine AllReadyH.cons (o := (⟨some 7, _, _, _, _, none⟩ : Oper)) rfl (fun K hK => ?_) AllReadyH.nil
        go_simp
        go_at_call 110
        refine (HP.out _).mono ?_
        rintro e w107 ⟨z107, rfl, h107, hb107⟩
        have HZ107 := Lib.hid h107
        have HL107 := Lib.hid h107.1
        clear h107
        have HB107 := Lib.hid (HB106.out.kept hb107)
        have HK107 := Lib.hid (HK106.out.trans (Kept.of_below hb107))
        clear hb107
        (try dsimp only)
        refine hK.out _ _ (HK107.out) (fun hHeld => ?_)
        clear hK K
        (try simp only [Act.put, sA, sZ, sS])
        refine wpAnyH_ready (rs := [4]) (by kernel_rfl) (by simp) ?_
        refine AllReadyH.cons (o := (⟨none, _, _, _, _, none⟩ : Oper)) rfl (fun K hK => ?_) AllReadyH.nil
        refine step_store_whole rfl 64 (.tmp 4) (.tmp 7) rfl (g106) _ _ _ (HB107.out.get 2 rfl) rfl rfl (arr_len2 _ _ HL107.out HLze.out) (el_s HL107.out) (all_arr _ _) ?_
        intro w108 hb108 hk108 hz108
        have HB108 := Lib.hid (HB107.out.put 2 rfl hk108 hb108)
        have HK108 := Lib.hid (HK107.out.trans_new hk108 (fun i hi e => absurd hi (by rw [e]; exact Nat.not_lt.2 HN106.out)))
        clear hb108 hk108 hz108
        refine hK.out _ _ (HK108.out) (fun hHeld => ?_)
        clear hK K
        (try simp only [Act.put])
        refine wpAnyH_done (by kernel_rfl) ?_ _
        go_wp2_with fail
        go_meet
        exact ⟨_, _, rfl, HZ107.out, HB108.out⟩
      exact AllReadyH.nil
    refine AllReadyH.cons (o := (⟨some 4, _, _, _, _, none⟩ : Oper)) rfl (fun K hK => ?_) ?_
    · refine step_alloc_row rfl 64 rfl _ (HZze.out _) ?_
      have HB109 := Lib.hid (HBd.out.alloc (arr .i64 ze) 64)
      have HK109 := Lib.hid (HK0.out.alloc (.cells (arr .i64 ze) 64))
      have HN109 := Lib.hid (show wb.heap.size ≤ (wd).heap.size from HK0.out.size)
      generalize (wd).heap.size = g109 at HB109 HN109 ⊢
      generalize (wd).alloc (.cells (arr .i64 ze) 64) = w109 at HB109 HK109 ⊢
      refine hK.out _ _ (HK109.out) (fun hHeld => ?_)
      clear hK K
      (try simp only [Act.put, sA, sZ, sS])
      refine wpAnyH_ready (rs := [1]) (by kernel_rfl) (by simp) ?_
      refine AllReadyH.cons (o := (⟨some 6, _, _, _, _, none⟩ : Oper)) rfl (fun K hK => ?_) AllReadyH.nil
      go_simp
      go_at_call 114
      refine (HM.out _).mono ?_
      rintro e w110 ⟨rfl, hb110⟩
      have HB110 := Lib.hid (HB109.out.kept hb110)
      have HK110 := Lib.hid (HK109.out.trans (Kept.of_below hb110))
      clear hb110
      (try dsimp only)
      refine hK.out _ _ (HK110.out) (fun hHeld => ?_)
      clear hK K
      (try simp only [Act.put, sA, sZ, sS])
      refine wpAnyH_ready (rs := [2]) (by kernel_rfl) (by simp) ?_
      refine AllReadyH.cons (o := (⟨some 7, _, _, _, _, none⟩ : Oper)) rfl (fun K hK => ?_) AllReadyH.nil
      go_simp
      go_at_call 110
      refine (HP.out _).mono ?_
      rintro e w111 ⟨z111, rfl, h111, hb111⟩
      have HZ111 := Lib.hid h111
      have HL111 := Lib.hid h111.1
      clear h111
      have HB111 := Lib.hid (HB110.out.kept hb111)
      have HK111 := Lib.hid (HK110.out.trans (Kept.of_below hb111))
      clear hb111
      (try dsimp only)
      refine hK.out _ _ (HK111.out) (fun hHeld => ?_)
      clear hK K
      (try simp only [Act.put, sA, sZ, sS])
      refine wpAnyH_ready (rs := [4]) (by kernel_rfl) (by simp) ?_
      refine AllReadyH.cons (o := (⟨none, _, _, _, _, none⟩ : Oper)) rfl (fun K hK => ?_) AllReadyH.nil
      refine step_store_whole rfl 64 (.tmp 4) (.tmp 7) rfl (g109) _ _ _ (HB111.out.get 2 rfl) rfl rfl (arr_len2 _ _ HL111.out HLze.out) (el_s HL111.out) (all_arr _ _) ?_
      intro w112 hb112 hk112 hz112
      have HB112 := Lib.hid (HB111.out.put 2 rfl hk112 hb112)
      have HK112 := Lib.hid (HK111.out.trans_new hk112 (fun i hi e => absurd hi (by rw [e]; exact Nat.not_lt.2 HN109.out)))
      clear hb112 hk112 hz112
      refine hK.out _ _ (HK112.out) (fun hHeld => ?_)
      clear hK K
      (try simp only [Act.put])
      refine wpAnyH_done (by kernel_rfl) ?_ _
      go_wp2_with fail
      go_meet
      exact ⟨_, _, rfl, HZ111.out, HB112.out⟩
    exact AllReadyH.nil

  case rest =>
  obtain ⟨wy, rfl⟩ : ∃ x : World, x = wc := ⟨_, rfl⟩
  obtain ⟨gx, x1, rfl, h1, hb1⟩ := hcut
  have HB1 := Lib.hid hb1
  have HX1 := Lib.hid h1
  have HL1 := Lib.hid h1.1
  clear h1 hb1 HS0
  go_upto_region 2 with fail
  by_cases hs : fmul x0 x0 = a
  · have HSM := Lib.hid (fun xs ys w h1 h2 => (by have := same_any xs ys (fmul x0 x0) a w h1 h2; rw [decide_eq_true hs] at this; exact this : Calls Tryd.prog 115 #[.agg (arr .i64 xs), .agg (arr .i64 ys)] w fun e w' => e = .returned (.bool true) ∧ Below w.heap.size w w'))
    have hr := HRS.out
    rw [if_pos hs] at hr
    have HR := Lib.hid hr
    clear hs hr
    have HK0 := Lib.hid ((Kept.refl (fun _ => False) wy).drew)
    have HBd := Lib.hid (HB1.out.drew)
    refine wp_region_held_drew (S := (fun w' => Kept (fun _ => False) wy w')) (by kernel_rfl) (HK0.out) (fun hHeld => ?_)
    generalize wy.drew = wd at HK0 HBd hHeld ⊢
    refine' wpAnyH_take (i := 0) (oi := (⟨some 8, _, _, _, _, none⟩ : Oper)) (v := _) rfl (by kernel_rfl) (by kernel_rfl) (by kernel_rfl) (fun _ _ _ h => h) (yieldsIf_load_mid (by rfl) _ _ rfl _ _ rfl (x1.map (Value.int .i64)) _ ?hS113 Tryd.underlying64 rfl (by rw [List.length_map]; exact el_i HL1.out)) (by assumption) ?rest113
    case hS113 => (intro w hSw; (try dsimp only at hSw); exact range_part (hSw.blk (HB1.out.get 2 rfl) (fun e => e.elim)) 0 _ (by rw [List.length_map]; exact arr_part _ _))
    (try simp only [Act.put, sA, sZ, sS])
    refine' wpAnyH_take (i := 1) (oi := (⟨some 9, _, _, _, _, none⟩ : Oper)) (v := _) rfl (by kernel_rfl) (by kernel_rfl) (by kernel_rfl) (fun _ _ _ h => h) (yieldsIf_load_mid (by rfl) _ _ rfl _ _ rfl (x1.map (Value.int .i64)) _ ?hS114 Tryd.underlying64 rfl (by rw [List.length_map]; exact el_i HL1.out)) (by assumption) ?rest114
    case hS114 => (intro w hSw; (try dsimp only at hSw); exact range_part (hSw.blk (HB1.out.get 2 rfl) (fun e => e.elim)) 0 _ (by rw [List.length_map]; exact arr_part _ _))
    (try simp only [Act.put, sA, sZ, sS])
    refine' wpAnyH_take (i := 3) (oi := (⟨some 11, _, _, _, _, none⟩ : Oper)) (v := _) rfl (by kernel_rfl) (by kernel_rfl) (by kernel_rfl) (fun _ _ _ h => h) (yieldsIf_load_mid (by rfl) _ _ rfl _ _ rfl (xs.map (Value.int .i64)) _ ?hS115 Tryd.underlying64 rfl (by rw [List.length_map]; exact el_i HXL.out)) (by assumption) ?rest115
    case hS115 => (intro w hSw; (try dsimp only at hSw); exact range_part (hSw.blk (HB1.out.get 0 rfl) (fun e => e.elim)) 0 _ (by rw [List.length_map]; exact arr_part _ _))
    (try simp only [Act.put, sA, sZ, sS])
    refine wpAnyH_ready (rs := [2]) (by kernel_rfl) (by simp) ?_
    refine AllReadyH.cons (o := (⟨some 10, _, _, _, _, none⟩ : Oper)) rfl (fun K hK => ?_) AllReadyH.nil
    go_simp
    go_at_call 68
    refine (mul_any _ _ _ _ _ HX1.out HX1.out).mono ?_
    rintro e w116 ⟨z116, rfl, h116, hb116⟩
    have HZ116 := Lib.hid h116
    have HL116 := Lib.hid h116.1
    clear h116
    have HB116 := Lib.hid (HBd.out.kept hb116)
    have HK116 := Lib.hid (HK0.out.trans (Kept.of_below hb116))
    clear hb116
    (try dsimp only)
    refine hK.out _ _ (HK116.out) (fun hHeld => ?_)
    clear hK K
    (try simp only [Act.put, sA, sZ, sS])
    refine wpAnyH_ready (rs := [4]) (by kernel_rfl) (by simp) ?_
    refine AllReadyH.cons (o := (⟨some 12, _, _, _, _, none⟩ : Oper)) rfl (fun K hK => ?_) AllReadyH.nil
    go_simp
    go_at_call 115
    refine (HSM.out _ _ _ HZ116.out HX.out).mono ?_
    rintro e w117 ⟨rfl, hb117⟩
    have HB117 := Lib.hid (HB116.out.kept hb117)
    have HK117 := Lib.hid (HK116.out.trans (Kept.of_below hb117))
    clear hb117
    (try dsimp only)
    refine hK.out _ _ (HK117.out) (fun hHeld => ?_)
    clear hK K
    (try simp only [Act.put, sA, sZ, sS])
    refine wpAnyH_done (by kernel_rfl) ?_ _
    have HBF := HB117
    clear HB1

    (try simp only [Exit.then])
    go_wp2_with (first | ((with_reducible refine aS 13 ?_); refine wpList_load_part rfl 64 _ rfl (gx) 0 _ 64 (0, 0) _ (HBF.out.get 2 rfl) rfl .i64 x1 (arr_part _ _) Tryd.underlying64 rfl (el_i HL1.out) ?_) | ((with_reducible refine aT 2 ?_); refine wpList_store_whole rfl 64 _ _ rfl (w.heap.size + 1) _ _ 64 (HBF.out.get 1 rfl) rfl rfl (arr_len2 _ _ HL1.out HLze.out) (el_s HL1.out) (all_arr _ _) ?_; intro w8 hb8 hk8 hz8; have HB8 := Lib.hid (HBF.out.put 1 rfl hk8 hb8); clear hb8 hk8 hz8))
    (try simp only [Exit.inBlock, Exit.then])
    refine bodyPost_ret (results_cell_tmp_row rfl _ _ (w.heap.size + 1) 64 _ (0, 0) _ _ rfl (HB8.out.get 1 rfl) Tryd.underlying64 rfl (el_s HL1.out) rfl) rfl ?_
    refine ⟨_, ?_, by rw [HR.out]; exact HX1.out, HB8.out.below⟩
    rw [HR.out]; rfl
  · have HSM := Lib.hid (fun xs ys w h1 h2 => (by have := same_any xs ys (fmul x0 x0) a w h1 h2; rw [decide_eq_false hs] at this; exact this : Calls Tryd.prog 115 #[.agg (arr .i64 xs), .agg (arr .i64 ys)] w fun e w' => e = .returned (.bool false) ∧ Below w.heap.size w w'))
    have hr := HRS.out
    rw [if_neg hs] at hr
    have HR := Lib.hid hr
    clear hs hr
    have HK0 := Lib.hid ((Kept.refl (fun _ => False) wy).drew)
    have HBd := Lib.hid (HB1.out.drew)
    refine wp_region_held_drew (S := (fun w' => Kept (fun _ => False) wy w')) (by kernel_rfl) (HK0.out) (fun hHeld => ?_)
    generalize wy.drew = wd at HK0 HBd hHeld ⊢
    refine' wpAnyH_take (i := 0) (oi := (⟨some 8, _, _, _, _, none⟩ : Oper)) (v := _) rfl (by kernel_rfl) (by kernel_rfl) (by kernel_rfl) (fun _ _ _ h => h) (yieldsIf_load_mid (by rfl) _ _ rfl _ _ rfl (x1.map (Value.int .i64)) _ ?hS118 Tryd.underlying64 rfl (by rw [List.length_map]; exact el_i HL1.out)) (by assumption) ?rest118
    case hS118 => (intro w hSw; (try dsimp only at hSw); exact range_part (hSw.blk (HB1.out.get 2 rfl) (fun e => e.elim)) 0 _ (by rw [List.length_map]; exact arr_part _ _))
    (try simp only [Act.put, sA, sZ, sS])
    refine' wpAnyH_take (i := 1) (oi := (⟨some 9, _, _, _, _, none⟩ : Oper)) (v := _) rfl (by kernel_rfl) (by kernel_rfl) (by kernel_rfl) (fun _ _ _ h => h) (yieldsIf_load_mid (by rfl) _ _ rfl _ _ rfl (x1.map (Value.int .i64)) _ ?hS119 Tryd.underlying64 rfl (by rw [List.length_map]; exact el_i HL1.out)) (by assumption) ?rest119
    case hS119 => (intro w hSw; (try dsimp only at hSw); exact range_part (hSw.blk (HB1.out.get 2 rfl) (fun e => e.elim)) 0 _ (by rw [List.length_map]; exact arr_part _ _))
    (try simp only [Act.put, sA, sZ, sS])
    refine' wpAnyH_take (i := 3) (oi := (⟨some 11, _, _, _, _, none⟩ : Oper)) (v := _) rfl (by kernel_rfl) (by kernel_rfl) (by kernel_rfl) (fun _ _ _ h => h) (yieldsIf_load_mid (by rfl) _ _ rfl _ _ rfl (xs.map (Value.int .i64)) _ ?hS120 Tryd.underlying64 rfl (by rw [List.length_map]; exact el_i HXL.out)) (by assumption) ?rest120
    case hS120 => (intro w hSw; (try dsimp only at hSw); exact range_part (hSw.blk (HB1.out.get 0 rfl) (fun e => e.elim)) 0 _ (by rw [List.length_map]; exact arr_part _ _))
    (try simp only [Act.put, sA, sZ, sS])
    refine wpAnyH_ready (rs := [2]) (by kernel_rfl) (by simp) ?_
    refine AllReadyH.cons (o := (⟨some 10, _, _, _, _, none⟩ : Oper)) rfl (fun K hK => ?_) AllReadyH.nil
    go_simp
    go_at_call 68
    refine (mul_any _ _ _ _ _ HX1.out HX1.out).mono ?_
    rintro e w121 ⟨z121, rfl, h121, hb121⟩
    have HZ121 := Lib.hid h121
    have HL121 := Lib.hid h121.1
    clear h121
    have HB121 := Lib.hid (HBd.out.kept hb121)
    have HK121 := Lib.hid (HK0.out.trans (Kept.of_below hb121))
    clear hb121
    (try dsimp only)
    refine hK.out _ _ (HK121.out) (fun hHeld => ?_)
    clear hK K
    (try simp only [Act.put, sA, sZ, sS])
    refine wpAnyH_ready (rs := [4]) (by kernel_rfl) (by simp) ?_
    refine AllReadyH.cons (o := (⟨some 12, _, _, _, _, none⟩ : Oper)) rfl (fun K hK => ?_) AllReadyH.nil
    go_simp
    go_at_call 115
    refine (HSM.out _ _ _ HZ121.out HX.out).mono ?_
    rintro e w122 ⟨rfl, hb122⟩
    have HB122 := Lib.hid (HB121.out.kept hb122)
    have HK122 := Lib.hid (HK121.out.trans (Kept.of_below hb122))
    clear hb122
    (try dsimp only)
    refine hK.out _ _ (HK122.out) (fun hHeld => ?_)
    clear hK K
    (try simp only [Act.put, sA, sZ, sS])
    refine wpAnyH_done (by kernel_rfl) ?_ _
    have HBF := HB122
    clear HB1

    (try simp only [Exit.then])
    have HTb := Lib.hid (range_below HT.out HBF.out.below)
    obtain ⟨bb, hbb⟩ : ∃ b, b = decide (fmul (fmul x0 im) (fmul x0 im) = a) := ⟨_, rfl⟩
    rw [← hbb] at HR
    have HSM2 := Lib.hid (fun xs ys w h1 h2 => (by have := same_any xs ys (fmul (fmul x0 im) (fmul x0 im)) a w h1 h2; rw [← hbb] at this; exact this : Calls Tryd.prog 115 #[.agg (arr .i64 xs), .agg (arr .i64 ys)] w fun e w' => e = .returned (.bool bb) ∧ Below w.heap.size w w'))
    clear hbb
    go_upto_region 5 with (first | ((with_reducible refine aS 14 ?_); refine wpList_load_part rfl 64 _ rfl (gx) (0) _ 64 (0, 0) _ (HBF.out.get 2 rfl) rfl .i64 x1 (arr_part _ _) Tryd.underlying64 rfl (el_i HL1.out) ?_) | ((with_reducible refine aS 15 ?_); refine wpList_load_mid rfl 64 _ rfl 5 0 rfl (iL.map (Value.int .i64)) _ (HTb.out) Tryd.underlying64 rfl (by rw [List.length_map]; exact el_i HIL.out) ?_; (try (show wpList _ _ _ _ (Act.put _ _ (.agg (arr .i64 iL))) _))) | ((with_reducible show Calls _ 68 #[.agg _, .agg _] _ _); go_at_call 68; refine (mul_any _ _ _ _ _ HX1.out HI.out).mono ?_; rintro e w123 ⟨z123, rfl, h123, hb123⟩; have HZ123 := Lib.hid h123; have HL123 := Lib.hid h123.1; clear h123; have HB123 := Lib.hid (HBF.out.kept hb123); clear hb123) | ((with_reducible refine aT 4 (x := (Operand.tmp 16)) ?_); refine wpList_store_whole rfl 64 _ _ rfl (gx) _ _ 64 (HB123.out.get 2 rfl) rfl rfl (arr_len2 _ _ HL123.out HL1.out) (el_s HL123.out) (all_arr _ _) ?_; intro w124 hb124 hk124 hz124; have HB124 := Lib.hid (HB123.out.put 2 rfl hk124 hb124); clear hb124 hk124 hz124))
    have HK0 := Lib.hid ((Kept.refl (fun x => x = w.heap.size + 1) w124).drew)
    have HBd := Lib.hid (HB124.out.drew)
    refine wp_region_held_drew (S := (fun w' => Kept (fun x => x = w.heap.size + 1) w124 w')) (by kernel_rfl) (HK0.out) (fun hHeld => ?_)
    generalize w124.drew = wd at HK0 HBd hHeld ⊢
    refine' wpAnyH_take (i := 0) (oi := (⟨some 17, _, _, _, _, none⟩ : Oper)) (v := _) rfl (by kernel_rfl) (by kernel_rfl) (by kernel_rfl) (fun _ _ _ h => h) (yieldsIf_load_mid (by rfl) _ _ rfl _ _ rfl (z123.map (Value.int .i64)) _ ?hS125 Tryd.underlying64 rfl (by rw [List.length_map]; exact el_i HL123.out)) (by assumption) ?rest125
    case hS125 => (intro w hSw; (try dsimp only at hSw); exact range_part (hSw.blk (HB124.out.get 2 rfl) (HB124.out.ne 2 1 rfl rfl (by decide))) 0 _ (by rw [List.length_map]; exact arr_part _ _))
    (try simp only [Act.put, sA, sZ, sS])
    refine' wpAnyH_take (i := 1) (oi := (⟨some 18, _, _, _, _, none⟩ : Oper)) (v := _) rfl (by kernel_rfl) (by kernel_rfl) (by kernel_rfl) (fun _ _ _ h => h) (yieldsIf_load_mid (by rfl) _ _ rfl _ _ rfl (z123.map (Value.int .i64)) _ ?hS126 Tryd.underlying64 rfl (by rw [List.length_map]; exact el_i HL123.out)) (by assumption) ?rest126
    case hS126 => (intro w hSw; (try dsimp only at hSw); exact range_part (hSw.blk (HB124.out.get 2 rfl) (HB124.out.ne 2 1 rfl rfl (by decide))) 0 _ (by rw [List.length_map]; exact arr_part _ _))
    (try simp only [Act.put, sA, sZ, sS])
    refine' wpAnyH_take (i := 2) (oi := (⟨some 19, _, _, _, _, none⟩ : Oper)) (v := _) rfl (by kernel_rfl) (by kernel_rfl) (by kernel_rfl) (fun _ _ _ h => h) (yieldsIf_load_mid (by rfl) _ _ rfl _ _ rfl (z123.map (Value.int .i64)) _ ?hS127 Tryd.underlying64 rfl (by rw [List.length_map]; exact el_i HL123.out)) (by assumption) ?rest127
    case hS127 => (intro w hSw; (try dsimp only at hSw); exact range_part (hSw.blk (HB124.out.get 2 rfl) (HB124.out.ne 2 1 rfl rfl (by decide))) 0 _ (by rw [List.length_map]; exact arr_part _ _))
    (try simp only [Act.put, sA, sZ, sS])
    refine' wpAnyH_take (i := 4) (oi := (⟨some 21, _, _, _, _, none⟩ : Oper)) (v := _) rfl (by kernel_rfl) (by kernel_rfl) (by kernel_rfl) (fun _ _ _ h => h) (yieldsIf_load_mid (by rfl) _ _ rfl _ _ rfl (xs.map (Value.int .i64)) _ ?hS128 Tryd.underlying64 rfl (by rw [List.length_map]; exact el_i HXL.out)) (by assumption) ?rest128
    case hS128 => (intro w hSw; (try dsimp only at hSw); exact range_part (hSw.blk (HB124.out.get 0 rfl) (HB124.out.ne 0 1 rfl rfl (by decide))) 0 _ (by rw [List.length_map]; exact arr_part _ _))
    (try simp only [Act.put, sA, sZ, sS])
    refine wpAnyH_ready (rs := [3]) (by kernel_rfl) (by simp) ?_
    refine AllReadyH.cons (o := (⟨some 20, _, _, _, _, none⟩ : Oper)) rfl (fun K hK => ?_) AllReadyH.nil
    go_simp
    go_at_call 68
    refine (mul_any _ _ _ _ _ HZ123.out HZ123.out).mono ?_
    rintro e w129 ⟨z129, rfl, h129, hb129⟩
    have HZ129 := Lib.hid h129
    have HL129 := Lib.hid h129.1
    clear h129
    have HB129 := Lib.hid (HBd.out.kept hb129)
    have HK129 := Lib.hid (HK0.out.trans (Kept.of_below hb129))
    clear hb129
    (try dsimp only)
    refine hK.out _ _ (HK129.out) (fun hHeld => ?_)
    clear hK K
    (try simp only [Act.put, sA, sZ, sS])
    refine wpAnyH_ready (rs := [5]) (by kernel_rfl) (by simp) ?_
    refine AllReadyH.cons (o := (⟨some 22, _, _, _, _, none⟩ : Oper)) rfl (fun K hK => ?_) AllReadyH.nil
    go_simp
    go_at_call 115
    refine (HSM2.out _ _ _ HZ129.out HX.out).mono ?_
    rintro e w130 ⟨rfl, hb130⟩
    have HB130 := Lib.hid (HB129.out.kept hb130)
    have HK130 := Lib.hid (HK129.out.trans (Kept.of_below hb130))
    clear hb130
    (try dsimp only)
    refine hK.out _ _ (HK130.out) (fun hHeld => ?_)
    clear hK K
    (try simp only [Act.put, sA, sZ, sS])
    refine wpAnyH_ready (rs := [6]) (by kernel_rfl) (by simp) ?_
    refine AllReadyH.cons (o := (⟨none, _, _, _, _, none⟩ : Oper)) rfl (fun K hK => ?_) AllReadyH.nil
    refine step_store_whole rfl 64 (.tmp 2) (.tmp 17) rfl (w.heap.size + 1) _ _ _ (HB130.out.get 1 rfl) rfl rfl (arr_len2 _ _ HL123.out HLze.out) (el_s HL123.out) (all_arr _ _) ?_
    intro w131 hb131 hk131 hz131
    have HB131 := Lib.hid (HB130.out.put 1 rfl hk131 hb131)
    have HK131 := Lib.hid (HK130.out.trans hk131)
    clear hb131 hk131 hz131
    refine hK.out _ _ (HK131.out) (fun hHeld => ?_)
    clear hK K
    (try simp only [Act.put])
    refine wpAnyH_take (i := 7) (oi := (⟨some 3, _, _, _, _, none⟩ : Oper)) (v := ?v132) rfl (by kernel_rfl) (by kernel_rfl) (by kernel_rfl) (fun _ _ _ h => h) (Or.inl ⟨by rfl, ?hy132⟩) (by assumption) ?rest132
    case hy132 => (intro w hSw; (try dsimp only at hSw); go_simp; try (with_reducible rfl))
    (try simp only [Act.put, sA, sZ, sS])
    refine wpAnyH_done (by kernel_rfl) ?_ _
    have HBL := HB131
    have HLL := HL123
    have HZL := HZ123

    (try simp only [Exit.then])
    go_wp2_with fail
    (try simp only [Exit.inBlock, Exit.then])
    refine bodyPost_ret (results_cell_tmp_row rfl _ _ (w.heap.size + 1) 64 _ (0, 0) _ _ rfl (HBL.out.get 1 rfl) Tryd.underlying64 rfl (el_s HLL.out) rfl) rfl ?_
    refine ⟨_, ?_, by rw [HR.out]; exact HZL.out, HBL.out.below⟩
    rw [HR.out]; rfl
end Go.Proofs.YtanjhngehfbpbaaDoor.Rd
