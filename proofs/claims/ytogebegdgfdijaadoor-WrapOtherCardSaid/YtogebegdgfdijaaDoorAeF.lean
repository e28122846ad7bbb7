/- aead.Open. Conditions: key of 32 bytes, nonce of 12; at most 2^37 bytes. -/
import Derived.Test.YtogebegdgfdijaaDoorAa
set_option maxRecDepth 100000
set_option maxHeartbeats 16000000
set_option linter.unusedSimpArgs false
set_option linter.unusedVariables false
namespace Go.Proofs.YtogebegdgfdijaaDoor.Ae
open Go.RowKit Lm Po Ch
theorem src_if' {w : World} {ad : Addr} {n : Nat} {xs : List Int} (h : Src w (some ad) n xs) (c o m : Nat) (hc : n ≤ c) (hm : o + m ≤ n) : Src w (if c = o then some ad else some (ad.add o)) m ((xs.drop o).take m) := by
  by_cases e : c = o
  · rw [if_pos e]
    have hz : m = 0 := by omega
    subst hz
    exact ⟨by simp, fun i hi => absurd hi (by omega)⟩
  · rw [if_neg e]
    exact h.part o m hm
theorem open_any (key nonce b beside : List Int) (sp sb : Option Addr) (n1 n2 c1 c2 : Nat) (w : World) (hk : key.length = 32) (hn : nonce.length = 12) (bk : bytes key) (bn : bytes nonce) (hp : Src w sp n1 b) (hb : Src w sb n2 beside) (pb : bytes b) (bb : bytes beside) (l1 : n1 ≤ 137438953472) (l2 : n2 ≤ 137438953472) (k1 : n1 ≤ c1) (k2 : n2 ≤ c2) :
    Calls Tryd.prog 14 #[.agg (arr .u8 key), .agg (arr .u8 nonce), .slice sp n1 c1, .slice sb n2 c2] w fun e w' => ∃ v, e = .returned (.tuple #[v, .int .i64 (if okay key nonce b beside then 0 else 10)]) ∧ Own8 w' w.heap.size v (opened key nonce b beside) ∧ Below w.heap.size w w' := by
  have hpl := hp.len
  by_cases h16 : n1 < 16
  · have hok : okay key nonce b beside = false := by
      unfold okay
      rw [decide_eq_false_iff_not]
      omega
    have hop : opened key nonce b beside = [] := by unfold opened; rw [hok]; rfl
    rw [hok, hop]
    have S0 := B2.start w (arr .u8 key) (arr .u8 nonce) 23 40
    have HS0 := Lib.hid S0.below
    have h16' : (n1 : Int) < 16 := by omega
    have h16'' : (n1 : Int) - 16 < 0 := by omega
    have j1 : IntKind.i64.wrap ((n1 : Int) - 16) = (n1 : Int) - 16 := IntWalk.i64_in _ (by omega)
    clear S0 hok hop hk hn bk bn hp hb pb bb hpl k1 k2
    go_enter Tryd.func14, Tryd.ntmps14
    go_wp2_with fail
    go_ret2
    exact ⟨_, rfl, Own8.nil _ _, HS0.out⟩
  · obtain ⟨k, hk16⟩ : ∃ k, k = n1 - 16 := ⟨_, rfl⟩
    obtain ⟨ad, rfl, -⟩ := hp.cell 0 (by omega)
    have hkn : k + 16 = n1 := by omega
    have hpt := hp.take k (by omega)
    have hpd := src_if' hp c1 k 16 k1 (by omega)
    have hdl : (b.drop k).length = 16 := by rw [List.length_drop]; omega
    rw [List.take_of_length_le (by omega)] at hpd
    obtain ⟨sd, hsd⟩ : ∃ x, x = (if c1 = k then some ad else some (ad.add k)) := ⟨_, rfl⟩
    rw [← hsd] at hpd
    obtain ⟨zt, hzt⟩ : ∃ zs : List Int, zs = List.replicate 16 0 := ⟨_, rfl⟩
    have hyt : ∀ w, (zeroValue 47).run Tryd.prog w = .ok (.agg (arr .u8 zt)) w := by intro w; rw [hzt]; exact zeroTag w
    have hztl : zt.length = 16 := by rw [hzt]; rfl
    obtain ⟨bt, hbt⟩ : ∃ x, x = b.take k := ⟨_, rfl⟩
    obtain ⟨bd, hbd⟩ : ∃ x, x = b.drop k := ⟨_, rfl⟩
    have btb : bytes bt := by rw [hbt]; exact bytes_take pb k
    have bdb : bytes bd := by rw [hbd]; exact bytes_drop pb k
    have M2 := fun w hc hb => tag_any key nonce bt beside (some ad) sb k n2 c1 c2 w hk hn bk bn hc hb btb bb (by omega) (by omega) (by omega) k2
    obtain ⟨tg, htg⟩ : ∃ x, x = tag key nonce bt beside := ⟨_, rfl⟩
    have tgl : tg.length = 16 := by rw [htg, tag_len]
    have tgb : bytes tg := by rw [htg]; exact bytes_tag _ _ _ _
    have M3 := fun w g hs ht => same_any' (some ⟨g, 0, none⟩) sd 16 16 16 (c1 - k) tg bd w hs ht tgb bdb (by omega)
    have M4 := fun w hs => Ch.turn_any (some ad) k c1 bt key nonce 1 w hs hk hn bk bn (by omega)
    obtain ⟨bv, hbv⟩ : ∃ x, x = decide (tg = bd) := ⟨_, rfl⟩
    have hok : okay key nonce b beside = bv := by
      unfold okay
      rw [hpl, ← hk16, ← hbt, ← hbd, ← htg, hbv]
      have : 16 ≤ n1 := by omega
      simp [this]
    have hop : opened key nonce b beside = if bv then turn key 1 nonce bt else [] := by
      unfold opened
      rw [hok, hpl, ← hk16, ← hbt]
    rw [hok, hop]
    rw [← hbt] at hpt
    rw [← hbd] at hpd
    rw [← htg] at M2
    rw [← hbv] at M3
    obtain ⟨tx, htx⟩ : ∃ x, x = turn key 1 nonce bt := ⟨_, rfl⟩
    rw [← htx] at M4 ⊢
    have S0 := B2.start w (arr .u8 key) (arr .u8 nonce) 23 40
    have n0 : IntKind.i64.wrap ((n1 : Int) - 16) = (k : Int) := by rw [IntWalk.i64_in _ (by omega)]; omega
    have n0' : (n1 : Int) - 16 = (k : Int) := by omega
    have kc : (k : Int) ≤ (c1 : Int) := by omega
    have kn : (k : Int) ≤ (n1 : Int) := by omega
    have e16 : n1 - k = 16 := by omega
    have HS0 := Lib.hid S0
    have HK := Lib.hid hk
    have HN := Lib.hid hn
    have HP := Lib.hid (hpt.below S0.below)
    have HD := Lib.hid (hpd.below S0.below)
    have HB := Lib.hid (hb.below S0.below)
    have HYT := Lib.hid hyt
    have HZT := Lib.hid hztl
    have HM2 := Lib.hid M2
    have HM3 := Lib.hid M3
    have HM4 := Lib.hid M4
    have TGL := Lib.hid tgl
    have HSD := Lib.hid hsd
    have HKN := Lib.hid hkn
    clear S0 hk hn hp hb hpl hyt hztl M2 M3 M4 tgl hzt htx hbt hbd btb bdb htg tgb hbv hok hop hpt hpd hdl hsd bk bn bb pb k2 hk16 hkn
    go_enter Tryd.func14, Tryd.ntmps14
    go_upto_region 4 with fail
    generalize (w.alloc (.cells (arr .u8 key) 23)).alloc (.cells (arr .u8 nonce) 40) = wq at HS0 HP HD HB ⊢
    go_cut [11] (fun u11 wx => ∃ g, u11 = .pointer (some ⟨g, 0, none⟩) ∧ wq.heap.size ≤ g ∧ wx.heap[g]? = some (.cells (arr .u8 tg) 47 (0, 0)) ∧ Below wq.heap.size wq wx)
    case first =>
      have hdr : Below wq.heap.size wq wq.drew := ⟨rfl, rfl, rfl, Nat.le_refl _, fun _ _ => rfl⟩
      have HPq := Lib.hid (HP.out.below hdr)
      have HBq := Lib.hid (HB.out.below hdr)
      clear hdr
      have HB0 := Lib.hid (show Below wq.heap.size wq wq.drew from ⟨rfl, rfl, rfl, Nat.le_refl _, fun _ _ => rfl⟩)
      refine wp_region_held_drew (S := (fun w' => Go.RowKit.Below wq.heap.size wq w')) (by kernel_rfl) (HB0.out) (fun hHeld => ?_)
      refine' wpAnyH_take (i := 0) (oi := (⟨some 17, _, _, _, _, none⟩ : Oper)) (v := _) rfl (by kernel_rfl) (by kernel_rfl) (by kernel_rfl) (fun _ _ _ h => h) (yieldsIf_load_mid (by rfl) _ _ rfl _ _ rfl (key.map (Value.int .u8)) _ ?hS1 Tryd.underlying23 rfl (by rw [List.length_map]; rw [HK.out]; exact size32)) (by assumption) ?rest1
      case hS1 => (intro w hSw; exact range_part (Below.blk hSw HS0.out.b0 (blk_lt HS0.out.b0)) 0 _ (by rw [List.length_map]; exact arr_part _ _))
      (try simp only [Act.put, sA, sZ, sS])
      refine' wpAnyH_take (i := 1) (oi := (⟨some 18, _, _, _, _, none⟩ : Oper)) (v := _) rfl (by kernel_rfl) (by kernel_rfl) (by kernel_rfl) (fun _ _ _ h => h) (yieldsIf_load_mid (by rfl) _ _ rfl _ _ rfl (nonce.map (Value.int .u8)) _ ?hS2 Tryd.underlying40 rfl (by rw [List.length_map]; rw [HN.out]; exact size12)) (by assumption) ?rest2
      case hS2 => (intro w hSw; exact range_part (Below.blk hSw HS0.out.b1 (blk_lt HS0.out.b1)) 0 _ (by rw [List.length_map]; exact arr_part _ _))
      (try simp only [Act.put, sA, sZ, sS])
      refine wpAnyH_take (i := 2) (oi := (⟨some 19, _, _, _, _, none⟩ : Oper)) (v := ?v3) rfl (by kernel_rfl) (by kernel_rfl) (by kernel_rfl) (fun _ _ _ h => h) (Or.inl ⟨by rfl, ?hy3⟩) (by assumption) ?rest3
      case hy3 => (intro w hSw; (try dsimp only at hSw); go_simp; try (with_reducible rfl))
      (try simp only [Act.put, sA, sZ, sS])
      refine wpAnyH_take (i := 3) (oi := (⟨some 20, _, _, _, _, none⟩ : Oper)) (v := ?v4) rfl (by kernel_rfl) (by kernel_rfl) (by kernel_rfl) (fun _ _ _ h => h) (Or.inl ⟨by rfl, ?hy4⟩) (by assumption) ?rest4
      case hy4 => (intro w hSw; (try dsimp only at hSw); go_simp; try (with_reducible rfl))
      (try simp only [Act.put, sA, sZ, sS])
      refine wpAnyH_take (i := 4) (oi := (⟨some 21, _, _, _, _, none⟩ : Oper)) (v := ?v5) rfl (by kernel_rfl) (by kernel_rfl) (by kernel_rfl) (fun _ _ _ h => h) (Or.inl ⟨by rfl, ?hy5⟩) (by assumption) ?rest5
      case hy5 => (intro w hSw; (try dsimp only at hSw); go_simp; try (with_reducible rfl))
      (try simp only [Act.put, sA, sZ, sS])
      refine wpAnyH_take (i := 5) (oi := (⟨some 22, _, _, _, _, none⟩ : Oper)) (v := ?v6) rfl (by kernel_rfl) (by kernel_rfl) (by kernel_rfl) (fun _ _ _ h => h) (Or.inl ⟨by rfl, ?hy6⟩) (by assumption) ?rest6
      case hy6 => (intro w hSw; (try dsimp only at hSw); go_simp; try (with_reducible rfl))
      (try simp only [Act.put, sA, sZ, sS])
      refine wpAnyH_ready (rs := [6, 7]) (by kernel_rfl) (by simp) ?_
      refine AllReadyH.cons (o := (⟨some 23, _, _, _, _, none⟩ : Oper)) rfl (fun K hK => ?_) ?_
      · go_simp
        go_at_call 20
        refine (HM2.out _ HPq.out HBq.out).mono ?_
        rintro e w7 ⟨rfl, hb7⟩
        have HB7 := Lib.hid (HB0.out.trans (hb7.mono HB0.out.size))
        clear hb7
        (try dsimp only)
        refine hK.out _ _ (HB7.out) (fun hHeld => ?_)
        clear hK K
        (try simp only [Act.put, sA, sZ, sS])
        refine wpAnyH_ready (rs := [7]) (by kernel_rfl) (by simp) ?_
        refine AllReadyH.cons (o := (⟨some 11, _, _, _, _, none⟩ : Oper)) rfl (fun K hK => ?_) AllReadyH.nil
        refine step_alloc_row rfl 47 rfl _ (HYT.out _) ?_
        have HB8 := Lib.hid (HB7.out.alloc HB7.out.size (.cells (arr .u8 zt) 47))
        have HG8_11 := Lib.hid (blk_new (w7) (.cells (arr .u8 zt) 47))
        have HPq := Lib.hid (HPq.out.below ((Below.refl _ _).alloc (Nat.le_refl _) (.cells (arr .u8 zt) 47)))
        have HBq := Lib.hid (HBq.out.below ((Below.refl _ _).alloc (Nat.le_refl _) (.cells (arr .u8 zt) 47)))
        refine hK.out _ _ (HB8.out) (fun hHeld => ?_)
        clear hK K
        (try simp only [Act.put, sA, sZ, sS])
        refine wpAnyH_ready (rs := [8]) (by kernel_rfl) (by simp) ?_
        refine AllReadyH.cons (o := (⟨none, _, _, _, _, none⟩ : Oper)) rfl (fun K hK => ?_) AllReadyH.nil
        refine step_store_whole rfl 47 (.tmp 11) (.tmp 23) rfl (w7).heap.size _ _ _ HG8_11.out rfl rfl (by rw [arr_size, arr_size, TGL.out, HZT.out]) (arrTag tg TGL.out) (all_arr _ _) ?_
        intro w9 hb9 hk9 hz9
        have HB9 := Lib.hid (HB8.out.trans (hk9.toBelow HB8.out.size (by rintro i rfl; exact HB7.out.size)))
        have HG9_11 := Lib.hid hb9
        clear hb9 hk9 hz9
        refine hK.out _ _ (HB9.out) (fun hHeld => ?_)
        clear hK K
        (try simp only [Act.put])
        refine wpAnyH_done (by kernel_rfl) ?_ _
        go_wp2_with fail
        go_meet
        exact ⟨_, rfl, HB7.out.size, HG9_11.out, HB9.out⟩
      refine AllReadyH.cons (o := (⟨some 11, _, _, _, _, none⟩ : Oper)) rfl (fun K hK => ?_) ?_
      · refine step_alloc_row rfl 47 rfl _ (HYT.out _) ?_
        have HB10 := Lib.hid (HB0.out.alloc HB0.out.size (.cells (arr .u8 zt) 47))
        have HG10_11 := Lib.hid (blk_new (wq.drew) (.cells (arr .u8 zt) 47))
        have HPq := Lib.hid (HPq.out.below ((Below.refl _ _).alloc (Nat.le_refl _) (.cells (arr .u8 zt) 47)))
        have HBq := Lib.hid (HBq.out.below ((Below.refl _ _).alloc (Nat.le_refl _) (.cells (arr .u8 zt) 47)))
        refine hK.out _ _ (HB10.out) (fun hHeld => ?_)
        clear hK K
        (try simp only [Act.put, sA, sZ, sS])
        refine wpAnyH_ready (rs := [6]) (by kernel_rfl) (by simp) ?_
        refine AllReadyH.cons (o := (⟨some 23, _, _, _, _, none⟩ : Oper)) rfl (fun K hK => ?_) AllReadyH.nil
        go_simp
        go_at_call 20
        refine (HM2.out _ HPq.out HBq.out).mono ?_
        rintro e w11 ⟨rfl, hb11⟩
        have HB11 := Lib.hid (HB10.out.trans (hb11.mono HB10.out.size))
        have HG11_11 := Lib.hid (Below.blk hb11 HG10_11.out (blk_lt HG10_11.out))
        clear hb11
        (try dsimp only)
        refine hK.out _ _ (HB11.out) (fun hHeld => ?_)
        clear hK K
        (try simp only [Act.put, sA, sZ, sS])
        refine wpAnyH_ready (rs := [8]) (by kernel_rfl) (by simp) ?_
        refine AllReadyH.cons (o := (⟨none, _, _, _, _, none⟩ : Oper)) rfl (fun K hK => ?_) AllReadyH.nil
        refine step_store_whole rfl 47 (.tmp 11) (.tmp 23) rfl (wq.drew).heap.size _ _ _ HG11_11.out rfl rfl (by rw [arr_size, arr_size, TGL.out, HZT.out]) (arrTag tg TGL.out) (all_arr _ _) ?_
        intro w12 hb12 hk12 hz12
        have HB12 := Lib.hid (HB11.out.trans (hk12.toBelow HB11.out.size (by rintro i rfl; exact HB0.out.size)))
        have HG12_11 := Lib.hid hb12
        clear hb12 hk12 hz12
        refine hK.out _ _ (HB12.out) (fun hHeld => ?_)
        clear hK K
        (try simp only [Act.put])
        refine wpAnyH_done (by kernel_rfl) ?_ _
        go_wp2_with fail
        go_meet
        exact ⟨_, rfl, HB0.out.size, HG12_11.out, HB12.out⟩
      exact AllReadyH.nil
    case rest =>
      obtain ⟨wr, rfl⟩ : ∃ x : World, x = wc := ⟨_, rfl⟩
      obtain ⟨g, rfl, hg, hg2, hbw⟩ := hcut
      have HS1 := Lib.hid (HS0.out.after hbw)
      have HP1 := Lib.hid (HP.out.below hbw)
      have HD1 := Lib.hid (HD.out.below hbw)
      have HT1 := Lib.hid (src_arr hg2 16 TGL.out)
      clear hbw hg2 hg HS0 HP HD HB
      go_upto_region 5 with fail
      have hdr : Below wr.heap.size wr wr.drew := ⟨rfl, rfl, rfl, Nat.le_refl _, fun _ _ => rfl⟩
      have HDq := Lib.hid (HD1.out.below hdr)
      have HTq := Lib.hid (HT1.out.below hdr)
      clear hdr
      have HB0 := Lib.hid (show Below wr.heap.size wr wr.drew from ⟨rfl, rfl, rfl, Nat.le_refl _, fun _ _ => rfl⟩)
      refine wp_region_held_drew (S := (fun w' => Go.RowKit.Below wr.heap.size wr w')) (by kernel_rfl) (HB0.out) (fun hHeld => ?_)
      refine wpAnyH_take (i := 0) (oi := (⟨some 24, _, _, _, _, none⟩ : Oper)) (v := ?v1001) rfl (by kernel_rfl) (by kernel_rfl) (by kernel_rfl) (fun _ _ _ h => h) (Or.inl ⟨by rfl, ?hy1001⟩) (by assumption) ?rest1001
      case hy1001 => (intro w hSw; (try dsimp only at hSw); go_simp; try (with_reducible rfl))
      (try simp only [Act.put, sA, sZ, sS])
      refine wpAnyH_take (i := 1) (oi := (⟨some 25, _, _, _, _, none⟩ : Oper)) (v := ?v1002) rfl (by kernel_rfl) (by kernel_rfl) (by kernel_rfl) (fun _ _ _ h => h) (Or.inl ⟨by rfl, ?hy1002⟩) (by assumption) ?rest1002
      case hy1002 => (intro w hSw; (try dsimp only at hSw); go_simp; try (with_reducible rfl))
      (try simp only [Act.put, sA, sZ, sS])
      refine wpAnyH_take (i := 2) (oi := (⟨some 26, _, _, _, _, none⟩ : Oper)) (v := ?v1003) rfl (by kernel_rfl) (by kernel_rfl) (by kernel_rfl) (fun _ _ _ h => h) (Or.inl ⟨by rfl, ?hy1003⟩) (by assumption) ?rest1003
      case hy1003 => (intro w hSw; (try dsimp only at hSw); go_simp; try (with_reducible rfl))
      (try simp only [Act.put, sA, sZ, sS])
      refine wpAnyH_take (i := 3) (oi := (⟨some 27, _, _, _, _, none⟩ : Oper)) (v := ?v1004) rfl (by kernel_rfl) (by kernel_rfl) (by kernel_rfl) (fun _ _ _ h => h) (Or.inl ⟨by rfl, ?hy1004⟩) (by assumption) ?rest1004
      case hy1004 => (intro w hSw; (try dsimp only at hSw); go_simp; try (with_reducible rfl))
      (try simp only [Act.put, sA, sZ, sS])
      refine wpAnyH_ready (rs := [4]) (by kernel_rfl) (by simp) ?_
      refine AllReadyH.cons (o := (⟨some 28, _, _, _, _, none⟩ : Oper)) rfl (fun K hK => ?_) AllReadyH.nil
      go_simp
      go_at_call 32
      rw [← HSD.out]
      refine (HM3.out _ _ HTq.out HDq.out).mono ?_
      rintro e w1005 ⟨rfl, hb1005⟩
      have HB1005 := Lib.hid (HB0.out.trans (hb1005.mono HB0.out.size))
      clear hb1005
      (try dsimp only)
      refine hK.out _ _ (HB1005.out) (fun hHeld => ?_)
      clear hK K
      (try simp only [Act.put, sA, sZ, sS])
      refine wpAnyH_take (i := 5) (oi := (⟨some 29, _, _, _, _, none⟩ : Oper)) (v := ?v1006) rfl (by kernel_rfl) (by kernel_rfl) (by kernel_rfl) (fun _ _ _ h => h) (Or.inl ⟨by rfl, ?hy1006⟩) (by assumption) ?rest1006
      case hy1006 => (intro w hSw; (try dsimp only at hSw); go_simp; try (with_reducible rfl))
      (try simp only [Act.put, sA, sZ, sS])
      refine wpAnyH_done (by kernel_rfl) ?_ _
      have HE5 := HB1005
      obtain ⟨wS, hwS⟩ : ∃ x : World, x = w1005 := ⟨_, rfl⟩
      rw [← hwS] at HE5 ⊢
      clear hwS
      have HS2 := Lib.hid (HS1.out.after HE5.out)
      have HP2 := Lib.hid (HP1.out.below HE5.out)
      clear HS1 HP1 HD1 HT1 HE5
      (try simp only [Exit.then])
      cases bv with
      | false =>
        go_wp2_with fail
        go_ret2
        exact ⟨_, rfl, Own8.nil _ _, HS2.out.below⟩
      | true =>
        go_upto_region 7 with fail
        have hdr : Below wS.heap.size wS wS.drew := ⟨rfl, rfl, rfl, Nat.le_refl _, fun _ _ => rfl⟩
        have HPq := Lib.hid (HP2.out.below hdr)
        clear hdr
        have HB0 := Lib.hid (show Below wS.heap.size wS wS.drew from ⟨rfl, rfl, rfl, Nat.le_refl _, fun _ _ => rfl⟩)
        refine wp_region_held_drew (S := (fun w' => Go.RowKit.Below wS.heap.size wS w')) (by kernel_rfl) (HB0.out) (fun hHeld => ?_)
        refine' wpAnyH_take (i := 0) (oi := (⟨some 30, _, _, _, _, none⟩ : Oper)) (v := _) rfl (by kernel_rfl) (by kernel_rfl) (by kernel_rfl) (fun _ _ _ h => h) (yieldsIf_load_mid (by rfl) _ _ rfl _ _ rfl (key.map (Value.int .u8)) _ ?hS2001 Tryd.underlying23 rfl (by rw [List.length_map]; rw [HK.out]; exact size32)) (by assumption) ?rest2001
        case hS2001 => (intro w hSw; exact range_part (Below.blk hSw HS2.out.b0 (blk_lt HS2.out.b0)) 0 _ (by rw [List.length_map]; exact arr_part _ _))
        (try simp only [Act.put, sA, sZ, sS])
        refine' wpAnyH_take (i := 1) (oi := (⟨some 31, _, _, _, _, none⟩ : Oper)) (v := _) rfl (by kernel_rfl) (by kernel_rfl) (by kernel_rfl) (fun _ _ _ h => h) (yieldsIf_load_mid (by rfl) _ _ rfl _ _ rfl (nonce.map (Value.int .u8)) _ ?hS2002 Tryd.underlying40 rfl (by rw [List.length_map]; rw [HN.out]; exact size12)) (by assumption) ?rest2002
        case hS2002 => (intro w hSw; exact range_part (Below.blk hSw HS2.out.b1 (blk_lt HS2.out.b1)) 0 _ (by rw [List.length_map]; exact arr_part _ _))
        (try simp only [Act.put, sA, sZ, sS])
        refine wpAnyH_take (i := 2) (oi := (⟨some 32, _, _, _, _, none⟩ : Oper)) (v := ?v2003) rfl (by kernel_rfl) (by kernel_rfl) (by kernel_rfl) (fun _ _ _ h => h) (Or.inl ⟨by rfl, ?hy2003⟩) (by assumption) ?rest2003
        case hy2003 => (intro w hSw; (try dsimp only at hSw); go_simp; try (with_reducible rfl))
        (try simp only [Act.put, sA, sZ, sS])
        refine wpAnyH_take (i := 3) (oi := (⟨some 33, _, _, _, _, none⟩ : Oper)) (v := ?v2004) rfl (by kernel_rfl) (by kernel_rfl) (by kernel_rfl) (fun _ _ _ h => h) (Or.inl ⟨by rfl, ?hy2004⟩) (by assumption) ?rest2004
        case hy2004 => (intro w hSw; (try dsimp only at hSw); go_simp; try (with_reducible rfl))
        (try simp only [Act.put, sA, sZ, sS])
        refine wpAnyH_take (i := 4) (oi := (⟨some 34, _, _, _, _, none⟩ : Oper)) (v := ?v2005) rfl (by kernel_rfl) (by kernel_rfl) (by kernel_rfl) (fun _ _ _ h => h) (Or.inl ⟨by rfl, ?hy2005⟩) (by assumption) ?rest2005
        case hy2005 => (intro w hSw; (try dsimp only at hSw); go_simp; try (with_reducible rfl))
        (try simp only [Act.put, sA, sZ, sS])
        refine wpAnyH_ready (rs := [5]) (by kernel_rfl) (by simp) ?_
        refine AllReadyH.cons (o := (⟨some 35, _, _, _, _, none⟩ : Oper)) rfl (fun K hK => ?_) AllReadyH.nil
        go_simp
        go_at_call 19
        refine (HM4.out _ HPq.out).mono ?_
        rintro e w2006 ⟨v7, rfl, ho7, hb2006⟩
        have HB2006 := Lib.hid (HB0.out.trans (hb2006.mono HB0.out.size))
        have HO7 := Lib.hid ho7
        clear ho7
        clear hb2006
        (try dsimp only)
        refine hK.out _ _ (HB2006.out) (fun hHeld => ?_)
        clear hK K
        (try simp only [Act.put, sA, sZ, sS])
        refine wpAnyH_take (i := 6) (oi := (⟨some 8, _, _, _, _, none⟩ : Oper)) (v := ?v2007) rfl (by kernel_rfl) (by kernel_rfl) (by kernel_rfl) (fun _ _ _ h => h) (Or.inl ⟨by rfl, ?hy2007⟩) (by assumption) ?rest2007
        case hy2007 => (intro w hSw; (try dsimp only at hSw); go_simp; try (with_reducible rfl))
        (try simp only [Act.put, sA, sZ, sS])
        refine wpAnyH_take (i := 7) (oi := (⟨some 9, _, _, _, _, none⟩ : Oper)) (v := ?v2008) rfl (by kernel_rfl) (by kernel_rfl) (by kernel_rfl) (fun _ _ _ h => h) (Or.inl ⟨by rfl, ?hy2008⟩) (by assumption) ?rest2008
        case hy2008 => (intro w hSw; (try dsimp only at hSw); go_simp; try (with_reducible rfl))
        (try simp only [Act.put, sA, sZ, sS])
        refine wpAnyH_done (by kernel_rfl) ?_ _
        have HE7 := HB2006
        go_wp2_with fail
        go_ret2
        exact ⟨_, rfl, HO7.out.mono (by show w.heap.size ≤ wS.heap.size; exact HS2.out.below.size), HS2.out.below.trans (HE7.out.mono HS2.out.below.size)⟩
end Go.Proofs.YtogebegdgfdijaaDoor.Ae
