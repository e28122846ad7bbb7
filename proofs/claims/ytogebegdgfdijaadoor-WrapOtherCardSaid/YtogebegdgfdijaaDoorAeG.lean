/- The document's Open. Conditions: key of 32 bytes, nonce of 12; at most 2^37 bytes. -/
import Derived.Test.YtogebegdgfdijaaDoorAeF
set_option maxRecDepth 100000
set_option maxHeartbeats 16000000
set_option linter.unusedSimpArgs false
set_option linter.unusedVariables false
namespace Go.Proofs.YtogebegdgfdijaaDoor.Ae
open Go.RowKit Lm Po Ch
theorem str_inj : ∀ (xs ys : List Int), bytes xs → bytes ys → strOfNums xs = strOfNums ys → xs = ys := by
  intro xs ys hx hy h
  have h2 : (strOfNums xs).data.toList = (strOfNums ys).data.toList := by rw [h]
  rw [strOfNums_data, strOfNums_data] at h2
  have hl : xs.length = ys.length := by have := congrArg List.length h2; simpa using this
  apply List.ext_getElem hl
  intro i h1 h3
  have e := congrArg (fun l => l[i]?) h2
  simp only [List.getElem?_map, List.getElem?_eq_getElem h1, List.getElem?_eq_getElem h3, Option.map_some, Option.some.injEq] at e
  have b1 := hx xs[i] (List.getElem_mem h1)
  have b2 := hy ys[i] (List.getElem_mem h3)
  have e2 := congrArg UInt8.toNat e
  rw [UInt8.toNat_ofNat', UInt8.toNat_ofNat'] at e2
  omega
theorem str_eq (xs ys : List Int) (hx : bytes xs) (hy : bytes ys) : ((strOfNums xs).toList == (strOfNums ys).toList) = decide (xs = ys) := by
  by_cases h : xs = ys
  · rw [h, decide_eq_true rfl, beq_iff_eq]
  · rw [decide_eq_false h, beq_eq_false_iff_ne]
    intro e
    apply h
    apply str_inj xs ys hx hy
    rw [ByteArray.toList_eq, ByteArray.toList_eq] at e
    exact ByteArray.ext (Array.toList_inj.1 e)
theorem ropen_any (key nonce b beside : List Int) (sp sb : Option Addr) (n1 n2 c1 c2 : Nat) (w : World) (hk : key.length = 32) (hn : nonce.length = 12) (bk : bytes key) (bn : bytes nonce) (hp : Src w sp n1 b) (hb : Src w sb n2 beside) (pb : bytes b) (bb : bytes beside) (l1 : n1 ≤ 137438953472) (l2 : n2 ≤ 137438953472) (k1 : n1 ≤ c1) :
    Calls Tryd.prog 17 #[.agg (arr .u8 key), .agg (arr .u8 nonce), .slice sp n1 c1, .slice sb n2 c2] w fun e w' => ∃ v, e = .returned (.tuple #[v, .bool (okay key nonce b beside)]) ∧ Own8 w' w.heap.size v (opened key nonce b beside) ∧ Below w.heap.size w w' := by
  have hpl := hp.len
  by_cases h16 : n1 < 16
  · have hok : okay key nonce b beside = false := by
      unfold okay
      rw [decide_eq_false_iff_not]
      omega
    have hop : opened key nonce b beside = [] := by unfold opened; rw [hok]; rfl
    rw [hok, hop]
    have S0 := B2.start w (arr .u8 key) (arr .u8 nonce) 23 40
    have HS0 := Lib.hid S0.below
    have h16' : (n1 : Int) < 16 := by omega
    clear S0 hok hop hk hn bk bn hp hb pb bb hpl k1
    go_enter Tryd.func17, Tryd.ntmps17
    go_wp2_with fail
    go_ret2
    exact ⟨_, rfl, Own8.nil _ _, HS0.out⟩
  · obtain ⟨k, hk16⟩ : ∃ k, k = n1 - 16 := ⟨_, rfl⟩
    obtain ⟨ad, rfl, -⟩ := hp.cell 0 (by omega)
    have hkn : k + 16 = n1 := by omega
    have hpt := hp.take k (by omega)
    have hpd := src_if' hp c1 k 16 k1 (by omega)
    have hdl : (b.drop k).length = 16 := by rw [List.length_drop]; omega
    rw [List.take_of_length_le (by omega)] at hpd
    obtain ⟨zt, hzt⟩ : ∃ zs : List Int, zs = List.replicate 16 0 := ⟨_, rfl⟩
    have hyt : ∀ w, (zeroValue 47).run Tryd.prog w = .ok (.agg (arr .u8 zt)) w := by intro w; rw [hzt]; exact zeroTag w
    have hztl : zt.length = 16 := by rw [hzt]; rfl
    obtain ⟨bt, hbt⟩ : ∃ x, x = b.take k := ⟨_, rfl⟩
    obtain ⟨bd, hbd⟩ : ∃ x, x = b.drop k := ⟨_, rfl⟩
    have btb : bytes bt := by rw [hbt]; exact bytes_take pb k
    have bdb : bytes bd := by rw [hbd]; exact bytes_drop pb k
    have M2 := fun w hc hb => rtag_any key nonce bt beside (some ad) sb k n2 c1 c2 w hk hn bk bn hc hb btb bb (by omega) (by omega)
    obtain ⟨tg, htg⟩ : ∃ x, x = tag key nonce bt beside := ⟨_, rfl⟩
    have tgl : tg.length = 16 := by rw [htg, tag_len]
    have tgb : bytes tg := by rw [htg]; exact bytes_tag _ _ _ _
    have M4 := fun w hs => rturn_any (some ad) k c1 bt key nonce 1 w hs hk hn bk bn (by omega)
    obtain ⟨bv, hbv⟩ : ∃ x, x = decide (tg = bd) := ⟨_, rfl⟩
    have hok : okay key nonce b beside = bv := by
      unfold okay
      rw [hpl, ← hk16, ← hbt, ← hbd, ← htg, hbv]
      have : 16 ≤ n1 := by omega
      simp [this]
    have hop : opened key nonce b beside = if bv then turn key 1 nonce bt else [] := by
      unfold opened
      rw [hok, hpl, ← hk16, ← hbt]
    obtain ⟨st1, hst1⟩ : ∃ x, x = strOfNums tg := ⟨_, rfl⟩
    obtain ⟨st2, hst2⟩ : ∃ x, x = strOfNums bd := ⟨_, rfl⟩
    have hne : (st1.toList == st2.toList) = bv := by
      rw [hst1, hst2, hbv]
      exact str_eq _ _ tgb bdb
    rw [hok, hop]
    rw [← hbt] at hpt
    rw [← hbd] at hpd
    rw [← htg] at M2
    obtain ⟨tx, htx⟩ : ∃ x, x = turn key 1 nonce bt := ⟨_, rfl⟩
    rw [← htx] at M4 ⊢
    have S0 := B2.start w (arr .u8 key) (arr .u8 nonce) 23 40
    have n0 : IntKind.i64.wrap ((n1 : Int) - 16) = (k : Int) := by rw [IntWalk.i64_in _ (by omega)]; omega
    have n0' : (n1 : Int) - 16 = (k : Int) := by omega
    have kc : (k : Int) ≤ (c1 : Int) := by omega
    have kn : (k : Int) ≤ (n1 : Int) := by omega
    have e16 : n1 - k = 16 := by omega
    have n16 : ¬ ((n1 : Int) < 16) := by omega
    have nk : IntKind.i64.wrap (k : Int) = (k : Int) := IntWalk.i64_in _ (by omega)
    have HS0 := Lib.hid S0
    have HK := Lib.hid hk
    have HN := Lib.hid hn
    have HP := Lib.hid (hpt.below S0.below)
    have HD := Lib.hid (hpd.below S0.below)
    have HB := Lib.hid (hb.below S0.below)
    have HYT := Lib.hid hyt
    have HZT := Lib.hid hztl
    have HM2 := Lib.hid M2
    have HM4 := Lib.hid M4
    have TGL := Lib.hid tgl
    have HKN := Lib.hid hkn
    have HNE := Lib.hid hne
    have HST1 := Lib.hid hst1
    have HST2 := Lib.hid hst2
    clear S0 hk hn hp hb hpl hyt hztl M2 M4 tgl hzt htx hbt hbd btb bdb htg tgb hbv hok hop hpt hpd hdl bk bn bb pb hk16 hkn hne hst1 hst2
    go_enter Tryd.func17, Tryd.ntmps17
    go_upto_region 4 with fail
    generalize (w.alloc (.cells (arr .u8 key) 23)).alloc (.cells (arr .u8 nonce) 40) = wq at HS0 HP HD HB ⊢
    go_upto_region 5 with (first | ((with_reducible refine aS 20 ?_); refine wpList_load_part rfl 23 _ rfl w.heap.size 0 _ 23 (0, 0) _ HS0.out.b0 rfl .u8 key (arr_part _ _) Tryd.underlying23 rfl (by rw [HK.out]; exact size32) ?_) | ((with_reducible refine aS 21 ?_); refine wpList_load_part rfl 40 _ rfl (w.heap.size + 1) 0 _ 40 (0, 0) _ HS0.out.b1 rfl .u8 nonce (arr_part _ _) Tryd.underlying40 rfl (by rw [HN.out]; exact size12) ?_) | ((with_reducible show Calls _ _ _ _ _); go_at_call 34; refine (HM2.out _ HP.out HB.out).mono ?_; rintro e w2 ⟨rfl, hbw⟩; have HS2 := Lib.hid (HS0.out.after hbw); have HP2 := Lib.hid (HP.out.below hbw); have HD2 := Lib.hid (HD.out.below hbw); clear hbw) | ((with_reducible refine aS 11 ?_); refine wpList_alloc_row rfl 47 rfl _ (HYT.out _) ?_; go_simp) | ((with_reducible refine aT 11 ?_); refine wpList_store_whole rfl 47 _ _ rfl w2.heap.size _ _ 47 (blk_new _ _) rfl rfl (by rw [arr_size, arr_size, TGL.out, HZT.out]) (arrTag tg TGL.out) (all_arr _ _) ?_; intro wr hb3 hk3 hz3; have hl3 := blk_lt HS2.out.b1; have hbl3 : Below w2.heap.size w2 wr := ((Below.refl _ w2).alloc (Nat.le_refl _) (.cells (arr .u8 zt) 47)).trans (hk3.toBelow (by simp) (by rintro i rfl; exact Nat.le_refl _)); have HS3 := Lib.hid (HS2.out.after hbl3); have HP3 := Lib.hid (HP2.out.below hbl3); have HD3 := Lib.hid (HD2.out.below hbl3); have HT3 := Lib.hid (src_arr hb3 16 TGL.out); clear hb3 hk3 hz3 hbl3))
    (try simp only [Act.put])
    obtain ⟨g, hg⟩ : ∃ g, g = w2.heap.size := ⟨_, rfl⟩
    rw [← hg] at HT3 ⊢
    clear hg
    have hdr : Below wr.heap.size wr wr.drew := ⟨rfl, rfl, rfl, Nat.le_refl _, fun _ _ => rfl⟩
    have HB0 := Lib.hid (show Below wr.heap.size wr wr.drew from ⟨rfl, rfl, rfl, Nat.le_refl _, fun _ _ => rfl⟩)
    refine wp_region_held_drew (S := (fun w' => Go.RowKit.Below wr.heap.size wr w')) (by kernel_rfl) (HB0.out) (fun hHeld => ?_)
    refine wpAnyH_take (i := 0) (oi := (⟨some 25, _, _, _, _, none⟩ : Oper)) (v := ?v1) rfl (by kernel_rfl) (by kernel_rfl) (by kernel_rfl) (fun _ _ _ h => h) (Or.inl ⟨by rfl, ?hy1⟩) (by assumption) ?rest1
    case hy1 => (intro w hSw; (try dsimp only at hSw); go_simp; try (with_reducible rfl))
    (try simp only [Act.put, sA, sZ, sS])
    refine wpAnyH_take (i := 1) (oi := (⟨some 26, _, _, _, _, none⟩ : Oper)) (v := (.string st1)) rfl (by kernel_rfl) (by kernel_rfl) (by kernel_rfl) (fun _ _ _ h => h) (Or.inl ⟨by rfl, ?hy2⟩) (by assumption) ?rest2
    case hy2 => (intro w hSw; (try dsimp only at hSw); have hcv := src_string (c := 16) (HT3.out.below hSw); rw [← HST1.out] at hcv; go_simp; try (with_reducible rfl))
    (try simp only [Act.put, sA, sZ, sS])
    refine wpAnyH_take (i := 2) (oi := (⟨some 27, _, _, _, _, none⟩ : Oper)) (v := ?v3) rfl (by kernel_rfl) (by kernel_rfl) (by kernel_rfl) (fun _ _ _ h => h) (Or.inl ⟨by rfl, ?hy3⟩) (by assumption) ?rest3
    case hy3 => (intro w hSw; (try dsimp only at hSw); go_simp; try (with_reducible rfl))
    (try simp only [Act.put, sA, sZ, sS])
    refine wpAnyH_take (i := 3) (oi := (⟨some 28, _, _, _, _, none⟩ : Oper)) (v := ?v4) rfl (by kernel_rfl) (by kernel_rfl) (by kernel_rfl) (fun _ _ _ h => h) (Or.inl ⟨by rfl, ?hy4⟩) (by assumption) ?rest4
    case hy4 => (intro w hSw; (try dsimp only at hSw); go_simp; try (with_reducible rfl))
    (try simp only [Act.put, sA, sZ, sS])
    refine wpAnyH_take (i := 4) (oi := (⟨some 29, _, _, _, _, none⟩ : Oper)) (v := ?v5) rfl (by kernel_rfl) (by kernel_rfl) (by kernel_rfl) (fun _ _ _ h => h) (Or.inl ⟨by rfl, ?hy5⟩) (by assumption) ?rest5
    case hy5 => (intro w hSw; (try dsimp only at hSw); go_simp; try (with_reducible rfl))
    (try simp only [Act.put, sA, sZ, sS])
    refine wpAnyH_take (i := 5) (oi := (⟨some 30, _, _, _, _, none⟩ : Oper)) (v := ?v6) rfl (by kernel_rfl) (by kernel_rfl) (by kernel_rfl) (fun _ _ _ h => h) (Or.inl ⟨by rfl, ?hy6⟩) (by assumption) ?rest6
    case hy6 => (intro w hSw; (try dsimp only at hSw); go_simp; try (with_reducible rfl))
    (try simp only [Act.put, sA, sZ, sS])
    refine wpAnyH_take (i := 6) (oi := (⟨some 31, _, _, _, _, none⟩ : Oper)) (v := ?v7) rfl (by kernel_rfl) (by kernel_rfl) (by kernel_rfl) (fun _ _ _ h => h) (Or.inl ⟨by rfl, ?hy7⟩) (by assumption) ?rest7
    case hy7 => (intro w hSw; (try dsimp only at hSw); go_simp; try (with_reducible rfl))
    (try simp only [Act.put, sA, sZ, sS])
    refine wpAnyH_take (i := 7) (oi := (⟨some 32, _, _, _, _, none⟩ : Oper)) (v := (.string st2)) rfl (by kernel_rfl) (by kernel_rfl) (by kernel_rfl) (fun _ _ _ h => h) (Or.inl ⟨by rfl, ?hy8⟩) (by assumption) ?rest8
    case hy8 => (intro w hSw; (try dsimp only at hSw); have hcv := src_string (c := c1 - k) (HD3.out.below hSw); rw [← HST2.out] at hcv; go_simp; try (with_reducible rfl))
    (try simp only [Act.put, sA, sZ, sS])
    refine wpAnyH_take (i := 8) (oi := (⟨some 33, _, _, _, _, none⟩ : Oper)) (v := ?v9) rfl (by kernel_rfl) (by kernel_rfl) (by kernel_rfl) (fun _ _ _ h => h) (Or.inl ⟨by rfl, ?hy9⟩) (by assumption) ?rest9
    case hy9 => (intro w hSw; (try dsimp only at hSw); go_simp; try (with_reducible rfl))
    (try simp only [Act.put, sA, sZ, sS])
    refine wpAnyH_done (by kernel_rfl) ?_ _
    have HS4 := Lib.hid (HS3.out.after hdr)
    have HP4 := Lib.hid (HP3.out.below hdr)
    clear HS3 HP3 HD3 HT3 hdr HS2 HP2 HD2 HS0 HP HD HB
    (try simp only [Exit.then])
    rw [HNE.out]
    generalize wr.drew = ws at HS4 HP4 ⊢
    generalize (if c1 = k then some ad else some (ad.add k)) = sd
    clear HNE HST1 HST2
    cases bv with
    | false =>
      simp only [Bool.not_false]
      go_wp2_with fail
      go_ret2
      exact ⟨_, rfl, Own8.nil _ _, HS4.out.below⟩
    | true =>
      simp only [Bool.not_true]
      go_wp2_with (first | ((with_reducible refine aS 34 ?_); refine wpList_load_part rfl 23 _ rfl w.heap.size 0 _ 23 (0, 0) _ HS4.out.b0 rfl .u8 key (arr_part _ _) Tryd.underlying23 rfl (by rw [HK.out]; exact size32) ?_) | ((with_reducible refine aS 35 ?_); refine wpList_load_part rfl 40 _ rfl (w.heap.size + 1) 0 _ 40 (0, 0) _ HS4.out.b1 rfl .u8 nonce (arr_part _ _) Tryd.underlying40 rfl (by rw [HN.out]; exact size12) ?_) | ((with_reducible show Calls _ _ _ _ _); go_at_call 35; refine (HM4.out _ HP4.out).mono ?_; rintro e w7 ⟨v7, rfl, ho7, hb7⟩; have HO7 := Lib.hid ho7; have HE7 := Lib.hid hb7; clear ho7 hb7))
      go_ret2
      exact ⟨_, rfl, HO7.out.mono HS4.out.below.size, HS4.out.below.trans (HE7.out.mono HS4.out.below.size)⟩
end Go.Proofs.YtogebegdgfdijaaDoor.Ae
