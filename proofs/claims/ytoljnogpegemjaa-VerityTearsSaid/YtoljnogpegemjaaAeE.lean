/- aead.Seal and the document's. Conditions: key of 32 bytes, nonce of 12; at most 2^37 bytes. -/
import Derived.Test.YtoljnogpegemjaaAeD
namespace Go.Proofs.Ytoljnogpegemjaa.Ae
open Go.RowKit Lm Po Ch

theorem src_arr {w : World} {g : Nat} {xs : List Int} {t : TypeId} {fr : Nat × Nat} (h : w.heap[g]? = some (.cells (arr .u8 xs) t fr)) (m : Nat) (hm : xs.length = m) : Src w (some ⟨g, 0, none⟩) m xs :=
  src_row h (by rw [arr_toList, Nat.mul_one, List.take_of_length_le (by rw [List.length_map]; exact Nat.le_refl _)]) hm

set_option maxRecDepth 100000 in
set_option maxHeartbeats 4000000 in
theorem rseal_any (key nonce plain beside : List Int) (sp sb : Option Addr) (n1 n2 c1 c2 : Nat) (w : World) (hk : key.length = 32) (hn : nonce.length = 12) (bk : bytes key) (bn : bytes nonce) (hp : Src w sp n1 plain) (hb : Src w sb n2 beside) (bb : bytes beside) (l1 : n1 ≤ 137438953472) (l2 : n2 ≤ 137438953472) :
    Calls Try.prog 15 #[.agg (arr .u8 key), .agg (arr .u8 nonce), .slice sp n1 c1, .slice sb n2 c2] w fun e w' => ∃ v, e = .returned v ∧ Own8 w' w.heap.size v (seal' key nonce plain beside) ∧ Below w.heap.size w w' := by
  have hpl := hp.len
  obtain ⟨zt, hzt⟩ : ∃ zs : List Int, zs = List.replicate 16 0 := ⟨_, rfl⟩
  have hyt : ∀ w, (zeroValue 61).run Try.prog w = .ok (.agg (arr .u8 zt)) w := by intro w; rw [hzt]; exact zeroTag w
  have hztl : zt.length = 16 := by rw [hzt]; rfl
  have M1 := fun w hs => rturn_any sp n1 c1 plain key nonce 1 w hs hk hn bk bn (by omega)
  obtain ⟨tx, htx⟩ : ∃ x, x = turn key 1 nonce plain := ⟨_, rfl⟩
  have txl : tx.length = n1 := by rw [htx, turn_len, hpl]
  have txb : bytes tx := by rw [htx]; exact bytes_turn _ _ _ _
  have M2 := fun sc c1 w (hc : Src w sc n1 tx) hb => rtag_any key nonce tx beside sc sb n1 n2 c1 c2 w hk hn bk bn hc hb txb bb (by omega) (by omega)
  obtain ⟨tg, htg⟩ : ∃ x, x = tag key nonce tx beside := ⟨_, rfl⟩
  have tgl : tg.length = 16 := by rw [htg, tag_len]
  have hse : tx ++ tg = seal' key nonce plain beside := by rw [seal', ← htx, ← htg]
  rw [← htx] at M1
  rw [← htg] at M2
  rw [← hse]
  have S0 := B2.start w (arr .u8 key) (arr .u8 nonce) 23 46
  have HS0 := Lib.hid S0
  have HK := Lib.hid hk
  have HN := Lib.hid hn
  have HP := Lib.hid (hp.below S0.below)
  have HB := Lib.hid (hb.below S0.below)
  have HYT := Lib.hid hyt
  have HZT := Lib.hid hztl
  have HM1 := Lib.hid M1
  have HM2 := Lib.hid M2
  have TXL := Lib.hid txl
  have TGL := Lib.hid tgl
  clear S0 hk hn hp hb hpl hyt hztl M1 M2 txl tgl hzt htx txb htg hse bk bn bb
  go_enter Try.func15, Try.ntmps15
  go_wp2_with (first | ((with_reducible show wpList _ _ _ (Oper.mk (some 11) _ _ _ _ _ :: _) _ _); refine wpList_load_part rfl 23 _ rfl w.heap.size 0 _ 23 (0, 0) _ HS0.out.b0 rfl .u8 key (arr_part _ _) Try.underlying23 rfl (by rw [HK.out]; exact size32) ?_) | ((with_reducible show wpList _ _ _ (Oper.mk (some 12) _ _ _ _ _ :: _) _ _); refine wpList_load_part rfl 46 _ rfl (w.heap.size + 1) 0 _ 46 (0, 0) _ HS0.out.b1 rfl .u8 nonce (arr_part _ _) Try.underlying46 rfl (by rw [HN.out]; exact size12) ?_) | ((with_reducible show Calls _ _ #[_, .int _ _, _, _] _ _); go_at_call 26; refine (HM1.out _ HP.out).mono ?_; rintro e w1 ⟨v1, rfl, ho1, hbw⟩; have HB1 := Lib.hid (HS0.out.after hbw); obtain ⟨s1, cc1, hv1, -, -, hs1, -⟩ := ho1.form; rw [TXL.out] at hv1 hs1; subst hv1; have HO1 := Lib.hid ho1; have HX1 := Lib.hid hs1; have HBS := Lib.hid (HB.out.below hbw); have hsz1 : w.heap.size ≤ w1.heap.size := HB1.out.below.size; clear hbw ho1 hs1) | ((with_reducible show wpList _ _ _ (Oper.mk (some 15) _ _ _ _ _ :: _) _ _); refine wpList_load_part rfl 23 _ rfl w.heap.size 0 _ 23 (0, 0) _ HB1.out.b0 rfl .u8 key (arr_part _ _) Try.underlying23 rfl (by rw [HK.out]; exact size32) ?_) | ((with_reducible show wpList _ _ _ (Oper.mk (some 16) _ _ _ _ _ :: _) _ _); refine wpList_load_part rfl 46 _ rfl (w.heap.size + 1) 0 _ 46 (0, 0) _ HB1.out.b1 rfl .u8 nonce (arr_part _ _) Try.underlying46 rfl (by rw [HN.out]; exact size12) ?_) | ((with_reducible show Calls _ _ _ w1 _); go_at_call 27; refine (HM2.out s1 cc1 w1 HX1.out HBS.out).mono ?_; rintro e w2 ⟨rfl, hbw⟩; have HB2 := Lib.hid (HB1.out.after hbw); have HO2 := Lib.hid (HO1.out.below hbw); clear hbw) | ((with_reducible show wpList _ _ _ (Oper.mk (some 10) _ _ _ _ _ :: _) _ _); refine wpList_alloc_row rfl 61 rfl _ (HYT.out _) ?_; go_simp) | ((with_reducible show wpList _ _ _ (Oper.mk none (Op.store _ (Operand.tmp 10) _) _ _ _ _ :: _) _ _); refine wpList_store_whole rfl 61 _ _ rfl w2.heap.size _ _ 61 (blk_new _ _) rfl rfl (by rw [arr_size, arr_size, TGL.out, HZT.out]) (arrTag tg TGL.out) (all_arr _ _) ?_; intro w3 hb3 hk3 hz3; have hl3 := blk_lt HB2.out.b1; have HB3 := Lib.hid ((HB2.out.alloc (.cells (arr .u8 zt) 61)).farK hk3 (by rintro i rfl; omega)); have HG3 := Lib.hid (src_arr hb3 16 TGL.out); have HO3 := Lib.hid (((HO2.out.alloc (.cells (arr .u8 zt) 61)).kept hk3 (fun g hg e => by have := (HO2.out.lt g hg).2; omega)).mono (B' := w.heap.size) (by simp; omega)); clear hb3 hk3 hz3) | ((with_reducible show wpList _ _ _ (Oper.mk (some 22) _ _ _ _ _ :: _) _ _); refine wpList_app8 rfl _ _ rfl w.heap.size (.slice s1 n1 cc1) tx rfl HO3.out (some ⟨w2.heap.size, 0, none⟩) 16 16 tg rfl HG3.out (by rw [TXL.out]; omega) HB3.out.below.size ?_; intro v4 w4 ho4 hg4 hn4 ha4; have hw4 := app8_below HO3.out hg4 HB3.out.below HB3.out.below.size; have HO4 := Lib.hid ho4; have HW4 := Lib.hid hw4; clear ho4 hg4 hn4 ha4 hw4))
  go_ret
  exact ⟨_, rfl, HO4.out, HW4.out⟩
end Go.Proofs.Ytoljnogpegemjaa.Ae
