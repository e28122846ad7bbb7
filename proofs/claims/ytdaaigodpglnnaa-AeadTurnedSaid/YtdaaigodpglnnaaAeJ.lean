/- portcullislaw11: AeadTurned. No condition beyond the arguments' own. -/
import Derived.Test.YtdaaigodpglnnaaAeI
namespace Go.Proofs.Ytdaaigodpglnnaa.Ae
open Go.RowKit Lm Po Ch

theorem xor_ne (x y : Int) (h : 0 ≤ x ∧ x ≤ 255) (k : 0 ≤ y ∧ y ≤ 255) (hy : y ≠ 0) : bits .xor .u8 x y ≠ x := by
  intro e
  have h0 := xor8 y x k h
  have hc : bits .xor .u8 y x = bits .xor .u8 x y := by
    unfold bits
    simp only
    rw [BitVec.xor_comm]
  rw [hc, e] at h0
  have hz : bits .xor .u8 x x = 0 := by
    unfold bits
    simp only
    rw [BitVec.xor_self]
    rfl
  rw [hz] at h0
  exact hy h0.symm
theorem okay_turned (key nonce plain beside : List Int) (k : Nat) (y : Int) (h1 : plain.length ≤ k) (h2 : k < plain.length + 16) (hy : y ≠ (seal' key nonce plain beside).getD k 0) : okay key nonce ((seal' key nonce plain beside).set k y) beside = false := by
  have hl := seal_len key nonce plain beside
  have e : (turn key 1 nonce plain).length = plain.length := turn_len _ _ _ _
  have ht : ((seal' key nonce plain beside).set k y).take plain.length = turn key 1 nonce plain := by
    rw [List.take_set_of_le h1, seal', ← e, List.take_left]
  unfold okay
  rw [decide_eq_false_iff_not]
  rintro ⟨-, h⟩
  rw [List.length_set, hl, Nat.add_sub_cancel, ht] at h
  have h3 : (tag key nonce (turn key 1 nonce plain) beside).getD (k - plain.length) 0 = y := by
    rw [h]
    simp only [List.getD, List.getElem?_drop]
    rw [show plain.length + (k - plain.length) = k by omega, List.getElem?_set_self (by omega)]
    rfl
  apply hy
  rw [← h3, seal']
  simp only [List.getD]
  rw [List.getElem?_append_right (by omega), e]

set_option maxRecDepth 100000 in
set_option maxHeartbeats 4000000 in
theorem turned_any (key nonce : List Int) (hk : key.length = 32) (hn : nonce.length = 12) (bk : bytes key) (bn : bytes nonce) (pa pb : Option Addr) (lp cp lb cb : Nat) (zp zb : List Int) (at' by' : Int) (hby : 0 ≤ by' ∧ by' ≤ 255) (hat : at' ≤ 9223372036854775807) (w : World) (h1 : RowI .u8 w pa lp cp zp) (h2 : RowI .u8 w pb lb cb zb) :
    Calls Try.prog 7 #[.agg (arr .u8 key), .agg (arr .u8 nonce), .slice pa lp cp, .slice pb lb cb, .int .i64 at', .int .u8 by'] w fun e w' => e = .returned (.bool true) ∧ Below w.heap.size w w' := by
  obtain ⟨hs1, bs1, k1⟩ := h1.src
  obtain ⟨hs2, bs2, k2⟩ := h2.src
  have S0 := B2.start w (arr .u8 key) (arr .u8 nonce) 35 37
  have HS0 := Lib.hid S0
  clear h1 h2
  generalize zp.take lp = xs at hs1 bs1
  generalize zb.take lb = ys at hs2 bs2
  by_cases e0 : (1000 : Int) < (lp : Int)
  · clear hs1 bs1 k1 hs2 bs2 k2 S0 hk hn bk bn
    go_enter Try.func7, Try.ntmps7
    go_wp2_with (first | ((with_reducible show Calls _ _ #[] _ _); go_at_call 18; refine (alive11_any _).mono ?_; rintro e w1 ⟨rfl, hb1⟩; have HB1 := Lib.hid (HS0.out.after hb1);  clear hb1))
    go_ret
    exact ⟨rfl, HB1.out.below⟩
  by_cases e1 : (500 : Int) < (lb : Int)
  · clear hs1 bs1 k1 hs2 bs2 k2 S0 hk hn bk bn
    go_enter Try.func7, Try.ntmps7
    go_wp2_with (first | ((with_reducible show Calls _ _ #[] _ _); go_at_call 18; refine (alive11_any _).mono ?_; rintro e w1 ⟨rfl, hb1⟩; have HB1 := Lib.hid (HS0.out.after hb1);  clear hb1))
    go_ret
    exact ⟨rfl, HB1.out.below⟩
  by_cases e2 : at' < 0
  · clear hs1 bs1 k1 hs2 bs2 k2 S0 hk hn bk bn
    go_enter Try.func7, Try.ntmps7
    go_wp2_with (first | ((with_reducible show Calls _ _ #[] _ _); go_at_call 18; refine (alive11_any _).mono ?_; rintro e w1 ⟨rfl, hb1⟩; have HB1 := Lib.hid (HS0.out.after hb1);  clear hb1))
    go_ret
    exact ⟨rfl, HB1.out.below⟩
  by_cases e3 : by' = 0
  · clear hs1 bs1 k1 hs2 bs2 k2 S0 hk hn bk bn
    have e3' : (by' == 0) = true := by rw [e3]; rfl
    go_enter Try.func7, Try.ntmps7
    go_wp2_with (first | ((with_reducible show Calls _ _ #[] _ _); go_at_call 18; refine (alive11_any _).mono ?_; rintro e w1 ⟨rfl, hb1⟩; have HB1 := Lib.hid (HS0.out.after hb1);  clear hb1))
    go_ret
    exact ⟨rfl, HB1.out.below⟩
  have e3' : (by' == 0) = false := by rw [beq_eq_false_iff_ne]; exact e3
  obtain ⟨t, rfl⟩ : ∃ t : Nat, at' = t := ⟨at'.toNat, by omega⟩
  obtain ⟨k, hkk⟩ : ∃ k, k = t % (lp + 16) := ⟨_, rfl⟩
  have hklt : k < lp + 16 := by rw [hkk]; exact Nat.mod_lt _ (by omega)
  have hrem : (t : Int) % ((lp : Int) + 16) = (k : Int) := by rw [hkk, Int.natCast_emod, Int.natCast_add]; rfl
  have hpl := hs1.len
  have MS := fun w s1 s2 => seal_any key nonce xs ys pa pb lp lb cp cb w hk hn bk bn s1 s2 bs2 (by omega) (by omega) k2
  obtain ⟨sl, hsl⟩ : ∃ x, x = seal' key nonce xs ys := ⟨_, rfl⟩
  have hsll : sl.length = lp + 16 := by rw [hsl, seal_len, hpl]
  have hslb : bytes sl := by rw [hsl]; exact bytes_seal _ _ _ _
  rw [← hsl] at MS
  obtain ⟨y, hy⟩ : ∃ y, y = bits .xor .u8 (sl.getD k 0) by' := ⟨_, rfl⟩
  obtain ⟨tb, htb⟩ : ∃ x, x = sl.set k y := ⟨_, rfl⟩
  have htbl : tb.length = lp + 16 := by rw [htb, List.length_set, hsll]
  have htbb : bytes tb := by
    rw [htb]
    intro z hz
    rcases List.mem_or_eq_of_mem_set hz with h | rfl
    · exact hslb z h
    · rw [hy]; exact xor_byte _ _
  have M := fun w s c s1 s2 kc => open_any key nonce tb ys s pb (lp + 16) lb c cb w hk hn bk bn s1 s2 htbb bs2 (by omega) (by omega) kc k2
  have R := fun w s c s1 s2 kc => ropen_any key nonce tb ys s pb (lp + 16) lb c cb w hk hn bk bn s1 s2 htbb bs2 (by omega) (by omega) kc
  have hno : lp ≤ k → okay key nonce tb ys = false := by
    intro h
    rw [htb, hsl]
    refine okay_turned key nonce xs ys k y (by omega) (by omega) ?_
    rw [← hsl, hy]
    exact xor_ne _ _ (bytes_at hslb k) hby e3
  have HX := Lib.hid (hs1.below S0.below)
  have HY := Lib.hid (hs2.below S0.below)
  have HK := Lib.hid hk
  have HN := Lib.hid hn
  have HMS := Lib.hid MS
  have HSL := Lib.hid hsll
  have HYY := Lib.hid hy
  have HTB := Lib.hid htb
  have HTBL := Lib.hid htbl
  have k0 : (k : Int) < (lp : Int) + 16 := by omega
  by_cases hkl : lp ≤ k
  · have hf := hno hkl
    rw [hf, opened_not _ _ _ _ hf, if_neg (by decide)] at M
    rw [hf, opened_not _ _ _ _ hf] at R
    have hkl2 : (lp : Int) ≤ (k : Int) := by omega
    clear hf
    have HM := Lib.hid M
    have HR := Lib.hid R
    clear M R MS hno hs1 bs1 k1 hs2 bs2 k2 S0 hk hn bk bn hpl hkk hsl hsll hslb hy htb htbl htbb hby
    go_enter Try.func7, Try.ntmps7
    go_upto_region 7 with (first | ((with_reducible show Calls _ _ #[] _ _); go_at_call 18; refine (alive11_any _).mono ?_; rintro e w1 ⟨rfl, hb1⟩; have HB1 := Lib.hid (HS0.out.after hb1); have HX1 := Lib.hid (HX.out.below hb1); have HY1 := Lib.hid (HY.out.below hb1); clear hb1) | ((with_reducible show wpList _ _ _ (Oper.mk (some 42) _ _ _ _ _ :: _) _ _); refine wpList_load_part rfl 35 _ rfl w.heap.size 0 _ 35 (0, 0) _ HB1.out.b0 rfl .u8 key (arr_part _ _) Try.underlying35 rfl (by rw [HK.out]; exact size32) ?_) | ((with_reducible show wpList _ _ _ (Oper.mk (some 43) _ _ _ _ _ :: _) _ _); refine wpList_load_part rfl 37 _ rfl (w.heap.size + 1) 0 _ 37 (0, 0) _ HB1.out.b1 rfl .u8 nonce (arr_part _ _) Try.underlying37 rfl (by rw [HN.out]; exact size12) ?_) | ((with_reducible show Calls _ _ #[.agg _, .agg _, _, _] w1 _); go_at_call 19; refine (HMS.out _ HX1.out HY1.out).mono ?_; rintro e w2 ⟨v2, rfl, ho2, hb2⟩; obtain ⟨s2, c2, hv2, hc2, -⟩ := ho2.form; rw [HSL.out] at hv2 hc2; subst hv2; obtain ⟨g, sp, rfl, hBg, hbk, -⟩ := Own8.row ho2 (by rw [HSL.out]; omega); have HB2 := Lib.hid (HB1.out.after hb2); have hlw := blk_lt HB1.out.b1; have q2 := (cell_blk hbk k).trans (row8_get sl sp k (by rw [HSL.out]; exact hklt)); have q3 := free_blk hbk k; have hb3 : (w2.setCell ⟨g, k, none⟩ (.int .u8 y)).heap[g]? = some (.cells (row8 tb sp) 5 (0, 0)) := (by rw [blk_setCell hbk, row8_set _ _ _ (by rw [HSL.out]; exact hklt), ← HTB.out]); have hs3 := src_blk hb3; rw [HTBL.out] at hs3; rw [HYY.out] at hb3 hs3; have HS3 := Lib.hid hs3; have HC2 := Lib.hid hc2; have HB3 := Lib.hid (HB2.out.far g k (.int .u8 (bits .xor .u8 (sl.getD k 0) by')) (by omega)); have HY3 := Lib.hid (HY1.out.below (hb2.setCell (p := ⟨g, k, none⟩) hBg (.int .u8 (bits .xor .u8 (sl.getD k 0) by')))); generalize sl.getD k 0 = x at q2 HS3 HB3 HY3; generalize hw3 : w2.setCell ⟨g, k, none⟩ (.int .u8 (bits .xor .u8 x by')) = w3 at HS3 HB3 HY3; have HW3 := Lib.hid hw3; clear hw3 ho2 hb2 hc2 hbk hb3 hs3 hBg hlw))
    rw [HW3.out]
    clear q2 q3 HW3
    go_wp2_with (first | ((with_reducible show wpList _ _ _ (Oper.mk (some 61) _ _ _ _ _ :: _) _ _); refine wpList_load_part rfl 35 _ rfl w.heap.size 0 _ 35 (0, 0) _ HB3.out.b0 rfl .u8 key (arr_part _ _) Try.underlying35 rfl (by rw [HK.out]; exact size32) ?_) | ((with_reducible show wpList _ _ _ (Oper.mk (some 62) _ _ _ _ _ :: _) _ _); refine wpList_load_part rfl 37 _ rfl (w.heap.size + 1) 0 _ 37 (0, 0) _ HB3.out.b1 rfl .u8 nonce (arr_part _ _) Try.underlying37 rfl (by rw [HN.out]; exact size12) ?_) | ((with_reducible show Calls _ _ #[.agg _, .agg _, _, _] w3 _); go_at_call 20; refine (HM.out _ _ _ HS3.out HY3.out HC2.out).mono ?_; rintro e w4 ⟨v4, rfl, ho4, hb4⟩; obtain ⟨s4, c4, hv4, -⟩ := ho4.form; subst hv4; have HB4 := Lib.hid (HB3.out.after hb4); have HO4 := Lib.hid ho4; have HS4 := Lib.hid (HS3.out.below hb4); have HY4 := Lib.hid (HY3.out.below hb4); clear ho4 hb4) | ((with_reducible show wpList _ _ _ (Oper.mk (some 69) _ _ _ _ _ :: _) _ _); refine wpList_load_part rfl 35 _ rfl w.heap.size 0 _ 35 (0, 0) _ HB4.out.b0 rfl .u8 key (arr_part _ _) Try.underlying35 rfl (by rw [HK.out]; exact size32) ?_) | ((with_reducible show wpList _ _ _ (Oper.mk (some 70) _ _ _ _ _ :: _) _ _); refine wpList_load_part rfl 37 _ rfl (w.heap.size + 1) 0 _ 37 (0, 0) _ HB4.out.b1 rfl .u8 nonce (arr_part _ _) Try.underlying37 rfl (by rw [HN.out]; exact size12) ?_) | ((with_reducible show Calls _ _ #[.agg _, .agg _, _, _] w4 _); go_at_call 23; refine (HR.out _ _ _ HS4.out HY4.out HC2.out).mono ?_; rintro e w5 ⟨v5, rfl, ho5, hb5⟩; obtain ⟨s5, c5, hv5, -⟩ := ho5.form; subst hv5; have HB5 := Lib.hid (HB4.out.after hb5); have q4 := (HO4.out.below hb5).str; have q5 := ho5.str; rw [show ([] : List Int).length = 0 from rfl] at q4 q5; generalize strOfNums [] = st at q4 q5; clear ho5 hb5) | ((with_reducible show Calls _ _ #[.int _ _] _ _); go_at_call 22; refine (num11_any _ _).mono ?_; rintro e w9 ⟨rfl, rfl⟩))
    go_ret
    exact ⟨rfl, HB5.out.below⟩
  · have hkl2 : (k : Int) < (lp : Int) := by omega
    by_cases hok : okay key nonce tb ys = true
    · rw [hok, if_pos rfl] at M
      rw [hok] at R
      generalize opened key nonce tb ys = op at M R
      clear hok
      have HM := Lib.hid M
      have HR := Lib.hid R
      clear M R MS hno hs1 bs1 k1 hs2 bs2 k2 S0 hk hn bk bn hpl hkk hsl hsll hslb hy htb htbl htbb hby
      go_enter Try.func7, Try.ntmps7
      go_upto_region 7 with (first | ((with_reducible show Calls _ _ #[] _ _); go_at_call 18; refine (alive11_any _).mono ?_; rintro e w1 ⟨rfl, hb1⟩; have HB1 := Lib.hid (HS0.out.after hb1); have HX1 := Lib.hid (HX.out.below hb1); have HY1 := Lib.hid (HY.out.below hb1); clear hb1) | ((with_reducible show wpList _ _ _ (Oper.mk (some 42) _ _ _ _ _ :: _) _ _); refine wpList_load_part rfl 35 _ rfl w.heap.size 0 _ 35 (0, 0) _ HB1.out.b0 rfl .u8 key (arr_part _ _) Try.underlying35 rfl (by rw [HK.out]; exact size32) ?_) | ((with_reducible show wpList _ _ _ (Oper.mk (some 43) _ _ _ _ _ :: _) _ _); refine wpList_load_part rfl 37 _ rfl (w.heap.size + 1) 0 _ 37 (0, 0) _ HB1.out.b1 rfl .u8 nonce (arr_part _ _) Try.underlying37 rfl (by rw [HN.out]; exact size12) ?_) | ((with_reducible show Calls _ _ #[.agg _, .agg _, _, _] w1 _); go_at_call 19; refine (HMS.out _ HX1.out HY1.out).mono ?_; rintro e w2 ⟨v2, rfl, ho2, hb2⟩; obtain ⟨s2, c2, hv2, hc2, -⟩ := ho2.form; rw [HSL.out] at hv2 hc2; subst hv2; obtain ⟨g, sp, rfl, hBg, hbk, -⟩ := Own8.row ho2 (by rw [HSL.out]; omega); have HB2 := Lib.hid (HB1.out.after hb2); have hlw := blk_lt HB1.out.b1; have q2 := (cell_blk hbk k).trans (row8_get sl sp k (by rw [HSL.out]; exact hklt)); have q3 := free_blk hbk k; have hb3 : (w2.setCell ⟨g, k, none⟩ (.int .u8 y)).heap[g]? = some (.cells (row8 tb sp) 5 (0, 0)) := (by rw [blk_setCell hbk, row8_set _ _ _ (by rw [HSL.out]; exact hklt), ← HTB.out]); have hs3 := src_blk hb3; rw [HTBL.out] at hs3; rw [HYY.out] at hb3 hs3; have HS3 := Lib.hid hs3; have HC2 := Lib.hid hc2; have HB3 := Lib.hid (HB2.out.far g k (.int .u8 (bits .xor .u8 (sl.getD k 0) by')) (by omega)); have HY3 := Lib.hid (HY1.out.below (hb2.setCell (p := ⟨g, k, none⟩) hBg (.int .u8 (bits .xor .u8 (sl.getD k 0) by')))); generalize sl.getD k 0 = x at q2 HS3 HB3 HY3; generalize hw3 : w2.setCell ⟨g, k, none⟩ (.int .u8 (bits .xor .u8 x by')) = w3 at HS3 HB3 HY3; have HW3 := Lib.hid hw3; clear hw3 ho2 hb2 hc2 hbk hb3 hs3 hBg hlw))
      rw [HW3.out]
      clear q2 q3 HW3
      go_wp2_with (first | ((with_reducible show wpList _ _ _ (Oper.mk (some 61) _ _ _ _ _ :: _) _ _); refine wpList_load_part rfl 35 _ rfl w.heap.size 0 _ 35 (0, 0) _ HB3.out.b0 rfl .u8 key (arr_part _ _) Try.underlying35 rfl (by rw [HK.out]; exact size32) ?_) | ((with_reducible show wpList _ _ _ (Oper.mk (some 62) _ _ _ _ _ :: _) _ _); refine wpList_load_part rfl 37 _ rfl (w.heap.size + 1) 0 _ 37 (0, 0) _ HB3.out.b1 rfl .u8 nonce (arr_part _ _) Try.underlying37 rfl (by rw [HN.out]; exact size12) ?_) | ((with_reducible show Calls _ _ #[.agg _, .agg _, _, _] w3 _); go_at_call 20; refine (HM.out _ _ _ HS3.out HY3.out HC2.out).mono ?_; rintro e w4 ⟨v4, rfl, ho4, hb4⟩; obtain ⟨s4, c4, hv4, -⟩ := ho4.form; subst hv4; have HB4 := Lib.hid (HB3.out.after hb4); have HO4 := Lib.hid ho4; have HS4 := Lib.hid (HS3.out.below hb4); have HY4 := Lib.hid (HY3.out.below hb4); clear ho4 hb4) | ((with_reducible show wpList _ _ _ (Oper.mk (some 69) _ _ _ _ _ :: _) _ _); refine wpList_load_part rfl 35 _ rfl w.heap.size 0 _ 35 (0, 0) _ HB4.out.b0 rfl .u8 key (arr_part _ _) Try.underlying35 rfl (by rw [HK.out]; exact size32) ?_) | ((with_reducible show wpList _ _ _ (Oper.mk (some 70) _ _ _ _ _ :: _) _ _); refine wpList_load_part rfl 37 _ rfl (w.heap.size + 1) 0 _ 37 (0, 0) _ HB4.out.b1 rfl .u8 nonce (arr_part _ _) Try.underlying37 rfl (by rw [HN.out]; exact size12) ?_) | ((with_reducible show Calls _ _ #[.agg _, .agg _, _, _] w4 _); go_at_call 23; refine (HR.out _ _ _ HS4.out HY4.out HC2.out).mono ?_; rintro e w5 ⟨v5, rfl, ho5, hb5⟩; obtain ⟨s5, c5, hv5, -⟩ := ho5.form; subst hv5; have HB5 := Lib.hid (HB4.out.after hb5); have q4 := (HO4.out.below hb5).str; have q5 := ho5.str; generalize strOfNums op = st at q4 q5; generalize op.length = ol at q4 q5 ⊢; clear ho5 hb5) | ((with_reducible show Calls _ _ #[.int _ _] _ _); go_at_call 22; refine (num11_any _ _).mono ?_; rintro e w9 ⟨rfl, rfl⟩))
      go_ret
      exact ⟨rfl, HB5.out.below⟩
    · have hf : okay key nonce tb ys = false := by simpa using hok
      rw [hf, opened_not _ _ _ _ hf, if_neg (by decide)] at M
      rw [hf, opened_not _ _ _ _ hf] at R
      clear hf hok
      have HM := Lib.hid M
      have HR := Lib.hid R
      clear M R MS hno hs1 bs1 k1 hs2 bs2 k2 S0 hk hn bk bn hpl hkk hsl hsll hslb hy htb htbl htbb hby
      go_enter Try.func7, Try.ntmps7
      go_upto_region 7 with (first | ((with_reducible show Calls _ _ #[] _ _); go_at_call 18; refine (alive11_any _).mono ?_; rintro e w1 ⟨rfl, hb1⟩; have HB1 := Lib.hid (HS0.out.after hb1); have HX1 := Lib.hid (HX.out.below hb1); have HY1 := Lib.hid (HY.out.below hb1); clear hb1) | ((with_reducible show wpList _ _ _ (Oper.mk (some 42) _ _ _ _ _ :: _) _ _); refine wpList_load_part rfl 35 _ rfl w.heap.size 0 _ 35 (0, 0) _ HB1.out.b0 rfl .u8 key (arr_part _ _) Try.underlying35 rfl (by rw [HK.out]; exact size32) ?_) | ((with_reducible show wpList _ _ _ (Oper.mk (some 43) _ _ _ _ _ :: _) _ _); refine wpList_load_part rfl 37 _ rfl (w.heap.size + 1) 0 _ 37 (0, 0) _ HB1.out.b1 rfl .u8 nonce (arr_part _ _) Try.underlying37 rfl (by rw [HN.out]; exact size12) ?_) | ((with_reducible show Calls _ _ #[.agg _, .agg _, _, _] w1 _); go_at_call 19; refine (HMS.out _ HX1.out HY1.out).mono ?_; rintro e w2 ⟨v2, rfl, ho2, hb2⟩; obtain ⟨s2, c2, hv2, hc2, -⟩ := ho2.form; rw [HSL.out] at hv2 hc2; subst hv2; obtain ⟨g, sp, rfl, hBg, hbk, -⟩ := Own8.row ho2 (by rw [HSL.out]; omega); have HB2 := Lib.hid (HB1.out.after hb2); have hlw := blk_lt HB1.out.b1; have q2 := (cell_blk hbk k).trans (row8_get sl sp k (by rw [HSL.out]; exact hklt)); have q3 := free_blk hbk k; have hb3 : (w2.setCell ⟨g, k, none⟩ (.int .u8 y)).heap[g]? = some (.cells (row8 tb sp) 5 (0, 0)) := (by rw [blk_setCell hbk, row8_set _ _ _ (by rw [HSL.out]; exact hklt), ← HTB.out]); have hs3 := src_blk hb3; rw [HTBL.out] at hs3; rw [HYY.out] at hb3 hs3; have HS3 := Lib.hid hs3; have HC2 := Lib.hid hc2; have HB3 := Lib.hid (HB2.out.far g k (.int .u8 (bits .xor .u8 (sl.getD k 0) by')) (by omega)); have HY3 := Lib.hid (HY1.out.below (hb2.setCell (p := ⟨g, k, none⟩) hBg (.int .u8 (bits .xor .u8 (sl.getD k 0) by')))); generalize sl.getD k 0 = x at q2 HS3 HB3 HY3; generalize hw3 : w2.setCell ⟨g, k, none⟩ (.int .u8 (bits .xor .u8 x by')) = w3 at HS3 HB3 HY3; have HW3 := Lib.hid hw3; clear hw3 ho2 hb2 hc2 hbk hb3 hs3 hBg hlw))
      rw [HW3.out]
      clear q2 q3 HW3
      go_wp2_with (first | ((with_reducible show wpList _ _ _ (Oper.mk (some 61) _ _ _ _ _ :: _) _ _); refine wpList_load_part rfl 35 _ rfl w.heap.size 0 _ 35 (0, 0) _ HB3.out.b0 rfl .u8 key (arr_part _ _) Try.underlying35 rfl (by rw [HK.out]; exact size32) ?_) | ((with_reducible show wpList _ _ _ (Oper.mk (some 62) _ _ _ _ _ :: _) _ _); refine wpList_load_part rfl 37 _ rfl (w.heap.size + 1) 0 _ 37 (0, 0) _ HB3.out.b1 rfl .u8 nonce (arr_part _ _) Try.underlying37 rfl (by rw [HN.out]; exact size12) ?_) | ((with_reducible show Calls _ _ #[.agg _, .agg _, _, _] w3 _); go_at_call 20; refine (HM.out _ _ _ HS3.out HY3.out HC2.out).mono ?_; rintro e w4 ⟨v4, rfl, ho4, hb4⟩; obtain ⟨s4, c4, hv4, -⟩ := ho4.form; subst hv4; have HB4 := Lib.hid (HB3.out.after hb4); have HO4 := Lib.hid ho4; have HS4 := Lib.hid (HS3.out.below hb4); have HY4 := Lib.hid (HY3.out.below hb4); clear ho4 hb4) | ((with_reducible show wpList _ _ _ (Oper.mk (some 69) _ _ _ _ _ :: _) _ _); refine wpList_load_part rfl 35 _ rfl w.heap.size 0 _ 35 (0, 0) _ HB4.out.b0 rfl .u8 key (arr_part _ _) Try.underlying35 rfl (by rw [HK.out]; exact size32) ?_) | ((with_reducible show wpList _ _ _ (Oper.mk (some 70) _ _ _ _ _ :: _) _ _); refine wpList_load_part rfl 37 _ rfl (w.heap.size + 1) 0 _ 37 (0, 0) _ HB4.out.b1 rfl .u8 nonce (arr_part _ _) Try.underlying37 rfl (by rw [HN.out]; exact size12) ?_) | ((with_reducible show Calls _ _ #[.agg _, .agg _, _, _] w4 _); go_at_call 23; refine (HR.out _ _ _ HS4.out HY4.out HC2.out).mono ?_; rintro e w5 ⟨v5, rfl, ho5, hb5⟩; obtain ⟨s5, c5, hv5, -⟩ := ho5.form; subst hv5; have HB5 := Lib.hid (HB4.out.after hb5); have q4 := (HO4.out.below hb5).str; have q5 := ho5.str; rw [show ([] : List Int).length = 0 from rfl] at q4 q5; generalize strOfNums [] = st at q4 q5; clear ho5 hb5) | ((with_reducible show Calls _ _ #[.int _ _] _ _); go_at_call 22; refine (num11_any _ _).mono ?_; rintro e w9 ⟨rfl, rfl⟩))
      go_ret
      exact ⟨rfl, HB5.out.below⟩
end Go.Proofs.Ytdaaigodpglnnaa.Ae
