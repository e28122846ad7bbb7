/- poly.Sum: the tag. Condition: the key has 32 bytes; the bytes are fewer than 2^60. -/
import Derived.Test.YtoljnogpegemjaaPolE
namespace Go.Proofs.Ytoljnogpegemjaa.Po
open Go.RowKit Lm

theorem zeroTag (w : World) : (zeroValue 61).run Try.prog w = .ok (.agg (arr .u8 (List.replicate 16 0))) w := by kernel_rfl
theorem build_st (r : List Nat) (w : World) (hr : r.length = 4) : (Instr.build 102 #[(1, .agg (arr .u64 (nar r)))]).run Try.prog w = .ok (.agg (stC (dig 18446744073709551616 4 0) r (List.replicate 16 0) 0)) w := by
  obtain ⟨a, b, c, d, rfl⟩ := four r hr
  clear hr
  kernel_rfl
theorem tag_len (r : Nat) (m : List Nat) (q : Nat) : acc r m q < 2 ^ 130 - 5 := by
  cases q with
  | zero => show 0 < 2 ^ 130 - 5; decide
  | succ q => exact Nat.mod_lt _ (by decide)
theorem flat_at (L : List (List Int)) (i k : Nat) (hi : i < L.length) (hk : k < (L.getD i []).length) : L.flatten.getD ((L.take i).flatten.length + k) 0 = (L.getD i []).getD k 0 := by
  have hfs := flat_snoc L i hi
  have e2 : L.flatten = (L.take (i + 1)).flatten ++ (L.drop (i + 1)).flatten := by rw [← List.flatten_append, List.take_append_drop]
  generalize L.getD i [] = l at hfs hk ⊢
  rw [e2, hfs]
  simp only [List.getD]
  rw [List.getElem?_append_left (by rw [List.length_append]; omega), List.getElem?_append_right (by omega), Nat.add_sub_cancel_left]
/-- What is left to be done with the sum. -/
theorem fin_step (H a s : Nat) (h1 : H < 2 ^ 131) (ha : H % (2 ^ 130 - 5) = a) (hs : s < 2 ^ 128) (F : Nat) (hF : F = fold (fold (fold H))) :
    F < 2 ^ 130 ∧ (if F < 2 ^ 130 - 5 then F else (F + 18446744073709551616 ^ 4 - (2 ^ 130 - 5)) % 18446744073709551616 ^ 4) = a ∧ a + s < 18446744073709551616 ^ 4 := by
  have f1 : F < 2 ^ 130 := by rw [hF]; exact fold3 H h1
  have f2 : F % (2 ^ 130 - 5) = a := by rw [hF, fold_mod, fold_mod, fold_mod]; exact ha
  refine ⟨f1, ?_, by omega⟩
  split <;> omega
theorem key_high (ks : List Nat) (lk : ks.length = 32) (bk : ∀ x ∈ ks, x < 256) : val 18446744073709551616 [val 256 ks / 18446744073709551616 ^ 2 % 18446744073709551616, val 256 ks / 18446744073709551616 ^ 3 % 18446744073709551616, 0, 0] = val 256 (ks.drop 16) ∧ val 256 (ks.drop 16) < 2 ^ 128 := by
  have h1 := val_div 256 (by decide) 16 ks bk
  have h2 := val_lt 256 (ks.drop 16) (fun x hx => bk x (List.mem_of_mem_drop hx))
  rw [List.length_drop, lk] at h2
  rw [← h1] at h2 ⊢
  rw [val4]
  generalize val 256 ks = v at h2 ⊢
  constructor <;> omega
/-- The last block. -/
theorem last_block (r : Nat) (m b : List Nat) (w : World) (p h : Nat) (im : InM w p r m m.length h b) (hpos : 0 < m.length % 16) :
    acc r m ((m.length + 15) / 16) = (acc r m (m.length / 16) + val 256 (b.take (m.length % 16) ++ [1])) * r % (2 ^ 130 - 5) := by
  rw [show (m.length + 15) / 16 = m.length / 16 + 1 by omega, Po.acc, im.buf]
  congr 5
  rw [List.take_of_length_le (by rw [List.length_drop]; omega), List.take_of_length_le (by rw [List.length_drop]; omega)]

set_option maxRecDepth 100000 in
set_option maxHeartbeats 6400000 in
theorem sum_any (sa : Option Addr) (n c : Nat) (L : List (List Int)) (ks m : List Nat) (w : World) (hs : SrcL w sa n L) (hm : nar m = L.flatten) (hmb : ∀ x ∈ m, x < 256) (lk : ks.length = 32) (bk : ∀ x ∈ ks, x < 256) (hN : L.flatten.length ≤ 1152921504606846976) (hn : n ≤ 1099511627776) :
    Calls Try.prog 52 #[.agg (arr .u8 (nar ks)), .slice sa n c] w fun e w' => e = .returned (.agg (arr .u8 (nar (tagP ks m)))) ∧ Below w.heap.size w w' := by
  have hLn := hs.len
  obtain ⟨zt, hzt⟩ : ∃ zs : List Nat, zs = List.replicate 16 0 := ⟨_, rfl⟩
  have hyt : ∀ w, (zeroValue 61).run Try.prog w = .ok (.agg (arr .u8 (nar zt))) w := by intro w; rw [hzt, nar_zeros]; exact zeroTag w
  have hztl : zt.length = 16 := by rw [hzt]; rfl
  obtain ⟨zs, hzs⟩ : ∃ zs : List Nat, zs = List.replicate 4 0 := ⟨_, rfl⟩
  have hz : ∀ w, (zeroValue 99).run Try.prog w = .ok (.agg (arr .u64 (nar zs))) w := by intro w; rw [hzs, nar_zeros]; exact zero4 w
  have hzl : zs.length = 4 := by rw [hzs]; rfl
  obtain ⟨zb, hzb⟩ : ∃ zs : List Nat, zs = List.replicate 32 0 := ⟨_, rfl⟩
  have hyb : ∀ w, (zeroValue 23).run Try.prog w = .ok (.agg (arr .u8 (nar zb))) w := by intro w; rw [hzb, nar_zeros]; exact zero32' w
  have hzbl : zb.length = 32 := by rw [hzb]; rfl
  obtain ⟨r, hr⟩ : ∃ r, r = rv ks := ⟨_, rfl⟩
  have hr1 : r < 2 ^ 124 := by rw [hr]; exact rv_lt ks
  have M1 := fun w => clamped_any ks w lk bk
  rw [← hr] at M1
  have MT := fun p t h b w st ht x hx hx2 => take_any p r t h b m w st hr1 ht x hx hx2
  have MU := fun p h n b w st hh hn hb => turn_any p h r n b w st hh hr1 hn hb
  obtain ⟨r4, hr4⟩ : ∃ r4, r4 = dig 18446744073709551616 4 r := ⟨_, rfl⟩
  have r4l : r4.length = 4 := by rw [hr4, dig_len]
  have hbs := fun w => build_st r4 w r4l
  rw [← hr4] at M1
  have S0 := B2.start w (arr .u8 (nar ks)) (arr .u8 (nar zt)) 23 61
  have HS0 := Lib.hid S0
  have HS := Lib.hid hs
  have HM := Lib.hid hm
  have HMB := Lib.hid hmb
  have LK := Lib.hid lk
  have BK := Lib.hid bk
  have HLN := Lib.hid hLn
  have HYT := Lib.hid hyt
  have HZT := Lib.hid hztl
  have HZ := Lib.hid hz
  have HZL := Lib.hid hzl
  have HYB := Lib.hid hyb
  have HZB := Lib.hid hzbl
  have HR := Lib.hid hr
  have HR1 := Lib.hid hr1
  have HM1 := Lib.hid M1
  have HMT := Lib.hid MT
  have HMU := Lib.hid MU
  have HR4 := Lib.hid hr4
  have HR4L := Lib.hid r4l
  have HBS := Lib.hid hbs
  clear S0 hs hm hmb lk bk hLn hyt hztl hz hzl hyb hzbl hr hr1 M1 MT MU hr4 r4l hbs hzt hzs hzb
  go_enter Try.func52, Try.ntmps52
  go_wp2_with (first | ((with_reducible show wpList _ _ _ (Oper.mk (some 4) _ _ _ _ _ :: _) _ _); refine wpList_alloc_row rfl 61 rfl _ (HYT.out _) ?_) | ((with_reducible show wpList _ _ _ (Oper.mk (some 15) _ _ _ _ _ :: _) _ _); refine wpList_load_part rfl 23 _ rfl w.heap.size 0 _ 23 (0, 0) _ HS0.out.b0 rfl .u8 (nar ks) (arr_part _ _) Try.underlying23 rfl (nar32i ks LK.out) ?_) | ((with_reducible show Calls _ _ _ _ _); go_at_call 59; refine (HM1.out _).mono ?_; rintro e w1 ⟨rfl, hbw⟩; have HB1 := Lib.hid (HS0.out.after hbw); clear hbw) | ((with_reducible show wpList _ _ _ (Oper.mk (some 17) _ _ _ _ _ :: _) _ _); refine wpList_build rfl 102 _ rfl #[(1, .agg (arr .u64 (nar r4)))] rfl _ (HBS.out _) ?_))
  have HI0 : Hid (InM (w1.alloc (.cells (stC (dig 18446744073709551616 4 0) r4 (List.replicate 16 0) 0) 102)) w1.heap.size r m 0 0 (List.replicate 16 0)) := Lib.hid ⟨⟨by rw [← HR4.out]; exact blk_new _ _, dig_len _ _ _, dig_len _ _ _, rfl⟩, by decide, rfl, rfl, by simp⟩
  have HB2 := Lib.hid (HB1.out.alloc (.cells (stC (dig 18446744073709551616 4 0) r4 (List.replicate 16 0) 0) 102))
  have hp1 : w.heap.size + 1 < w1.heap.size := blk_lt HB1.out.b1
  obtain ⟨p, hp⟩ : ∃ p, p = w1.heap.size := ⟨_, rfl⟩
  rw [← hp] at HI0 hp1
  go_simp
  rw [← hp]
  clear hp HB1
  go_loopw [21] (fun v wr => ∃ i : Nat, i ≤ n ∧ v = .int .i64 i ∧ (∃ h b, InM wr p r m (L.take i).flatten.length h b) ∧ B2 w wr (arr .u8 (nar ks)) (arr .u8 (nar zt)) 23 61) (fun v _ => n - (intOf v).toNat)
  case atStart => exact ⟨0, Nat.zero_le _, rfl, ⟨0, _, HI0.out⟩, HB2.out⟩
  clear HI0 HB2
  case round =>
    obtain ⟨i, hi, rfl, ⟨h, b, hI⟩, hB⟩ := hrel
    by_cases hlt : i < n
    · obtain ⟨a, si, ci, rfl, hc, hlc, hsi⟩ := HS.out.cell i hlt
      have x1 := below_cell hB.below hc
      have hfl := flat_le L i (by rw [HLN.out]; exact hlt)
      have hfs := flat_snoc L i (by rw [HLN.out]; exact hlt)
      have hmm : ∀ k, k < (L.getD i []).length → m.getD ((L.take i).flatten.length + k) 0 = ((L.getD i []).getD k 0).toNat ∧ (L.getD i []).getD k 0 = (((L.getD i []).getD k 0).toNat : Int) ∧ ((L.getD i []).getD k 0).toNat < 256 := by
        intro k hk
        have e1 := flat_at L i k (by rw [HLN.out]; exact hlt) hk
        rw [← HM.out, nar_get] at e1
        rw [← e1]
        have := lt_getD HMB.out (by decide) ((L.take i).flatten.length + k)
        exact ⟨by simp, by simp, by simpa using this⟩
      have hml : m.length = L.flatten.length := by rw [← HM.out, nar_len]
      obtain ⟨T, hT⟩ : ∃ T, T = (L.take i).flatten.length := ⟨_, rfl⟩
      have hfs2 : (L.take (i + 1)).flatten.length = T + (L.getD i []).length := by rw [hfs, List.length_append, hT]
      rw [← hT] at hI hfl hmm
      rw [← hml] at hfl
      have hN2 : m.length ≤ 1152921504606846976 := by rw [hml]; exact hN
      clear hfs hT hml
      generalize L.getD i [] = l at x1 hfl hfs2 hsi hlc hmm
      obtain ⟨q, hq⟩ : ∃ q, q = l.length := ⟨_, rfl⟩
      rw [← hq] at x1 hfl hsi hlc hfs2 hmm
      have HQ := Lib.hid hq
      have HI := Lib.hid hI
      have HB := Lib.hid hB
      have HSI := Lib.hid hsi
      have HMM := Lib.hid hmm
      have HFS := Lib.hid hfs2
      clear hq hI hB hsi hmm hfs2 hc
      go_wp2_with fail
      generalize Value.bool (decide ((i : Int) < n)) = u22'
      go_loopw [27] (fun v wr => ∃ k : Nat, k ≤ q ∧ v = .int .i64 k ∧ (∃ h b, InM wr p r m (T + k) h b) ∧ B2 w wr (arr .u8 (nar ks)) (arr .u8 (nar zt)) 23 61) (fun v _ => q - (intOf v).toNat)
      case atStart => exact ⟨0, Nat.zero_le _, rfl, ⟨_, _, HI.out⟩, HB.out⟩
      case round =>
        obtain ⟨k, hk, rfl, ⟨h, b, hI⟩, hB⟩ := hrel
        by_cases hlt2 : k < q
        · obtain ⟨ad, rfl, hcc⟩ := HSI.out.cell k hlt2
          have x2 := below_cell hB.below hcc
          obtain ⟨e1, e2, e3⟩ := HMM.out k hlt2
          rw [e2] at x2
          have htm : T + k < m.length := by omega
          have HI2 := Lib.hid hI
          have HB2 := Lib.hid hB
          have HE1 := Lib.hid e1
          clear hI hB hcc e1 e2
          generalize (l.getD k 0).toNat = x at x2 HE1 e3
          go_wp2_with (go_at_call 60; refine (HMT.out _ _ _ _ _ HI2.out htm x HE1.out e3).mono ?_; rintro e w5 ⟨rfl, hi5, k5⟩; have HI5 := Lib.hid hi5; have HB5 := Lib.hid (HB2.out.farK k5 (by rintro i rfl; omega)); clear hi5 k5)
          go_roundw
          case rel => exact ⟨k + 1, by omega, by go_num, HI5.out, HB5.out⟩
          case measure => simp [intOf]; omega
        · have ek : k = q := by omega
          rw [ek] at hI
          have HI3 := Lib.hid hI
          have HB3 := Lib.hid hB
          clear ek hI hB
          go_wp2_with fail
          go_roundw
          case rel => exact ⟨i + 1, by omega, by go_num, ⟨_, _, by rw [HFS.out]; exact HI3.out⟩, HB3.out⟩
          case measure => simp [intOf]; omega
    · have ej : L.take i = L := List.take_of_length_le (by rw [HLN.out]; omega)
      have hml : L.flatten.length = m.length := by rw [← HM.out, nar_len]
      rw [ej, hml] at hI
      obtain ⟨nn, hnn⟩ : ∃ nn, nn = m.length % 16 := ⟨_, rfl⟩
      have n0 := hI.st.at_n
      rw [← hnn] at n0
      obtain ⟨a, ha⟩ : ∃ a, a = acc r m ((m.length + 15) / 16) := ⟨_, rfl⟩
      have HA := Lib.hid ha
      have HNN := Lib.hid hnn
      have HI := Lib.hid hI
      have HB := Lib.hid hB
      have hnl : nn < 16 := by rw [hnn]; exact Nat.mod_lt _ (by decide)
      clear ej hml hI hB ha hnn hN
      go_upto_if 40 with fail
      go_cut [] (fun wx => ∃ H b nx, IsSt wx p (dig 18446744073709551616 4 H) (dig 18446744073709551616 4 r) b nx ∧ H < 2 ^ 131 ∧ H % (2 ^ 130 - 5) = a ∧ B2 w wx (arr .u8 (nar ks)) (arr .u8 (nar zt)) 23 61)
      case first =>
        by_cases h0 : nn = 0
        · have e0 : (nn : Int) = 0 := by rw [h0]; rfl
          rw [e0] at n0 ⊢
          go_wp2_with fail
          go_meet
          refine ⟨h, b, _, HI.out.st, HI.out.lt, ?_, HB.out⟩
          rw [HI.out.acc, HA.out]
          congr 1
          have := HNN.out
          omega
        · have hp0 : 0 < (nn : Int) := by omega
          go_wp2_with (go_at_call 61; refine (HMU.out p h (m.length % 16) b _ HI.out.st HI.out.lt (by omega) HI.out.byt).mono ?_; rintro e w5 ⟨rfl, hi5, k5⟩; have HI5 := Lib.hid hi5; have HB5 := Lib.hid (HB.out.farK k5 (by rintro i rfl; omega)); clear hi5 k5)
          go_meet
          refine ⟨_, b, _, HI5.out, fold_lt _ (turn_lt _ _ _ HI.out.lt (kv_lt _ _ HI.out.st.bl HI.out.byt (by omega)) HR1.out), ?_, HB5.out⟩
          rw [turn_mod _ _ _ _ HI.out.acc, HA.out, last_block r m b _ p h HI.out (by have := HNN.out; omega)]
      case rest =>
        clear n0 hnl HI HB HNN
        obtain ⟨wd, rfl⟩ : ∃ wd : World, wd = wc := ⟨_, rfl⟩
        obtain ⟨H, b2, nx, hst, hH, hHa, hB⟩ := hcut
        obtain ⟨F, hF⟩ : ∃ F, F = fold (fold (fold H)) := ⟨_, rfl⟩
        obtain ⟨k1, k2⟩ := key_high ks LK.out BK.out
        obtain ⟨s, hs2⟩ : ∃ s, s = val 256 (ks.drop 16) := ⟨_, rfl⟩
        rw [← hs2] at k1 k2
        obtain ⟨F1, F2, F3⟩ := fin_step H a s hH hHa k2 F hF
        have P1 := fun w => fold_any (dig 18446744073709551616 4 H) w (dig_len _ _ _) (dig_lt _ (by decide) _ _)
        rw [val_dig, Nat.mod_eq_of_lt (show H < 18446744073709551616 ^ 4 by omega)] at P1
        have hq1 : fold H < 2 ^ 131 := fold_lt H (by omega)
        have P2 := fun w => fold_any (dig 18446744073709551616 4 (fold H)) w (dig_len _ _ _) (dig_lt _ (by decide) _ _)
        rw [val_dig, Nat.mod_eq_of_lt (show fold H < 18446744073709551616 ^ 4 by omega)] at P2
        have hq2 : fold (fold H) < 2 ^ 131 := fold_lt _ (by omega)
        have P3 := fun w => fold_any (dig 18446744073709551616 4 (fold (fold H))) w (dig_len _ _ _) (dig_lt _ (by decide) _ _)
        rw [val_dig, Nat.mod_eq_of_lt (show fold (fold H) < 18446744073709551616 ^ 4 by omega), ← hF] at P3
        have P4 := fun w => lsub_any (dig 18446744073709551616 4 F) (dig 18446744073709551616 4 (2 ^ 130 - 5)) w (dig_len _ _ _) (dig_len _ _ _) (dig_lt _ (by decide) _ _) (dig_lt _ (by decide) _ _)
        rw [val_dig, val_dig, Nat.mod_eq_of_lt (show F < 18446744073709551616 ^ 4 by omega), Nat.mod_eq_of_lt (show 2 ^ 130 - 5 < 18446744073709551616 ^ 4 by omega)] at P4
        have P5 := fun w => of_any ks w LK.out BK.out
        have P6 := fun w => ladd_any (dig 18446744073709551616 4 a) [val 256 ks / 18446744073709551616 ^ 2 % 18446744073709551616, val 256 ks / 18446744073709551616 ^ 3 % 18446744073709551616, 0, 0] w (dig_len _ _ _) rfl (dig_lt _ (by decide) _ _) (by
          intro x hx
          simp only [List.mem_cons, List.not_mem_nil, or_false] at hx
          rcases hx with rfl | rfl | rfl | rfl
          · exact Nat.mod_lt _ (by decide)
          · exact Nat.mod_lt _ (by decide)
          · decide
          · decide)
        have ha4 : a < 18446744073709551616 ^ 4 := by omega
        rw [k1, val_dig, Nat.mod_eq_of_lt ha4, Nat.mod_eq_of_lt F3] at P6
        have P7 := fun w => num_any (dig 18446744073709551616 4 (a + s)) w (dig_len _ _ _) (dig_lt _ (by decide) _ _)
        rw [val_dig, Nat.mod_eq_of_lt F3] at P7
        obtain ⟨g4, hg4⟩ : ∃ x, x = dig 18446744073709551616 4 H := ⟨_, rfl⟩
        obtain ⟨f1, hf1⟩ : ∃ x, x = dig 18446744073709551616 4 (fold H) := ⟨_, rfl⟩
        obtain ⟨f2, hf2⟩ : ∃ x, x = dig 18446744073709551616 4 (fold (fold H)) := ⟨_, rfl⟩
        obtain ⟨f3, hf3⟩ : ∃ x, x = dig 18446744073709551616 4 F := ⟨_, rfl⟩
        obtain ⟨pr, hpr⟩ : ∃ x, x = dig 18446744073709551616 4 (2 ^ 130 - 5) := ⟨_, rfl⟩
        obtain ⟨d4, hd4⟩ : ∃ x, x = dig 18446744073709551616 4 ((F + 18446744073709551616 ^ 4 - (2 ^ 130 - 5)) % 18446744073709551616 ^ 4) := ⟨_, rfl⟩
        obtain ⟨a4, ha4'⟩ : ∃ x, x = dig 18446744073709551616 4 a := ⟨_, rfl⟩
        obtain ⟨n4, hn4⟩ : ∃ x, x = dig 18446744073709551616 4 (val 256 ks) := ⟨_, rfl⟩
        obtain ⟨o4, ho4⟩ : ∃ x, x = dig 18446744073709551616 4 (a + s) := ⟨_, rfl⟩
        obtain ⟨t32, ht32⟩ : ∃ x, x = dig 256 32 (a + s) := ⟨_, rfl⟩
        obtain ⟨bo, hbo⟩ : ∃ x, x = (if F < 2 ^ 130 - 5 then 1 else 0) := ⟨_, rfl⟩
        obtain ⟨tg, htg⟩ : ∃ x, x = tagP ks m := ⟨_, rfl⟩
        have P8 := fun w => prime_any w
        rw [← hg4, ← hf1] at P1
        rw [← hf1, ← hf2] at P2
        rw [← hf2, ← hf3] at P3
        rw [← hf3, ← hpr, ← hd4, ← hbo] at P4
        rw [← hn4] at P5
        rw [← ha4', ← ho4] at P6
        rw [← ho4, ← ht32] at P7
        rw [← hpr] at P8
        rw [← hg4] at hst
        have n2 : (nar n4).getD 2 0 = ((val 256 ks / 18446744073709551616 ^ 2 % 18446744073709551616 : Nat) : Int) := by rw [nar_get, hn4, dig_get _ _ _ _ (by decide)]
        have n3 : (nar n4).getD 3 0 = ((val 256 ks / 18446744073709551616 ^ 3 % 18446744073709551616 : Nat) : Int) := by rw [nar_get, hn4, dig_get _ _ _ _ (by decide)]
        generalize val 256 ks / 18446744073709551616 ^ 2 % 18446744073709551616 = c2 at P6 n2
        generalize val 256 ks / 18446744073709551616 ^ 3 % 18446744073709551616 = c3 at P6 n3
        obtain ⟨hi, hhi⟩ : ∃ x, x = [c2, c3, 0, 0] := ⟨_, rfl⟩
        have HHI : Hid ((#[.int .u64 (c2 : Int), .int .u64 (c3 : Int), .int .u64 0, .int .u64 0] : Array Value) = arr .u64 (nar hi)) := Lib.hid (by rw [hhi]; rfl)
        rw [← hhi] at P6
        have L3 : Hid (f3.length = 4) := Lib.hid (by rw [hf3, dig_len])
        have LD : Hid (d4.length = 4) := Lib.hid (by rw [hd4, dig_len])
        have LA : Hid (a4.length = 4) := Lib.hid (by rw [ha4', dig_len])
        have LN : Hid (n4.length = 4) := Lib.hid (by rw [hn4, dig_len])
        have LO : Hid (o4.length = 4) := Lib.hid (by rw [ho4, dig_len])
        have LT : Hid (t32.length = 32) := Lib.hid (by rw [ht32, dig_len])
        have LG : Hid (tg.length = 16) := Lib.hid (by rw [htg, tagP, dig_len])
        have HT16 : Hid ((nar t32).take 16 = nar tg) := Lib.hid (by rw [ht32, htg, tagP, ← HR.out, ← HA.out, ← hs2, nar, nar, ← List.map_take, dig_take 256 16 16])
        have HCASE : Hid (if F < 2 ^ 130 - 5 then a4 = f3 else a4 = d4) := Lib.hid (by
          split at F2
          · rename_i hc; rw [if_pos hc, ha4', hf3, F2]
          · rename_i hc; rw [if_neg hc, ha4', hd4, F2])
        have HBO := Lib.hid hbo
        have HTG := Lib.hid htg
        have HST := Lib.hid hst
        have HB := Lib.hid hB
        have Q1 := Lib.hid P1
        have Q2 := Lib.hid P2
        have Q3 := Lib.hid P3
        have Q4 := Lib.hid P4
        have Q5 := Lib.hid P5
        have Q6 := Lib.hid P6
        have Q7 := Lib.hid P7
        have Q8 := Lib.hid P8
        have N2 := Lib.hid n2
        have N3 := Lib.hid n3
        clear hF k1 k2 hs2 F1 F2 F3 P1 P2 P3 P4 P5 P6 P7 P8 hq1 hq2 ha4 hg4 hf1 hf2 hf3 hpr hd4 ha4' hn4 ho4 ht32 hbo htg hhi n2 n3 hst hB hH hHa HA
        go_upto_region 14 with (first | ((with_reducible show wpList _ _ _ (Oper.mk (some 46) _ _ _ _ _ :: _) _ _); refine wpList_load_part rfl 99 _ rfl p 0 _ 102 (0, 0) _ HST.out.blk rfl .u64 (nar g4) (stC_parth nx) Try.underlying99 rfl (nar4i g4 HST.out.hl) ?_) | ((with_reducible show Calls _ _ #[.agg (arr .u64 (nar g4))] _ _); go_at_call 62; refine (Q1.out _).mono ?_; rintro e w5 ⟨rfl, hbw⟩; have HC1 := Lib.hid (HB.out.after hbw); clear hbw) | ((with_reducible show Calls _ _ #[.agg (arr .u64 (nar f1))] _ _); go_at_call 62; refine (Q2.out _).mono ?_; rintro e w6 ⟨rfl, hbw⟩; have HC2 := Lib.hid (HC1.out.after hbw); clear hbw) | ((with_reducible show Calls _ _ #[.agg (arr .u64 (nar f2))] _ _); go_at_call 62; refine (Q3.out _).mono ?_; rintro e w7 ⟨rfl, hbw⟩; have HC3 := Lib.hid (HC2.out.after hbw); have hlt7 := blk_lt HC3.out.b1; clear hbw) | ((with_reducible show wpList _ _ _ (Oper.mk (some 10) _ _ _ _ _ :: _) _ _); refine wpList_alloc_row rfl 99 rfl _ (HZ.out _) ?_; go_simp) | ((with_reducible show wpList _ _ _ (Oper.mk none (Op.store _ (Operand.tmp 10) _) _ _ _ _ :: _) _ _); refine wpList_store_whole rfl 99 _ _ rfl w7.heap.size _ _ 99 (blk_new _ _) rfl rfl ((nar4 f3 L3.out).trans (nar4 zs HZL.out).symm) (nar4s f3 L3.out) (all_arr _ _) ?_; intro w9 hb9 hk9 hz9; have HC9 := Lib.hid ((HC3.out.alloc (.cells (arr .u64 (nar zs)) 99)).farK hk9 (by rintro i rfl; omega)); have HG9 := Lib.hid hb9; clear hb9 hk9 hz9))
        obtain ⟨g10, hg10⟩ : ∃ g, g = w7.heap.size := ⟨_, rfl⟩
        rw [← hg10] at HG9 hlt7 ⊢
        clear hg10
        (try simp only [Act.put])
        go_cut [11, 12] (fun u11 u12 wx => ∃ g, u11 = .pointer (some ⟨g, 0, none⟩) ∧ u12 = .int .u64 (bo : Int) ∧ w9.heap.size ≤ g ∧ wx.heap[g]? = some (.cells (arr .u64 (nar d4)) 99 (0, 0)) ∧ Below w9.heap.size w9 wx)
        case first =>
          have HB0 := Lib.hid (show Below w9.heap.size w9 w9.drew from ⟨rfl, rfl, rfl, Nat.le_refl _, fun _ _ => rfl⟩)
          refine wp_region_held_drew (S := (fun w' => Go.RowKit.Below w9.heap.size w9 w')) (by kernel_rfl) (HB0.out) (fun hHeld => ?_)
          refine' wpAnyH_take (i := 0) (oi := ({ dst := some 51, op := Op.load 99 (Operand.tmp 10), type := 99, pos := "poly.go:72", after := #[], guard := none } : Oper)) (v := _) rfl (by kernel_rfl) (by kernel_rfl) (by kernel_rfl) (fun _ _ _ h => h) (yieldsIf_load_mid (by rfl) _ _ rfl _ _ rfl ((nar f3).map (Value.int .u64)) _ ?hS1 Try.underlying99 rfl (by rw [List.length_map]; exact nar4i f3 L3.out)) (by assumption) ?rest1
          case hS1 => (intro w hSw; exact range_part (Below.blk hSw HG9.out (blk_lt HG9.out)) 0 _ (by rw [List.length_map]; exact arr_part _ _))
          (try simp only [Act.put, List.setIfInBounds_toArray, List.set_cons_zero, List.set_cons_succ])
          refine wpAnyH_ready (rs := [1, 6]) (by kernel_rfl) (by simp) ?_
          refine AllReadyH.cons (o := ({ dst := some 52, op := Op.call { callee := Callee.value (Operand.func 64), args := #[], argTypes := #[] }, type := 99, pos := "poly.go:72", after := #[], guard := none } : Oper)) rfl (fun K hK => ?_) ?_
          · go_simp
            go_at_call 64
            refine (Q8.out _).mono ?_
            rintro e w2 ⟨rfl, hb2⟩
            have HB2 := Lib.hid (HB0.out.trans (hb2.mono HB0.out.size))
            clear hb2
            (try dsimp only)
            refine hK.out _ _ (HB2.out) (fun hHeld => ?_)
            clear hK K
            (try simp only [Act.put, List.setIfInBounds_toArray, List.set_cons_zero, List.set_cons_succ])
            refine wpAnyH_ready (rs := [2, 6]) (by kernel_rfl) (by simp) ?_
            refine AllReadyH.cons (o := ({ dst := some 53, op := Op.call { callee := Callee.value (Operand.func 63), args := #[Operand.tmp 51, Operand.tmp 52], argTypes := #[99, 99] }, type := 105, pos := "poly.go:72", after := #[{ on := 0, ground := Ground.data }, { on := 1, ground := Ground.data }, { on := 1, ground := Ground.chain }], guard := none } : Oper)) rfl (fun K hK => ?_) ?_
            · go_simp
              go_at_call 63
              refine (Q4.out _).mono ?_
              rintro e w3 ⟨rfl, hb3⟩
              have HB3 := Lib.hid (HB2.out.trans (hb3.mono HB2.out.size))
              clear hb3
              (try dsimp only)
              refine hK.out _ _ (HB3.out) (fun hHeld => ?_)
              clear hK K
              (try simp only [Act.put, List.setIfInBounds_toArray, List.set_cons_zero, List.set_cons_succ])
              refine wpAnyH_take (i := 3) (oi := ({ dst := some 50, op := Op.move (Operand.tmp 53), type := 105, pos := "poly.go:72", after := #[{ on := 2, ground := Ground.data }], guard := none } : Oper)) (v := ?v4) rfl (by kernel_rfl) (by kernel_rfl) (by kernel_rfl) (fun _ _ _ h => h) (Or.inl ⟨by rfl, ?hy4⟩) (by assumption) ?rest4
              case hy4 => (intro w hSw; (try dsimp only at hSw); go_simp; try (with_reducible rfl))
              (try simp only [Act.put, List.setIfInBounds_toArray, List.set_cons_zero, List.set_cons_succ])
              refine wpAnyH_take (i := 4) (oi := ({ dst := some 54, op := Op.extract (Operand.tmp 50) 0, type := 99, pos := "poly.go:72", after := #[{ on := 3, ground := Ground.data }], guard := none } : Oper)) (v := ?v5) rfl (by kernel_rfl) (by kernel_rfl) (by kernel_rfl) (fun _ _ _ h => h) (Or.inl ⟨by rfl, ?hy5⟩) (by assumption) ?rest5
              case hy5 => (intro w hSw; (try dsimp only at hSw); go_simp; try (with_reducible rfl))
              (try simp only [Act.put, List.setIfInBounds_toArray, List.set_cons_zero, List.set_cons_succ])
              refine wpAnyH_take (i := 5) (oi := ({ dst := some 55, op := Op.extract (Operand.tmp 50) 1, type := 82, pos := "poly.go:72", after := #[{ on := 3, ground := Ground.data }, { on := 7, ground := Ground.gcOnly Departure.lateStores }], guard := none } : Oper)) (v := ?v6) rfl (by kernel_rfl) (by kernel_rfl) (by kernel_rfl) (fun _ _ _ h => h) (Or.inl ⟨by rfl, ?hy6⟩) (by assumption) ?rest6
              case hy6 => (intro w hSw; (try dsimp only at hSw); go_simp; try (with_reducible rfl))
              (try simp only [Act.put, List.setIfInBounds_toArray, List.set_cons_zero, List.set_cons_succ])
              refine wpAnyH_ready (rs := [6]) (by kernel_rfl) (by simp) ?_
              refine AllReadyH.cons (o := ({ dst := some 11, op := Op.alloc 99, type := 0, pos := "poly.go:72", after := #[], guard := none } : Oper)) rfl (fun K hK => ?_) AllReadyH.nil
              refine step_alloc_row rfl 99 rfl _ (HZ.out _) ?_
              have HB7 := Lib.hid (HB3.out.alloc HB3.out.size (.cells (arr .u64 (nar zs)) 99))
              have HG7_11 := Lib.hid (blk_new (w3) (.cells (arr .u64 (nar zs)) 99))
              refine hK.out _ _ (HB7.out) (fun hHeld => ?_)
              clear hK K
              (try simp only [Act.put, List.setIfInBounds_toArray, List.set_cons_zero, List.set_cons_succ])
              refine wpAnyH_ready (rs := [7]) (by kernel_rfl) (by simp) ?_
              refine AllReadyH.cons (o := ({ dst := none, op := Op.store 99 (Operand.tmp 11) (Operand.tmp 54), type := 0, pos := "poly.go:72", after := #[{ on := 6, ground := Ground.data }, { on := 4, ground := Ground.data }, { on := 2, ground := Ground.chain }, { on := 0, ground := Ground.phase }, { on := 1, ground := Ground.phase }, { on := 2, ground := Ground.phase }, { on := 3, ground := Ground.phase }, { on := 4, ground := Ground.phase }, { on := 5, ground := Ground.textOnly Departure.lateStores }, { on := 6, ground := Ground.phase }], guard := none } : Oper)) rfl (fun K hK => ?_) AllReadyH.nil
              refine step_store_whole rfl 99 (.tmp 11) (.tmp 54) rfl (w3).heap.size _ _ _ HG7_11.out rfl rfl ((nar4 d4 LD.out).trans (nar4 zs HZL.out).symm) (nar4s d4 LD.out) (all_arr _ _) ?_
              intro w8 hb8 hk8 hz8
              have HB8 := Lib.hid (HB7.out.trans (hk8.toBelow HB7.out.size (by rintro i rfl; exact HB3.out.size)))
              have HG8_11 := Lib.hid hb8
              clear hb8 hk8 hz8
              refine hK.out _ _ (HB8.out) (fun hHeld => ?_)
              clear hK K
              (try simp only [Act.put])
              refine wpAnyH_take (i := 8) (oi := ({ dst := some 12, op := Op.assign (Operand.tmp 55), type := 82, pos := "poly.go:72", after := #[{ on := 5, ground := Ground.data }, { on := 7, ground := Ground.chain }, { on := 0, ground := Ground.phase }, { on := 1, ground := Ground.phase }, { on := 2, ground := Ground.phase }, { on := 3, ground := Ground.phase }, { on := 4, ground := Ground.phase }, { on := 5, ground := Ground.phase }, { on := 6, ground := Ground.phase }, { on := 7, ground := Ground.phase }], guard := none } : Oper)) (v := ?v9) rfl (by kernel_rfl) (by kernel_rfl) (by kernel_rfl) (fun _ _ _ h => h) (Or.inl ⟨by rfl, ?hy9⟩) (by assumption) ?rest9
              case hy9 => (intro w hSw; (try dsimp only at hSw); go_simp; try (with_reducible rfl))
              (try simp only [Act.put, List.setIfInBounds_toArray, List.set_cons_zero, List.set_cons_succ])
              refine wpAnyH_done (by kernel_rfl) ?_ _
              go_wp2_with fail
              go_meet
              exact ⟨_, rfl, rfl, HB3.out.size, HG8_11.out, HB8.out⟩
            refine AllReadyH.cons (o := ({ dst := some 11, op := Op.alloc 99, type := 0, pos := "poly.go:72", after := #[], guard := none } : Oper)) rfl (fun K hK => ?_) ?_
            · refine step_alloc_row rfl 99 rfl _ (HZ.out _) ?_
              have HB10 := Lib.hid (HB2.out.alloc HB2.out.size (.cells (arr .u64 (nar zs)) 99))
              have HG10_11 := Lib.hid (blk_new (w2) (.cells (arr .u64 (nar zs)) 99))
              refine hK.out _ _ (HB10.out) (fun hHeld => ?_)
              clear hK K
              (try simp only [Act.put, List.setIfInBounds_toArray, List.set_cons_zero, List.set_cons_succ])
              refine wpAnyH_ready (rs := [2]) (by kernel_rfl) (by simp) ?_
              refine AllReadyH.cons (o := ({ dst := some 53, op := Op.call { callee := Callee.value (Operand.func 63), args := #[Operand.tmp 51, Operand.tmp 52], argTypes := #[99, 99] }, type := 105, pos := "poly.go:72", after := #[{ on := 0, ground := Ground.data }, { on := 1, ground := Ground.data }, { on := 1, ground := Ground.chain }], guard := none } : Oper)) rfl (fun K hK => ?_) AllReadyH.nil
              go_simp
              go_at_call 63
              refine (Q4.out _).mono ?_
              rintro e w11 ⟨rfl, hb11⟩
              have HB11 := Lib.hid (HB10.out.trans (hb11.mono HB10.out.size))
              have HG11_11 := Lib.hid (Below.blk hb11 HG10_11.out (blk_lt HG10_11.out))
              clear hb11
              (try dsimp only)
              refine hK.out _ _ (HB11.out) (fun hHeld => ?_)
              clear hK K
              (try simp only [Act.put, List.setIfInBounds_toArray, List.set_cons_zero, List.set_cons_succ])
              refine wpAnyH_take (i := 3) (oi := ({ dst := some 50, op := Op.move (Operand.tmp 53), type := 105, pos := "poly.go:72", after := #[{ on := 2, ground := Ground.data }], guard := none } : Oper)) (v := ?v12) rfl (by kernel_rfl) (by kernel_rfl) (by kernel_rfl) (fun _ _ _ h => h) (Or.inl ⟨by rfl, ?hy12⟩) (by assumption) ?rest12
              case hy12 => (intro w hSw; (try dsimp only at hSw); go_simp; try (with_reducible rfl))
              (try simp only [Act.put, List.setIfInBounds_toArray, List.set_cons_zero, List.set_cons_succ])
              refine wpAnyH_take (i := 4) (oi := ({ dst := some 54, op := Op.extract (Operand.tmp 50) 0, type := 99, pos := "poly.go:72", after := #[{ on := 3, ground := Ground.data }], guard := none } : Oper)) (v := ?v13) rfl (by kernel_rfl) (by kernel_rfl) (by kernel_rfl) (fun _ _ _ h => h) (Or.inl ⟨by rfl, ?hy13⟩) (by assumption) ?rest13
              case hy13 => (intro w hSw; (try dsimp only at hSw); go_simp; try (with_reducible rfl))
              (try simp only [Act.put, List.setIfInBounds_toArray, List.set_cons_zero, List.set_cons_succ])
              refine wpAnyH_take (i := 5) (oi := ({ dst := some 55, op := Op.extract (Operand.tmp 50) 1, type := 82, pos := "poly.go:72", after := #[{ on := 3, ground := Ground.data }, { on := 7, ground := Ground.gcOnly Departure.lateStores }], guard := none } : Oper)) (v := ?v14) rfl (by kernel_rfl) (by kernel_rfl) (by kernel_rfl) (fun _ _ _ h => h) (Or.inl ⟨by rfl, ?hy14⟩) (by assumption) ?rest14
              case hy14 => (intro w hSw; (try dsimp only at hSw); go_simp; try (with_reducible rfl))
              (try simp only [Act.put, List.setIfInBounds_toArray, List.set_cons_zero, List.set_cons_succ])
              refine wpAnyH_ready (rs := [7]) (by kernel_rfl) (by simp) ?_
              refine AllReadyH.cons (o := ({ dst := none, op := Op.store 99 (Operand.tmp 11) (Operand.tmp 54), type := 0, pos := "poly.go:72", after := #[{ on := 6, ground := Ground.data }, { on := 4, ground := Ground.data }, { on := 2, ground := Ground.chain }, { on := 0, ground := Ground.phase }, { on := 1, ground := Ground.phase }, { on := 2, ground := Ground.phase }, { on := 3, ground := Ground.phase }, { on := 4, ground := Ground.phase }, { on := 5, ground := Ground.textOnly Departure.lateStores }, { on := 6, ground := Ground.phase }], guard := none } : Oper)) rfl (fun K hK => ?_) AllReadyH.nil
              refine step_store_whole rfl 99 (.tmp 11) (.tmp 54) rfl (w2).heap.size _ _ _ HG11_11.out rfl rfl ((nar4 d4 LD.out).trans (nar4 zs HZL.out).symm) (nar4s d4 LD.out) (all_arr _ _) ?_
              intro w15 hb15 hk15 hz15
              have HB15 := Lib.hid (HB11.out.trans (hk15.toBelow HB11.out.size (by rintro i rfl; exact HB2.out.size)))
              have HG15_11 := Lib.hid hb15
              clear hb15 hk15 hz15
              refine hK.out _ _ (HB15.out) (fun hHeld => ?_)
              clear hK K
              (try simp only [Act.put])
              refine wpAnyH_take (i := 8) (oi := ({ dst := some 12, op := Op.assign (Operand.tmp 55), type := 82, pos := "poly.go:72", after := #[{ on := 5, ground := Ground.data }, { on := 7, ground := Ground.chain }, { on := 0, ground := Ground.phase }, { on := 1, ground := Ground.phase }, { on := 2, ground := Ground.phase }, { on := 3, ground := Ground.phase }, { on := 4, ground := Ground.phase }, { on := 5, ground := Ground.phase }, { on := 6, ground := Ground.phase }, { on := 7, ground := Ground.phase }], guard := none } : Oper)) (v := ?v16) rfl (by kernel_rfl) (by kernel_rfl) (by kernel_rfl) (fun _ _ _ h => h) (Or.inl ⟨by rfl, ?hy16⟩) (by assumption) ?rest16
              case hy16 => (intro w hSw; (try dsimp only at hSw); go_simp; try (with_reducible rfl))
              (try simp only [Act.put, List.setIfInBounds_toArray, List.set_cons_zero, List.set_cons_succ])
              refine wpAnyH_done (by kernel_rfl) ?_ _
              go_wp2_with fail
              go_meet
              exact ⟨_, rfl, rfl, HB2.out.size, HG15_11.out, HB15.out⟩
            exact AllReadyH.nil
          refine AllReadyH.cons (o := ({ dst := some 11, op := Op.alloc 99, type := 0, pos := "poly.go:72", after := #[], guard := none } : Oper)) rfl (fun K hK => ?_) ?_
          · refine step_alloc_row rfl 99 rfl _ (HZ.out _) ?_
            have HB17 := Lib.hid (HB0.out.alloc HB0.out.size (.cells (arr .u64 (nar zs)) 99))
            have HG17_11 := Lib.hid (blk_new (w9.drew) (.cells (arr .u64 (nar zs)) 99))
            refine hK.out _ _ (HB17.out) (fun hHeld => ?_)
            clear hK K
            (try simp only [Act.put, List.setIfInBounds_toArray, List.set_cons_zero, List.set_cons_succ])
            refine wpAnyH_ready (rs := [1]) (by kernel_rfl) (by simp) ?_
            refine AllReadyH.cons (o := ({ dst := some 52, op := Op.call { callee := Callee.value (Operand.func 64), args := #[], argTypes := #[] }, type := 99, pos := "poly.go:72", after := #[], guard := none } : Oper)) rfl (fun K hK => ?_) AllReadyH.nil
            go_simp
            go_at_call 64
            refine (Q8.out _).mono ?_
            rintro e w18 ⟨rfl, hb18⟩
            have HB18 := Lib.hid (HB17.out.trans (hb18.mono HB17.out.size))
            have HG18_11 := Lib.hid (Below.blk hb18 HG17_11.out (blk_lt HG17_11.out))
            clear hb18
            (try dsimp only)
            refine hK.out _ _ (HB18.out) (fun hHeld => ?_)
            clear hK K
            (try simp only [Act.put, List.setIfInBounds_toArray, List.set_cons_zero, List.set_cons_succ])
            refine wpAnyH_ready (rs := [2]) (by kernel_rfl) (by simp) ?_
            refine AllReadyH.cons (o := ({ dst := some 53, op := Op.call { callee := Callee.value (Operand.func 63), args := #[Operand.tmp 51, Operand.tmp 52], argTypes := #[99, 99] }, type := 105, pos := "poly.go:72", after := #[{ on := 0, ground := Ground.data }, { on := 1, ground := Ground.data }, { on := 1, ground := Ground.chain }], guard := none } : Oper)) rfl (fun K hK => ?_) AllReadyH.nil
            go_simp
            go_at_call 63
            refine (Q4.out _).mono ?_
            rintro e w19 ⟨rfl, hb19⟩
            have HB19 := Lib.hid (HB18.out.trans (hb19.mono HB18.out.size))
            have HG19_11 := Lib.hid (Below.blk hb19 HG18_11.out (blk_lt HG18_11.out))
            clear hb19
            (try dsimp only)
            refine hK.out _ _ (HB19.out) (fun hHeld => ?_)
            clear hK K
            (try simp only [Act.put, List.setIfInBounds_toArray, List.set_cons_zero, List.set_cons_succ])
            refine wpAnyH_take (i := 3) (oi := ({ dst := some 50, op := Op.move (Operand.tmp 53), type := 105, pos := "poly.go:72", after := #[{ on := 2, ground := Ground.data }], guard := none } : Oper)) (v := ?v20) rfl (by kernel_rfl) (by kernel_rfl) (by kernel_rfl) (fun _ _ _ h => h) (Or.inl ⟨by rfl, ?hy20⟩) (by assumption) ?rest20
            case hy20 => (intro w hSw; (try dsimp only at hSw); go_simp; try (with_reducible rfl))
            (try simp only [Act.put, List.setIfInBounds_toArray, List.set_cons_zero, List.set_cons_succ])
            refine wpAnyH_take (i := 4) (oi := ({ dst := some 54, op := Op.extract (Operand.tmp 50) 0, type := 99, pos := "poly.go:72", after := #[{ on := 3, ground := Ground.data }], guard := none } : Oper)) (v := ?v21) rfl (by kernel_rfl) (by kernel_rfl) (by kernel_rfl) (fun _ _ _ h => h) (Or.inl ⟨by rfl, ?hy21⟩) (by assumption) ?rest21
            case hy21 => (intro w hSw; (try dsimp only at hSw); go_simp; try (with_reducible rfl))
            (try simp only [Act.put, List.setIfInBounds_toArray, List.set_cons_zero, List.set_cons_succ])
            refine wpAnyH_take (i := 5) (oi := ({ dst := some 55, op := Op.extract (Operand.tmp 50) 1, type := 82, pos := "poly.go:72", after := #[{ on := 3, ground := Ground.data }, { on := 7, ground := Ground.gcOnly Departure.lateStores }], guard := none } : Oper)) (v := ?v22) rfl (by kernel_rfl) (by kernel_rfl) (by kernel_rfl) (fun _ _ _ h => h) (Or.inl ⟨by rfl, ?hy22⟩) (by assumption) ?rest22
            case hy22 => (intro w hSw; (try dsimp only at hSw); go_simp; try (with_reducible rfl))
            (try simp only [Act.put, List.setIfInBounds_toArray, List.set_cons_zero, List.set_cons_succ])
            refine wpAnyH_ready (rs := [7]) (by kernel_rfl) (by simp) ?_
            refine AllReadyH.cons (o := ({ dst := none, op := Op.store 99 (Operand.tmp 11) (Operand.tmp 54), type := 0, pos := "poly.go:72", after := #[{ on := 6, ground := Ground.data }, { on := 4, ground := Ground.data }, { on := 2, ground := Ground.chain }, { on := 0, ground := Ground.phase }, { on := 1, ground := Ground.phase }, { on := 2, ground := Ground.phase }, { on := 3, ground := Ground.phase }, { on := 4, ground := Ground.phase }, { on := 5, ground := Ground.textOnly Departure.lateStores }, { on := 6, ground := Ground.phase }], guard := none } : Oper)) rfl (fun K hK => ?_) AllReadyH.nil
            refine step_store_whole rfl 99 (.tmp 11) (.tmp 54) rfl (w9.drew).heap.size _ _ _ HG19_11.out rfl rfl ((nar4 d4 LD.out).trans (nar4 zs HZL.out).symm) (nar4s d4 LD.out) (all_arr _ _) ?_
            intro w23 hb23 hk23 hz23
            have HB23 := Lib.hid (HB19.out.trans (hk23.toBelow HB19.out.size (by rintro i rfl; exact HB0.out.size)))
            have HG23_11 := Lib.hid hb23
            clear hb23 hk23 hz23
            refine hK.out _ _ (HB23.out) (fun hHeld => ?_)
            clear hK K
            (try simp only [Act.put])
            refine wpAnyH_take (i := 8) (oi := ({ dst := some 12, op := Op.assign (Operand.tmp 55), type := 82, pos := "poly.go:72", after := #[{ on := 5, ground := Ground.data }, { on := 7, ground := Ground.chain }, { on := 0, ground := Ground.phase }, { on := 1, ground := Ground.phase }, { on := 2, ground := Ground.phase }, { on := 3, ground := Ground.phase }, { on := 4, ground := Ground.phase }, { on := 5, ground := Ground.phase }, { on := 6, ground := Ground.phase }, { on := 7, ground := Ground.phase }], guard := none } : Oper)) (v := ?v24) rfl (by kernel_rfl) (by kernel_rfl) (by kernel_rfl) (fun _ _ _ h => h) (Or.inl ⟨by rfl, ?hy24⟩) (by assumption) ?rest24
            case hy24 => (intro w hSw; (try dsimp only at hSw); go_simp; try (with_reducible rfl))
            (try simp only [Act.put, List.setIfInBounds_toArray, List.set_cons_zero, List.set_cons_succ])
            refine wpAnyH_done (by kernel_rfl) ?_ _
            go_wp2_with fail
            go_meet
            exact ⟨_, rfl, rfl, HB0.out.size, HG23_11.out, HB23.out⟩
          exact AllReadyH.nil
        case rest =>
          obtain ⟨we, rfl⟩ : ∃ we : World, we = wc := ⟨_, rfl⟩
          obtain ⟨g11, rfl, rfl, hg11, hb11, hbw⟩ := hcut
          have HE := Lib.hid (HC9.out.after hbw)
          have hlt9 := blk_lt HG9.out
          have HG10 := Lib.hid (Below.blk hbw HG9.out hlt9)
          have HG11 := Lib.hid hb11
          clear hbw hb11
          go_upto_if 57 with fail
          go_cut [] (fun wx => wx.heap[g10]? = some (.cells (arr .u64 (nar a4)) 99 (0, 0)) ∧ B2 w wx (arr .u8 (nar ks)) (arr .u8 (nar zt)) 23 61)
          case first =>
            by_cases hc : F < 2 ^ 130 - 5
            · have h1 := HBO.out
              have h2 := HCASE.out
              rw [if_pos hc] at h1 h2
              have e1 : ((bo : Int) == 0) = false := by rw [h1]; rfl
              have HA4 := Lib.hid h2
              clear h1 h2 hc
              go_wp2_with fail
              go_meet
              exact ⟨by rw [HA4.out]; exact HG10.out, HE.out⟩
            · have h1 := HBO.out
              have h2 := HCASE.out
              rw [if_neg hc] at h1 h2
              have e1 : ((bo : Int) == 0) = true := by rw [h1]; rfl
              have HA4 := Lib.hid h2
              clear h1 h2 hc
              go_wp2_with (first | ((with_reducible show wpList _ _ _ (Oper.mk (some 58) _ _ _ _ _ :: _) _ _); refine wpList_load_part rfl 99 _ rfl g11 0 _ 99 (0, 0) _ HG11.out rfl .u64 (nar d4) (arr_part _ _) Try.underlying99 rfl (nar4i d4 LD.out) ?_) | ((with_reducible show wpList _ _ _ (Oper.mk none (Op.store _ (Operand.tmp 10) _) _ _ _ _ :: _) _ _); refine wpList_store_whole rfl 99 _ _ rfl g10 _ _ 99 HG10.out rfl rfl ((nar4 d4 LD.out).trans (nar4 f3 L3.out).symm) (nar4s d4 LD.out) (all_arr _ _) ?_; intro w8 hb8 hk8 hz8; have HC8 := Lib.hid (HE.out.farK hk8 (by rintro i rfl; omega)); have HG8 := Lib.hid hb8; clear hb8 hk8 hz8))
              go_meet
              exact ⟨by rw [HA4.out]; exact HG8.out, HC8.out⟩
          case rest =>
            obtain ⟨wf, rfl⟩ : ∃ wf : World, wf = wc := ⟨_, rfl⟩
            obtain ⟨hg, hB⟩ := hcut
            have hltg := blk_lt hg
            have HGA := Lib.hid hg
            have HBF := Lib.hid hB
            clear hg hB HE HG10 HG11 HBO HCASE
            have hat : ∀ (g : Nat) (w : World), (Instr.arrayAt 61 (.slice (some ⟨g, 0, none⟩) 16 32)).run Try.prog w = .ok (.pointer (some ⟨g, 0, none⟩)) w := fun g w => run_arrayAt (P := Try.prog) (w := w) 61 5 16 (some ⟨g, 0, none⟩) 16 32 Try.underlying61 (Nat.le_refl _)
            have HAT := Lib.hid hat
            clear hat
            go_wp2_with (first | ((with_reducible show wpList _ _ _ (Oper.mk (some 59) _ _ _ _ _ :: _) _ _); refine wpList_load_part rfl 23 _ rfl w.heap.size 0 _ 23 (0, 0) _ HBF.out.b0 rfl .u8 (nar ks) (arr_part _ _) Try.underlying23 rfl (nar32i ks LK.out) ?_) | ((with_reducible show Calls _ _ #[.agg (arr .u8 _)] _ _); go_at_call 65; refine (Q5.out _).mono ?_; rintro e wg ⟨rfl, hbw⟩; have HC1 := Lib.hid (HBF.out.after hbw); have HG1 := Lib.hid (Below.blk hbw HGA.out (blk_lt HGA.out)); have hl1 := blk_lt HC1.out.b1; have hl2 := blk_lt HG1.out; clear hbw) | ((with_reducible show wpList _ _ _ (Oper.mk (some 13) _ _ _ _ _ :: _) _ _); refine wpList_alloc_row rfl 99 rfl _ (HZ.out _) ?_; go_simp) | ((with_reducible show wpList _ _ _ (Oper.mk none (Op.store _ (Operand.tmp 13) _) _ _ _ _ :: _) _ _); refine wpList_store_whole rfl 99 _ _ rfl wg.heap.size _ _ 99 (blk_new _ _) rfl rfl ((nar4 n4 LN.out).trans (nar4 zs HZL.out).symm) (nar4s n4 LN.out) (all_arr _ _) ?_; intro wh hbh hkh hzh; have HC2 := Lib.hid ((HC1.out.alloc (.cells (arr .u64 (nar zs)) 99)).farK hkh (by rintro i rfl; omega)); have HG2 := Lib.hid (hkh.blk (blk_alloc HG1.out (.cells (arr .u64 (nar zs)) 99)) (by omega)); have y2 := blk_arr' hbh 2 (by rw [nar_len, LN.out]; omega); have y3 := blk_arr' hbh 3 (by rw [nar_len, LN.out]; omega); rw [N2.out] at y2; rw [N3.out] at y3; clear hbh hkh hzh) | ((with_reducible show wpList _ _ _ (Oper.mk (some 62) _ _ _ _ _ :: _) _ _); refine wpList_load_part rfl 99 _ rfl g10 0 _ 99 (0, 0) _ HG2.out rfl .u64 (nar a4) (arr_part _ _) Try.underlying99 rfl (nar4i a4 LA.out) ?_) | ((with_reducible show Calls _ _ #[.agg _, .agg _] _ _); go_at_call 66; rw [HHI.out]; refine (Q6.out _).mono ?_; rintro e wi ⟨rfl, hbw⟩; have HC3 := Lib.hid (HC2.out.after hbw); have HG3 := Lib.hid (Below.blk hbw HG2.out (blk_lt HG2.out)); clear hbw) | ((with_reducible show wpList _ _ _ (Oper.mk none (Op.store _ (Operand.tmp 10) _) _ _ _ _ :: _) _ _); refine wpList_store_whole rfl 99 _ _ rfl g10 _ _ 99 HG3.out rfl rfl ((nar4 o4 LO.out).trans (nar4 a4 LA.out).symm) (nar4s o4 LO.out) (all_arr _ _) ?_; intro wj hbj hkj hzj; have HC4 := Lib.hid (HC3.out.farK hkj (by rintro i rfl; omega)); have HG4 := Lib.hid hbj; clear hbj hkj hzj) | ((with_reducible show wpList _ _ _ (Oper.mk (some 71) _ _ _ _ _ :: _) _ _); refine wpList_load_part rfl 99 _ rfl g10 0 _ 99 (0, 0) _ HG4.out rfl .u64 (nar o4) (arr_part _ _) Try.underlying99 rfl (nar4i o4 LO.out) ?_) | ((with_reducible show Calls _ _ #[.agg _] wj _); go_at_call 67; refine (Q7.out _).mono ?_; rintro e wk ⟨rfl, hbw⟩; have HC5 := Lib.hid (HC4.out.after hbw); have hlk := blk_lt HC5.out.b1; have hak := HAT.out wk.heap.size; clear hbw) | ((with_reducible show wpList _ _ _ (Oper.mk (some 14) _ _ _ _ _ :: _) _ _); refine wpList_alloc_row rfl 23 rfl _ (HYB.out _) ?_; go_simp) | ((with_reducible show wpList _ _ _ (Oper.mk none (Op.store _ (Operand.tmp 14) _) _ _ _ _ :: _) _ _); refine wpList_store_whole rfl 23 _ _ rfl wk.heap.size _ _ 23 (blk_new _ _) rfl rfl ((nar32 t32 LT.out).trans (nar32 zb HZB.out).symm) (nar32s t32 LT.out) (all_arr _ _) ?_; intro wl hbl hkl hzl; have HC6 := Lib.hid ((HC5.out.alloc (.cells (arr .u8 (nar zb)) 23)).farK hkl (by rintro i rfl; omega)); have HG6 := Lib.hid hbl; clear hbl hkl hzl) | ((with_reducible show wpList _ _ _ (Oper.mk (some 75) _ _ _ _ _ :: _) _ _); refine wpList_load_part rfl 61 _ rfl wk.heap.size 0 _ 23 (0, 0) _ HG6.out rfl .u8 (nar tg) (by rw [List.drop_zero, arr_toList, nar_len, LG.out, ← List.map_take, HT16.out]) Try.underlying61 rfl (by rw [nar_len, LG.out]; kernel_rfl) ?_) | ((with_reducible show wpList _ _ _ (Oper.mk none (Op.store _ (Operand.tmp 4) _) _ _ _ _ :: _) _ _); refine wpList_store_whole rfl 61 _ _ rfl (w.heap.size + 1) _ _ 61 HC6.out.b1 rfl rfl (by rw [arr_size, arr_size, nar_len, nar_len, LG.out, HZT.out]) (by rw [arr_size, nar_len, LG.out]; kernel_rfl) (all_arr _ _) ?_; intro wm hbm hkm hzm; have HC7 := Lib.hid (HC6.out.put1 hkm hbm); clear hbm hkm hzm))
            (try simp only [Exit.inBlock, Exit.then])
            refine bodyPost_ret (results_cell_row rfl _ _ (w.heap.size + 1) 61 _ (0, 0) _ rfl HC7.out.b1 Try.underlying61 rfl (by rw [arr_size, nar_len, LG.out]; kernel_rfl)) rfl ?_
            exact ⟨by rw [HTG.out], HC7.out.below⟩
end Go.Proofs.Ytoljnogpegemjaa.Po
