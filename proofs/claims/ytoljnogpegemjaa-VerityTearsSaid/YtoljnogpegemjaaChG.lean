/- The document's Turn: what it answers. Condition: the key has 32 bytes, the nonce 12; the bytes are at most 2^40. -/
import Derived.Test.YtoljnogpegemjaaChF
namespace Go.Proofs.Ytoljnogpegemjaa.Ch
open Go.RowKit

theorem Own8.row {w : World} {B : Nat} {va : Option Addr} {n vc : Nat} {xs : List Int} (h : Own8 w B (.slice va n vc) xs) (hp : 0 < xs.length) :
    ∃ g sp, va = some ⟨g, 0, none⟩ ∧ B ≤ g ∧ w.heap[g]? = some (.cells (row8 xs sp) 5 (0, 0)) ∧ n = xs.length ∧ vc = xs.length + sp.length ∧ vc ≤ maxLen := by
  have hv : Value.slice va n vc ≠ .slice none 0 0 := by
    intro e
    obtain ⟨sa, c, hf, -⟩ := h.form
    rw [e] at hf
    injection hf with _ h2 _
    omega
  obtain ⟨g, cap, sp, e, hB, hg, hc, hm⟩ := Owns.of_row h hv
  cases e
  exact ⟨g, sp, rfl, hB, hg, rfl, hc, hm⟩

set_option maxRecDepth 100000 in
set_option maxHeartbeats 2000000 in
theorem rturn_pos (sa : Option Addr) (n cap : Nat) (xs key nonce : List Int) (c : Int) (w : World) (hs : Src w sa n xs) (hk : key.length = 32) (hn : nonce.length = 12) (bk : bytes key) (bn : bytes nonce) (hln : n ≤ 1099511627776) (hpos : 0 < n) :
    Calls Try.prog 26 #[.agg (arr .u8 key), .int .i64 c, .agg (arr .u8 nonce), .slice sa n cap] w fun e w' => ∃ v, e = .returned v ∧ Own8 w' w.heap.size v (turn key c nonce xs) ∧ Below w.heap.size w w' := by
  have z64 := zero64
  have hand := and32i c
  have e1 : ∀ o, (w.alloc o).heap.size = w.heap.size + 1 := by simp
  have e2 : ∀ o p, ((w.alloc o).alloc p).heap.size = w.heap.size + 1 + 1 := by simp
  obtain ⟨wA, hwA⟩ : ∃ wA, wA = (w.alloc (.cells (arr .u8 key) 23)).alloc (.cells (arr .u8 nonce) 46) := ⟨_, rfl⟩
  have a1 : wA.heap[w.heap.size]? = some (.cells (arr .u8 key) 23 (0, 0)) := by rw [hwA]; exact blk_alloc (blk_new w _) _
  have a2 : wA.heap[w.heap.size + 1]? = some (.cells (arr .u8 nonce) 46 (0, 0)) := by rw [hwA, ← e1 (.cells (arr .u8 key) 23)]; exact blk_new _ _
  have a3 : Below w.heap.size w wA := by rw [hwA]; exact ((Below.refl _ w).alloc (Nat.le_refl _) _).alloc (by rw [e1]; omega) _
  have a4 : wA.heap.size = w.heap.size + 1 + 1 := by rw [hwA, e2]
  obtain ⟨T, hT⟩ : ∃ T, T = turn key c nonce xs := ⟨_, rfl⟩
  have hTl : T.length = n := by rw [hT, turn_len]; exact hs.len
  have hTa : ∀ i, i < n → T.getD i 0 = bits .xor .u8 (xs.getD i 0) ((block key ((c + (i / 64 : Nat)) % 4294967296) nonce).getD (i % 64) 0) := fun i hi => by rw [hT]; exact turn_at _ _ _ _ _ (by rw [hs.len]; exact hi)
  have p1 : ((arr .u8 key).toList.drop 0).take key.length = key.map (Value.int .u8) := by rw [List.drop_zero, arr_toList, List.take_of_length_le (by simp)]
  have p2 : ((arr .u8 nonce).toList.drop 0).take nonce.length = nonce.map (Value.int .u8) := by rw [List.drop_zero, arr_toList, List.take_of_length_le (by simp)]
  have z1 : (Try.prog.info? 23).map (·.size) = some key.length := by rw [hk]; exact size32
  have z2 : (Try.prog.info? 46).map (·.size) = some nonce.length := by rw [hn]; exact size12
  have hsA := hs.below (a3.mono (Nat.le_refl _))
  have HXL := Lib.hid hs.len
  have A1 := Lib.hid a1
  have A2 := Lib.hid a2
  have A3 := Lib.hid a3
  have A4 := Lib.hid a4
  have HWA := Lib.hid hwA
  have HTA := Lib.hid hTa
  have HT := Lib.hid hT
  have HTL := Lib.hid hTl
  have HS := Lib.hid hsA
  have HK := Lib.hid hk
  have HN := Lib.hid hn
  have BK := Lib.hid bk
  have BN := Lib.hid bn
  have P1 := Lib.hid p1
  have P2 := Lib.hid p2
  have Z1 := Lib.hid z1
  have Z2 := Lib.hid z2
  have c1 : 0 ≤ c % 4294967296 := by omega
  have c2 : c % 4294967296 ≤ 4294967295 := by omega
  have c3 : ∀ j : Nat, (c % 4294967296 + (j : Int) / 64) % 4294967296 = (c + (j / 64 : Nat)) % 4294967296 := by intro j; omega
  have C3 := Lib.hid c3
  clear hwA hT hTl hs hk hn bk bn p1 p2 z1 z2 hTa hsA a1 a2 a3 a4 e1 e2 c3
  generalize hcc : c % 4294967296 = cc at hand c1 c2 C3
  clear hcc
  go_enter Try.func26, Try.ntmps26
  go_wp2_with (first | ((with_reducible show wpList _ _ _ (Oper.mk (some 14) _ _ _ _ _ :: _) _ _); rw [← HWA.out]; refine wpList_app8 rfl (.const (.slice none 0 0)) (.tmp 13) rfl (w.heap.size + 1 + 1) (.slice none 0 0) [] rfl (Own8.nil _ _) sa n cap xs rfl HS.out (by simp; omega) (by rw [A4.out]; omega) ?_; intro v1 w1 ho1 hg1 hn1 hb1; have hbel := app8_below (w0 := wA) (Own8.nil wA (w.heap.size + 1 + 1)) hg1 (Below.refl _ _) (by rw [A4.out]; omega); obtain ⟨va, vc, hv, -⟩ := ho1.form; rw [List.nil_append, HXL.out] at hv; rw [List.nil_append] at ho1; subst hv; obtain ⟨g, sp, rfl, hBg, hbo, -, hvc, hvm⟩ := Own8.row ho1 (by rw [HXL.out]; exact hpos); have HBEL := Lib.hid hbel; have HBO := Lib.hid hbo; have HBG := Lib.hid hBg; have HVC := Lib.hid (And.intro hvc hvm); clear ho1 hg1 hn1 hb1 hbel hBg hbo hvc hvm) | ((with_reducible show wpList _ _ _ (Oper.mk (some 11) _ _ _ _ _ :: _) _ _); refine wpList_alloc_row rfl 75 rfl _ (zero64 _) ?_))
  have HB0 : Hid (Tk w (w1.alloc (.cells (arr .u8 (List.replicate 64 0)) 75)) key nonce g w1.heap.size sp xs (List.replicate 64 0)) := Lib.hid (by
    have hl := blk_lt HBO.out
    have hg := HBG.out
    refine ⟨blk_alloc (Below.blk HBEL.out A1.out (by omega)) _, blk_alloc (Below.blk HBEL.out A2.out (by omega)) _, blk_alloc HBO.out _, blk_new _ _, ?_, by omega, by omega, by omega⟩
    have := A3.out.trans (HBEL.out.mono (by omega))
    exact this.alloc this.size _)
  clear HBEL HBO A1 A2 A3 A4 HWA HS
  generalize w1.heap.size = ob at HB0 ⊢
  clear hand
  go_loopw [12] (fun i wr => ∃ (j : Nat) (st : List Int), j ≤ n ∧ i = .int .i64 j ∧ Begun key c nonce st j ∧ Tk w wr key nonce g ob sp (T.take j ++ xs.drop j) st) (fun i _ => n - (intOf i).toNat)
  case atStart => exact ⟨0, List.replicate 64 0, Nat.zero_le _, rfl, ⟨by simp, fun h => absurd rfl h⟩, by simpa using HB0.out⟩
  clear HB0
  case round =>
  obtain ⟨j, st, hj, rfl, hbg, hB⟩ := hrel
  by_cases hlt : j < n
  · have HB := Lib.hid hB
    have HBGN := Lib.hid hbg
    have HX := Lib.hid (HTA.out j hlt)
    have HL := Lib.hid (mix_len T xs j n HTL.out HXL.out (by omega))
    clear hB hbg
    have HG := Lib.hid (mix_get T xs j n HTL.out HXL.out hlt)
    generalize xs.getD j 0 = x at HX HG
    by_cases h64 : j % 64 = 0
    · have h64' : (j : Int) % 64 = 0 := by omega
      go_wp2_with (first | ((with_reducible show wpList _ _ _ (Oper.mk (some 26) _ _ _ _ _ :: _) _ _); refine wpList_load_part rfl 23 _ rfl w.heap.size 0 _ 23 (0, 0) _ HB.out.bk rfl .u8 key P1.out Try.underlying23 rfl Z1.out ?_) | ((with_reducible show wpList _ _ _ (Oper.mk (some 31) _ _ _ _ _ :: _) _ _); refine wpList_load_part rfl 46 _ rfl (w.heap.size + 1) 0 _ 46 (0, 0) _ HB.out.bn rfl .u8 nonce P2.out Try.underlying46 rfl Z2.out ?_) | (go_at_call 38; refine (rblock_any key nonce (cc + (j : Int) / 64) wr HK.out HN.out BK.out BN.out).mono ?_; rintro e w1 ⟨rfl, hb1⟩; have HB1 := Lib.hid (HB.out.after hb1); clear hb1) | ((with_reducible show wpList _ _ _ (Oper.mk none (.store _ (.tmp 11) _) _ _ _ _ :: _) _ _); refine wpList_store_whole rfl 75 _ _ rfl ob _ _ 75 HB1.out.bs rfl rfl (by rw [arr_size, arr_size, block_len, HBGN.out.1]) (by rw [arr_size, block_len]; exact size64) (all_arr _ _) ?_; intro w2 hb2 hk2 hz2; have hT2 := HB1.out.fresh hk2 hb2; obtain ⟨sb, hsb⟩ : ∃ sb, sb = block key ((cc + (j : Int) / 64) % 4294967296) nonce := ⟨_, rfl⟩; rw [← hsb] at hT2; have hsl : sb.length = 64 := by { rw [hsb]; exact block_len _ _ _ }; have hse : sb = block key ((c + (j / 64 : Nat)) % 4294967296) nonce := by { rw [hsb, C3.out] }; have HSL := Lib.hid hsl; have HSE := Lib.hid hse; have HT2 := Lib.hid hT2; have q1 := blk_arr hT2.bs (j % 64) (by rw [hsl]; omega); have q2 := free_blk hT2.bo j; have q3 := (cell_blk hT2.bo j).trans (row8_get _ _ j (by rw [HL.out]; exact hlt)); rw [HG.out] at q3; have HQ := Lib.hid (HX.out); rw [← hse, h64] at HQ; rw [h64] at q1; clear hb2 hk2 hz2 hT2 hsb hsl hse; generalize sb.getD 0 0 = y at q1 HQ))
      simp only [Act.put]
      go_region
      have HT3 := Lib.hid (HT2.out.set j (bits .xor .u8 x y) (by rw [HL.out]; exact hlt)).drew
      rw [mix_set T xs j n _ HTL.out HXL.out hlt HQ.out.symm] at HT3
      clear q1 q2 q3 HB HB1 HT2
      go_wp2_with fail
      go_roundw
      case rel =>
        refine ⟨j + 1, sb, by omega, by go_num, ⟨HSL.out, fun _ => ?_⟩, HT3.out⟩
        rw [HSE.out, show (j + 1) / 64 = j / 64 by omega]
      case measure => simp [intOf]; omega
    · have h64' : (j : Int) % 64 ≠ 0 := by omega
      have hse := HBGN.out.2 h64
      have HQ := Lib.hid (HX.out)
      rw [← hse] at HQ
      have q1 := blk_arr HB.out.bs (j % 64) (by rw [HBGN.out.1]; omega)
      have q2 := free_blk HB.out.bo j
      have q3 := (cell_blk HB.out.bo j).trans (row8_get _ _ j (by rw [HL.out]; exact hlt))
      rw [HG.out] at q3
      have HSE := Lib.hid hse
      clear hse
      generalize hy : st.getD (j % 64) 0 = y at q1 HQ
      clear hy
      go_wp2_with fail
      go_region
      have HT3 := Lib.hid (HB.out.set j (bits .xor .u8 x y) (by rw [HL.out]; exact hlt)).drew
      rw [mix_set T xs j n _ HTL.out HXL.out hlt HQ.out.symm] at HT3
      clear q1 q2 q3 HB
      go_wp2_with fail
      go_roundw
      case rel =>
        refine ⟨j + 1, st, by omega, by go_num, ⟨HBGN.out.1, fun h => ?_⟩, HT3.out⟩
        rw [HSE.out, show (j + 1) / 64 = j / 64 by omega]
      case measure => simp [intOf]; omega
  · have e9 : j = n := by omega
    rw [e9, List.take_of_length_le (by rw [HTL.out]; omega), List.drop_eq_nil_of_le (by rw [HXL.out]; omega), List.append_nil] at hB
    have HB := Lib.hid hB
    clear hB e9
    go_wp2_with fail
    go_ret
    rw [← HT.out]
    refine ⟨.slice (some ⟨g, 0, none⟩) n vc, rfl, Own8.of_owns ?_, HB.out.below⟩
    have hv := HVC.out
    have hg := HB.out.lg
    exact ⟨g, vc, sp, by rw [HTL.out], by omega, HB.out.bo, by rw [HTL.out, hv.1, HXL.out], hv.2⟩

set_option maxRecDepth 100000 in
theorem rturn_nil (sa : Option Addr) (cap : Nat) (key nonce : List Int) (c : Int) (w : World) :
    Calls Try.prog 26 #[.agg (arr .u8 key), .int .i64 c, .agg (arr .u8 nonce), .slice sa 0 cap] w fun e w' => ∃ v, e = .returned v ∧ Own8 w' w.heap.size v [] ∧ Below w.heap.size w w' := by
  have z64 := zero64
  have hand := and32i c
  have c1 : 0 ≤ c % 4294967296 := by omega
  have c2 : c % 4294967296 ≤ 4294967295 := by omega
  generalize hcc : c % 4294967296 = cc at hand c1 c2
  clear hcc
  have e1 : ∀ o, (w.alloc o).heap.size = w.heap.size + 1 := by simp
  have e2 : ∀ o p, ((w.alloc o).alloc p).heap.size = w.heap.size + 1 + 1 := by simp
  have a3 : Below w.heap.size w ((w.alloc (.cells (arr .u8 key) 23)).alloc (.cells (arr .u8 nonce) 46)) := ((Below.refl _ w).alloc (Nat.le_refl _) _).alloc (by rw [e1]; omega) _
  have hs : Src ((w.alloc (.cells (arr .u8 key) 23)).alloc (.cells (arr .u8 nonce) 46)) sa 0 [] := ⟨rfl, fun i hi => absurd hi (by omega)⟩
  have HS := Lib.hid hs
  have A3 := Lib.hid a3
  have E2 := Lib.hid e2
  clear hs a3 e1 e2
  go_enter Try.func26, Try.ntmps26
  go_wp2_with (first | ((with_reducible show wpList _ _ _ (Oper.mk (some 14) _ _ _ _ _ :: _) _ _); refine wpList_app8 rfl (.const (.slice none 0 0)) (.tmp 13) rfl (w.heap.size + 1 + 1) (.slice none 0 0) [] rfl (Own8.nil _ _) sa 0 cap [] rfl HS.out (by simp) (by rw [E2.out]; omega) ?_; intro v1 w1 ho1 hg1 hn1 hb1; have hv := hn1.2 ⟨rfl, rfl⟩; subst hv; have hbel := A3.out.trans ((app8_below (Own8.nil _ (w.heap.size + 1 + 1)) hg1 (Below.refl _ _) (by rw [E2.out]; omega)).mono (by omega)); have HBEL := Lib.hid hbel; clear ho1 hg1 hn1 hb1 hbel) | ((with_reducible show wpList _ _ _ (Oper.mk (some 11) _ _ _ _ _ :: _) _ _); refine wpList_alloc_row rfl 75 rfl _ (zero64 _) ?_))
  have HB0 := Lib.hid (HBEL.out.alloc HBEL.out.size (.cells (arr .u8 (List.replicate 64 0)) 75))
  clear hand HBEL HS A3 E2
  go_loopw [12] (fun i wr => i = .int .i64 0 ∧ Below w.heap.size w wr) (fun i _ => 0)
  case atStart => exact ⟨rfl, HB0.out⟩
  clear HB0
  case round =>
  obtain ⟨rfl, hB⟩ := hrel
  go_wp2_with fail
  go_ret
  exact ⟨.slice none 0 0, rfl, Own8.nil _ _, hB⟩

theorem rturn_any (sa : Option Addr) (n cap : Nat) (xs key nonce : List Int) (c : Int) (w : World) (hs : Src w sa n xs) (hk : key.length = 32) (hn : nonce.length = 12) (bk : bytes key) (bn : bytes nonce) (hln : n ≤ 1099511627776) :
    Calls Try.prog 26 #[.agg (arr .u8 key), .int .i64 c, .agg (arr .u8 nonce), .slice sa n cap] w fun e w' => ∃ v, e = .returned v ∧ Own8 w' w.heap.size v (turn key c nonce xs) ∧ Below w.heap.size w w' := by
  rcases Nat.eq_zero_or_pos n with h0 | h0
  · have hx : xs = [] := List.eq_nil_of_length_eq_zero (hs.len.trans h0)
    subst hx h0
    have e : turn key c nonce [] = [] := by simp [turn]
    rw [e]
    exact rturn_nil sa cap key nonce c w
  · exact rturn_pos sa n cap xs key nonce c w hs hk hn bk bn hln h0

end Go.Proofs.Ytoljnogpegemjaa.Ch
