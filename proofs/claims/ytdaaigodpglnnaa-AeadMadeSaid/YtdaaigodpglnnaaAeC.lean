/- The document's tag. Conditions: key of 32 bytes, nonce of 12; at most 2^38 bytes. -/
import Derived.Test.YtdaaigodpglnnaaAeB
import Derived.Test.YtdaaigodpglnnaaPorD
import Derived.Laws.CopyOwn
import Derived.StillTailTactics
namespace Go.Proofs.Ytdaaigodpglnnaa.Ae
open Go.RowKit Lm Po Ch

theorem zr_add (a b : Nat) (h : a % 16 = 0) : zr (a + b) = zr b := by unfold zr; omega
theorem zr_full (a : Nat) : (a + zr a) % 16 = 0 := by unfold zr; omega
/-- The document's way to what the tag is summed over. -/
theorem msg_ref (beside c : List Int) : ((((beside ++ List.replicate (zr beside.length) 0) ++ c) ++ List.replicate (zr ((beside ++ List.replicate (zr beside.length) 0) ++ c).length) 0) ++ le8 beside.length) ++ le8 c.length = msg beside c := by
  have h : zr ((beside ++ List.replicate (zr beside.length) 0) ++ c).length = zr c.length := by
    rw [List.length_append, List.length_append, List.length_replicate]
    exact zr_add _ _ (zr_full _)
  rw [h, msg]
  simp only [List.append_assoc]
theorem arrTag (xs : List Int) (hl : xs.length = 16) : (Try.prog.info? 51).map (·.size) = some (arr .u8 xs).size := by rw [arr_size, hl]; kernel_rfl
theorem arrSig (xs : List Int) (hl : xs.length = 64) : (Try.prog.info? 47).map (·.size) = some (arr .u8 xs).size := by rw [arr_size, hl]; kernel_rfl

theorem B3.of_below {w wr w' : World} {c0 c1 c2 : Array Value} {t0 t1 t2 : TypeId} {B b : Nat} (h : B3 w wr c0 c1 c2 t0 t1 t2) (h1 : b < B) (h2 : w.heap.size + 1 + 1 < b) (k : Below B wr w') : B3 w w' c0 c1 c2 t0 t1 t2 :=
  ⟨Below.blk k h.b0 (by omega), Below.blk k h.b1 (by omega), Below.blk k h.b2 (by omega), h.below.trans (k.mono (by omega))⟩

set_option maxRecDepth 100000 in
set_option maxHeartbeats 4000000 in
theorem rtag_any (key nonce c beside : List Int) (sc sb : Option Addr) (n1 n2 c1 c2 : Nat) (w : World) (hk : key.length = 32) (hn : nonce.length = 12) (bk : bytes key) (bn : bytes nonce) (hc : Src w sc n1 c) (hb : Src w sb n2 beside) (bc : bytes c) (bb : bytes beside) (l1 : n1 ≤ 274877906944) (l2 : n2 ≤ 274877906944) :
    Calls Try.prog 38 #[.agg (arr .u8 key), .agg (arr .u8 nonce), .slice sc n1 c1, .slice sb n2 c2] w fun e w' => e = .returned (.agg (arr .u8 (tag key nonce c beside))) ∧ Below w.heap.size w w' := by
  have hcl := hc.len
  have hbl := hb.len
  obtain ⟨zt, hzt⟩ : ∃ zs : List Int, zs = List.replicate 16 0 := ⟨_, rfl⟩
  have hyt : ∀ w, (zeroValue 51).run Try.prog w = .ok (.agg (arr .u8 zt)) w := by intro w; rw [hzt]; exact zeroTag w
  have hztl : zt.length = 16 := by rw [hzt]; rfl
  obtain ⟨zb, hzb⟩ : ∃ zs : List Int, zs = List.replicate 32 0 := ⟨_, rfl⟩
  have hyb : ∀ w, (zeroValue 35).run Try.prog w = .ok (.agg (arr .u8 zb)) w := by intro w; rw [hzb]; exact zero32' w
  have hzbl : zb.length = 32 := by rw [hzb]; rfl
  obtain ⟨zg, hzg⟩ : ∃ zs : List Int, zs = List.replicate 64 0 := ⟨_, rfl⟩
  have hyg : ∀ w, (zeroValue 47).run Try.prog w = .ok (.agg (arr .u8 zg)) w := by intro w; rw [hzg]; exact zero64 w
  have hzgl : zg.length = 64 := by rw [hzg]; rfl
  have M1 := fun w => rblock_any key nonce 0 w hk hn bk bn
  rw [show (0 : Int) % 4294967296 = 0 from rfl] at M1
  have hmsg := msg_ref beside c
  rw [hbl, hcl] at hmsg
  obtain ⟨tg, htg⟩ : ∃ x, x = tag key nonce c beside := ⟨_, rfl⟩
  have tgl : tg.length = 16 := by rw [htg, tag_len]
  obtain ⟨bl, hbl'⟩ : ∃ x, x = block key 0 nonce := ⟨_, rfl⟩
  have bll : bl.length = 64 := by rw [hbl', block_len]
  have blb : bytes bl := by rw [hbl']; exact bytes_block _ _ _
  obtain ⟨M, hM⟩ : ∃ x, x = msg beside c := ⟨_, rfl⟩
  have mb : bytes M := by rw [hM]; exact bytes_msg bb bc
  have ml : M.length ≤ 1099511627776 := by rw [hM]; have := msg_len beside c; omega
  obtain ⟨k32, hk32⟩ : ∃ x, x = bl.take 32 := ⟨_, rfl⟩
  have k32l : k32.length = 32 := by rw [hk32, List.length_take]; omega
  have k32b : bytes k32 := by rw [hk32]; exact bytes_take blb 32
  have htg2 : nar (tagP (toN k32) (toN M)) = tg := by rw [htg, tag, hk32, hbl', hM]
  have M5 := fun sa n cap w hs hn => poly_any sa n cap (toN k32) (toN M) w hs (toN_lt mb) (by rw [toN_len]; exact k32l) (toN_lt k32b) hn
  rw [toN_nar mb, toN_nar k32b, htg2] at M5
  rw [← hM] at hmsg
  rw [← hbl'] at M1
  rw [← htg]
  have S0 := B3.start w (arr .u8 key) (arr .u8 nonce) (arr .u8 zt) 35 37 51
  obtain ⟨cs, hcs⟩ : ∃ cs, cs = k32.map (Value.int .u8) := ⟨_, rfl⟩
  have csl : cs.length = 32 := by rw [hcs, List.length_map, k32l]
  have cso : ∀ v ∈ cs, v.oneCell' = true := by rw [hcs]; intro v hv; obtain ⟨y, _, rfl⟩ := List.mem_map.1 hv; rfl
  have hsp : (Go.splice (zb.map (Value.int .u8)) 0 cs).toArray = arr .u8 k32 := by
    unfold Go.splice arr
    rw [List.take_zero, List.nil_append, Nat.zero_add, csl, List.drop_of_length_le (by rw [List.length_map, hzbl]; exact Nat.le_refl _), List.append_nil, hcs]
  have hrg : ∀ (w' : World) (g : Nat), w'.heap[g]? = some (.cells (arr .u8 bl) 47 (0, 0)) → ∀ j v, cs[j]? = some v → w'.cell? (Addr.add ⟨g, 0, none⟩ j) = some v := by
    intro w' g hg j v hj
    have := range_part hg 0 cs (by rw [csl, List.drop_zero, arr_toList, ← List.map_take, ← hk32, hcs])
    have e : Addr.add ⟨g, 0, none⟩ j = ⟨g, 0 + j, none⟩ := by
      unfold Addr.add
      split
      · rename_i h0; rw [h0]
      · rfl
    rw [e]
    exact this j v hj
  obtain ⟨xa, hxa⟩ : ∃ x, x = beside ++ List.replicate (zr beside.length) 0 := ⟨_, rfl⟩
  obtain ⟨xb, hxb⟩ : ∃ x, x = xa ++ c := ⟨_, rfl⟩
  obtain ⟨xc, hxc⟩ : ∃ x, x = xb ++ List.replicate (zr xb.length) 0 := ⟨_, rfl⟩
  obtain ⟨xd, hxd⟩ : ∃ x, x = xc ++ le8 n2 := ⟨_, rfl⟩
  have hz1 : zr beside.length < 16 := Nat.mod_lt _ (by decide)
  have hz2 : zr xb.length < 16 := Nat.mod_lt _ (by decide)
  have xal : xa.length ≤ n2 + 16 := by rw [hxa, List.length_append, List.length_replicate]; omega
  have xbl : xb.length ≤ n1 + n2 + 16 := by rw [hxb, List.length_append]; omega
  have xcl : xc.length ≤ n1 + n2 + 32 := by rw [hxc, List.length_append, List.length_replicate]; omega
  have xdl : xd.length ≤ n1 + n2 + 40 := by rw [hxd, List.length_append, le8_len]; omega
  rw [← hbl, ← hxa, ← hxb, ← hxc, hbl, ← hxd] at hmsg
  have XA := Lib.hid hxa.symm
  have XB := Lib.hid hxb.symm
  have XC := Lib.hid hxc.symm
  have XD := Lib.hid hxd.symm
  have XE := Lib.hid hmsg
  have XAL := Lib.hid xal
  have XBL := Lib.hid xbl
  have XCL := Lib.hid xcl
  have XDL := Lib.hid xdl
  clear hxa hxb hxc hxd hz1 hz2 xal xbl xcl xdl
  have HS0 := Lib.hid S0
  have HK := Lib.hid hk
  have HN := Lib.hid hn
  have HC := Lib.hid hc
  have HB := Lib.hid hb
  have HCL := Lib.hid hcl
  have HBL := Lib.hid hbl
  have HYT := Lib.hid hyt
  have HZT := Lib.hid hztl
  have HYB := Lib.hid hyb
  have HZB := Lib.hid hzbl
  have HYG := Lib.hid hyg
  have HZG := Lib.hid hzgl
  have HM1 := Lib.hid M1
  have HM5 := Lib.hid M5
  have TGL := Lib.hid tgl
  have BLL := Lib.hid bll
  have ML := Lib.hid ml
  have K32L := Lib.hid k32l
  have CSL := Lib.hid csl
  have CSO := Lib.hid cso
  have HSP := Lib.hid hsp
  have HRG := Lib.hid hrg
  clear S0 hk hn hc hb hcl hbl hyt hztl hyb hzbl hyg hzgl M1 M5 hmsg tgl bll ml k32l csl cso hsp hrg hzt hzb hzg htg hbl' blb hM mb hk32 k32b htg2 bk bn bc bb hcs
  go_enter Try.func38, Try.ntmps38
  go_wp2_with (first | ((with_reducible show wpList _ _ _ (Oper.mk (some 8) _ _ _ _ _ :: _) _ _); refine wpList_alloc_row rfl 51 rfl _ (HYT.out _) ?_) | ((with_reducible show wpList _ _ _ (Oper.mk (some 12) _ _ _ _ _ :: _) _ _); refine wpList_load_part rfl 35 _ rfl w.heap.size 0 _ 35 (0, 0) _ HS0.out.b0 rfl .u8 key (arr_part _ _) Try.underlying35 rfl (by rw [HK.out]; exact size32) ?_) | ((with_reducible show wpList _ _ _ (Oper.mk (some 13) _ _ _ _ _ :: _) _ _); refine wpList_load_part rfl 37 _ rfl (w.heap.size + 1) 0 _ 37 (0, 0) _ HS0.out.b1 rfl .u8 nonce (arr_part _ _) Try.underlying37 rfl (by rw [HN.out]; exact size12) ?_) | ((with_reducible show Calls _ _ _ _ _); go_at_call 59; refine (HM1.out _).mono ?_; rintro e w1 ⟨rfl, hbw⟩; have HB1 := Lib.hid (HS0.out.after hbw); have hl1 := blk_lt HB1.out.b2; clear hbw) | ((with_reducible show wpList _ _ _ (Oper.mk (some 9) _ _ _ _ _ :: _) _ _); refine wpList_alloc_row rfl 47 rfl _ (HYG.out _) ?_; go_simp) | ((with_reducible show wpList _ _ _ (Oper.mk none (Op.store _ (Operand.tmp 9) _) _ _ _ _ :: _) _ _); refine wpList_store_whole rfl 47 _ _ rfl w1.heap.size _ _ 47 (blk_new _ _) rfl rfl (by rw [arr_size, arr_size, BLL.out, HZG.out]) (arrSig bl BLL.out) (all_arr _ _) ?_; intro w2 hb2 hk2 hz2; have HB2 := Lib.hid ((HB1.out.alloc (.cells (arr .u8 zg) 47)).farK hk2 (by rintro i rfl; omega)); have HG2 := Lib.hid hb2; have hl2 := blk_lt hb2; clear hb2 hk2 hz2) | ((with_reducible show wpList _ _ _ (Oper.mk (some 10) _ _ _ _ _ :: _) _ _); refine wpList_alloc_row rfl 35 rfl _ (HYB.out _) ?_))
  have HB3 := Lib.hid (HB2.out.alloc (.cells (arr .u8 zb) 35)).drew
  have HG3 : Hid ((w2.alloc (.cells (arr .u8 zb) 35)).drew.heap[w1.heap.size]? = some (.cells (arr .u8 bl) 47 (0, 0))) := Lib.hid (blk_alloc HG2.out (.cells (arr .u8 zb) 35))
  have HO3 : Hid ((w2.alloc (.cells (arr .u8 zb) 35)).drew.heap[w2.heap.size]? = some (.cells (arr .u8 zb) 35 (0, 0))) := Lib.hid (blk_new w2 (.cells (arr .u8 zb) 35))
  (try simp only [Act.put])
  go_still_tail 2, (by kernel_rfl)
  change wpList _ _ _ _ _ (w2.alloc (.cells (arr .u8 zb) 35)).drew
  generalize (w2.alloc (.cells (arr .u8 zb) 35)).drew = w3 at HB3 HG3 HO3 ⊢
  go_wp2_with (first | ((with_reducible show wpList _ _ _ (Oper.mk (some 17) _ _ _ _ _ :: _) _ _); refine wpList_copy_splice rfl (.tmp 15) (.tmp 16) 22 22 rfl 5 Try.underlying22 size_u8 _ _ _ _ _ _ rfl rfl w2.heap.size 0 (zb.map (Value.int .u8)) 35 HO3.out cs (by rw [CSL.out]; rfl) (fun _ => ⟨rfl, ⟨w1.heap.size, 0, none⟩, rfl, HRG.out _ _ HG3.out⟩) (by rw [CSL.out, List.length_map, HZB.out]; omega) CSO.out w2.heap.size w3 (Below.refl _ _) (Nat.le_refl _) ?_; intro w4 hb4 hw4; have hb4' := hb4.out; rw [HSP.out] at hb4'; have HO4 := Lib.hid hb4'; have HB4 := Lib.hid (B3.of_below HB3.out hl2 hl1 hw4); have hl4 := blk_lt hb4'; clear hb4 hb4' hw4) | ((with_reducible show wpList _ _ _ (Oper.mk (some 19) _ _ _ _ _ :: _) _ _); refine wpList_app8 rfl _ _ rfl w4.heap.size (.slice none 0 0) [] rfl (Own8.nil _ _) sb n2 c2 beside rfl (HB.out.below HB4.out.below) (by simp; omega) (Nat.le_refl _) ?_; intro v5 w5 ho5 hg5 hn5 ha5; rw [List.nil_append] at ho5; have HO5 := Lib.hid ho5; have HW5 := Lib.hid ((Below.refl w4.heap.size w4).grown hg5 (Nat.le_refl _) (fun k hk => by cases hk)); clear ho5 hg5 hn5 ha5) | ((with_reducible show Calls _ _ _ w5 _); go_at_call 60; refine (filled_any w4.heap.size v5 beside w5 HO5.out HW5.out.size (by rw [HBL.out]; omega)).mono ?_; rintro e w6 ⟨v6, rfl, ho6, hw6⟩; rw [XA.out] at ho6; have HO6 := Lib.hid ho6; have HW6 := Lib.hid (HW5.out.trans hw6); clear ho6 hw6) | ((with_reducible show wpList _ _ _ (Oper.mk (some 23) _ _ _ _ _ :: _) _ _); refine wpList_app8 rfl _ _ rfl w4.heap.size v6 xa rfl HO6.out sc n1 c1 c rfl ((HC.out.below HB4.out.below).below HW6.out) (by have := XAL.out; omega) HW6.out.size ?_; intro v7 w7 ho7 hg7 hn7 ha7; have hw7 := app8_below HO6.out hg7 HW6.out HW6.out.size; rw [XB.out] at ho7; have HO7 := Lib.hid ho7; have HW7 := Lib.hid hw7; clear ho7 hg7 hn7 ha7 hw7) | ((with_reducible show Calls _ _ _ w7 _); go_at_call 60; refine (filled_any w4.heap.size v7 xb w7 HO7.out HW7.out.size (by have := XBL.out; omega)).mono ?_; rintro e w8 ⟨v8, rfl, ho8, hw8⟩; rw [XC.out] at ho8; have HO8 := Lib.hid ho8; have HW8 := Lib.hid (HW7.out.trans hw8); clear ho8 hw8) | ((with_reducible show Calls _ _ _ w8 _); go_at_call 61; refine (length_any n2 (by omega) w8).mono ?_; rintro e w9 ⟨v9, rfl, ho9, hw9⟩; obtain ⟨s9, c9, hv9, -, -, hs9, -⟩ := ho9.form; rw [le8_len] at hv9 hs9; subst hv9; have HS9 := Lib.hid hs9; have HO9 := Lib.hid (HO8.out.below hw9); have HW9 := Lib.hid (HW8.out.trans (hw9.mono HW8.out.size)); clear ho9 hw9 hs9) | ((with_reducible show wpList _ _ _ (Oper.mk (some 29) _ _ _ _ _ :: _) _ _); refine wpList_app8 rfl _ _ rfl w4.heap.size v8 xc rfl HO9.out s9 8 c9 (le8 n2) rfl HS9.out (by have := XCL.out; omega) HW9.out.size ?_; intro va wa hoa hga hna haa; have hwa := app8_below HO9.out hga HW9.out HW9.out.size; rw [XD.out] at hoa; have HOa := Lib.hid hoa; have HWa := Lib.hid hwa; clear hoa hga hna haa hwa) | ((with_reducible show Calls _ _ _ wa _); go_at_call 61; refine (length_any n1 (by omega) wa).mono ?_; rintro e wb ⟨vb, rfl, hob, hwb⟩; obtain ⟨sb', cb, hvb, -, -, hsb, -⟩ := hob.form; rw [le8_len] at hvb hsb; subst hvb; have HSb := Lib.hid hsb; have HOb := Lib.hid (HOa.out.below hwb); have HWb := Lib.hid (HWa.out.trans (hwb.mono HWa.out.size)); clear hob hwb hsb) | ((with_reducible show wpList _ _ _ (Oper.mk (some 33) _ _ _ _ _ :: _) _ _); refine wpList_app8 rfl _ _ rfl w4.heap.size va xd rfl HOb.out sb' 8 cb (le8 n1) rfl HSb.out (by have := XDL.out; omega) HWb.out.size ?_; intro vc wc hoc hgc hnc hac; have hwc := app8_below HOb.out hgc HWb.out HWb.out.size; rw [XE.out] at hoc; obtain ⟨sm, cm, hvm, -, -, hsm, -⟩ := hoc.form; subst hvm; have HSM := Lib.hid hsm; have HWc := Lib.hid hwc; have HBc := Lib.hid (HB4.out.after hwc); have HOc := Lib.hid (Below.blk hwc HO4.out hl4); clear hoc hgc hnc hac hwc hsm) | ((with_reducible show wpList _ _ _ (Oper.mk (some 34) _ _ _ _ _ :: _) _ _); refine wpList_load_part rfl 35 _ rfl w2.heap.size 0 _ 35 (0, 0) _ HOc.out rfl .u8 k32 (arr_part _ _) Try.underlying35 rfl (by rw [K32L.out]; exact size32) ?_) | ((with_reducible show Calls _ _ _ wc _); go_at_call 62; refine (HM5.out _ _ _ _ HSM.out ML.out).mono ?_; rintro e wd ⟨rfl, hbw⟩; have HBd := Lib.hid (HBc.out.after hbw); clear hbw) | ((with_reducible show wpList _ _ _ (Oper.mk none (Op.store _ (Operand.tmp 8) _) _ _ _ _ :: _) _ _); refine wpList_store_whole rfl 51 _ _ rfl (w.heap.size + 1 + 1) _ _ 51 HBd.out.b2 rfl rfl (by rw [arr_size, arr_size, TGL.out, HZT.out]) (arrTag tg TGL.out) (all_arr _ _) ?_; intro we hbe hke hze; have HBe := Lib.hid (HBd.out.put2 hke hbe); clear hbe hke hze))
  (try simp only [Exit.inBlock, Exit.then])
  refine bodyPost_ret (results_cell_row rfl _ _ (w.heap.size + 1 + 1) 51 _ (0, 0) _ rfl HBe.out.b2 Try.underlying51 rfl (arrTag tg TGL.out)) rfl ?_
  exact ⟨rfl, HBe.out.below⟩
end Go.Proofs.Ytdaaigodpglnnaa.Ae
