/- aead.tag. Conditions: key of 32 bytes, nonce of 12; at most 2^38 bytes. -/
import Derived.Test.YtoljnogpegemjaaM6
import Derived.Test.YtoljnogpegemjaaM3
import Derived.Laws.Cover3
namespace Go.Proofs.Ytoljnogpegemjaa.Ae
open Go.RowKit Lm Po Ch

/-- A list of lists out of what its places say. -/
theorem src_list {w : World} (ps : List (Option Addr × Nat × Nat × List Int)) (h : ∀ p ∈ ps, Src w p.1 p.2.1 p.2.2.2 ∧ p.2.1 ≤ p.2.2.1) :
    SrcL (w.alloc (.cells (ps.map fun p => Value.slice p.1 p.2.1 p.2.2.1).toArray 24)) (some ⟨w.heap.size, 0, none⟩) ps.length (ps.map fun p => p.2.2.2) := by
  have hb := blk_new w (.cells (ps.map fun p => Value.slice p.1 p.2.1 p.2.2.1).toArray 24)
  have hbl := (Below.refl _ w).alloc (Nat.le_refl _) (.cells (ps.map fun p => Value.slice p.1 p.2.1 p.2.2.1).toArray 24)
  refine ⟨by rw [List.length_map], fun i hi => ?_⟩
  have e1 : (⟨w.heap.size, 0, none⟩ : Addr).add i = ⟨w.heap.size, i, none⟩ := by unfold Addr.add; split <;> simp_all
  obtain ⟨h1, h2⟩ := h ps[i] (List.getElem_mem hi)
  have e2 : (ps.map fun p => p.2.2.2).getD i [] = ps[i].2.2.2 := by simp [List.getD, hi]
  refine ⟨_, ps[i].1, ps[i].2.2.1, rfl, ?_, ?_, ?_⟩
  · rw [e1, cell_blk hb, e2, h1.len]
    simp [hi]
  · rw [e2, h1.len]; exact h2
  · rw [e2, h1.len]; exact h1.below hbl
theorem msg_flat (beside c : List Int) : [beside, List.replicate (zr beside.length) 0, c, List.replicate (zr c.length) 0, le8 beside.length, le8 c.length].flatten = msg beside c := by
  simp only [List.flatten_cons, List.flatten_nil, List.append_nil, msg]

set_option maxRecDepth 100000 in
set_option maxHeartbeats 4000000 in
theorem tag_any (key nonce c beside : List Int) (sc sb : Option Addr) (n1 n2 c1 c2 : Nat) (w : World) (hk : key.length = 32) (hn : nonce.length = 12) (bk : bytes key) (bn : bytes nonce) (hc : Src w sc n1 c) (hb : Src w sb n2 beside) (bc : bytes c) (bb : bytes beside) (l1 : n1 ≤ 274877906944) (l2 : n2 ≤ 274877906944) (k1 : n1 ≤ c1) (k2 : n2 ≤ c2) :
    Calls Try.prog 44 #[.agg (arr .u8 key), .agg (arr .u8 nonce), .slice sc n1 c1, .slice sb n2 c2] w fun e w' => e = .returned (.agg (arr .u8 (tag key nonce c beside))) ∧ Below w.heap.size w w' := by
  have hcl := hc.len
  have hbl := hb.len
  obtain ⟨zt, hzt⟩ : ∃ zs : List Int, zs = List.replicate 16 0 := ⟨_, rfl⟩
  have hyt : ∀ w, (zeroValue 61).run Try.prog w = .ok (.agg (arr .u8 zt)) w := by intro w; rw [hzt]; exact zeroTag w
  have hztl : zt.length = 16 := by rw [hzt]; rfl
  obtain ⟨zg, hzg⟩ : ∃ zs : List Int, zs = List.replicate 64 0 := ⟨_, rfl⟩
  have hyg : ∀ w, (zeroValue 75).run Try.prog w = .ok (.agg (arr .u8 zg)) w := by intro w; rw [hzg]; exact zero64 w
  have hzgl : zg.length = 64 := by rw [hzg]; rfl
  have M1 := fun w => block_any key nonce 0 w hk hn bk bn
  rw [show (0 : Int) % 4294967296 = 0 from rfl] at M1
  have hmsg := msg_flat beside c
  rw [hbl, hcl] at hmsg
  obtain ⟨tg, htg⟩ : ∃ x, x = tag key nonce c beside := ⟨_, rfl⟩
  have tgl : tg.length = 16 := by rw [htg, tag_len]
  obtain ⟨bl, hbl'⟩ : ∃ x, x = block key 0 nonce := ⟨_, rfl⟩
  have bll : bl.length = 64 := by rw [hbl', block_len]
  have blb : bytes bl := by rw [hbl']; exact bytes_block _ _ _
  obtain ⟨M, hM⟩ : ∃ x, x = msg beside c := ⟨_, rfl⟩
  have mb : bytes M := by rw [hM]; exact bytes_msg bb bc
  have ml : M.length ≤ 1099511627776 := by rw [hM]; have := msg_len beside c; omega
  obtain ⟨k32, hk32⟩ : ∃ x, x = bl.take 32 := ⟨_, rfl⟩
  have k32l : k32.length = 32 := by rw [hk32, List.length_take]; omega
  have k32b : bytes k32 := by rw [hk32]; exact bytes_take blb 32
  have htg2 : nar (tagP (toN k32) (toN M)) = tg := by rw [htg, tag, hk32, hbl', hM]
  obtain ⟨z1, hz1⟩ : ∃ x : List Int, x = List.replicate (zr n2) 0 := ⟨_, rfl⟩
  obtain ⟨z2, hz2⟩ : ∃ x : List Int, x = List.replicate (zr n1) 0 := ⟨_, rfl⟩
  obtain ⟨e1, he1⟩ : ∃ x : List Int, x = le8 n2 := ⟨_, rfl⟩
  obtain ⟨e2, he2⟩ : ∃ x : List Int, x = le8 n1 := ⟨_, rfl⟩
  rw [← hM, ← hz1, ← hz2, ← he1, ← he2] at hmsg
  have M5 := fun sa n cap w hs hn => sum_any sa n cap [beside, z1, c, z2, e1, e2] (toN k32) (toN M) w hs (by rw [toN_nar mb, hmsg]) (toN_lt mb) (by rw [toN_len]; exact k32l) (toN_lt k32b) (by rw [hmsg]; omega) hn
  rw [toN_nar k32b, htg2] at M5
  have R1 := fun w => rest_any n2 (by omega) w
  have R2 := fun w => rest_any n1 (by omega) w
  have R3 := fun w => eight_any n2 w
  have R4 := fun w => eight_any n1 w
  rw [← hz1] at R1
  rw [← hz2] at R2
  rw [← he1] at R3
  rw [← he2] at R4
  obtain ⟨y1, hy1⟩ : ∃ x, x = zr n2 := ⟨_, rfl⟩
  obtain ⟨y2, hy2⟩ : ∃ x, x = zr n1 := ⟨_, rfl⟩
  rw [← hy1] at R1
  rw [← hy2] at R2
  rw [← hbl'] at M1
  rw [← htg]
  have S0 := B3.start w (arr .u8 key) (arr .u8 nonce) (arr .u8 zt) 23 46 61
  have hbt : bl.take 32 = k32 := hk32.symm
  have HS0 := Lib.hid S0
  have HK := Lib.hid hk
  have HN := Lib.hid hn
  have HC := Lib.hid hc
  have HB := Lib.hid hb
  have HYT := Lib.hid hyt
  have HZT := Lib.hid hztl
  have HYG := Lib.hid hyg
  have HZG := Lib.hid hzgl
  have HM1 := Lib.hid M1
  have HM5 := Lib.hid M5
  have HR1 := Lib.hid R1
  have HR2 := Lib.hid R2
  have HR3 := Lib.hid R3
  have HR4 := Lib.hid R4
  have TGL := Lib.hid tgl
  have BLL := Lib.hid bll
  have K32L := Lib.hid k32l
  have BLT := Lib.hid hbt
  have KA := Lib.hid k1
  have KB := Lib.hid k2
  clear S0 hk hn hc hb hcl hbl hyt hztl hyg hzgl M1 M5 R1 R2 R3 R4 hmsg tgl bll ml k32l hzt hzg htg hbl' blb hM mb hk32 k32b htg2 bk bn bc bb hz1 hz2 he1 he2 hy1 hy2 hbt k1 k2
  have hat : ∀ (g : Nat) (w : World), (Instr.arrayAt 23 (.slice (some ⟨g, 0, none⟩) 32 64)).run Try.prog w = .ok (.pointer (some ⟨g, 0, none⟩)) w := fun g w => run_arrayAt (P := Try.prog) (w := w) 23 5 32 (some ⟨g, 0, none⟩) 32 64 Try.underlying23 (Nat.le_refl _)
  have HAT := Lib.hid hat
  clear hat
  go_enter Try.func44, Try.ntmps44
  go_upto_region 2 with (first | ((with_reducible show wpList _ _ _ (Oper.mk (some 8) _ _ _ _ _ :: _) _ _); refine wpList_alloc_row rfl 61 rfl _ (HYT.out _) ?_) | ((with_reducible show wpList _ _ _ (Oper.mk (some 10) _ _ _ _ _ :: _) _ _); refine wpList_load_part rfl 23 _ rfl w.heap.size 0 _ 23 (0, 0) _ HS0.out.b0 rfl .u8 key (arr_part _ _) Try.underlying23 rfl (by rw [HK.out]; exact size32) ?_) | ((with_reducible show wpList _ _ _ (Oper.mk (some 11) _ _ _ _ _ :: _) _ _); refine wpList_load_part rfl 46 _ rfl (w.heap.size + 1) 0 _ 46 (0, 0) _ HS0.out.b1 rfl .u8 nonce (arr_part _ _) Try.underlying46 rfl (by rw [HN.out]; exact size12) ?_) | ((with_reducible show Calls _ _ _ _ _); go_at_call 51; refine (HM1.out _).mono ?_; rintro e w1 ⟨rfl, hbw⟩; have HB1 := Lib.hid (HS0.out.after hbw); have hl1 := blk_lt HB1.out.b2; clear hbw) | ((with_reducible show wpList _ _ _ (Oper.mk (some 9) _ _ _ _ _ :: _) _ _); refine wpList_alloc_row rfl 75 rfl _ (HYG.out _) ?_; go_simp) | ((with_reducible show wpList _ _ _ (Oper.mk none (Op.store _ (Operand.tmp 9) _) _ _ _ _ :: _) _ _); refine wpList_store_whole rfl 75 _ _ rfl w1.heap.size _ _ 75 (blk_new _ _) rfl rfl (by rw [arr_size, arr_size, BLL.out, HZG.out]) (arrSig bl BLL.out) (all_arr _ _) ?_; intro wq hb2 hk2 hz2; have HB2 := Lib.hid ((HB1.out.alloc (.cells (arr .u8 zg) 75)).farK hk2 (by rintro i rfl; omega)); have HG2 := Lib.hid hb2; have hl2 := blk_lt hb2; clear hb2 hk2 hz2))
  (try simp only [Act.put])
  obtain ⟨gs, hgs⟩ : ∃ g, g = w1.heap.size := ⟨_, rfl⟩
  rw [← hgs] at HG2 hl1 hl2 ⊢
  clear hgs
  have hat := HAT.out gs
  have hdr : Below wq.heap.size wq wq.drew := ⟨rfl, rfl, rfl, Nat.le_refl _, fun _ _ => rfl⟩
  have HCq := Lib.hid ((HC.out.below HB2.out.below).below hdr)
  have HBq := Lib.hid ((HB.out.below HB2.out.below).below hdr)
  have HRES : Hid (wq.drew.heap[w.heap.size + 1 + 1]? = some (.cells (arr .u8 zt) 61 (0, 0))) := Lib.hid HB2.out.b2
  clear hdr
  have HB0 := Lib.hid ((Kept.refl (fun x => x = w.heap.size + 1 + 1) wq).drew)
  refine wp_region_held_drew (S := (fun w' => Kept (fun x => x = w.heap.size + 1 + 1) wq w')) (by kernel_rfl) (HB0.out) (fun hHeld => ?_)
  refine wpAnyH_take (i := 0) (oi := ({ dst := some 13, op := Op.slice 75 (Operand.tmp 9) none (some (Operand.const (Value.int IntKind.i64 32))) none, type := 24, pos := "aead.go:28", after := #[], guard := none } : Oper)) (v := ?v1) rfl (by kernel_rfl) (by kernel_rfl) (by kernel_rfl) (fun _ _ _ h => h) (Or.inl ⟨by rfl, ?hy1⟩) (by assumption) ?rest1
  case hy1 => (intro w hSw; (try dsimp only at hSw); go_simp; try (with_reducible rfl))
  (try simp only [Act.put, List.setIfInBounds_toArray, List.set_cons_zero, List.set_cons_succ])
  refine wpAnyH_take (i := 1) (oi := ({ dst := some 14, op := Op.sliceToArrayPointer 23 (Operand.tmp 13), type := 0, pos := "aead.go:28", after := #[{ on := 0, ground := Ground.data }], guard := none } : Oper)) (v := ?v2) rfl (by kernel_rfl) (by kernel_rfl) (by kernel_rfl) (fun _ _ _ h => h) (Or.inl ⟨by rfl, ?hy2⟩) (by assumption) ?rest2
  case hy2 => (intro w hSw; (try dsimp only at hSw); go_simp; try (with_reducible rfl))
  (try simp only [Act.put, List.setIfInBounds_toArray, List.set_cons_zero, List.set_cons_succ])
  refine' wpAnyH_take (i := 2) (oi := ({ dst := some 15, op := Op.load 23 (Operand.tmp 14), type := 23, pos := "aead.go:28", after := #[{ on := 1, ground := Ground.data }], guard := none } : Oper)) (v := _) rfl (by kernel_rfl) (by kernel_rfl) (by kernel_rfl) (fun _ _ _ h => h) (yieldsIf_load_mid (by rfl) _ _ rfl _ _ rfl (k32.map (Value.int .u8)) _ ?hS3 Try.underlying23 rfl (by rw [List.length_map, K32L.out]; exact size32)) (by assumption) ?rest3
  case hS3 => (intro w hSw; exact range_part (hSw.blk HG2.out (by omega)) 0 _ (by rw [List.length_map, List.drop_zero, arr_toList, ← List.map_take, K32L.out, BLT.out]))
  (try simp only [Act.put, List.setIfInBounds_toArray, List.set_cons_zero, List.set_cons_succ])
  refine wpAnyH_take (i := 3) (oi := ({ dst := some 16, op := Op.move (Operand.tmp 3), type := 24, pos := "aead.go:28", after := #[], guard := none } : Oper)) (v := ?v4) rfl (by kernel_rfl) (by kernel_rfl) (by kernel_rfl) (fun _ _ _ h => h) (Or.inl ⟨by rfl, ?hy4⟩) (by assumption) ?rest4
  case hy4 => (intro w hSw; (try dsimp only at hSw); go_simp; try (with_reducible rfl))
  (try simp only [Act.put, List.setIfInBounds_toArray, List.set_cons_zero, List.set_cons_succ])
  refine wpAnyH_take (i := 4) (oi := ({ dst := some 17, op := Op.move (Operand.tmp 3), type := 24, pos := "aead.go:28", after := #[], guard := none } : Oper)) (v := ?v5) rfl (by kernel_rfl) (by kernel_rfl) (by kernel_rfl) (fun _ _ _ h => h) (Or.inl ⟨by rfl, ?hy5⟩) (by assumption) ?rest5
  case hy5 => (intro w hSw; (try dsimp only at hSw); go_simp; try (with_reducible rfl))
  (try simp only [Act.put, List.setIfInBounds_toArray, List.set_cons_zero, List.set_cons_succ])
  refine wpAnyH_take (i := 5) (oi := ({ dst := some 18, op := Op.call { callee := Callee.builtin Builtin.len, args := #[Operand.tmp 17], argTypes := #[24] }, type := 3, pos := "aead.go:28", after := #[{ on := 4, ground := Ground.data }], guard := none } : Oper)) (v := ?v6) rfl (by kernel_rfl) (by kernel_rfl) (by kernel_rfl) (fun _ _ _ h => h) (Or.inl ⟨by rfl, ?hy6⟩) (by assumption) ?rest6
  case hy6 => (intro w hSw; (try dsimp only at hSw); go_simp; try (with_reducible rfl))
  (try simp only [Act.put, List.setIfInBounds_toArray, List.set_cons_zero, List.set_cons_succ])
  refine wpAnyH_take (i := 7) (oi := ({ dst := some 20, op := Op.move (Operand.tmp 2), type := 24, pos := "aead.go:28", after := #[], guard := none } : Oper)) (v := ?v7) rfl (by kernel_rfl) (by kernel_rfl) (by kernel_rfl) (fun _ _ _ h => h) (Or.inl ⟨by rfl, ?hy7⟩) (by assumption) ?rest7
  case hy7 => (intro w hSw; (try dsimp only at hSw); go_simp; try (with_reducible rfl))
  (try simp only [Act.put, List.setIfInBounds_toArray, List.set_cons_zero, List.set_cons_succ])
  refine wpAnyH_take (i := 8) (oi := ({ dst := some 21, op := Op.move (Operand.tmp 2), type := 24, pos := "aead.go:28", after := #[], guard := none } : Oper)) (v := ?v8) rfl (by kernel_rfl) (by kernel_rfl) (by kernel_rfl) (fun _ _ _ h => h) (Or.inl ⟨by rfl, ?hy8⟩) (by assumption) ?rest8
  case hy8 => (intro w hSw; (try dsimp only at hSw); go_simp; try (with_reducible rfl))
  (try simp only [Act.put, List.setIfInBounds_toArray, List.set_cons_zero, List.set_cons_succ])
  refine wpAnyH_take (i := 9) (oi := ({ dst := some 22, op := Op.call { callee := Callee.builtin Builtin.len, args := #[Operand.tmp 21], argTypes := #[24] }, type := 3, pos := "aead.go:28", after := #[{ on := 8, ground := Ground.data }], guard := none } : Oper)) (v := ?v9) rfl (by kernel_rfl) (by kernel_rfl) (by kernel_rfl) (fun _ _ _ h => h) (Or.inl ⟨by rfl, ?hy9⟩) (by assumption) ?rest9
  case hy9 => (intro w hSw; (try dsimp only at hSw); go_simp; try (with_reducible rfl))
  (try simp only [Act.put, List.setIfInBounds_toArray, List.set_cons_zero, List.set_cons_succ])
  refine wpAnyH_take (i := 11) (oi := ({ dst := some 24, op := Op.move (Operand.tmp 3), type := 24, pos := "aead.go:28", after := #[], guard := none } : Oper)) (v := ?v10) rfl (by kernel_rfl) (by kernel_rfl) (by kernel_rfl) (fun _ _ _ h => h) (Or.inl ⟨by rfl, ?hy10⟩) (by assumption) ?rest10
  case hy10 => (intro w hSw; (try dsimp only at hSw); go_simp; try (with_reducible rfl))
  (try simp only [Act.put, List.setIfInBounds_toArray, List.set_cons_zero, List.set_cons_succ])
  refine wpAnyH_take (i := 12) (oi := ({ dst := some 25, op := Op.call { callee := Callee.builtin Builtin.len, args := #[Operand.tmp 24], argTypes := #[24] }, type := 3, pos := "aead.go:28", after := #[{ on := 11, ground := Ground.data }], guard := none } : Oper)) (v := ?v11) rfl (by kernel_rfl) (by kernel_rfl) (by kernel_rfl) (fun _ _ _ h => h) (Or.inl ⟨by rfl, ?hy11⟩) (by assumption) ?rest11
  case hy11 => (intro w hSw; (try dsimp only at hSw); go_simp; try (with_reducible rfl))
  (try simp only [Act.put, List.setIfInBounds_toArray, List.set_cons_zero, List.set_cons_succ])
  refine wpAnyH_take (i := 14) (oi := ({ dst := some 27, op := Op.move (Operand.tmp 2), type := 24, pos := "aead.go:28", after := #[], guard := none } : Oper)) (v := ?v12) rfl (by kernel_rfl) (by kernel_rfl) (by kernel_rfl) (fun _ _ _ h => h) (Or.inl ⟨by rfl, ?hy12⟩) (by assumption) ?rest12
  case hy12 => (intro w hSw; (try dsimp only at hSw); go_simp; try (with_reducible rfl))
  (try simp only [Act.put, List.setIfInBounds_toArray, List.set_cons_zero, List.set_cons_succ])
  refine wpAnyH_take (i := 15) (oi := ({ dst := some 28, op := Op.call { callee := Callee.builtin Builtin.len, args := #[Operand.tmp 27], argTypes := #[24] }, type := 3, pos := "aead.go:28", after := #[{ on := 14, ground := Ground.data }], guard := none } : Oper)) (v := ?v13) rfl (by kernel_rfl) (by kernel_rfl) (by kernel_rfl) (fun _ _ _ h => h) (Or.inl ⟨by rfl, ?hy13⟩) (by assumption) ?rest13
  case hy13 => (intro w hSw; (try dsimp only at hSw); go_simp; try (with_reducible rfl))
  (try simp only [Act.put, List.setIfInBounds_toArray, List.set_cons_zero, List.set_cons_succ])
  refine wpAnyH_ready (rs := [6]) (by kernel_rfl) (by simp) ?_
  refine AllReadyH.cons (o := ({ dst := some 19, op := Op.call { callee := Callee.value (Operand.func 53), args := #[Operand.tmp 18], argTypes := #[3] }, type := 24, pos := "aead.go:28", after := #[{ on := 5, ground := Ground.data }], guard := none } : Oper)) rfl (fun K hK => ?_) AllReadyH.nil
  go_simp
  go_at_call 53
  refine (HR1.out _).mono ?_
  rintro e w14 ⟨s1, rfl, hs1, hb14⟩
  have HB14 := Lib.hid (HB0.out.trans (Kept.of_below hb14))
  have HX1 := Lib.hid hs1
  clear hs1
  have HCq := Lib.hid (HCq.out.below hb14)
  have HBq := Lib.hid (HBq.out.below hb14)
  have HRES := Lib.hid (Below.blk hb14 HRES.out (blk_lt HRES.out))
  clear hb14
  (try dsimp only)
  refine hK.out _ _ (HB14.out) (fun hHeld => ?_)
  clear hK K
  (try simp only [Act.put, List.setIfInBounds_toArray, List.set_cons_zero, List.set_cons_succ])
  refine wpAnyH_ready (rs := [10]) (by kernel_rfl) (by simp) ?_
  refine AllReadyH.cons (o := ({ dst := some 23, op := Op.call { callee := Callee.value (Operand.func 53), args := #[Operand.tmp 22], argTypes := #[3] }, type := 24, pos := "aead.go:28", after := #[{ on := 9, ground := Ground.data }, { on := 6, ground := Ground.chain }], guard := none } : Oper)) rfl (fun K hK => ?_) AllReadyH.nil
  go_simp
  go_at_call 53
  refine (HR2.out _).mono ?_
  rintro e w15 ⟨s2, rfl, hs2, hb15⟩
  have HB15 := Lib.hid (HB14.out.trans (Kept.of_below hb15))
  have HX2 := Lib.hid hs2
  clear hs2
  have HCq := Lib.hid (HCq.out.below hb15)
  have HBq := Lib.hid (HBq.out.below hb15)
  have HX1 := Lib.hid (HX1.out.below hb15)
  have HRES := Lib.hid (Below.blk hb15 HRES.out (blk_lt HRES.out))
  clear hb15
  (try dsimp only)
  refine hK.out _ _ (HB15.out) (fun hHeld => ?_)
  clear hK K
  (try simp only [Act.put, List.setIfInBounds_toArray, List.set_cons_zero, List.set_cons_succ])
  refine wpAnyH_ready (rs := [13]) (by kernel_rfl) (by simp) ?_
  refine AllReadyH.cons (o := ({ dst := some 26, op := Op.call { callee := Callee.value (Operand.func 54), args := #[Operand.tmp 25], argTypes := #[3] }, type := 24, pos := "aead.go:28", after := #[{ on := 12, ground := Ground.data }, { on := 10, ground := Ground.chain }], guard := none } : Oper)) rfl (fun K hK => ?_) AllReadyH.nil
  go_simp
  go_at_call 54
  refine (HR3.out _).mono ?_
  rintro e w16 ⟨s3, rfl, hs3, hb16⟩
  have HB16 := Lib.hid (HB15.out.trans (Kept.of_below hb16))
  have HX3 := Lib.hid hs3
  clear hs3
  have HCq := Lib.hid (HCq.out.below hb16)
  have HBq := Lib.hid (HBq.out.below hb16)
  have HX1 := Lib.hid (HX1.out.below hb16)
  have HX2 := Lib.hid (HX2.out.below hb16)
  have HRES := Lib.hid (Below.blk hb16 HRES.out (blk_lt HRES.out))
  clear hb16
  (try dsimp only)
  refine hK.out _ _ (HB16.out) (fun hHeld => ?_)
  clear hK K
  (try simp only [Act.put, List.setIfInBounds_toArray, List.set_cons_zero, List.set_cons_succ])
  refine wpAnyH_ready (rs := [16]) (by kernel_rfl) (by simp) ?_
  refine AllReadyH.cons (o := ({ dst := some 29, op := Op.call { callee := Callee.value (Operand.func 54), args := #[Operand.tmp 28], argTypes := #[3] }, type := 24, pos := "aead.go:28", after := #[{ on := 15, ground := Ground.data }, { on := 13, ground := Ground.chain }], guard := none } : Oper)) rfl (fun K hK => ?_) AllReadyH.nil
  go_simp
  go_at_call 54
  refine (HR4.out _).mono ?_
  rintro e w17 ⟨s4, rfl, hs4, hb17⟩
  have HB17 := Lib.hid (HB16.out.trans (Kept.of_below hb17))
  have HX4 := Lib.hid hs4
  clear hs4
  have HCq := Lib.hid (HCq.out.below hb17)
  have HBq := Lib.hid (HBq.out.below hb17)
  have HX1 := Lib.hid (HX1.out.below hb17)
  have HX2 := Lib.hid (HX2.out.below hb17)
  have HX3 := Lib.hid (HX3.out.below hb17)
  have HRES := Lib.hid (Below.blk hb17 HRES.out (blk_lt HRES.out))
  clear hb17
  (try dsimp only)
  refine hK.out _ _ (HB17.out) (fun hHeld => ?_)
  clear hK K
  (try simp only [Act.put, List.setIfInBounds_toArray, List.set_cons_zero, List.set_cons_succ])
  refine wpAnyH_ready (rs := [17]) (by kernel_rfl) (by simp) ?_
  refine AllReadyH.cons (o := ({ dst := some 30, op := Op.buildSlice 96 6 #[(0, Operand.tmp 16), (1, Operand.tmp 19), (2, Operand.tmp 20), (3, Operand.tmp 23), (4, Operand.tmp 26), (5, Operand.tmp 29)], type := 96, pos := "aead.go:28", after := #[{ on := 3, ground := Ground.data }, { on := 6, ground := Ground.data }, { on := 7, ground := Ground.data }, { on := 10, ground := Ground.data }, { on := 13, ground := Ground.data }, { on := 16, ground := Ground.data }], guard := none } : Oper)) rfl (fun K hK => ?_) AllReadyH.nil
  go_simp
  have HL := Lib.hid (src_list [(sb, n2, c2, beside), (s1, y1, y1, z1), (sc, n1, c1, c), (s2, y2, y2, z2), (s3, 8, 8, e1), (s4, 8, 8, e2)] (by intro p hp; simp only [List.mem_cons, List.not_mem_nil, or_false] at hp; rcases hp with rfl | rfl | rfl | rfl | rfl | rfl <;> first | exact ⟨HBq.out, KB.out⟩ | exact ⟨HX1.out, Nat.le_refl _⟩ | exact ⟨HCq.out, KA.out⟩ | exact ⟨HX2.out, Nat.le_refl _⟩ | exact ⟨HX3.out, Nat.le_refl _⟩ | exact ⟨HX4.out, Nat.le_refl _⟩))
  have HB18 := Lib.hid (HB17.out.alloc (.cells #[.slice sb n2 c2, .slice s1 y1 y1, .slice sc n1 c1, .slice s2 y2 y2, .slice s3 8 8, .slice s4 8 8] 24))
  have HRES := Lib.hid (blk_alloc HRES.out (.cells #[.slice sb n2 c2, .slice s1 y1 y1, .slice sc n1 c1, .slice s2 y2 y2, .slice s3 8 8, .slice s4 8 8] 24))
  refine hK.out _ _ (HB18.out) (fun hHeld => ?_)
  clear hK K
  (try simp only [Act.put, List.setIfInBounds_toArray, List.set_cons_zero, List.set_cons_succ])
  refine wpAnyH_ready (rs := [18]) (by kernel_rfl) (by simp) ?_
  refine AllReadyH.cons (o := ({ dst := some 31, op := Op.call { callee := Callee.value (Operand.func 52), args := #[Operand.tmp 15, Operand.tmp 30], argTypes := #[23, 96] }, type := 61, pos := "aead.go:28", after := #[{ on := 2, ground := Ground.data }, { on := 17, ground := Ground.data }, { on := 16, ground := Ground.chain }], guard := none } : Oper)) rfl (fun K hK => ?_) AllReadyH.nil
  go_simp
  go_at_call 52
  refine (HM5.out _ _ _ _ HL.out (by show 6 ≤ 1099511627776; decide)).mono ?_
  rintro e w19 ⟨rfl, hb19⟩
  have HB19 := Lib.hid (HB18.out.trans (Kept.of_below hb19))
  have HRES := Lib.hid (Below.blk hb19 HRES.out (blk_lt HRES.out))
  clear hb19
  (try dsimp only)
  refine hK.out _ _ (HB19.out) (fun hHeld => ?_)
  clear hK K
  (try simp only [Act.put, List.setIfInBounds_toArray, List.set_cons_zero, List.set_cons_succ])
  refine wpAnyH_ready (rs := [19]) (by kernel_rfl) (by simp) ?_
  refine AllReadyH.cons (o := ({ dst := none, op := Op.store 61 (Operand.tmp 8) (Operand.tmp 31), type := 0, pos := "aead.go:28", after := #[{ on := 18, ground := Ground.data }, { on := 18, ground := Ground.chain }, { on := 0, ground := Ground.phase }, { on := 1, ground := Ground.phase }, { on := 2, ground := Ground.phase }, { on := 3, ground := Ground.phase }, { on := 4, ground := Ground.phase }, { on := 5, ground := Ground.phase }, { on := 6, ground := Ground.phase }, { on := 7, ground := Ground.phase }, { on := 8, ground := Ground.phase }, { on := 9, ground := Ground.phase }, { on := 10, ground := Ground.phase }, { on := 11, ground := Ground.phase }, { on := 12, ground := Ground.phase }, { on := 13, ground := Ground.phase }, { on := 14, ground := Ground.phase }, { on := 15, ground := Ground.phase }, { on := 16, ground := Ground.phase }, { on := 17, ground := Ground.phase }, { on := 18, ground := Ground.phase }], guard := none } : Oper)) rfl (fun K hK => ?_) AllReadyH.nil
  refine step_store_whole rfl 61 (.tmp 8) (.tmp 31) rfl (w.heap.size + 1 + 1) (arr .u8 zt) _ 61 HRES.out rfl rfl (by rw [arr_size, arr_size, TGL.out, HZT.out]) (arrTag tg TGL.out) (all_arr _ _) ?_
  intro w20 hb20 hk20 hz20
  have HB20 := Lib.hid (HB19.out.trans hk20)
  have HFIN := Lib.hid hb20
  have HLAST := HB20
  clear hb20 hk20 hz20
  refine hK.out _ _ (HB20.out) (fun hHeld => ?_)
  clear hK K
  (try simp only [Act.put])
  refine wpAnyH_done (by kernel_rfl) ?_ _
  (try simp only [Exit.then])
  go_wp2_with fail
  refine bodyPost_ret (results_cell_row rfl _ _ (w.heap.size + 1 + 1) 61 _ (0, 0) _ rfl HFIN.out Try.underlying61 rfl (arrTag tg TGL.out)) rfl ?_
  exact ⟨rfl, HB2.out.below.trans (HLAST.out.toBelow HB2.out.below.size (by rintro i rfl; omega))⟩
end Go.Proofs.Ytoljnogpegemjaa.Ae
