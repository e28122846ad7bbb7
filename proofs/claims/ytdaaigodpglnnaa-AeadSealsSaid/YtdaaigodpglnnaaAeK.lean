/- portcullislaw11: AeadSeals. No condition beyond the arguments' own. -/
import Derived.Test.YtdaaigodpglnnaaAeI
namespace Go.Proofs.Ytdaaigodpglnnaa.Ae
open Go.RowKit Lm Po Ch

set_option maxRecDepth 100000 in
set_option maxHeartbeats 4000000 in
theorem seals_any (key nonce : List Int) (hk : key.length = 32) (hn : nonce.length = 12) (bk : bytes key) (bn : bytes nonce) (pa pb : Option Addr) (lp cp lb cb : Nat) (zp zb : List Int) (w : World) (h1 : RowI .u8 w pa lp cp zp) (h2 : RowI .u8 w pb lb cb zb) :
    Calls Try.prog 5 #[.agg (arr .u8 key), .agg (arr .u8 nonce), .slice pa lp cp, .slice pb lb cb] w fun e w' => e = .returned (.bool true) ∧ Below w.heap.size w w' := by
  obtain ⟨hs1, bs1, k1⟩ := h1.src
  obtain ⟨hs2, bs2, k2⟩ := h2.src
  have S0 := B2.start w (arr .u8 key) (arr .u8 nonce) 35 37
  have HS0 := Lib.hid S0
  clear h1 h2
  generalize zp.take lp = xs at hs1 bs1
  generalize zb.take lb = ys at hs2 bs2
  by_cases e0 : (1000 : Int) < (lp : Int)
  · clear hs1 bs1 k1 hs2 bs2 k2 S0 hk hn bk bn
    go_enter Try.func5, Try.ntmps5
    go_wp2_with (first | ((with_reducible show Calls _ _ #[] _ _); go_at_call 18; refine (alive11_any _).mono ?_; rintro e w1 ⟨rfl, hb1⟩; have HB1 := Lib.hid (HS0.out.after hb1);  clear hb1))
    go_ret
    exact ⟨rfl, HB1.out.below⟩
  by_cases e1 : (500 : Int) < (lb : Int)
  · clear hs1 bs1 k1 hs2 bs2 k2 S0 hk hn bk bn
    go_enter Try.func5, Try.ntmps5
    go_wp2_with (first | ((with_reducible show Calls _ _ #[] _ _); go_at_call 18; refine (alive11_any _).mono ?_; rintro e w1 ⟨rfl, hb1⟩; have HB1 := Lib.hid (HS0.out.after hb1);  clear hb1))
    go_ret
    exact ⟨rfl, HB1.out.below⟩
  have hpl := hs1.len
  have MS := fun w s1 s2 => seal_any key nonce xs ys pa pb lp lb cp cb w hk hn bk bn s1 s2 bs2 (by omega) (by omega) k2
  have RS := fun w s1 s2 => rseal_any key nonce xs ys pa pb lp lb cp cb w hk hn bk bn s1 s2 bs2 (by omega) (by omega)
  have hok := okay_seal key nonce xs ys
  have hop := opened_seal key nonce xs ys bs1
  obtain ⟨sl, hsl⟩ : ∃ x, x = seal' key nonce xs ys := ⟨_, rfl⟩
  have hsll : sl.length = lp + 16 := by rw [hsl, seal_len, hpl]
  have hslb : bytes sl := by rw [hsl]; exact bytes_seal _ _ _ _
  rw [← hsl] at MS RS hok hop
  have M := fun w s c s1 s2 kc => open_any key nonce sl ys s pb (lp + 16) lb c cb w hk hn bk bn s1 s2 hslb bs2 (by omega) (by omega) kc k2
  rw [hok, hop, if_pos rfl] at M
  obtain ⟨st, hst⟩ : ∃ x, x = strOfNums sl := ⟨_, rfl⟩
  obtain ⟨sp, hsp⟩ : ∃ x, x = strOfNums xs := ⟨_, rfl⟩
  have HX := Lib.hid (hs1.below S0.below)
  have HY := Lib.hid (hs2.below S0.below)
  have HK := Lib.hid hk
  have HN := Lib.hid hn
  have HMS := Lib.hid MS
  have HRS := Lib.hid RS
  have HM := Lib.hid M
  have HSL := Lib.hid hsll
  have HST := Lib.hid hst.symm
  have HSP := Lib.hid hsp.symm
  have HPL := Lib.hid hpl
  clear MS RS M hok hop hsl hsll hslb hst hsp hpl hs1 bs1 k1 hs2 bs2 k2 S0 hk hn bk bn
  go_enter Try.func5, Try.ntmps5
  go_upto_region 6 with (first | ((with_reducible show Calls _ _ #[] _ _); go_at_call 18; refine (alive11_any _).mono ?_; rintro e w1 ⟨rfl, hb1⟩; have HB1 := Lib.hid (HS0.out.after hb1); have HX1 := Lib.hid (HX.out.below hb1); have HY1 := Lib.hid (HY.out.below hb1); clear hb1) | ((with_reducible show wpList _ _ _ (Oper.mk (some 27) _ _ _ _ _ :: _) _ _); refine wpList_load_part rfl 35 _ rfl w.heap.size 0 _ 35 (0, 0) _ HB1.out.b0 rfl .u8 key (arr_part _ _) Try.underlying35 rfl (by rw [HK.out]; exact size32) ?_) | ((with_reducible show wpList _ _ _ (Oper.mk (some 28) _ _ _ _ _ :: _) _ _); refine wpList_load_part rfl 37 _ rfl (w.heap.size + 1) 0 _ 37 (0, 0) _ HB1.out.b1 rfl .u8 nonce (arr_part _ _) Try.underlying37 rfl (by rw [HN.out]; exact size12) ?_) | ((with_reducible show Calls _ _ #[.agg _, .agg _, _, _] w1 _); go_at_call 19; refine (HMS.out _ HX1.out HY1.out).mono ?_; rintro e w2 ⟨v2, rfl, ho2, hb2⟩; obtain ⟨s2, c2, hv2, hc2, -, hs2, -⟩ := ho2.form; rw [HSL.out] at hv2 hc2 hs2; subst hv2; have HB2 := Lib.hid (HB1.out.after hb2); have HO2 := Lib.hid ho2; have HS2 := Lib.hid hs2; have HC2 := Lib.hid hc2; have HX2 := Lib.hid (HX1.out.below hb2); have HY2 := Lib.hid (HY1.out.below hb2); clear ho2 hb2 hc2 hs2) | ((with_reducible show wpList _ _ _ (Oper.mk (some 33) _ _ _ _ _ :: _) _ _); refine wpList_load_part rfl 35 _ rfl w.heap.size 0 _ 35 (0, 0) _ HB2.out.b0 rfl .u8 key (arr_part _ _) Try.underlying35 rfl (by rw [HK.out]; exact size32) ?_) | ((with_reducible show wpList _ _ _ (Oper.mk (some 34) _ _ _ _ _ :: _) _ _); refine wpList_load_part rfl 37 _ rfl (w.heap.size + 1) 0 _ 37 (0, 0) _ HB2.out.b1 rfl .u8 nonce (arr_part _ _) Try.underlying37 rfl (by rw [HN.out]; exact size12) ?_) | ((with_reducible show Calls _ _ #[.agg _, .agg _, _, _] w2 _); go_at_call 20; refine (HM.out _ _ _ HS2.out HY2.out HC2.out).mono ?_; rintro e wq ⟨v3, rfl, ho3, hb3⟩; obtain ⟨s3, c3, hv3, -⟩ := ho3.form; rw [HPL.out] at hv3; subst hv3; have HB3 := Lib.hid (HB2.out.after hb3); have HO3 := Lib.hid ho3; have HO2q := Lib.hid (HO2.out.below hb3); have HX3 := Lib.hid (HX2.out.below hb3); have HY3 := Lib.hid (HY2.out.below hb3); clear ho3 hb3))
  (try simp only [Act.put])
  have hdr : Below wq.heap.size wq wq.drew := ⟨rfl, rfl, rfl, Nat.le_refl _, fun _ _ => rfl⟩
  have HXq := Lib.hid (HX3.out.below hdr)
  have HYq := Lib.hid (HY3.out.below hdr)
  clear hdr
  have HB0 := Lib.hid (show Below wq.heap.size wq wq.drew from ⟨rfl, rfl, rfl, Nat.le_refl _, fun _ _ => rfl⟩)
  refine wp_region_held_drew (S := (fun w' => Go.RowKit.Below wq.heap.size wq w')) (by kernel_rfl) (HB0.out) (fun hHeld => ?_)
  refine wpAnyH_take (i := 0) (oi := ({ dst := some 40, op := Op.move (Operand.tmp 10), type := 22, pos := "law.go:29", after := #[], guard := none } : Oper)) (v := ?v1) rfl (by kernel_rfl) (by kernel_rfl) (by kernel_rfl) (fun _ _ _ h => h) (Or.inl ⟨by rfl, ?hy1⟩) (by assumption) ?rest1
  case hy1 => (intro w hSw; (try dsimp only at hSw); go_simp; try (with_reducible rfl))
  (try simp only [Act.put, List.setIfInBounds_toArray, List.set_cons_zero, List.set_cons_succ])
  refine wpAnyH_take (i := 1) (oi := ({ dst := some 41, op := Op.convert 22 9 (Operand.tmp 40), type := 9, pos := "law.go:29", after := #[{ on := 0, ground := Ground.data }], guard := none } : Oper)) (v := (.string st)) rfl (by kernel_rfl) (by kernel_rfl) (by kernel_rfl) (fun _ _ _ h => h) (Or.inl ⟨by rfl, ?hy2⟩) (by assumption) ?rest2
  case hy2 => (intro w hSw; (try dsimp only at hSw); have hcv := (HO2q.out.below hSw).str; rw [HST.out] at hcv; go_simp; try (with_reducible rfl))
  (try simp only [Act.put, List.setIfInBounds_toArray, List.set_cons_zero, List.set_cons_succ])
  refine' wpAnyH_take (i := 2) (oi := ({ dst := some 42, op := Op.load 35 (Operand.tmp 4), type := 35, pos := "law.go:29", after := #[], guard := none } : Oper)) (v := _) rfl (by kernel_rfl) (by kernel_rfl) (by kernel_rfl) (fun _ _ _ h => h) (yieldsIf_load_mid (by rfl) _ _ rfl _ _ rfl (key.map (Value.int .u8)) _ ?hS3 Try.underlying35 rfl (by rw [List.length_map]; rw [HK.out]; exact size32)) (by assumption) ?rest3
  case hS3 => (intro w hSw; exact range_part (Below.blk hSw HB3.out.b0 (blk_lt HB3.out.b0)) 0 _ (by rw [List.length_map]; exact arr_part _ _))
  (try simp only [Act.put, List.setIfInBounds_toArray, List.set_cons_zero, List.set_cons_succ])
  refine' wpAnyH_take (i := 3) (oi := ({ dst := some 43, op := Op.load 37 (Operand.tmp 5), type := 37, pos := "law.go:29", after := #[], guard := none } : Oper)) (v := _) rfl (by kernel_rfl) (by kernel_rfl) (by kernel_rfl) (fun _ _ _ h => h) (yieldsIf_load_mid (by rfl) _ _ rfl _ _ rfl (nonce.map (Value.int .u8)) _ ?hS4 Try.underlying37 rfl (by rw [List.length_map]; rw [HN.out]; exact size12)) (by assumption) ?rest4
  case hS4 => (intro w hSw; exact range_part (Below.blk hSw HB3.out.b1 (blk_lt HB3.out.b1)) 0 _ (by rw [List.length_map]; exact arr_part _ _))
  (try simp only [Act.put, List.setIfInBounds_toArray, List.set_cons_zero, List.set_cons_succ])
  refine wpAnyH_take (i := 4) (oi := ({ dst := some 44, op := Op.move (Operand.tmp 2), type := 22, pos := "law.go:29", after := #[], guard := none } : Oper)) (v := ?v5) rfl (by kernel_rfl) (by kernel_rfl) (by kernel_rfl) (fun _ _ _ h => h) (Or.inl ⟨by rfl, ?hy5⟩) (by assumption) ?rest5
  case hy5 => (intro w hSw; (try dsimp only at hSw); go_simp; try (with_reducible rfl))
  (try simp only [Act.put, List.setIfInBounds_toArray, List.set_cons_zero, List.set_cons_succ])
  refine wpAnyH_take (i := 5) (oi := ({ dst := some 45, op := Op.move (Operand.tmp 3), type := 22, pos := "law.go:29", after := #[], guard := none } : Oper)) (v := ?v6) rfl (by kernel_rfl) (by kernel_rfl) (by kernel_rfl) (fun _ _ _ h => h) (Or.inl ⟨by rfl, ?hy6⟩) (by assumption) ?rest6
  case hy6 => (intro w hSw; (try dsimp only at hSw); go_simp; try (with_reducible rfl))
  (try simp only [Act.put, List.setIfInBounds_toArray, List.set_cons_zero, List.set_cons_succ])
  refine wpAnyH_ready (rs := [6]) (by kernel_rfl) (by simp) ?_
  refine AllReadyH.cons (o := ({ dst := some 46, op := Op.call { callee := Callee.value (Operand.func 21), args := #[Operand.tmp 42, Operand.tmp 43, Operand.tmp 44, Operand.tmp 45], argTypes := #[35, 37, 22, 22] }, type := 22, pos := "law.go:29", after := #[{ on := 2, ground := Ground.data }, { on := 3, ground := Ground.data }, { on := 4, ground := Ground.data }, { on := 5, ground := Ground.data }], guard := none } : Oper)) rfl (fun K hK => ?_) AllReadyH.nil
  go_simp
  go_at_call 21
  refine (HRS.out _ HXq.out HYq.out).mono ?_
  rintro e w7 ⟨v6, rfl, ho6, hb7⟩
  have HB7 := Lib.hid (HB0.out.trans (hb7.mono HB0.out.size))
  obtain ⟨s6, c6, hv6, -⟩ := ho6.form
  rw [HSL.out] at hv6
  subst hv6
  have HO6 := Lib.hid ho6
  clear ho6
  clear hb7
  (try dsimp only)
  refine hK.out _ _ (HB7.out) (fun hHeld => ?_)
  clear hK K
  (try simp only [Act.put, List.setIfInBounds_toArray, List.set_cons_zero, List.set_cons_succ])
  refine wpAnyH_ready (rs := [7]) (by kernel_rfl) (by simp) ?_
  refine AllReadyH.cons (o := ({ dst := some 47, op := Op.convert 22 9 (Operand.tmp 46), type := 9, pos := "law.go:29", after := #[{ on := 6, ground := Ground.data }], guard := none } : Oper)) rfl (fun K hK => ?_) AllReadyH.nil
  have hcv := HO6.out.str
  rw [HST.out] at hcv
  go_simp
  refine hK.out _ _ (HB7.out) (fun hHeld => ?_)
  clear hK K
  (try simp only [Act.put, List.setIfInBounds_toArray, List.set_cons_zero, List.set_cons_succ])
  refine wpAnyH_take (i := 8) (oi := ({ dst := some 48, op := Op.binOp BinOp.eql 9 (Operand.tmp 41) (Operand.tmp 47) 9, type := 4, pos := "law.go:29", after := #[{ on := 1, ground := Ground.data }, { on := 7, ground := Ground.data }], guard := none } : Oper)) (v := (.bool true)) rfl (by kernel_rfl) (by kernel_rfl) (by kernel_rfl) (fun _ _ _ h => h) (Or.inl ⟨by rfl, ?hy9⟩) (by assumption) ?rest9
  case hy9 => (intro w hSw; (try dsimp only at hSw); go_simp; try (with_reducible rfl))
  (try simp only [Act.put, List.setIfInBounds_toArray, List.set_cons_zero, List.set_cons_succ])
  refine wpAnyH_take (i := 9) (oi := ({ dst := some 49, op := Op.move (Operand.tmp 48), type := 4, pos := "law.go:29", after := #[{ on := 8, ground := Ground.data }, { on := 6, ground := Ground.chain }], guard := none } : Oper)) (v := ?v10) rfl (by kernel_rfl) (by kernel_rfl) (by kernel_rfl) (fun _ _ _ h => h) (Or.inl ⟨by rfl, ?hy10⟩) (by assumption) ?rest10
  case hy10 => (intro w hSw; (try dsimp only at hSw); go_simp; try (with_reducible rfl))
  (try simp only [Act.put, List.setIfInBounds_toArray, List.set_cons_zero, List.set_cons_succ])
  refine wpAnyH_take (i := 10) (oi := ({ dst := some 50, op := Op.move (Operand.tmp 12), type := 25, pos := "law.go:29", after := #[{ on := 9, ground := Ground.guard }], guard := some (9, true) } : Oper)) (v := ?v11) rfl (by kernel_rfl) (by kernel_rfl) (by kernel_rfl) (fun _ _ _ h => h) (Or.inl ⟨by rfl, ?hy11⟩) (by assumption) ?rest11
  case hy11 => (intro w hSw; (try dsimp only at hSw); go_simp; try (with_reducible rfl))
  (try simp only [Act.put, List.setIfInBounds_toArray, List.set_cons_zero, List.set_cons_succ])
  refine wpAnyH_ready (rs := [11]) (by kernel_rfl) (by simp) ?_
  refine AllReadyH.cons (o := ({ dst := some 51, op := Op.call { callee := Callee.value (Operand.func 22), args := #[Operand.tmp 50], argTypes := #[25] }, type := 3, pos := "law.go:29", after := #[{ on := 10, ground := Ground.data }, { on := 9, ground := Ground.chain }, { on := 9, ground := Ground.guard }], guard := some (9, true) } : Oper)) rfl (fun K hK => ?_) AllReadyH.nil
  go_simp
  go_at_call 22
  refine (num11_b _ _).mono ?_
  rintro e w12 ⟨rfl, hb12⟩
  have HB12 := Lib.hid (HB7.out.trans (hb12.mono HB7.out.size))
  clear hb12
  (try dsimp only)
  refine hK.out _ _ (HB12.out) (fun hHeld => ?_)
  clear hK K
  (try simp only [Act.put, List.setIfInBounds_toArray, List.set_cons_zero, List.set_cons_succ])
  refine wpAnyH_take (i := 12) (oi := ({ dst := some 52, op := Op.binOp BinOp.eql 3 (Operand.tmp 51) (Operand.const (Value.int IntKind.i64 0)) 3, type := 4, pos := "law.go:29", after := #[{ on := 11, ground := Ground.data }, { on := 9, ground := Ground.guard }], guard := some (9, true) } : Oper)) (v := ?v13) rfl (by kernel_rfl) (by kernel_rfl) (by kernel_rfl) (fun _ _ _ h => h) (Or.inl ⟨by rfl, ?hy13⟩) (by assumption) ?rest13
  case hy13 => (intro w hSw; (try dsimp only at hSw); go_simp; try (with_reducible rfl))
  (try simp only [Act.put, List.setIfInBounds_toArray, List.set_cons_zero, List.set_cons_succ])
  refine wpAnyH_take (i := 13) (oi := ({ dst := some 53, op := Op.pick (Operand.tmp 49) (Operand.tmp 52) (Operand.const (Value.bool false)), type := 4, pos := "law.go:29", after := #[{ on := 9, ground := Ground.data }, { on := 12, ground := Ground.data }], guard := none } : Oper)) (v := ?v14) rfl (by kernel_rfl) (by kernel_rfl) (by kernel_rfl) (fun _ _ _ h => h) (Or.inl ⟨by rfl, ?hy14⟩) (by assumption) ?rest14
  case hy14 => (intro w hSw; (try dsimp only at hSw); go_simp; try (with_reducible rfl))
  (try simp only [Act.put, List.setIfInBounds_toArray, List.set_cons_zero, List.set_cons_succ])
  refine wpAnyH_take (i := 14) (oi := ({ dst := some 54, op := Op.move (Operand.tmp 53), type := 4, pos := "law.go:29", after := #[{ on := 13, ground := Ground.data }, { on := 11, ground := Ground.chain }], guard := none } : Oper)) (v := ?v15) rfl (by kernel_rfl) (by kernel_rfl) (by kernel_rfl) (fun _ _ _ h => h) (Or.inl ⟨by rfl, ?hy15⟩) (by assumption) ?rest15
  case hy15 => (intro w hSw; (try dsimp only at hSw); go_simp; try (with_reducible rfl))
  (try simp only [Act.put, List.setIfInBounds_toArray, List.set_cons_zero, List.set_cons_succ])
  refine wpAnyH_take (i := 15) (oi := ({ dst := some 55, op := Op.move (Operand.tmp 11), type := 22, pos := "law.go:29", after := #[{ on := 14, ground := Ground.guard }], guard := some (14, true) } : Oper)) (v := ?v16) rfl (by kernel_rfl) (by kernel_rfl) (by kernel_rfl) (fun _ _ _ h => h) (Or.inl ⟨by rfl, ?hy16⟩) (by assumption) ?rest16
  case hy16 => (intro w hSw; (try dsimp only at hSw); go_simp; try (with_reducible rfl))
  (try simp only [Act.put, List.setIfInBounds_toArray, List.set_cons_zero, List.set_cons_succ])
  refine wpAnyH_take (i := 16) (oi := ({ dst := some 56, op := Op.convert 22 9 (Operand.tmp 55), type := 9, pos := "law.go:29", after := #[{ on := 15, ground := Ground.data }, { on := 14, ground := Ground.guard }], guard := some (14, true) } : Oper)) (v := (.string sp)) rfl (by kernel_rfl) (by kernel_rfl) (by kernel_rfl) (fun _ _ _ h => h) (Or.inl ⟨by rfl, ?hy17⟩) (by assumption) ?rest17
  case hy17 => (intro w hSw; (try dsimp only at hSw); have hcv := (HO3.out.below hSw).str; rw [HSP.out] at hcv; go_simp; try (with_reducible rfl))
  (try simp only [Act.put, List.setIfInBounds_toArray, List.set_cons_zero, List.set_cons_succ])
  refine wpAnyH_take (i := 17) (oi := ({ dst := some 57, op := Op.move (Operand.tmp 2), type := 22, pos := "law.go:29", after := #[{ on := 14, ground := Ground.guard }], guard := some (14, true) } : Oper)) (v := ?v18) rfl (by kernel_rfl) (by kernel_rfl) (by kernel_rfl) (fun _ _ _ h => h) (Or.inl ⟨by rfl, ?hy18⟩) (by assumption) ?rest18
  case hy18 => (intro w hSw; (try dsimp only at hSw); go_simp; try (with_reducible rfl))
  (try simp only [Act.put, List.setIfInBounds_toArray, List.set_cons_zero, List.set_cons_succ])
  refine wpAnyH_take (i := 18) (oi := ({ dst := some 58, op := Op.convert 22 9 (Operand.tmp 57), type := 9, pos := "law.go:29", after := #[{ on := 17, ground := Ground.data }, { on := 14, ground := Ground.guard }], guard := some (14, true) } : Oper)) (v := (.string sp)) rfl (by kernel_rfl) (by kernel_rfl) (by kernel_rfl) (fun _ _ _ h => h) (Or.inl ⟨by rfl, ?hy19⟩) (by assumption) ?rest19
  case hy19 => (intro w hSw; (try dsimp only at hSw); have hcv := src_string (c := cp) (HX3.out.below hSw); rw [HSP.out] at hcv; go_simp; try (with_reducible rfl))
  (try simp only [Act.put, List.setIfInBounds_toArray, List.set_cons_zero, List.set_cons_succ])
  refine wpAnyH_take (i := 19) (oi := ({ dst := some 59, op := Op.binOp BinOp.eql 9 (Operand.tmp 56) (Operand.tmp 58) 9, type := 4, pos := "law.go:29", after := #[{ on := 16, ground := Ground.data }, { on := 18, ground := Ground.data }, { on := 14, ground := Ground.guard }], guard := some (14, true) } : Oper)) (v := (.bool true)) rfl (by kernel_rfl) (by kernel_rfl) (by kernel_rfl) (fun _ _ _ h => h) (Or.inl ⟨by rfl, ?hy20⟩) (by assumption) ?rest20
  case hy20 => (intro w hSw; (try dsimp only at hSw); go_simp; try (with_reducible rfl))
  (try simp only [Act.put, List.setIfInBounds_toArray, List.set_cons_zero, List.set_cons_succ])
  refine wpAnyH_take (i := 20) (oi := ({ dst := some 60, op := Op.pick (Operand.tmp 54) (Operand.tmp 59) (Operand.const (Value.bool false)), type := 4, pos := "law.go:29", after := #[{ on := 14, ground := Ground.data }, { on := 19, ground := Ground.data }], guard := none } : Oper)) (v := ?v21) rfl (by kernel_rfl) (by kernel_rfl) (by kernel_rfl) (fun _ _ _ h => h) (Or.inl ⟨by rfl, ?hy21⟩) (by assumption) ?rest21
  case hy21 => (intro w hSw; (try dsimp only at hSw); go_simp; try (with_reducible rfl))
  (try simp only [Act.put, List.setIfInBounds_toArray, List.set_cons_zero, List.set_cons_succ])
  refine wpAnyH_take (i := 21) (oi := ({ dst := some 8, op := Op.assign (Operand.tmp 60), type := 4, pos := "law.go:29", after := #[{ on := 20, ground := Ground.data }, { on := 14, ground := Ground.chain }, { on := 0, ground := Ground.phase }, { on := 1, ground := Ground.phase }, { on := 2, ground := Ground.phase }, { on := 3, ground := Ground.phase }, { on := 4, ground := Ground.phase }, { on := 5, ground := Ground.phase }, { on := 6, ground := Ground.phase }, { on := 7, ground := Ground.phase }, { on := 8, ground := Ground.phase }, { on := 9, ground := Ground.phase }, { on := 10, ground := Ground.phase }, { on := 11, ground := Ground.phase }, { on := 12, ground := Ground.phase }, { on := 13, ground := Ground.phase }, { on := 14, ground := Ground.phase }, { on := 15, ground := Ground.phase }, { on := 16, ground := Ground.phase }, { on := 17, ground := Ground.phase }, { on := 18, ground := Ground.phase }, { on := 19, ground := Ground.phase }, { on := 20, ground := Ground.phase }], guard := none } : Oper)) (v := ?v22) rfl (by kernel_rfl) (by kernel_rfl) (by kernel_rfl) (fun _ _ _ h => h) (Or.inl ⟨by rfl, ?hy22⟩) (by assumption) ?rest22
  case hy22 => (intro w hSw; (try dsimp only at hSw); go_simp; try (with_reducible rfl))
  (try simp only [Act.put, List.setIfInBounds_toArray, List.set_cons_zero, List.set_cons_succ])
  refine wpAnyH_done (by kernel_rfl) ?_ _
  have HFIN := HB12
  (try simp only [Exit.then])
  go_wp2_with fail
  go_ret
  exact ⟨rfl, HB3.out.below.trans (HFIN.out.mono HB3.out.below.size)⟩
end Go.Proofs.Ytdaaigodpglnnaa.Ae
