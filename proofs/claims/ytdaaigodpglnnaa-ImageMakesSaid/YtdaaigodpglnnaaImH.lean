/- portcullislaw18: ImagePlaces. No condition beyond the arguments' own. -/
import Derived.Test.YtdaaigodpglnnaaImG
namespace Go.Proofs.Ytdaaigodpglnnaa.Im
open Go.RowKit Lm Po Ch Ae

theorem num18_b (e : Int) (w : World) : Calls Try.prog 16 #[.int .i64 e] w fun r w' => r = .returned (.int .i64 e) ∧ Below w.heap.size w w' :=
  (num18_any e w).mono fun _ _ h => ⟨h.1, h.2 ▸ Below.refl _ _⟩
theorem openE_no {key : List Int} {v i : Int} {c : List Int} (h : ¬ (0 ≤ v ∧ v ≤ 2147483647 ∧ 0 ≤ i ∧ i < 32)) : openE key v i c = 1 ∧ openX key v i c = [] := by
  simp [openE, openX, openOk, mayB_no h]
theorem openE_yes {key : List Int} {v i : Int} {c : List Int} (h : 0 ≤ v ∧ v ≤ 2147483647 ∧ 0 ≤ i ∧ i < 32) (hl : c.length = 80) : openE key v i c = (if okay key (nonce12 i) c (be8 v) = true then 0 else 10) ∧ openX key v i c = opened key (nonce12 i) c (be8 v) := by
  simp [openE, openX, openOk, mayB_iff.2 h, hl]
theorem sealX_yes {key : List Int} {v i : Int} {p : List Int} (h : 0 ≤ v ∧ v ≤ 2147483647 ∧ 0 ≤ i ∧ i < 32) (hl : p.length = 64) : sealE v i p = 0 ∧ sealX key v i p = seal' key (nonce12 i) p (be8 v) := by
  simp [sealE, sealX, sealOk, mayB_iff.2 h, hl]

set_option maxRecDepth 100000 in
set_option maxHeartbeats 8000000 in
theorem places_any (key other : List Int) (v i u k : Int) (hk : key.length = 32) (bk : bytes key) (ho : other.length = 32) (bo : bytes other) (hwu : -9223372036854775808 ≤ u ∧ u ≤ 9223372036854775807) (hwk : -9223372036854775808 ≤ k ∧ k ≤ 9223372036854775807) (pa : Option Addr) (lp cp : Nat) (zp : List Int) (w : World) (h1 : RowI .u8 w pa lp cp zp) :
    Calls Try.prog 11 #[.agg (arr .u8 key), .agg (arr .u8 other), .int .i64 v, .int .i64 i, .int .i64 u, .int .i64 k, .slice pa lp cp] w fun e w' => e = .returned (.bool true) ∧ Below w.heap.size w w' := by
  obtain ⟨hs1, bs1, k1⟩ := h1.src
  have S0 := B2.start w (arr .u8 key) (arr .u8 other) 35 35
  have HS0 := Lib.hid S0
  clear h1
  generalize zp.take lp = xs at hs1 bs1
  by_cases e0 : v < 0
  · clear hs1 bs1 k1 S0 hk bk ho bo hwu hwk
    go_enter Try.func11, Try.ntmps11
    go_wp2_with (first | ((with_reducible show Calls _ _ #[] _ _); go_at_call 13; refine (alive18_any _).mono ?_; rintro e w1 ⟨rfl, hb1⟩; have HB1 := Lib.hid (HS0.out.after hb1);  clear hb1))
    go_ret
    exact ⟨rfl, HB1.out.below⟩
  by_cases e1 : (1073741824 : Int) < v
  · clear hs1 bs1 k1 S0 hk bk ho bo hwu hwk
    go_enter Try.func11, Try.ntmps11
    go_wp2_with (first | ((with_reducible show Calls _ _ #[] _ _); go_at_call 13; refine (alive18_any _).mono ?_; rintro e w1 ⟨rfl, hb1⟩; have HB1 := Lib.hid (HS0.out.after hb1);  clear hb1))
    go_ret
    exact ⟨rfl, HB1.out.below⟩
  by_cases e2 : i < 0
  · clear hs1 bs1 k1 S0 hk bk ho bo hwu hwk
    go_enter Try.func11, Try.ntmps11
    go_wp2_with (first | ((with_reducible show Calls _ _ #[] _ _); go_at_call 13; refine (alive18_any _).mono ?_; rintro e w1 ⟨rfl, hb1⟩; have HB1 := Lib.hid (HS0.out.after hb1);  clear hb1))
    go_ret
    exact ⟨rfl, HB1.out.below⟩
  by_cases e3 : (31 : Int) < i
  · clear hs1 bs1 k1 S0 hk bk ho bo hwu hwk
    go_enter Try.func11, Try.ntmps11
    go_wp2_with (first | ((with_reducible show Calls _ _ #[] _ _); go_at_call 13; refine (alive18_any _).mono ?_; rintro e w1 ⟨rfl, hb1⟩; have HB1 := Lib.hid (HS0.out.after hb1);  clear hb1))
    go_ret
    exact ⟨rfl, HB1.out.below⟩
  by_cases e4 : lp = 64
  rotate_left
  · have hn : ((lp : Int) == 64) = false := by rw [beq_eq_false_iff_ne]; omega
    have hn' : ((lp : Int) != 64) = true := by rw [bne_iff_ne]; omega
    have q0 : decide (v < 0) = false := decide_eq_false e0
    have q1 : decide ((1073741824 : Int) < v) = false := decide_eq_false e1
    have q2 : decide (i < 0) = false := decide_eq_false e2
    have q3 : decide ((31 : Int) < i) = false := decide_eq_false e3
    clear e4 e0 e1 e2 e3
    clear hs1 bs1 k1 S0 hk bk ho bo hwu hwk
    go_enter Try.func11, Try.ntmps11
    go_wp2_with (first | ((with_reducible show Calls _ _ #[] _ _); go_at_call 13; refine (alive18_any _).mono ?_; rintro e w1 ⟨rfl, hb1⟩; have HB1 := Lib.hid (HS0.out.after hb1);  clear hb1))
    go_ret
    exact ⟨rfl, HB1.out.below⟩
  subst e4
  have hv : 0 ≤ v ∧ v ≤ 2147483647 ∧ 0 ≤ i ∧ i < 32 := by omega
  have hxl := hs1.len
  have M1 := fun w s => iseal_any key xs v i pa 64 cp w hk bk s k1
  rw [(sealX_yes (key := key) hv hxl).1, (sealX_yes (key := key) hv hxl).2] at M1
  have hol := seal_len key (nonce12 i) xs (be8 v)
  have hob := bytes_seal key (nonce12 i) xs (be8 v)
  have hok := okay_seal key (nonce12 i) xs (be8 v)
  have hop := opened_seal key (nonce12 i) xs (be8 v) bs1
  rw [hxl] at hol
  obtain ⟨cs, hcs⟩ : ∃ x, x = seal' key (nonce12 i) xs (be8 v) := ⟨_, rfl⟩
  rw [← hcs] at M1 hol hob hok hop
  have M2 := fun w s c h kc => iopen_any key cs v i s 80 c w hk bk h hob kc
  rw [(openE_yes hv hol).1, (openE_yes hv hol).2, hok, hop, if_pos rfl] at M2
  have M3 := fun w s c h kc => iopen_any other cs u k s 80 c w ho bo h hob kc
  have hno := @openE_no other u k cs
  have hyes := fun h => @openE_yes other u k cs h hol
  obtain ⟨oe, hoe⟩ : ∃ x, x = openE other u k cs := ⟨_, rfl⟩
  obtain ⟨ox, hox⟩ : ∃ x, x = openX other u k cs := ⟨_, rfl⟩
  rw [← hoe, ← hox] at M3 hno hyes
  have M4 := fun w s t c d hs ht kc kd => open_any other (nonce12 k) cs (be8 u) s t 80 8 c d w ho (nonce12_len k) bo (bytes_nonce12 k) hs ht hob (be8_bytes u) (by decide) (by decide) kc kd
  have M5 := fun w => one_any k w hwk
  have M6 := fun w => one_any u w hwu
  obtain ⟨er, her⟩ : ∃ x : Int, x = (if okay other (nonce12 k) cs (be8 u) = true then 0 else 10) := ⟨_, rfl⟩
  obtain ⟨ot, hot⟩ : ∃ x, x = opened other (nonce12 k) cs (be8 u) := ⟨_, rfl⟩
  rw [← her, ← hot] at M4 hyes
  obtain ⟨zs, hzs⟩ : ∃ zs : List Int, zs = List.replicate 12 0 := ⟨_, rfl⟩
  have hz : ∀ w, (zeroValue 37).run Try.prog w = .ok (.agg (arr .u8 zs)) w := by intro w; rw [hzs]; exact zero12 w
  have hzl : zs.length = 12 := by rw [hzs]; rfl
  have hsp := splice_be k
  rw [← hzs] at hsp
  have hnl := nonce12_len k
  obtain ⟨nn, hnn⟩ : ∃ x, x = nonce12 k := ⟨_, rfl⟩
  rw [← hnn] at hsp hnl M4
  have hkl := be8_len k
  have hul := be8_len u
  obtain ⟨bk8, hb8⟩ : ∃ x, x = be8 k := ⟨_, rfl⟩
  obtain ⟨bu8, hbu⟩ : ∃ x, x = be8 u := ⟨_, rfl⟩
  rw [← hb8] at hsp hkl M5
  rw [← hbu] at hul M4 M6
  have hco : ∀ v ∈ bk8.map (Value.int .u8), v.oneCell' = true := by
    intro v hv
    obtain ⟨x, -, rfl⟩ := List.mem_map.1 hv
    rfl
  obtain ⟨st, hst⟩ : ∃ x, x = strOfNums xs := ⟨_, rfl⟩
  have HK := Lib.hid hk
  have HO := Lib.hid ho
  have HX := Lib.hid (hs1.below S0.below)
  have HM1 := Lib.hid M1
  have HM2 := Lib.hid M2
  have HM3 := Lib.hid M3
  have HM4 := Lib.hid M4
  have HM5 := Lib.hid M5
  have HM6 := Lib.hid M6
  have HNO := Lib.hid hno
  have HYES := Lib.hid hyes
  have HZ := Lib.hid hz
  have HZL := Lib.hid hzl
  have HSP := Lib.hid hsp
  have HNL := Lib.hid hnl
  have HBL := Lib.hid hkl
  have HUL := Lib.hid hul
  have HCO := Lib.hid hco
  have HCL := Lib.hid hol
  have HXL := Lib.hid hxl
  have HST := Lib.hid hst.symm
  clear M1 M2 M3 M4 M5 M6 hno hyes hz hzl hsp hnl hkl hul hco hol hob hok hop hcs hoe hox her hot hzs hnn hb8 hbu hst hxl hv S0 hk bk ho bo hs1 bs1 k1 hwu hwk
  have y0 : decide (v < 0) = false := decide_eq_false e0
  have y1 : decide ((1073741824 : Int) < v) = false := decide_eq_false e1
  have y2 : decide (i < 0) = false := decide_eq_false e2
  have y3 : decide ((31 : Int) < i) = false := decide_eq_false e3
  clear e0 e1 e2 e3
  go_enter Try.func11, Try.ntmps11
  go_upto_region 7 with (first | ((with_reducible show Calls _ _ #[] _ _); go_at_call 13; refine (alive18_any _).mono ?_; rintro e w1 ⟨rfl, hb1⟩; have HB1 := Lib.hid (HS0.out.after hb1); have HX1 := Lib.hid (HX.out.below hb1); clear hb1) | ((with_reducible show wpList _ _ _ (Oper.mk (some 51) _ _ _ _ _ :: _) _ _); refine wpList_load_part rfl 35 _ rfl (w.heap.size) 0 _ 35 (0, 0) _ HB1.out.b0 rfl .u8 key (arr_part _ _) Try.underlying35 rfl (by rw [HK.out]; exact size32) ?_) | ((with_reducible show wpList _ _ _ (Oper.mk (some 59) _ _ _ _ _ :: _) _ _); refine wpList_load_part rfl 35 _ rfl (w.heap.size) 0 _ 35 (0, 0) _ HB2.out.b0 rfl .u8 key (arr_part _ _) Try.underlying35 rfl (by rw [HK.out]; exact size32) ?_) | ((with_reducible show Calls _ _ #[.agg _, _, _, _] w1 _); go_at_call 29; refine (HM1.out _ HX1.out).mono ?_; rintro e w2 ⟨v2, rfl, ho2, hb2⟩; obtain ⟨s2, c2, hv2, hc2, -, hs2, -⟩ := ho2.form; rw [HCL.out] at hv2 hc2 hs2; subst hv2; have HB2 := Lib.hid (HB1.out.after hb2); have HX2 := Lib.hid (HX1.out.below hb2); have HC2 := Lib.hid hs2; have HD := Lib.hid hc2; clear ho2 hb2 hs2 hc2) | ((with_reducible show Calls _ _ #[.agg _, _, _, _] w2 _); go_at_call 27; refine (HM2.out _ _ _ HC2.out HD.out).mono ?_; rintro e w3 ⟨v3, rfl, ho3, hb3⟩; obtain ⟨s3, c3, hv3, -⟩ := ho3.form; rw [HXL.out] at hv3; subst hv3; have HB3 := Lib.hid (HB2.out.after hb3); have HX3 := Lib.hid (HX2.out.below hb3); have HC3 := Lib.hid (HC2.out.below hb3); have HP3 := Lib.hid ho3; clear ho3 hb3) | ((with_reducible show wpList _ _ _ (Oper.mk (some 20) _ _ _ _ _ :: _) _ _); refine wpList_alloc_row rfl 37 rfl _ (HZ.out _) ?_; go_simp))
  (try simp only [World.size_alloc, Act.put])
  have hr1 := blk_new w3 (.cells (arr .u8 zs) 37)
  have hsz : (w3.alloc (.cells (arr .u8 zs) 37)).heap.size = w3.heap.size + 1 := by rw [World.size_alloc]
  have hw := (Below.refl _ w3).alloc (Nat.le_refl _) (.cells (arr .u8 zs) 37)
  have HR1 := Lib.hid hr1
  have HSZ := Lib.hid hsz
  have HW := Lib.hid hw
  clear hr1 hsz hw
  obtain ⟨gn, hgn⟩ : ∃ g, g = w3.heap.size := ⟨_, rfl⟩
  rw [← hgn] at HR1 HSZ HW ⊢
  have HGN := Lib.hid hgn
  clear hgn
  generalize w3.alloc (.cells (arr .u8 zs) 37) = wq at HR1 HSZ HW ⊢
  have HB0 := Lib.hid ((Kept.refl (fun x => x = gn) wq).drew)
  refine wp_region_held_drew (S := (fun w' => Kept (fun x => x = gn) wq w')) (by kernel_rfl) (HB0.out) (fun hHeld => ?_)
  refine wpAnyH_take (i := 0) (oi := ({ dst := some 66, op := Op.slice 37 (Operand.tmp 20) (some (Operand.const (Value.int IntKind.i64 4))) none none, type := 22, pos := "more.go:21", after := #[], guard := none } : Oper)) (v := ?v1001) rfl (by kernel_rfl) (by kernel_rfl) (by kernel_rfl) (fun _ _ _ h => h) (Or.inl ⟨by rfl, ?hy1001⟩) (by assumption) ?rest1001
  case hy1001 => (intro w hSw; (try dsimp only at hSw); go_simp; try (with_reducible rfl))
  (try simp only [Act.put, List.setIfInBounds_toArray, List.set_cons_zero, List.set_cons_succ])
  refine wpAnyH_take (i := 1) (oi := ({ dst := some 67, op := Op.move (Operand.tmp 5), type := 3, pos := "more.go:21", after := #[], guard := none } : Oper)) (v := ?v1002) rfl (by kernel_rfl) (by kernel_rfl) (by kernel_rfl) (fun _ _ _ h => h) (Or.inl ⟨by rfl, ?hy1002⟩) (by assumption) ?rest1002
  case hy1002 => (intro w hSw; (try dsimp only at hSw); go_simp; try (with_reducible rfl))
  (try simp only [Act.put, List.setIfInBounds_toArray, List.set_cons_zero, List.set_cons_succ])
  refine wpAnyH_ready (rs := [2]) (by kernel_rfl) (by simp) ?_
  refine AllReadyH.cons (o := ({ dst := some 68, op := Op.call { callee := Callee.value (Operand.func 31), args := #[Operand.tmp 67], argTypes := #[3] }, type := 22, pos := "more.go:21", after := #[{ on := 1, ground := Ground.data }], guard := none } : Oper)) rfl (fun K hK => ?_) AllReadyH.nil
  go_simp
  go_at_call 31
  refine (HM5.out _).mono ?_
  rintro e w1003 ⟨v2, rfl, ho2, hb1003⟩
  have HB1003 := Lib.hid (HB0.out.trans (Kept.of_below hb1003))
  obtain ⟨sn, cn, hv2, -, -, hs2, -⟩ := ho2.form
  rw [HBL.out] at hv2 hs2
  subst hv2
  have HS2 := Lib.hid hs2
  clear ho2 hs2
  have HR1 := Lib.hid (Below.blk hb1003 HR1.out (blk_lt HR1.out))
  clear hb1003
  (try dsimp only)
  refine hK.out _ _ (HB1003.out) (fun hHeld => ?_)
  clear hK K
  (try simp only [Act.put, List.setIfInBounds_toArray, List.set_cons_zero, List.set_cons_succ])
  refine wpAnyH_ready (rs := [3]) (by kernel_rfl) (by simp) ?_
  refine AllReadyH.cons (o := ({ dst := some 69, op := Op.call { callee := Callee.builtin Builtin.copy, args := #[Operand.tmp 66, Operand.tmp 68], argTypes := #[22, 22] }, type := 3, pos := "more.go:21", after := #[{ on := 0, ground := Ground.data }, { on := 2, ground := Ground.data }, { on := 2, ground := Ground.chain }], guard := none } : Oper)) rfl (fun K hK => ?_) AllReadyH.nil
  obtain ⟨ad, rfl, had⟩ := src_cells HS2.out (by decide)
  refine step_copy_splice rfl (.tmp 66) (.tmp 68) 22 22 rfl 5 Try.underlying22 size_u8 (some ⟨gn, 4, none⟩) (some ad) 8 8 8 cn ?ch1 ?ch2 gn 4 (zs.map (Value.int .u8)) 37 HR1.out (bk8.map (Value.int .u8)) (by rw [List.length_map, HBL.out]; rfl) (fun _ => ⟨rfl, ad, rfl, had⟩) (by rw [List.length_map, List.length_map, HBL.out, HZL.out]; omega) HCO.out gn _ (Below.refl _ _) (Nat.le_refl _) ?_
  case ch1 => go_simp
  case ch2 => go_simp
  intro wF hb1004 hk1004
  have HLAST := Lib.hid (HB1003.out.spl hk1004 HSZ.out)
  have HB1004 := HLAST
  have hb' := hb1004.out
  rw [HSP.out] at hb'
  have HFIN := Lib.hid hb'
  clear hb1004 hk1004 hb' had
  refine hK.out _ _ (HB1004.out) (fun hHeld => ?_)
  clear hK K
  (try simp only [Act.put])
  refine wpAnyH_done (by kernel_rfl) ?_ _
  have hw7 : Below w3.heap.size w3 wF := by rw [← HGN.out]; exact HW.out.trans (HLAST.out.toBelow (Nat.le_trans (Nat.le_of_eq HGN.out) HW.out.size) (by rintro i rfl; exact Nat.le_refl _))
  have HB7 := Lib.hid (HB3.out.after hw7)
  have HX7 := Lib.hid (HX3.out.below hw7)
  have HC7 := Lib.hid (HC3.out.below hw7)
  have HP7 := Lib.hid (HP3.out.below hw7)
  clear hw7 HB3 HX3 HC3 HP3 HW HLAST HGN HSZ HB1 HB2 HX1 HX2 HC2 HM1 HM2
  (try simp only [Exit.then])
  go_upto_region 11 with (first | ((with_reducible show wpList _ _ _ (Oper.mk (some 71) _ _ _ _ _ :: _) _ _); refine wpList_load_part rfl 35 _ rfl (w.heap.size + 1) 0 _ 35 (0, 0) _ HB7.out.b1 rfl .u8 other (arr_part _ _) Try.underlying35 rfl (by rw [HO.out]; exact size32) ?_) | ((with_reducible show Calls _ _ #[.agg _, _, _, _] _ _); go_at_call 27; refine (HM3.out _ _ _ HC7.out HD.out).mono ?_; rintro e w8 ⟨v8, rfl, ho8, hb8⟩; obtain ⟨s8, c8, hv8, -⟩ := ho8.form; subst hv8; have HB8 := Lib.hid (HB7.out.after hb8); have HX8 := Lib.hid (HX7.out.below hb8); have HC8 := Lib.hid (HC7.out.below hb8); have HN8 := Lib.hid (Below.blk hb8 HFIN.out (blk_lt HFIN.out)); have HQ8 := Lib.hid ho8; have q1 := (HP7.out.below hb8).str; have q2 := src_string (c := cp) (HX7.out.below hb8); rw [HST.out] at q1 q2; clear ho8 hb8 HB7 HX7 HC7 HP7 HFIN) | ((with_reducible show Calls _ _ #[.int _ _] _ _); go_at_call 16; refine (num18_any _ _).mono ?_; rintro e w9 ⟨rfl, rfl⟩))
  (try clear q1)
  (try clear q2)
  clear HM3 HX8
  by_cases hg : 0 ≤ u ∧ u ≤ 2147483647 ∧ 0 ≤ k ∧ k < 32
  rotate_left
  · obtain ⟨rfl, rfl⟩ := HNO.out hg
    clear HYES HM4 HM5 HM6 HQ8 HNO
    by_cases f0 : u < 0
    · go_wp2_with (first | ((with_reducible show Calls _ _ #[.int _ _] _ _); go_at_call 16; refine (num18_any _ _).mono ?_; rintro e w9 ⟨rfl, rfl⟩))
      go_ret
      exact ⟨rfl, HB8.out.below⟩
    · by_cases f1 : (2147483647 : Int) < u
      · go_wp2_with (first | ((with_reducible show Calls _ _ #[.int _ _] _ _); go_at_call 16; refine (num18_any _ _).mono ?_; rintro e w9 ⟨rfl, rfl⟩))
        go_ret
        exact ⟨rfl, HB8.out.below⟩
      · by_cases f2 : k < 0
        · go_wp2_with (first | ((with_reducible show Calls _ _ #[.int _ _] _ _); go_at_call 16; refine (num18_any _ _).mono ?_; rintro e w9 ⟨rfl, rfl⟩))
          go_ret
          exact ⟨rfl, HB8.out.below⟩
        · have f3 : (31 : Int) < k := by omega
          go_wp2_with (first | ((with_reducible show Calls _ _ #[.int _ _] _ _); go_at_call 16; refine (num18_any _ _).mono ?_; rintro e w9 ⟨rfl, rfl⟩))
          go_ret
          exact ⟨rfl, HB8.out.below⟩
  · obtain ⟨rfl, rfl⟩ := HYES.out hg
    have g0 : decide (u < 0) = false := decide_eq_false (by omega)
    have g1 : decide ((2147483647 : Int) < u) = false := decide_eq_false (by omega)
    have g2 : decide (k < 0) = false := decide_eq_false (by omega)
    have g3 : decide ((31 : Int) < k) = false := decide_eq_false (by omega)
    clear hg HYES HNO HM5
    go_upto_region 13 with fail
    have hdr : Below w8.heap.size w8 w8.drew := ⟨rfl, rfl, rfl, Nat.le_refl _, fun _ _ => rfl⟩
    have HCq := Lib.hid (HC8.out.below hdr)
    have HQq := Lib.hid (HQ8.out.below hdr)
    clear hdr
    have HB0 := Lib.hid (show Below w8.heap.size w8 w8.drew from ⟨rfl, rfl, rfl, Nat.le_refl _, fun _ _ => rfl⟩)
    refine wp_region_held_drew (S := (fun w' => Go.RowKit.Below w8.heap.size w8 w')) (by kernel_rfl) (HB0.out) (fun hHeld => ?_)
    refine' wpAnyH_take (i := 0) (oi := ({ dst := some 116, op := Op.load 35 (Operand.tmp 8), type := 35, pos := "more.go:29", after := #[], guard := none } : Oper)) (v := _) rfl (by kernel_rfl) (by kernel_rfl) (by kernel_rfl) (fun _ _ _ h => h) (yieldsIf_load_mid (by rfl) _ _ rfl _ _ rfl (other.map (Value.int .u8)) _ ?hS2001 Try.underlying35 rfl (by rw [List.length_map, HO.out]; exact size32)) (by assumption) ?rest2001
    case hS2001 => (intro w hSw; exact range_part (Below.blk hSw HB8.out.b1 (blk_lt HB8.out.b1)) 0 _ (by rw [List.length_map]; exact arr_part _ _))
    (try simp only [Act.put, List.setIfInBounds_toArray, List.set_cons_zero, List.set_cons_succ])
    refine' wpAnyH_take (i := 1) (oi := ({ dst := some 117, op := Op.load 37 (Operand.tmp 20), type := 37, pos := "more.go:29", after := #[], guard := none } : Oper)) (v := _) rfl (by kernel_rfl) (by kernel_rfl) (by kernel_rfl) (fun _ _ _ h => h) (yieldsIf_load_mid (by rfl) _ _ rfl _ _ rfl (nn.map (Value.int .u8)) _ ?hS2002 Try.underlying37 rfl (by rw [List.length_map, HNL.out]; exact size12)) (by assumption) ?rest2002
    case hS2002 => (intro w hSw; exact range_part (Below.blk hSw HN8.out (blk_lt HN8.out)) 0 _ (by rw [List.length_map]; exact arr_part _ _))
    (try simp only [Act.put, List.setIfInBounds_toArray, List.set_cons_zero, List.set_cons_succ])
    refine wpAnyH_take (i := 2) (oi := ({ dst := some 118, op := Op.move (Operand.tmp 16), type := 22, pos := "more.go:29", after := #[], guard := none } : Oper)) (v := ?v2003) rfl (by kernel_rfl) (by kernel_rfl) (by kernel_rfl) (fun _ _ _ h => h) (Or.inl ⟨by rfl, ?hy2003⟩) (by assumption) ?rest2003
    case hy2003 => (intro w hSw; (try dsimp only at hSw); go_simp; try (with_reducible rfl))
    (try simp only [Act.put, List.setIfInBounds_toArray, List.set_cons_zero, List.set_cons_succ])
    refine wpAnyH_take (i := 3) (oi := ({ dst := some 119, op := Op.move (Operand.tmp 4), type := 3, pos := "more.go:29", after := #[], guard := none } : Oper)) (v := ?v2004) rfl (by kernel_rfl) (by kernel_rfl) (by kernel_rfl) (fun _ _ _ h => h) (Or.inl ⟨by rfl, ?hy2004⟩) (by assumption) ?rest2004
    case hy2004 => (intro w hSw; (try dsimp only at hSw); go_simp; try (with_reducible rfl))
    (try simp only [Act.put, List.setIfInBounds_toArray, List.set_cons_zero, List.set_cons_succ])
    refine wpAnyH_ready (rs := [4]) (by kernel_rfl) (by simp) ?_
    refine AllReadyH.cons (o := ({ dst := some 120, op := Op.call { callee := Callee.value (Operand.func 31), args := #[Operand.tmp 119], argTypes := #[3] }, type := 22, pos := "more.go:29", after := #[{ on := 3, ground := Ground.data }], guard := none } : Oper)) rfl (fun K hK => ?_) AllReadyH.nil
    go_simp
    go_at_call 31
    refine (HM6.out _).mono ?_
    rintro e w2005 ⟨v5, rfl, ho5, hb2005⟩
    have HB2005 := Lib.hid (HB0.out.trans (hb2005.mono HB0.out.size))
    obtain ⟨s5, c5, hv5, hc5, -, hs5, -⟩ := ho5.form
    rw [HUL.out] at hv5 hs5 hc5
    subst hv5
    have HS5 := Lib.hid hs5
    have HC5 := Lib.hid hc5
    clear ho5 hs5 hc5
    have HCq := Lib.hid (HCq.out.below hb2005)
    have HQq := Lib.hid (HQq.out.below hb2005)
    clear hb2005
    (try dsimp only)
    refine hK.out _ _ (HB2005.out) (fun hHeld => ?_)
    clear hK K
    (try simp only [Act.put, List.setIfInBounds_toArray, List.set_cons_zero, List.set_cons_succ])
    refine wpAnyH_ready (rs := [5]) (by kernel_rfl) (by simp) ?_
    refine AllReadyH.cons (o := ({ dst := some 121, op := Op.call { callee := Callee.value (Operand.func 20), args := #[Operand.tmp 116, Operand.tmp 117, Operand.tmp 118, Operand.tmp 120], argTypes := #[35, 37, 22, 22] }, type := 39, pos := "more.go:29", after := #[{ on := 0, ground := Ground.data }, { on := 1, ground := Ground.data }, { on := 2, ground := Ground.data }, { on := 4, ground := Ground.data }, { on := 4, ground := Ground.chain }], guard := none } : Oper)) rfl (fun K hK => ?_) AllReadyH.nil
    go_simp
    go_at_call 20
    refine (HM4.out _ _ _ _ _ HCq.out HS5.out HD.out HC5.out).mono ?_
    rintro e w2006 ⟨v6, rfl, ho6, hb2006⟩
    have HB2006 := Lib.hid (HB2005.out.trans (hb2006.mono HB2005.out.size))
    obtain ⟨s6, c6, hv6, -⟩ := ho6.form
    subst hv6
    have HT := Lib.hid ho6
    clear ho6
    have HCq := Lib.hid (HCq.out.below hb2006)
    have HQq := Lib.hid (HQq.out.below hb2006)
    clear hb2006
    (try dsimp only)
    refine hK.out _ _ (HB2006.out) (fun hHeld => ?_)
    clear hK K
    (try simp only [Act.put, List.setIfInBounds_toArray, List.set_cons_zero, List.set_cons_succ])
    refine wpAnyH_take (i := 6) (oi := ({ dst := some 115, op := Op.move (Operand.tmp 121), type := 39, pos := "more.go:29", after := #[{ on := 5, ground := Ground.data }], guard := none } : Oper)) (v := ?v2007) rfl (by kernel_rfl) (by kernel_rfl) (by kernel_rfl) (fun _ _ _ h => h) (Or.inl ⟨by rfl, ?hy2007⟩) (by assumption) ?rest2007
    case hy2007 => (intro w hSw; (try dsimp only at hSw); go_simp; try (with_reducible rfl))
    (try simp only [Act.put, List.setIfInBounds_toArray, List.set_cons_zero, List.set_cons_succ])
    refine wpAnyH_take (i := 7) (oi := ({ dst := some 122, op := Op.extract (Operand.tmp 115) 0, type := 22, pos := "more.go:29", after := #[{ on := 6, ground := Ground.data }], guard := none } : Oper)) (v := ?v2008) rfl (by kernel_rfl) (by kernel_rfl) (by kernel_rfl) (fun _ _ _ h => h) (Or.inl ⟨by rfl, ?hy2008⟩) (by assumption) ?rest2008
    case hy2008 => (intro w hSw; (try dsimp only at hSw); go_simp; try (with_reducible rfl))
    (try simp only [Act.put, List.setIfInBounds_toArray, List.set_cons_zero, List.set_cons_succ])
    refine wpAnyH_take (i := 8) (oi := ({ dst := some 123, op := Op.extract (Operand.tmp 115) 1, type := 25, pos := "more.go:29", after := #[{ on := 6, ground := Ground.data }, { on := 9, ground := Ground.gcOnly Departure.lateStores }], guard := none } : Oper)) (v := ?v2009) rfl (by kernel_rfl) (by kernel_rfl) (by kernel_rfl) (fun _ _ _ h => h) (Or.inl ⟨by rfl, ?hy2009⟩) (by assumption) ?rest2009
    case hy2009 => (intro w hSw; (try dsimp only at hSw); go_simp; try (with_reducible rfl))
    (try simp only [Act.put, List.setIfInBounds_toArray, List.set_cons_zero, List.set_cons_succ])
    refine wpAnyH_take (i := 9) (oi := ({ dst := some 23, op := Op.assign (Operand.tmp 122), type := 22, pos := "more.go:29", after := #[{ on := 7, ground := Ground.data }, { on := 5, ground := Ground.chain }, { on := 0, ground := Ground.phase }, { on := 1, ground := Ground.phase }, { on := 2, ground := Ground.phase }, { on := 3, ground := Ground.phase }, { on := 4, ground := Ground.phase }, { on := 5, ground := Ground.phase }, { on := 6, ground := Ground.phase }, { on := 7, ground := Ground.phase }, { on := 8, ground := Ground.textOnly Departure.lateStores }], guard := none } : Oper)) (v := ?v2010) rfl (by kernel_rfl) (by kernel_rfl) (by kernel_rfl) (fun _ _ _ h => h) (Or.inl ⟨by rfl, ?hy2010⟩) (by assumption) ?rest2010
    case hy2010 => (intro w hSw; (try dsimp only at hSw); go_simp; try (with_reducible rfl))
    (try simp only [Act.put, List.setIfInBounds_toArray, List.set_cons_zero, List.set_cons_succ])
    refine wpAnyH_take (i := 10) (oi := ({ dst := some 24, op := Op.assign (Operand.tmp 123), type := 25, pos := "more.go:29", after := #[{ on := 8, ground := Ground.data }, { on := 9, ground := Ground.chain }, { on := 0, ground := Ground.phase }, { on := 1, ground := Ground.phase }, { on := 2, ground := Ground.phase }, { on := 3, ground := Ground.phase }, { on := 4, ground := Ground.phase }, { on := 5, ground := Ground.phase }, { on := 6, ground := Ground.phase }, { on := 7, ground := Ground.phase }, { on := 8, ground := Ground.phase }, { on := 9, ground := Ground.phase }], guard := none } : Oper)) (v := ?v2011) rfl (by kernel_rfl) (by kernel_rfl) (by kernel_rfl) (fun _ _ _ h => h) (Or.inl ⟨by rfl, ?hy2011⟩) (by assumption) ?rest2011
    case hy2011 => (intro w hSw; (try dsimp only at hSw); go_simp; try (with_reducible rfl))
    (try simp only [Act.put, List.setIfInBounds_toArray, List.set_cons_zero, List.set_cons_succ])
    refine wpAnyH_done (by kernel_rfl) ?_ _
    have HFIN := HB2006
    (try simp only [Exit.then])
    have q1 := HQq.out.str
    have q2 := HT.out.str
    go_wp2_with (first | ((with_reducible show Calls _ _ #[.int _ _] _ _); go_at_call 16; refine (num18_any _ _).mono ?_; rintro e w9 ⟨rfl, rfl⟩))
    go_ret
    exact ⟨rfl, HB8.out.below.trans (HFIN.out.mono HB8.out.below.size)⟩
end Go.Proofs.Ytdaaigodpglnnaa.Im
