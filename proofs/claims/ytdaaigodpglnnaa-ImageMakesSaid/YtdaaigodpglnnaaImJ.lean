/- portcullislaw18: ImageMakes. No condition beyond the arguments' own. -/
import Derived.Test.YtdaaigodpglnnaaImI
namespace Go.Proofs.Ytdaaigodpglnnaa.Im
open Go.RowKit Lm Po Ch Ae

theorem bytes_chunk {xs : List Int} (h : bytes xs) (k : Nat) : bytes (chunk xs k) := bytes_append (bytes_take (bytes_drop h _) _) (bytes_zeros _)
theorem sealL_at (key : List Int) (v : Int) (xs : List Int) (m i : Nat) (h : i < m) : (sealL key v xs m).getD i [] = sealAt key v xs i := by simp [sealL, List.getD, h]
theorem open_sealAt (key xs : List Int) (v : Int) (j : Nat) (sp : Option Addr) (cp : Nat) (w : World) (hv : 0 ≤ v ∧ v ≤ 2147483647 ∧ j < 32) (hk : key.length = 32) (bk : bytes key) (bx : bytes xs) (hs : Src w sp 80 (sealAt key v xs j)) (kc : 80 ≤ cp) :
    Calls Try.prog 27 #[.agg (arr .u8 key), .int .i64 v, .int .i64 (j : Int), .slice sp 80 cp] w fun e w' => ∃ u, e = .returned (.tuple #[u, .int .i64 0]) ∧ Own8 w' w.heap.size u (chunk xs j) ∧ Below w.heap.size w w' := by
  have h := iopen_any key (sealAt key v xs j) v (j : Int) sp 80 cp w hk bk hs (bytes_seal _ _ _ _) kc
  have hy := @openE_yes key v (j : Int) (sealAt key v xs j) (by omega) (sealAt_len _ _ _ _)
  rw [hy.1, hy.2, sealAt, okay_seal, opened_seal _ _ _ _ (bytes_chunk bx j), if_pos rfl] at h
  exact h
theorem num18_b' (e : Int) (w : World) : Calls Try.prog 16 #[.int .i64 e] w fun r w' => r = .returned (.int .i64 e) ∧ Below w.heap.size w w' :=
  (num18_any e w).mono fun _ _ h => ⟨h.1, h.2 ▸ Below.refl _ _⟩

set_option maxRecDepth 100000 in
set_option maxHeartbeats 8000000 in
theorem makes_any (key : List Int) (v : Int) (hk : key.length = 32) (bk : bytes key) (pa : Option Addr) (lp cp : Nat) (zp : List Int) (w : World) (h1 : RowI .u8 w pa lp cp zp) :
    Calls Try.prog 12 #[.agg (arr .u8 key), .int .i64 v, .slice pa lp cp] w fun e w' => e = .returned (.bool true) ∧ Below w.heap.size w w' := by
  obtain ⟨hs1, bs1, k1⟩ := h1.src
  have S0 := B1.start w (arr .u8 key) 35
  have HS0 := Lib.hid S0
  clear h1
  generalize zp.take lp = xs at hs1 bs1
  by_cases e0 : (2100 : Int) < (lp : Int)
  · clear hs1 bs1 k1 S0 hk bk
    go_enter Try.func12, Try.ntmps12
    go_wp2_with (first | ((with_reducible show Calls _ _ #[] _ _); go_at_call 13; refine (alive18_any _).mono ?_; rintro e w1 ⟨rfl, hb1⟩; have HB1 := Lib.hid (HS0.out.after hb1);  clear hb1))
    go_ret
    exact ⟨rfl, HB1.out.below⟩
  have q0 : decide ((2100 : Int) < (lp : Int)) = false := decide_eq_false e0
  clear e0
  by_cases hn : 2048 < lp
  · have HK := Lib.hid hk
    clear hs1 bs1 k1 S0 hk bk
    go_enter Try.func12, Try.ntmps12
    go_wp2_with (first | ((with_reducible show Calls _ _ #[] _ _); go_at_call 13; refine (alive18_any _).mono ?_; rintro e w1 ⟨rfl, hb1⟩; have HB1 := Lib.hid (HS0.out.after hb1);  clear hb1) | ((with_reducible show wpList _ _ _ (Oper.mk (some 27) _ _ _ _ _ :: _) _ _); refine wpList_load_part rfl 35 _ rfl w.heap.size 0 _ 35 (0, 0) _ HB1.out.b0 rfl .u8 key (arr_part _ _) Try.underlying35 rfl (by rw [HK.out]; exact size32) ?_) | ((with_reducible show wpList _ _ _ (Oper.mk (some 34) _ _ _ _ _ :: _) _ _); refine wpList_load_part rfl 35 _ rfl w.heap.size 0 _ 35 (0, 0) _ HB2.out.b0 rfl .u8 key (arr_part _ _) Try.underlying35 rfl (by rw [HK.out]; exact size32) ?_) | ((with_reducible show Calls _ _ #[.agg _, _, _] w1 _); go_at_call 32; refine (make_long key v pa lp cp _ hn).mono ?_; rintro e w2 ⟨rfl, hb2⟩; have HB2 := Lib.hid (HB1.out.after hb2);  clear hb2) | ((with_reducible show Calls _ _ #[.agg _, _, _] w2 _); go_at_call 33; refine (rmake_long key v pa lp cp _ hn).mono ?_; rintro e w3 ⟨rfl, hb3⟩; have HB3 := Lib.hid (HB2.out.after hb3);  clear hb3) | ((with_reducible show Calls _ _ #[.int _ _] _ _); go_at_call 16; refine (num18_any _ _).mono ?_; rintro e w9 ⟨rfl, rfl⟩) | ((with_reducible show Calls _ _ #[.slice _ _ _, .slice _ _ _] _ _); go_at_call 17; refine (same_any 0 0 (.slice none 0 0) (.slice none 0 0) [] _ (OwnL.nil _ _) (OwnL.nil _ _) (by simp)).mono ?_; rintro e w4 ⟨rfl, k4, rfl⟩) | ((with_reducible show Calls _ _ #[.slice _ _ _] _ _); go_at_call 15; refine (rcut_long _ _ _ _ hn).mono ?_; rintro e w5 ⟨rfl, rfl⟩; have HFIN := Lib.hid (Below.drewN HB3.out.below k4)))
    go_loopw [14] (fun i wr => i = .int .i64 0 ∧ Below w.heap.size w wr) (fun _ _ => 0)
    case atStart => exact ⟨rfl, HFIN.out⟩
    case round =>
      obtain ⟨rfl, hB⟩ := hrel
      have HB := Lib.hid hB
      clear hB
      go_wp2_with fail
      (try simp only [Exit.inBlock, Exit.then])
      go_ret
      exact ⟨rfl, HB.out⟩
  have hn' : lp ≤ 2048 := by omega
  clear hn
  have HX := Lib.hid (hs1.below S0.below)
  by_cases hv : 0 ≤ v ∧ v ≤ 2147483647
  rotate_left
  · have M1 := fun w s => make_bad key xs v pa lp cp w hk bk s k1 hn' hv
    have M2 := fun w s => rmake_bad key xs v pa lp cp w hk bk s k1 hn' hv
    have M3 := fun w s => rcut_any pa lp cp xs w s k1 hn'
    have HM1 := Lib.hid M1
    have HM2 := Lib.hid M2
    have HM3 := Lib.hid M3
    have HK := Lib.hid hk
    clear hs1 bs1 k1 S0 hk bk M1 M2 M3 hv
    go_enter Try.func12, Try.ntmps12
    go_wp2_with (first | ((with_reducible show Calls _ _ #[] _ _); go_at_call 13; refine (alive18_any _).mono ?_; rintro e w1 ⟨rfl, hb1⟩; have HB1 := Lib.hid (HS0.out.after hb1); have HX1 := Lib.hid (HX.out.below hb1); clear hb1) | ((with_reducible show wpList _ _ _ (Oper.mk (some 27) _ _ _ _ _ :: _) _ _); refine wpList_load_part rfl 35 _ rfl w.heap.size 0 _ 35 (0, 0) _ HB1.out.b0 rfl .u8 key (arr_part _ _) Try.underlying35 rfl (by rw [HK.out]; exact size32) ?_) | ((with_reducible show wpList _ _ _ (Oper.mk (some 34) _ _ _ _ _ :: _) _ _); refine wpList_load_part rfl 35 _ rfl w.heap.size 0 _ 35 (0, 0) _ HB2.out.b0 rfl .u8 key (arr_part _ _) Try.underlying35 rfl (by rw [HK.out]; exact size32) ?_) | ((with_reducible show Calls _ _ #[.agg _, _, _] w1 _); go_at_call 32; refine (HM1.out _ HX1.out).mono ?_; rintro e w2 ⟨rfl, hb2⟩; have HB2 := Lib.hid (HB1.out.after hb2); have HX2 := Lib.hid (HX1.out.below hb2); clear hb2) | ((with_reducible show Calls _ _ #[.agg _, _, _] w2 _); go_at_call 33; refine (HM2.out _ HX2.out).mono ?_; rintro e w3 ⟨rfl, hb3⟩; have HB3 := Lib.hid (HB2.out.after hb3); have HX3 := Lib.hid (HX2.out.below hb3); clear hb3) | ((with_reducible show Calls _ _ #[.int _ _] _ _); go_at_call 16; refine (num18_any _ _).mono ?_; rintro e w9 ⟨rfl, rfl⟩) | ((with_reducible show Calls _ _ #[.slice _ _ _, .slice _ _ _] _ _); go_at_call 17; refine (same_any 0 0 (.slice none 0 0) (.slice none 0 0) [] _ (OwnL.nil _ _) (OwnL.nil _ _) (by simp)).mono ?_; rintro e w4 ⟨rfl, k4, rfl⟩) | ((with_reducible show Calls _ _ #[.slice _ _ _] _ _); go_at_call 15; refine (HM3.out _ (HX3.out.below (Below.drewN (Below.refl _ _) k4))).mono ?_; rintro e w5 ⟨v5, rfl, ho5, hb5⟩; have HFIN := Lib.hid ((Below.drewN HB3.out.below k4).trans (hb5.mono (Below.drewN HB3.out.below k4).size)); clear ho5 hb5))
    go_loopw [14] (fun i wr => i = .int .i64 0 ∧ Below w.heap.size w wr) (fun _ _ => 0)
    case atStart => exact ⟨rfl, HFIN.out⟩
    case round =>
      obtain ⟨rfl, hB⟩ := hrel
      have HB := Lib.hid hB
      clear hB
      go_wp2_with fail
      (try simp only [Exit.inBlock, Exit.then])
      go_ret
      exact ⟨rfl, HB.out⟩
  · have M1 := fun w s => make_any key xs v pa lp cp w hk bk s k1 hn' hv
    have M2 := fun w s => rmake_any key xs v pa lp cp w hk bk s k1 hn' hv
    have M3 := fun w s => rcut_any pa lp cp xs w s k1 hn'
    have M4 := fun (j : Nat) (hj : j < 32) sp cp w s kc => open_sealAt key xs v j sp cp w ⟨hv.1, hv.2, hj⟩ hk bk bs1 s kc
    have hl := hs1.len
    have hcl := cutL_len xs
    rw [hl] at hcl
    have hcat := cutL_at xs
    rw [hl] at hcat
    have h32 := nblk_le hn'
    have hsl := sealL_len key v xs (nblk lp)
    have hsa := fun i h => sealL_at key v xs (nblk lp) i h
    have hal := sealAt_len key v xs
    obtain ⟨m, hm⟩ : ∃ m, m = nblk lp := ⟨_, rfl⟩
    rw [← hm] at hcl hcat h32 hsl hsa M1 M2
    obtain ⟨L, hL⟩ : ∃ x, x = cutL xs := ⟨_, rfl⟩
    obtain ⟨E, hE⟩ : ∃ x, x = sealL key v xs m := ⟨_, rfl⟩
    rw [← hL] at hcl hcat M3
    rw [← hE] at hsl hsa M1 M2
    have HM1 := Lib.hid M1
    have HM2 := Lib.hid M2
    have HM3 := Lib.hid M3
    have HM4 := Lib.hid M4
    have HCL := Lib.hid hcl
    have HCA := Lib.hid hcat
    have HEL := Lib.hid hsl
    have HEA := Lib.hid hsa
    have HAL := Lib.hid hal
    have HK := Lib.hid hk
    clear hs1 bs1 k1 S0 hk bk M1 M2 M3 M4 hl hcl hcat hsl hsa hal hm hL hE
    go_enter Try.func12, Try.ntmps12
    go_wp2_with (first | ((with_reducible show Calls _ _ #[] _ _); go_at_call 13; refine (alive18_any _).mono ?_; rintro e w1 ⟨rfl, hb1⟩; have HB1 := Lib.hid (HS0.out.after hb1); have HX1 := Lib.hid (HX.out.below hb1); clear hb1) | ((with_reducible show wpList _ _ _ (Oper.mk (some 27) _ _ _ _ _ :: _) _ _); refine wpList_load_part rfl 35 _ rfl w.heap.size 0 _ 35 (0, 0) _ HB1.out.b0 rfl .u8 key (arr_part _ _) Try.underlying35 rfl (by rw [HK.out]; exact size32) ?_) | ((with_reducible show wpList _ _ _ (Oper.mk (some 34) _ _ _ _ _ :: _) _ _); refine wpList_load_part rfl 35 _ rfl w.heap.size 0 _ 35 (0, 0) _ HB2.out.b0 rfl .u8 key (arr_part _ _) Try.underlying35 rfl (by rw [HK.out]; exact size32) ?_) | ((with_reducible show Calls _ _ #[.agg _, _, _] w1 _); go_at_call 32; refine (HM1.out _ HX1.out).mono ?_; rintro e w2 ⟨v2, rfl, ho2, hb2⟩; obtain ⟨s2, c2, hv2, -⟩ := ho2.form; rw [HEL.out] at hv2; subst hv2; have HB2 := Lib.hid (HB1.out.after hb2); have HX2 := Lib.hid (HX1.out.below hb2); have HO2 := Lib.hid ho2; clear ho2 hb2) | ((with_reducible show Calls _ _ #[.agg _, _, _] w2 _); go_at_call 33; refine (HM2.out _ HX2.out).mono ?_; rintro e w3 ⟨v3, rfl, ho3, hb3⟩; obtain ⟨s3, c3, hv3, -⟩ := ho3.form; rw [HEL.out] at hv3; subst hv3; have HB3 := Lib.hid (HB2.out.after hb3); have HX3 := Lib.hid (HX2.out.below hb3); have HO3 := Lib.hid (HO2.out.below hb3); have HP3 := Lib.hid ho3; clear ho3 hb3) | ((with_reducible show Calls _ _ #[.int _ _] _ _); go_at_call 16; refine (num18_any _ _).mono ?_; rintro e w9 ⟨rfl, rfl⟩) | ((with_reducible show Calls _ _ #[.slice _ _ _, .slice _ _ _] _ _); go_at_call 17; refine (same_any _ _ _ _ E _ HO3.out HP3.out (by rw [HEL.out]; omega)).mono ?_; rintro e w4 ⟨rfl, k4, rfl⟩; have hd4 : Below w3.heap.size w3 (w3.drewN k4) := Below.drewN (Below.refl _ _) k4; have HB4 := Lib.hid (HB3.out.after hd4); have HX4 := Lib.hid (HX3.out.below hd4); have HO4 := Lib.hid (HO3.out.below hd4); clear hd4) | ((with_reducible show Calls _ _ #[.slice _ _ _] _ _); go_at_call 15; refine (HM3.out _ HX4.out).mono ?_; rintro e w5 ⟨v5, rfl, ho5, hb5⟩; obtain ⟨s5, c5, hv5, -⟩ := ho5.form; rw [HCL.out] at hv5; subst hv5; have HB5 := Lib.hid (HB4.out.after hb5); have HO5 := Lib.hid (HO4.out.below hb5); have HQ5 := Lib.hid ho5; clear ho5 hb5))
    have hat1 := HO5.out.at
    obtain ⟨sa, ca, e1, -, hat1⟩ := hat1
    rw [HEL.out] at e1
    cases e1
    have hat2 := HQ5.out.at
    obtain ⟨sb, cb, e2, -, hat2⟩ := hat2
    rw [HCL.out] at e2
    cases e2
    rw [HEL.out] at hat1
    rw [HCL.out] at hat2
    have HA1 := Lib.hid hat1
    have HA2 := Lib.hid hat2
    clear hat1 hat2 HO5 HQ5 HO4 HO3 HP3 HO2 HX1 HX2 HX3 HX4
    go_loopw [14] (fun i wr => ∃ j : Nat, j ≤ m ∧ i = .int .i64 j ∧ Below w5.heap.size w5 wr) (fun i _ => m - (intOf i).toNat)
    case atStart => exact ⟨0, Nat.zero_le _, rfl, Below.refl _ _⟩
    case round =>
      obtain ⟨j, hj, rfl, hB⟩ := hrel
      by_cases hlt : j < m
      · obtain ⟨ad, g, ci, sq, rfl, x1, hg, hci, -⟩ := HA1.out j hlt
        obtain ⟨ad', g', ci', sq', rfl, y1, -, -, o1⟩ := HA2.out j hlt
        have x0 := below_cell hB x1
        have y0 := below_cell hB y1
        have hsi := src_blk (Below.blk hB hg (blk_lt hg))
        have o2 := o1.kept (T := fun _ => False) (Kept.of_below hB) (fun _ _ _ => id)
        rw [HEA.out j hlt, HAL.out j] at x0 hci hsi
        rw [HCA.out j hlt] at o2 y0
        rw [chunk_len] at y0
        have MO := fun sp cp w s kc => HM4.out j (by omega) sp cp w s kc
        have h64 := chunk_len xs j
        have o3 := o2.str
        rw [h64] at o2
        generalize chunk xs j = ck at *
        generalize sealAt key v xs j = sk at *
        have HMO := Lib.hid MO
        have HSI := Lib.hid hsi
        have HCI := Lib.hid (show 80 ≤ ci by omega)
        have H64 := Lib.hid h64
        have HO := Lib.hid o2
        have HBB := Lib.hid (HB5.out.after hB)
        have HBW := Lib.hid hB
        clear x1 y1 hg hci hsi h64 MO o1 o2 o3 hB HB1 HB2 HB3 HB4 HS0 HA1 HA2
        go_upto_region 12 with fail
        have HB0 := Lib.hid (show Below wr.heap.size wr wr.drew from ⟨rfl, rfl, rfl, Nat.le_refl _, fun _ _ => rfl⟩)
        refine wp_region_held_drew (S := (fun w' => Go.RowKit.Below wr.heap.size wr w')) (by kernel_rfl) (HB0.out) (fun hHeld => ?_)
        refine' wpAnyH_take (i := 0) (oi := ({ dst := some 62, op := Op.load 35 (Operand.tmp 3), type := 35, pos := "law.go:62", after := #[], guard := none } : Oper)) (v := _) rfl (by kernel_rfl) (by kernel_rfl) (by kernel_rfl) (fun _ _ _ h => h) (yieldsIf_load_mid (by rfl) _ _ rfl _ _ rfl (key.map (Value.int .u8)) _ ?hS1001 Try.underlying35 rfl (by rw [List.length_map, HK.out]; exact size32)) (by assumption) ?rest1001
        case hS1001 => (intro w hSw; exact range_part (Below.blk hSw HBB.out.b0 (blk_lt HBB.out.b0)) 0 _ (by rw [List.length_map]; exact arr_part _ _))
        (try simp only [Act.put, List.setIfInBounds_toArray, List.set_cons_zero, List.set_cons_succ])
        refine wpAnyH_take (i := 1) (oi := ({ dst := some 63, op := Op.move (Operand.tmp 1), type := 3, pos := "law.go:62", after := #[], guard := none } : Oper)) (v := ?v1002) rfl (by kernel_rfl) (by kernel_rfl) (by kernel_rfl) (fun _ _ _ h => h) (Or.inl ⟨by rfl, ?hy1002⟩) (by assumption) ?rest1002
        case hy1002 => (intro w hSw; (try dsimp only at hSw); go_simp; try (with_reducible rfl))
        (try simp only [Act.put, List.setIfInBounds_toArray, List.set_cons_zero, List.set_cons_succ])
        refine wpAnyH_take (i := 2) (oi := ({ dst := some 64, op := Op.move (Operand.tmp 14), type := 3, pos := "law.go:62", after := #[], guard := none } : Oper)) (v := ?v1003) rfl (by kernel_rfl) (by kernel_rfl) (by kernel_rfl) (fun _ _ _ h => h) (Or.inl ⟨by rfl, ?hy1003⟩) (by assumption) ?rest1003
        case hy1003 => (intro w hSw; (try dsimp only at hSw); go_simp; try (with_reducible rfl))
        (try simp only [Act.put, List.setIfInBounds_toArray, List.set_cons_zero, List.set_cons_succ])
        refine wpAnyH_take (i := 3) (oi := ({ dst := some 65, op := Op.move (Operand.tmp 8), type := 24, pos := "law.go:62", after := #[], guard := none } : Oper)) (v := ?v1004) rfl (by kernel_rfl) (by kernel_rfl) (by kernel_rfl) (fun _ _ _ h => h) (Or.inl ⟨by rfl, ?hy1004⟩) (by assumption) ?rest1004
        case hy1004 => (intro w hSw; (try dsimp only at hSw); go_simp; try (with_reducible rfl))
        (try simp only [Act.put, List.setIfInBounds_toArray, List.set_cons_zero, List.set_cons_succ])
        refine wpAnyH_take (i := 4) (oi := ({ dst := some 66, op := Op.move (Operand.tmp 14), type := 3, pos := "law.go:62", after := #[], guard := none } : Oper)) (v := ?v1005) rfl (by kernel_rfl) (by kernel_rfl) (by kernel_rfl) (fun _ _ _ h => h) (Or.inl ⟨by rfl, ?hy1005⟩) (by assumption) ?rest1005
        case hy1005 => (intro w hSw; (try dsimp only at hSw); go_simp; try (with_reducible rfl))
        (try simp only [Act.put, List.setIfInBounds_toArray, List.set_cons_zero, List.set_cons_succ])
        refine wpAnyH_take (i := 5) (oi := ({ dst := some 67, op := Op.indexAddr 24 (Operand.tmp 65) (Operand.tmp 66), type := 0, pos := "law.go:62", after := #[{ on := 3, ground := Ground.data }, { on := 4, ground := Ground.data }], guard := none } : Oper)) (v := ?v1006) rfl (by kernel_rfl) (by kernel_rfl) (by kernel_rfl) (fun _ _ _ h => h) (Or.inl ⟨by rfl, ?hy1006⟩) (by assumption) ?rest1006
        case hy1006 => (intro w hSw; (try dsimp only at hSw); go_simp; try (with_reducible rfl))
        (try simp only [Act.put, List.setIfInBounds_toArray, List.set_cons_zero, List.set_cons_succ])
        refine wpAnyH_take (i := 6) (oi := ({ dst := some 68, op := Op.load 22 (Operand.tmp 67), type := 22, pos := "law.go:62", after := #[{ on := 5, ground := Ground.data }], guard := none } : Oper)) (v := (.slice (some ⟨g, 0, none⟩) 80 ci)) rfl (by kernel_rfl) (by kernel_rfl) (by kernel_rfl) (fun _ _ _ h => h) (Or.inl ⟨by rfl, ?hy1007⟩) (by assumption) ?rest1007
        case hy1007 => (intro w hSw; (try dsimp only at hSw); have hx := below_cell hSw x0; go_simp; try (with_reducible rfl))
        (try simp only [Act.put, List.setIfInBounds_toArray, List.set_cons_zero, List.set_cons_succ])
        refine wpAnyH_ready (rs := [7]) (by kernel_rfl) (by simp) ?_
        refine AllReadyH.cons (o := ({ dst := some 69, op := Op.call { callee := Callee.value (Operand.func 27), args := #[Operand.tmp 62, Operand.tmp 63, Operand.tmp 64, Operand.tmp 68], argTypes := #[35, 3, 3, 22] }, type := 39, pos := "law.go:62", after := #[{ on := 0, ground := Ground.data }, { on := 1, ground := Ground.data }, { on := 2, ground := Ground.data }, { on := 6, ground := Ground.data }], guard := none } : Oper)) rfl (fun K hK => ?_) AllReadyH.nil
        go_simp
        go_at_call 27
        refine (HMO.out _ _ _ (HSI.out.below hHeld) HCI.out).mono ?_
        rintro e wy ⟨v6, rfl, ho6, hb1008⟩
        have HB1008 := Lib.hid (HB0.out.trans (hb1008.mono HB0.out.size))
        obtain ⟨s6, c6, hv6, -⟩ := ho6.form
        rw [H64.out] at hv6
        subst hv6
        have HO6 := Lib.hid ho6
        clear ho6
        clear hb1008
        (try dsimp only)
        refine hK.out _ _ (HB1008.out) (fun hHeld => ?_)
        clear hK K
        (try simp only [Act.put, List.setIfInBounds_toArray, List.set_cons_zero, List.set_cons_succ])
        refine wpAnyH_take (i := 8) (oi := ({ dst := some 61, op := Op.move (Operand.tmp 69), type := 39, pos := "law.go:62", after := #[{ on := 7, ground := Ground.data }], guard := none } : Oper)) (v := ?v1009) rfl (by kernel_rfl) (by kernel_rfl) (by kernel_rfl) (fun _ _ _ h => h) (Or.inl ⟨by rfl, ?hy1009⟩) (by assumption) ?rest1009
        case hy1009 => (intro w hSw; (try dsimp only at hSw); go_simp; try (with_reducible rfl))
        (try simp only [Act.put, List.setIfInBounds_toArray, List.set_cons_zero, List.set_cons_succ])
        refine wpAnyH_take (i := 9) (oi := ({ dst := some 70, op := Op.extract (Operand.tmp 61) 0, type := 22, pos := "law.go:62", after := #[{ on := 8, ground := Ground.data }], guard := none } : Oper)) (v := ?v1010) rfl (by kernel_rfl) (by kernel_rfl) (by kernel_rfl) (fun _ _ _ h => h) (Or.inl ⟨by rfl, ?hy1010⟩) (by assumption) ?rest1010
        case hy1010 => (intro w hSw; (try dsimp only at hSw); go_simp; try (with_reducible rfl))
        (try simp only [Act.put, List.setIfInBounds_toArray, List.set_cons_zero, List.set_cons_succ])
        refine wpAnyH_take (i := 10) (oi := ({ dst := some 71, op := Op.extract (Operand.tmp 61) 1, type := 25, pos := "law.go:62", after := #[{ on := 8, ground := Ground.data }, { on := 11, ground := Ground.gcOnly Departure.lateStores }], guard := none } : Oper)) (v := ?v1011) rfl (by kernel_rfl) (by kernel_rfl) (by kernel_rfl) (fun _ _ _ h => h) (Or.inl ⟨by rfl, ?hy1011⟩) (by assumption) ?rest1011
        case hy1011 => (intro w hSw; (try dsimp only at hSw); go_simp; try (with_reducible rfl))
        (try simp only [Act.put, List.setIfInBounds_toArray, List.set_cons_zero, List.set_cons_succ])
        refine wpAnyH_take (i := 11) (oi := ({ dst := some 15, op := Op.assign (Operand.tmp 70), type := 22, pos := "law.go:62", after := #[{ on := 9, ground := Ground.data }, { on := 7, ground := Ground.chain }, { on := 0, ground := Ground.phase }, { on := 1, ground := Ground.phase }, { on := 2, ground := Ground.phase }, { on := 3, ground := Ground.phase }, { on := 4, ground := Ground.phase }, { on := 5, ground := Ground.phase }, { on := 6, ground := Ground.phase }, { on := 7, ground := Ground.phase }, { on := 8, ground := Ground.phase }, { on := 9, ground := Ground.phase }, { on := 10, ground := Ground.textOnly Departure.lateStores }], guard := none } : Oper)) (v := ?v1012) rfl (by kernel_rfl) (by kernel_rfl) (by kernel_rfl) (fun _ _ _ h => h) (Or.inl ⟨by rfl, ?hy1012⟩) (by assumption) ?rest1012
        case hy1012 => (intro w hSw; (try dsimp only at hSw); go_simp; try (with_reducible rfl))
        (try simp only [Act.put, List.setIfInBounds_toArray, List.set_cons_zero, List.set_cons_succ])
        refine wpAnyH_take (i := 12) (oi := ({ dst := some 16, op := Op.assign (Operand.tmp 71), type := 25, pos := "law.go:62", after := #[{ on := 10, ground := Ground.data }, { on := 11, ground := Ground.chain }, { on := 0, ground := Ground.phase }, { on := 1, ground := Ground.phase }, { on := 2, ground := Ground.phase }, { on := 3, ground := Ground.phase }, { on := 4, ground := Ground.phase }, { on := 5, ground := Ground.phase }, { on := 6, ground := Ground.phase }, { on := 7, ground := Ground.phase }, { on := 8, ground := Ground.phase }, { on := 9, ground := Ground.phase }, { on := 10, ground := Ground.phase }, { on := 11, ground := Ground.phase }], guard := none } : Oper)) (v := ?v1013) rfl (by kernel_rfl) (by kernel_rfl) (by kernel_rfl) (fun _ _ _ h => h) (Or.inl ⟨by rfl, ?hy1013⟩) (by assumption) ?rest1013
        case hy1013 => (intro w hSw; (try dsimp only at hSw); go_simp; try (with_reducible rfl))
        (try simp only [Act.put, List.setIfInBounds_toArray, List.set_cons_zero, List.set_cons_succ])
        refine wpAnyH_done (by kernel_rfl) ?_ _
        have HF12 := HB1008
        (try simp only [Exit.then])
        have HBT := Lib.hid (HBW.out.trans (HF12.out.mono HBW.out.size))
        have hx13 := below_cell HF12.out y0
        have HO13 := Lib.hid (HO.out.kept (T := fun _ => False) (Kept.of_below HF12.out) (fun _ _ _ => id))
        go_upto_region 13 with fail
        have HB0 := Lib.hid (show Below wy.heap.size wy wy.drew from ⟨rfl, rfl, rfl, Nat.le_refl _, fun _ _ => rfl⟩)
        refine wp_region_held_drew (S := (fun w' => Go.RowKit.Below wy.heap.size wy w')) (by kernel_rfl) (HB0.out) (fun hHeld => ?_)
        refine wpAnyH_take (i := 0) (oi := ({ dst := some 72, op := Op.move (Operand.tmp 16), type := 25, pos := "law.go:63", after := #[], guard := none } : Oper)) (v := ?v2001) rfl (by kernel_rfl) (by kernel_rfl) (by kernel_rfl) (fun _ _ _ h => h) (Or.inl ⟨by rfl, ?hy2001⟩) (by assumption) ?rest2001
        case hy2001 => (intro w hSw; (try dsimp only at hSw); go_simp; try (with_reducible rfl))
        (try simp only [Act.put, List.setIfInBounds_toArray, List.set_cons_zero, List.set_cons_succ])
        refine wpAnyH_ready (rs := [1]) (by kernel_rfl) (by simp) ?_
        refine AllReadyH.cons (o := ({ dst := some 73, op := Op.call { callee := Callee.value (Operand.func 16), args := #[Operand.tmp 72], argTypes := #[25] }, type := 3, pos := "law.go:63", after := #[{ on := 0, ground := Ground.data }], guard := none } : Oper)) rfl (fun K hK => ?_) AllReadyH.nil
        go_simp
        go_at_call 16
        refine (num18_b' _ _).mono ?_
        rintro e w2002 ⟨rfl, hb2002⟩
        have HB2002 := Lib.hid (HB0.out.trans (hb2002.mono HB0.out.size))
        clear hb2002
        (try dsimp only)
        refine hK.out _ _ (HB2002.out) (fun hHeld => ?_)
        clear hK K
        (try simp only [Act.put, List.setIfInBounds_toArray, List.set_cons_zero, List.set_cons_succ])
        refine wpAnyH_take (i := 2) (oi := ({ dst := some 74, op := Op.binOp BinOp.neq 3 (Operand.tmp 73) (Operand.const (Value.int IntKind.i64 0)) 3, type := 4, pos := "law.go:63", after := #[{ on := 1, ground := Ground.data }], guard := none } : Oper)) (v := ?v2003) rfl (by kernel_rfl) (by kernel_rfl) (by kernel_rfl) (fun _ _ _ h => h) (Or.inl ⟨by rfl, ?hy2003⟩) (by assumption) ?rest2003
        case hy2003 => (intro w hSw; (try dsimp only at hSw); go_simp; try (with_reducible rfl))
        (try simp only [Act.put, List.setIfInBounds_toArray, List.set_cons_zero, List.set_cons_succ])
        refine wpAnyH_take (i := 3) (oi := ({ dst := some 75, op := Op.move (Operand.tmp 74), type := 4, pos := "law.go:63", after := #[{ on := 2, ground := Ground.data }, { on := 1, ground := Ground.chain }], guard := none } : Oper)) (v := ?v2004) rfl (by kernel_rfl) (by kernel_rfl) (by kernel_rfl) (fun _ _ _ h => h) (Or.inl ⟨by rfl, ?hy2004⟩) (by assumption) ?rest2004
        case hy2004 => (intro w hSw; (try dsimp only at hSw); go_simp; try (with_reducible rfl))
        (try simp only [Act.put, List.setIfInBounds_toArray, List.set_cons_zero, List.set_cons_succ])
        refine wpAnyH_take (i := 4) (oi := ({ dst := some 76, op := Op.move (Operand.tmp 15), type := 22, pos := "law.go:63", after := #[{ on := 3, ground := Ground.guard }], guard := some (3, false) } : Oper)) (v := ?v2005) rfl (by kernel_rfl) (by kernel_rfl) (by kernel_rfl) (fun _ _ _ h => h) (Or.inl ⟨by rfl, ?hy2005⟩) (by assumption) ?rest2005
        case hy2005 => (intro w hSw; (try dsimp only at hSw); go_simp; try (with_reducible rfl))
        (try simp only [Act.put, List.setIfInBounds_toArray, List.set_cons_zero, List.set_cons_succ])
        refine wpAnyH_take (i := 5) (oi := ({ dst := some 77, op := Op.convert 22 9 (Operand.tmp 76), type := 9, pos := "law.go:63", after := #[{ on := 4, ground := Ground.data }, { on := 3, ground := Ground.guard }], guard := some (3, false) } : Oper)) (v := (.string (strOfNums ck))) rfl (by kernel_rfl) (by kernel_rfl) (by kernel_rfl) (fun _ _ _ h => h) (Or.inl ⟨by rfl, ?hy2006⟩) (by assumption) ?rest2006
        case hy2006 => (intro w hSw; (try dsimp only at hSw); have hcv := (HO6.out.below hSw).str; go_simp; try (with_reducible rfl))
        (try simp only [Act.put, List.setIfInBounds_toArray, List.set_cons_zero, List.set_cons_succ])
        refine wpAnyH_take (i := 6) (oi := ({ dst := some 78, op := Op.move (Operand.tmp 12), type := 24, pos := "law.go:63", after := #[{ on := 3, ground := Ground.guard }], guard := some (3, false) } : Oper)) (v := ?v2007) rfl (by kernel_rfl) (by kernel_rfl) (by kernel_rfl) (fun _ _ _ h => h) (Or.inl ⟨by rfl, ?hy2007⟩) (by assumption) ?rest2007
        case hy2007 => (intro w hSw; (try dsimp only at hSw); go_simp; try (with_reducible rfl))
        (try simp only [Act.put, List.setIfInBounds_toArray, List.set_cons_zero, List.set_cons_succ])
        refine wpAnyH_take (i := 7) (oi := ({ dst := some 79, op := Op.move (Operand.tmp 14), type := 3, pos := "law.go:63", after := #[{ on := 3, ground := Ground.guard }], guard := some (3, false) } : Oper)) (v := ?v2008) rfl (by kernel_rfl) (by kernel_rfl) (by kernel_rfl) (fun _ _ _ h => h) (Or.inl ⟨by rfl, ?hy2008⟩) (by assumption) ?rest2008
        case hy2008 => (intro w hSw; (try dsimp only at hSw); go_simp; try (with_reducible rfl))
        (try simp only [Act.put, List.setIfInBounds_toArray, List.set_cons_zero, List.set_cons_succ])
        refine wpAnyH_take (i := 8) (oi := ({ dst := some 80, op := Op.indexAddr 24 (Operand.tmp 78) (Operand.tmp 79), type := 0, pos := "law.go:63", after := #[{ on := 6, ground := Ground.data }, { on := 7, ground := Ground.data }, { on := 3, ground := Ground.guard }], guard := some (3, false) } : Oper)) (v := ?v2009) rfl (by kernel_rfl) (by kernel_rfl) (by kernel_rfl) (fun _ _ _ h => h) (Or.inl ⟨by rfl, ?hy2009⟩) (by assumption) ?rest2009
        case hy2009 => (intro w hSw; (try dsimp only at hSw); go_simp; try (with_reducible rfl))
        (try simp only [Act.put, List.setIfInBounds_toArray, List.set_cons_zero, List.set_cons_succ])
        refine wpAnyH_take (i := 9) (oi := ({ dst := some 81, op := Op.load 22 (Operand.tmp 80), type := 22, pos := "law.go:63", after := #[{ on := 8, ground := Ground.data }, { on := 3, ground := Ground.guard }], guard := some (3, false) } : Oper)) (v := (.slice (some ⟨g', 0, none⟩) 64 ci')) rfl (by kernel_rfl) (by kernel_rfl) (by kernel_rfl) (fun _ _ _ h => h) (Or.inl ⟨by rfl, ?hy2010⟩) (by assumption) ?rest2010
        case hy2010 => (intro w hSw; (try dsimp only at hSw); have hx := below_cell hSw hx13; go_simp; try (with_reducible rfl))
        (try simp only [Act.put, List.setIfInBounds_toArray, List.set_cons_zero, List.set_cons_succ])
        refine wpAnyH_take (i := 10) (oi := ({ dst := some 82, op := Op.convert 22 9 (Operand.tmp 81), type := 9, pos := "law.go:63", after := #[{ on := 9, ground := Ground.data }, { on := 3, ground := Ground.guard }], guard := some (3, false) } : Oper)) (v := (.string (strOfNums ck))) rfl (by kernel_rfl) (by kernel_rfl) (by kernel_rfl) (fun _ _ _ h => h) (Or.inl ⟨by rfl, ?hy2011⟩) (by assumption) ?rest2011
        case hy2011 => (intro w hSw; (try dsimp only at hSw); have hcv := (HO13.out.kept (T := fun _ => False) (Kept.of_below hSw) (fun _ _ _ => id)).str; go_simp; try (with_reducible rfl))
        (try simp only [Act.put, List.setIfInBounds_toArray, List.set_cons_zero, List.set_cons_succ])
        refine wpAnyH_take (i := 11) (oi := ({ dst := some 83, op := Op.binOp BinOp.neq 9 (Operand.tmp 77) (Operand.tmp 82) 9, type := 4, pos := "law.go:63", after := #[{ on := 5, ground := Ground.data }, { on := 10, ground := Ground.data }, { on := 3, ground := Ground.guard }], guard := some (3, false) } : Oper)) (v := (.bool false)) rfl (by kernel_rfl) (by kernel_rfl) (by kernel_rfl) (fun _ _ _ h => h) (Or.inl ⟨by rfl, ?hy2012⟩) (by assumption) ?rest2012
        case hy2012 => (intro w hSw; (try dsimp only at hSw); go_simp; try (with_reducible rfl))
        (try simp only [Act.put, List.setIfInBounds_toArray, List.set_cons_zero, List.set_cons_succ])
        refine wpAnyH_take (i := 12) (oi := ({ dst := some 84, op := Op.pick (Operand.tmp 75) (Operand.const (Value.bool true)) (Operand.tmp 83), type := 4, pos := "law.go:63", after := #[{ on := 3, ground := Ground.data }, { on := 11, ground := Ground.data }], guard := none } : Oper)) (v := ?v2013) rfl (by kernel_rfl) (by kernel_rfl) (by kernel_rfl) (fun _ _ _ h => h) (Or.inl ⟨by rfl, ?hy2013⟩) (by assumption) ?rest2013
        case hy2013 => (intro w hSw; (try dsimp only at hSw); go_simp; try (with_reducible rfl))
        (try simp only [Act.put, List.setIfInBounds_toArray, List.set_cons_zero, List.set_cons_succ])
        refine wpAnyH_done (by kernel_rfl) ?_ _
        have HF13 := HB2002
        (try simp only [Exit.then])
        go_wp2_with fail
        go_roundw
        case rel => exact ⟨j + 1, by omega, by go_num, HBT.out.trans (HF13.out.mono HBT.out.size)⟩
        case measure => simp [intOf]; omega
      · obtain rfl : j = m := by omega
        have HB := Lib.hid hB
        clear hB
        go_wp2_with fail
        (try simp only [Exit.inBlock, Exit.then])
        go_ret
        exact ⟨rfl, HB5.out.below.trans (HB.out.mono HB5.out.below.size)⟩
end Go.Proofs.Ytdaaigodpglnnaa.Im
