/- The document's Wrap: what it answers. Condition: 32 bytes each; the table holds what its text lays. -/
import Derived.Test.YtanjhngehfbpbaaDoorMn
import Derived.Test.YtanjhngehfbpbaaDoorRb
set_option maxRecDepth 100000
set_option maxHeartbeats 16000000
set_option linter.unusedSimpArgs false
set_option linter.unusedVariables false
namespace Go.Proofs.YtanjhngehfbpbaaDoor.Wr
open Go.RowKit Lm Cu Sl Fp
theorem rwrap_any {ts ds xs : List Int} (T D : Nat) (w : World) (hT : K32 ts T) (hD : K32 ds D) (hx : xs.length = 32) (bx : bytes xs) (hk : Ha.TabK w) :
    Calls Tryd.prog 21 #[.agg (arr .u8 ts), .agg (arr .u8 ds), .agg (arr .u8 xs)] w fun e w' => (∃ sa c, e = .returned (.tuple #[.slice sa (wres T D xs).length c, .int .i64 (werr T D)]) ∧ Src w' sa (wres T D xs).length (wres T D xs) ∧ (wres T D xs).length ≤ c) ∧ Below w.heap.size w w' := by
  have p256 : (256 : Nat) ^ 32 = 2 ^ 256 := by decide
  have hT2 : T < 2 ^ 256 := by rw [← p256]; exact hT.2
  have hD2 : D < 2 ^ 256 := by rw [← p256]; exact hD.2
  have hpb2 : ∀ u : World, Calls Tryd.prog 49 #[.agg (arr .u8 ds)] u fun e w' => e = .returned (.agg (arr .u8 (n32 (x25519 D 9)))) ∧ Below u.heap.size u w' := by
    intro u
    rw [hD.1]
    exact Rd.lpub_any D u hD2
  have hsh2 : ∀ u : World, Calls Tryd.prog 50 #[.agg (arr .u8 ds), .agg (arr .u8 ts)] u fun e w' => e = .returned (.tuple #[.agg (arr .u8 (n32 (x25519 D T))), .int .i64 (werr T D)]) ∧ Below u.heap.size u w' := by
    intro u
    rw [hD.1, hT.1]
    exact Rd.shared_any D T u hD2 hT2
  obtain ⟨es, hes⟩ : ∃ x, x = n32 (x25519 D 9) := ⟨_, rfl⟩
  obtain ⟨zs, hzs⟩ : ∃ x, x = n32 (x25519 D T) := ⟨_, rfl⟩
  rw [← hes] at hpb2
  rw [← hzs] at hsh2
  have hel : es.length = 32 := by rw [hes]; exact n32_len _
  have hzl : zs.length = 32 := by rw [hzs]; exact n32_len _
  have bes : bytes es := by rw [hes]; exact n32_bytes _
  have bzs : bytes zs := by rw [hzs]; exact n32_bytes _
  have bts : bytes ts := by rw [hT.1]; exact n32_bytes T
  have hwk := fun (u : World) (h : Ha.TabK u) => wrapping_any es zs u hel hzl bes bzs h
  obtain ⟨kv, hkv⟩ : ∃ x, x = wkey es zs := ⟨_, rfl⟩
  have hkl : kv.length = 32 := by rw [hkv]; exact wkey_len _ _
  have bkv : bytes kv := by rw [hkv]; exact wkey_bytes _ _
  have hsd : sealed T D xs = Ae.seal' kv n0 xs ts := by rw [sealed, ← hes, ← hzs, ← hkv, show n32 T = ts from hT.1.symm]
  have hsl := sealed_len T D xs hx
  rw [← hkv] at hwk
  have hse : ∀ (u : World) (g1 g2 : Addr), Src u (some g1) 32 xs → Src u (some g2) 32 ts → Calls Tryd.prog 51 #[.agg (arr .u8 kv), .agg (arr .u8 n0), .slice (some g1) 32 32, .slice (some g2) 32 32] u fun e w' => ∃ (a : Addr) (c : Nat), e = .returned (.slice (some a) 48 c) ∧ Src w' (some a) 48 (sealed T D xs) ∧ Below u.heap.size u w' := by
    intro u g1 g2 h1 h2
    refine (Ae.rseal_any kv n0 xs ts (some g1) (some g2) 32 32 32 32 u hkl n0_len bkv n0_bytes h1 h2 bts (by decide) (by decide)).mono ?_
    rintro e w' ⟨v, rfl, ho, hb⟩
    rw [← hsd] at ho
    obtain ⟨sa, c, rfl, -, -, h3, hor⟩ := ho.form
    rw [hsl] at h3 ⊢
    rcases hor with ⟨-, h0, -⟩ | ⟨g, rfl, -, -⟩
    · rw [h0] at hsl; exact absurd hsl (by decide)
    · exact ⟨_, c, rfl, h3, hb⟩
  obtain ⟨SL, hSL⟩ : ∃ x, x = sealed T D xs := ⟨_, rfl⟩
  rw [← hSL] at hse hsl
  have hwr : wres T D xs = if x25519 D T = 0 then [] else es ++ SL := by rw [wres, ← hes, ← hSL]
  have hwe : werr T D = if x25519 D T = 0 then 21 else 0 := rfl
  obtain ⟨we, hwee⟩ : ∃ x, x = werr T D := ⟨_, rfl⟩
  rw [← hwee] at hsh2 hwe ⊢
  obtain ⟨wl, hwl⟩ : ∃ x, x = wres T D xs := ⟨_, rfl⟩
  rw [← hwl] at hwr ⊢
  obtain ⟨nv, hnv⟩ : ∃ x, x = n0 := ⟨_, rfl⟩
  rw [← hnv] at hse
  have HN0L : Hid (nv.length = 12) := Lib.hid (by rw [hnv]; rfl)
  have HBN : Hid (∀ w, (Instr.build 81 #[]).run Tryd.prog w = .ok (.agg (arr .u8 nv)) w) := Lib.hid (by intro w; rw [hnv]; exact build_non w)
  have HPB := Lib.hid hpb2
  have HSH := Lib.hid hsh2
  have HWK := Lib.hid hwk
  have HSE := Lib.hid hse
  have HEL := Lib.hid hel
  have HZL := Lib.hid hzl
  have HKVL := Lib.hid hkl
  have HSLL := Lib.hid hsl
  have HTL := Lib.hid hT.len
  have HDL := Lib.hid hD.len
  have HXL := Lib.hid hx
  have HTK := Lib.hid hk
  obtain ⟨zn, hzn⟩ : ∃ zs : List Int, zs = List.replicate 32 0 := ⟨_, rfl⟩
  have HZzn : Hid (∀ w, (zeroValue 23).run Tryd.prog w = .ok (.agg (arr .u8 zn)) w) := Lib.hid (by intro w; rw [hzn]; exact zero_num w)
  have HLzn : Hid (zn.length = 32) := Lib.hid (by rw [hzn]; rfl)
  have HI0 := Lib.hid (Blk.three w (arr .u8 ts) (arr .u8 ds) (arr .u8 xs) 23 23 23)
  have HWR := Lib.hid hwr
  have HWE := Lib.hid hwe
  clear p256 hT2 hD2 hpb2 hsh2 hes hzs hel hzl bes bzs bts hwk hkv hkl bkv hsd hsl hse hSL hwr hwe hwee hwl hnv hzn hT hD hx bx hk
  go_enter Tryd.func21, Tryd.ntmps21
  go_upto_region 1 with fail
  (try simp only [World.size_alloc, Act.put, sA, sZ, sS])
  generalize (((w.alloc (.cells (arr .u8 ts) 23)).alloc (.cells (arr .u8 ds) 23)).alloc (.cells (arr .u8 xs) 23)) = wb at HI0 ⊢
  go_upto_region 2 with (first | ((with_reducible refine aS 11 ?_); refine wpList_load_part rfl 23 _ rfl (w.heap.size + 1) 0 _ 23 (0, 0) _ (HI0.out.get 1 rfl) rfl .u8 ds (arr_part _ _) Tryd.underlying23 rfl (num_i HDL.out) ?_) | ((with_reducible show Calls _ 49 _ _ _); go_at_call 49; refine (HPB.out _).mono ?_; rintro e w1 ⟨rfl, hb1⟩; have HI1 := Lib.hid (HI0.out.kept hb1); clear hb1) | ((with_reducible refine aS 8 ?_); refine wpList_alloc_row rfl 23 rfl _ (HZzn.out _) ?_; have HI2 := Lib.hid (HI1.out.alloc (arr .u8 zn) 23); generalize w1.heap.size = g8 at HI2 ⊢; generalize w1.alloc (.cells (arr .u8 zn) 23) = w2 at HI2 ⊢) | ((with_reducible refine aT 8 ?_); refine wpList_store_whole rfl 23 _ _ rfl (g8) _ _ 23 (HI2.out.get 3 rfl) rfl rfl (arr_len2 _ _ HEL.out HLzn.out) (num_s HEL.out) (all_arr _ _) ?_; intro w3 hb3 hk3 hz3; have HI3 := Lib.hid (HI2.out.put 3 rfl hk3 hb3); clear hb3 hk3 hz3))
  (try simp only [World.size_alloc, Act.put, sA, sZ, sS])
  go_upto_region 3 with (first | ((with_reducible refine aS 14 ?_); refine wpList_load_part rfl 23 _ rfl (w.heap.size + 1) 0 _ 23 (0, 0) _ (HI3.out.get 1 rfl) rfl .u8 ds (arr_part _ _) Tryd.underlying23 rfl (num_i HDL.out) ?_) | ((with_reducible refine aS 15 ?_); refine wpList_load_part rfl 23 _ rfl (w.heap.size) 0 _ 23 (0, 0) _ (HI3.out.get 0 rfl) rfl .u8 ts (arr_part _ _) Tryd.underlying23 rfl (num_i HTL.out) ?_) | ((with_reducible show Calls _ 50 _ _ _); go_at_call 50; refine (HSH.out _).mono ?_; rintro e w4 ⟨rfl, hb4⟩; have HI4 := Lib.hid (HI3.out.kept hb4); clear hb4) | ((with_reducible refine aS 9 ?_); refine wpList_alloc_row rfl 23 rfl _ (HZzn.out _) ?_; have HI5 := Lib.hid (HI4.out.alloc (arr .u8 zn) 23); generalize w4.heap.size = g9 at HI5 ⊢; generalize w4.alloc (.cells (arr .u8 zn) 23) = w5 at HI5 ⊢) | ((with_reducible refine aT 9 ?_); refine wpList_store_whole rfl 23 _ _ rfl (g9) _ _ 23 (HI5.out.get 4 rfl) rfl rfl (arr_len2 _ _ HZL.out HLzn.out) (num_s HZL.out) (all_arr _ _) ?_; intro w6 hb6 hk6 hz6; have HI6 := Lib.hid (HI5.out.put 4 rfl hk6 hb6); clear hb6 hk6 hz6))
  (try simp only [World.size_alloc, Act.put, sA, sZ, sS])
  by_cases hz : x25519 D T = 0
  · have e1 := HWE.out
    have e2 := HWR.out
    rw [if_pos hz] at e1 e2
    subst e1 e2
    clear HWE HWR
    go_wp2_with fail
    (try simp only [Exit.then])
    go_ret2
    exact ⟨⟨none, 0, rfl, ⟨rfl, fun i hi => absurd hi (by simp)⟩, Nat.le_refl _⟩, HI6.out.below⟩
  · have e1 := HWE.out
    have e2 := HWR.out
    rw [if_neg hz] at e1 e2
    subst e1
    have HWL : Hid (wl = es ++ SL) := Lib.hid e2
    clear e2 HWE HWR hz
    go_upto_region 5 with fail
    (try simp only [World.size_alloc, Act.put, sA, sZ, sS])
    have HK0 := Lib.hid ((Kept.refl (fun _ => False) w6).drew)
    have HBd := Lib.hid (HI6.out.drew)
    refine wp_region_held_drew (S := (fun w' => Kept (fun _ => False) w6 w')) (by kernel_rfl) (HK0.out) (fun hHeld => ?_)
    generalize w6.drew = wd at HK0 HBd hHeld ⊢
    refine wpAnyH_take (i := 0) (oi := (⟨some 22, _, _, _, _, none⟩ : Oper)) (v := .slice (some ⟨g8, 0, none⟩) 32 32) rfl (by kernel_rfl) (by kernel_rfl) (by kernel_rfl) (fun _ _ _ h => h) (Or.inl ⟨by rfl, ?hy6901⟩) (by assumption) ?rest6901
    case hy6901 => (intro w hSw; (try dsimp only at hSw); go_simp; try (with_reducible rfl))
    (try simp only [Act.put, sA, sZ, sS])
    refine' wpAnyH_take (i := 2) (oi := (⟨some 24, _, _, _, _, none⟩ : Oper)) (v := _) rfl (by kernel_rfl) (by kernel_rfl) (by kernel_rfl) (fun _ _ _ h => h) (yieldsIf_load_mid (by rfl) _ _ rfl _ _ rfl (es.map (Value.int .u8)) _ ?hS6902 Tryd.underlying23 rfl (by rw [List.length_map]; exact num_i HEL.out)) (by assumption) ?rest6902
    case hS6902 => (intro w hSw; (try dsimp only at hSw); exact range_part (hSw.blk (HI6.out.get 3 rfl) (fun e => e.elim)) 0 _ (by rw [List.length_map]; exact arr_part _ _))
    (try simp only [Act.put, sA, sZ, sS])
    refine' wpAnyH_take (i := 3) (oi := (⟨some 25, _, _, _, _, none⟩ : Oper)) (v := _) rfl (by kernel_rfl) (by kernel_rfl) (by kernel_rfl) (fun _ _ _ h => h) (yieldsIf_load_mid (by rfl) _ _ rfl _ _ rfl (zs.map (Value.int .u8)) _ ?hS6903 Tryd.underlying23 rfl (by rw [List.length_map]; exact num_i HZL.out)) (by assumption) ?rest6903
    case hS6903 => (intro w hSw; (try dsimp only at hSw); exact range_part (hSw.blk (HI6.out.get 4 rfl) (fun e => e.elim)) 0 _ (by rw [List.length_map]; exact arr_part _ _))
    (try simp only [Act.put, sA, sZ, sS])
    refine wpAnyH_take (i := 5) (oi := (⟨some 27, _, _, _, _, none⟩ : Oper)) (v := .agg (arr .u8 nv)) rfl (by kernel_rfl) (by kernel_rfl) (by kernel_rfl) (fun _ _ _ h => h) (Or.inl ⟨by rfl, ?hy6904⟩) (by assumption) ?rest6904
    case hy6904 => (intro w hSw; (try dsimp only at hSw); exact exec_build_l 81 _ rfl #[] rfl _ (HBN.out _))
    (try simp only [Act.put, sA, sZ, sS])
    refine wpAnyH_take (i := 6) (oi := (⟨some 28, _, _, _, _, none⟩ : Oper)) (v := .slice (some ⟨w.heap.size + 1 + 1, 0, none⟩) 32 32) rfl (by kernel_rfl) (by kernel_rfl) (by kernel_rfl) (fun _ _ _ h => h) (Or.inl ⟨by rfl, ?hy6905⟩) (by assumption) ?rest6905
    case hy6905 => (intro w hSw; (try dsimp only at hSw); go_simp; try (with_reducible rfl))
    (try simp only [Act.put, sA, sZ, sS])
    refine wpAnyH_take (i := 7) (oi := (⟨some 29, _, _, _, _, none⟩ : Oper)) (v := .slice (some ⟨w.heap.size, 0, none⟩) 32 32) rfl (by kernel_rfl) (by kernel_rfl) (by kernel_rfl) (fun _ _ _ h => h) (Or.inl ⟨by rfl, ?hy6906⟩) (by assumption) ?rest6906
    case hy6906 => (intro w hSw; (try dsimp only at hSw); go_simp; try (with_reducible rfl))
    (try simp only [Act.put, sA, sZ, sS])
    refine wpAnyH_ready (rs := [1]) (by kernel_rfl) (by simp) ?_
    refine AllReadyH.cons (o := (⟨some 23, _, _, _, _, none⟩ : Oper)) rfl (fun K hK => ?_) AllReadyH.nil
    refine step_app8 rfl (.const (.slice none 0 0)) (.tmp 22) rfl wd.heap.size _ [] rfl (Own8.nil _ _) _ 32 32 es rfl (src_all (HBd.out.get 3 rfl) 32 HEL.out) (by decide) (Nat.le_refl _) ?_
    rw [List.nil_append]
    intro vb y32 how hgr _ _
    have hb9 := app8_below (Own8.nil wd wd.heap.size) hgr (Below.refl _ _) (Nat.le_refl _)
    have HY32 := Lib.hid (HBd.out.kept hb9)
    have HQ32 := Lib.hid (HK0.out.trans (Kept.of_below hb9))
    have HOA : Hid (Own8 y32 wd.heap.size vb es) := Lib.hid how
    have HSW : Hid (∀ g, g < wd.heap.size → ∀ k, vb.ownBlock = some k → g ≠ k) := Lib.hid (fun g hg k h => by have := (how.lt k h).1; omega)
    have HLT : Hid (w.heap.size < wd.heap.size ∧ w.heap.size + 1 < wd.heap.size ∧ w.heap.size + 1 + 1 < wd.heap.size ∧ g8 < wd.heap.size ∧ g9 < wd.heap.size) := Lib.hid ⟨HBd.out.lt 0 rfl, HBd.out.lt 1 rfl, HBd.out.lt 2 rfl, HBd.out.lt 3 rfl, HBd.out.lt 4 rfl⟩
    have HWS : Hid (wd.heap.size ≤ y32.heap.size) := Lib.hid hb9.size
    have HBW : Hid (Below w.heap.size w wd ∧ w6.heap.size ≤ wd.heap.size) := Lib.hid ⟨HBd.out.below, HK0.out.size⟩
    generalize wd.heap.size = bsz at HOA HSW HLT HWS HBW
    clear how hgr hb9
    refine hK.out _ _ (HQ32.out) (fun hHeld => ?_)
    clear hK K
    (try simp only [Act.put, sA, sZ, sS])
    refine wpAnyH_ready (rs := [4]) (by kernel_rfl) (by simp) ?_
    refine AllReadyH.cons (o := (⟨some 26, _, _, _, _, none⟩ : Oper)) rfl (fun K hK => ?_) AllReadyH.nil
    go_simp
    go_at_call 52
    refine (HWK.out _ (ktab_below HTK.out HY32.out.below)).mono ?_
    rintro e y33 ⟨rfl, hb9⟩
    have HY33 := Lib.hid (HY32.out.kept hb9)
    have HQ33 := Lib.hid (HQ32.out.trans (Kept.of_below hb9))
    have HOB := Lib.hid (HOA.out.below hb9)
    have HWT := Lib.hid (Nat.le_trans HWS.out hb9.size)
    clear hb9
    (try dsimp only)
    refine hK.out _ _ (HQ33.out) (fun hHeld => ?_)
    clear hK K
    (try simp only [Act.put, sA, sZ, sS])
    refine wpAnyH_ready (rs := [8]) (by kernel_rfl) (by simp) ?_
    refine AllReadyH.cons (o := (⟨some 30, _, _, _, _, none⟩ : Oper)) rfl (fun K hK => ?_) AllReadyH.nil
    go_simp
    go_at_call 51
    refine (HSE.out _ _ _ (src_all (HY33.out.get 2 rfl) 32 HXL.out) (src_all (HY33.out.get 0 rfl) 32 HTL.out)).mono ?_
    rintro e y34 ⟨a7, c7, rfl, hs7, hb9⟩
    have HY34 := Lib.hid (HY33.out.kept hb9)
    have HQ34 := Lib.hid (HQ33.out.trans (Kept.of_below hb9))
    have HOC := Lib.hid (HOB.out.below hb9)
    have HWU := Lib.hid (Nat.le_trans HWT.out hb9.size)
    have HS7 := Lib.hid hs7
    clear hs7
    clear hb9
    (try dsimp only)
    refine hK.out _ _ (HQ34.out) (fun hHeld => ?_)
    clear hK K
    (try simp only [Act.put, sA, sZ, sS])
    refine wpAnyH_ready (rs := [9]) (by kernel_rfl) (by simp) ?_
    refine AllReadyH.cons (o := (⟨some 31, _, _, _, _, none⟩ : Oper)) rfl (fun K hK => ?_) AllReadyH.nil
    refine step_app8 rfl (.tmp 23) (.tmp 30) rfl bsz vb es rfl HOC.out (some a7) 48 c7 SL rfl HS7.out (by rw [HEL.out]; decide) HWU.out ?_
    intro vf y35 how hgr _ _
    have hbe : Below w.heap.size w y35 := app8_below (HOC.out.mono (Nat.le_of_lt HLT.out.1)) hgr HY34.out.below HY34.out.below.size
    have HY35 := Lib.hid (Blk.grown HY34.out hgr (by
      intro e he e2
      have h5 := HSW.out e.1
      obtain ⟨l0, l1, l2, l3, l4⟩ := HLT.out
      simp only [List.mem_append, List.mem_cons, List.not_mem_nil, or_false, List.cons_append, List.nil_append, List.set] at he
      rcases he with rfl | rfl | rfl | rfl | rfl
      · exact h5 l0 _ e2.symm rfl
      · exact h5 l1 _ e2.symm rfl
      · exact h5 l2 _ e2.symm rfl
      · exact h5 l3 _ e2.symm rfl
      · exact h5 l4 _ e2.symm rfl) hbe)
    have HQ35 : Hid (Kept (fun _ => False) w6 y35) := Lib.hid (HQ34.out.trans_new (T := fun _ => False) (T' := fun x => vb.ownBlock = some x) ⟨hgr.os, hgr.tape, hgr.output, hgr.size, fun k hk hne => hgr.block k hk (fun e => hne e.symm)⟩ (fun i hi e => absurd ((HOC.out.lt i e).1) (by have := HBW.out.2; omega)))
    have HOF := Lib.hid how
    clear how hgr hbe
    refine hK.out _ _ (HQ35.out) (fun hHeld => ?_)
    clear hK K
    (try simp only [Act.put, sA, sZ, sS])
    refine wpAnyH_take (i := 10) (oi := (⟨some 6, _, _, _, _, none⟩ : Oper)) (v := vf) rfl (by kernel_rfl) (by kernel_rfl) (by kernel_rfl) (fun _ _ _ h => h) (Or.inl ⟨by rfl, ?hy6907⟩) (by assumption) ?rest6907
    case hy6907 => (intro w hSw; (try dsimp only at hSw); first | rfl | kernel_rfl)
    (try simp only [Act.put, sA, sZ, sS])
    refine wpAnyH_take (i := 11) (oi := (⟨some 7, _, _, _, _, none⟩ : Oper)) (v := .int .i64 0) rfl (by kernel_rfl) (by kernel_rfl) (by kernel_rfl) (fun _ _ _ h => h) (Or.inl ⟨by rfl, ?hy6908⟩) (by assumption) ?rest6908
    case hy6908 => (intro w hSw; (try dsimp only at hSw); first | rfl | kernel_rfl)
    (try simp only [Act.put, sA, sZ, sS])
    refine wpAnyH_done (by kernel_rfl) ?_ _
    (try simp only [Exit.then])
    go_wp2_with fail
    (try simp only [Exit.then])
    obtain ⟨sf, cf, rfl, hcf, -, hsf, -⟩ := HOF.out.form
    have hlen : (es ++ SL).length = wl.length := by rw [HWL.out]
    rw [hlen] at hsf hcf ⊢
    go_ret2
    refine ⟨⟨sf, cf, rfl, ?_, hcf⟩, HY35.out.below⟩
    have := hsf
    rwa [← HWL.out] at this
end Go.Proofs.YtanjhngehfbpbaaDoor.Wr
