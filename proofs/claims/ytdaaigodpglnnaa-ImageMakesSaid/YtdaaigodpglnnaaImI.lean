/- image.Make and the document's. Conditions: a key of 32 bytes; bytes in memory. -/
import Derived.Test.YtdaaigodpglnnaaImH
import Derived.Test.YtdaaigodpglnnaaCutR
namespace Go.Proofs.Ytdaaigodpglnnaa.Im
open Go.RowKit Lm Po Ch Ae

def sealAt (key : List Int) (v : Int) (xs : List Int) (i : Nat) : List Int := seal' key (nonce12 (i : Int)) (chunk xs i) (be8 v)
def sealL (key : List Int) (v : Int) (xs : List Int) (k : Nat) : List (List Int) := (List.range k).map (sealAt key v xs)
theorem sealL_succ (key : List Int) (v : Int) (xs : List Int) (k : Nat) : sealL key v xs (k + 1) = sealL key v xs k ++ [sealAt key v xs k] := by simp [sealL, List.range_succ]
theorem sealL_len (key : List Int) (v : Int) (xs : List Int) (k : Nat) : (sealL key v xs k).length = k := by simp [sealL]
theorem sealAt_len (key : List Int) (v : Int) (xs : List Int) (k : Nat) : (sealAt key v xs k).length = 80 := by rw [sealAt, seal_len, chunk_len]
theorem nblk_le {n : Nat} (h : n ≤ 2048) : nblk n ≤ 32 := by unfold nblk; split <;> omega
theorem owns_of {w : World} {B : Nat} {sa : Option Addr} {n c : Nat} {xs : List Int} (h : Own8 w B (.slice sa n c) xs) (hn : 0 < n) : Owns w B (.slice sa n c) xs :=
  Owns.of_row h (by intro e; cases e; omega)
theorem sealX_no {key : List Int} {v i : Int} {p : List Int} (h : ¬ (0 ≤ v ∧ v ≤ 2147483647 ∧ 0 ≤ i ∧ i < 32)) : sealE v i p = 1 ∧ sealX key v i p = [] := by
  simp [sealE, sealX, sealOk, mayB_no h]

theorem iseal_any_bad (key l : List Int) (v : Int) (sp : Option Addr) (n cp : Nat) (w : World) (hv : ¬ (0 ≤ v ∧ v ≤ 2147483647)) (hk : key.length = 32) (bk : bytes key) (hs : Src w sp n l) (kc : n ≤ cp) :
    Calls Try.prog 29 #[.agg (arr .u8 key), .int .i64 v, .int .i64 0, .slice sp n cp] w fun e w' => ∃ u, e = .returned (.tuple #[u, .int .i64 1]) ∧ Own8 w' w.heap.size u [] ∧ Below w.heap.size w w' := by
  have h := iseal_any key l v 0 sp n cp w hk bk hs kc
  rw [(sealX_no (key := key) (v := v) (i := 0) (p := l) (by omega)).1, (sealX_no (key := key) (v := v) (i := 0) (p := l) (by omega)).2] at h
  exact h

theorem iseal_any_good (key l : List Int) (v : Int) (j : Nat) (sp : Option Addr) (n cp : Nat) (w : World) (hv : 0 ≤ v ∧ v ≤ 2147483647 ∧ j < 32) (hk : key.length = 32) (bk : bytes key) (hs : Src w sp n l) (kc : n ≤ cp) (hl : n = 64) :
    Calls Try.prog 29 #[.agg (arr .u8 key), .int .i64 v, .int .i64 (j : Int), .slice sp n cp] w fun e w' => ∃ u, e = .returned (.tuple #[u, .int .i64 0]) ∧ Own8 w' w.heap.size u (seal' key (nonce12 (j : Int)) l (be8 v)) ∧ Below w.heap.size w w' := by
  have h := iseal_any key l v (j : Int) sp n cp w hk bk hs kc
  rw [(sealX_yes (key := key) (v := v) (i := (j : Int)) (p := l) (by omega) (by rw [hs.len]; exact hl)).1, (sealX_yes (key := key) (v := v) (i := (j : Int)) (p := l) (by omega) (by rw [hs.len]; exact hl)).2] at h
  exact h

set_option maxRecDepth 100000 in
set_option maxHeartbeats 4000000 in
theorem make_long (key : List Int) (v : Int) (sp : Option Addr) (n cp : Nat) (w : World) (hn : 2048 < n) :
    Calls Try.prog 32 #[.agg (arr .u8 key), .int .i64 v, .slice sp n cp] w fun e w' => e = .returned (.tuple #[.slice none 0 0, .int .i64 3]) ∧ Below w.heap.size w w' := by
  have hbw := (Below.refl _ w).alloc (Nat.le_refl _) (.cells (arr .u8 key) 35)
  have HW := Lib.hid hbw
  clear hbw
  go_enter Try.func32, Try.ntmps32
  go_wp2_with (first | ((with_reducible show Calls _ _ #[.slice _ _ _] _ _); go_at_call 14; refine (cut_long _ _ _ _ hn).mono ?_; rintro e w1 ⟨rfl, rfl⟩))
  go_ret2
  exact ⟨rfl, HW.out⟩

set_option maxRecDepth 100000 in
set_option maxHeartbeats 4000000 in
theorem make_bad (key xs : List Int) (v : Int) (sp : Option Addr) (n cp : Nat) (w : World) (hk : key.length = 32) (bk : bytes key) (hs : Src w sp n xs) (kc : n ≤ cp) (hn : n ≤ 2048) (hv : ¬ (0 ≤ v ∧ v ≤ 2147483647)) :
    Calls Try.prog 32 #[.agg (arr .u8 key), .int .i64 v, .slice sp n cp] w fun e w' => e = .returned (.tuple #[.slice none 0 0, .int .i64 1]) ∧ Below w.heap.size w w' := by
  have hbw := (Below.refl _ w).alloc (Nat.le_refl _) (.cells (arr .u8 key) 35)
  have HW := Lib.hid hbw
  have hl := hs.len
  have hcl := cutL_len xs
  rw [hl] at hcl
  have hcat := cutL_at xs
  rw [hl] at hcat
  have h32 := nblk_le hn
  have h1 : 0 < nblk n := by unfold nblk; split <;> omega
  have MS := fun (l : List Int) sp n cp w hs kc => iseal_any_bad key l v sp n cp w hv hk bk hs kc
  have hr0 := blk_new w (.cells (arr .u8 key) 35)
  have HK0 := Lib.hid hr0
  have HX := Lib.hid (hs.below hbw)
  have HKL := Lib.hid hk
  have HMS := Lib.hid MS
  have HCA := Lib.hid hcat
  have HCL := Lib.hid hcl
  have HL := Lib.hid hl
  obtain ⟨m, hm⟩ : ∃ m, m = nblk n := ⟨_, rfl⟩
  rw [← hm] at HCA HCL h32 h1
  clear hbw hr0 hs hk bk MS hcat hcl hl
  obtain ⟨L, hL⟩ : ∃ x, x = cutL xs := ⟨_, rfl⟩
  rw [← hL] at HCA HCL
  have HLE := Lib.hid hL
  clear hL
  go_enter Try.func32, Try.ntmps32
  go_wp2_with (first | ((with_reducible show Calls _ _ #[.slice _ _ _] _ _); go_at_call 14; refine (cut_any _ _ _ xs _ HX.out kc hn).mono ?_; rintro e w1 ⟨v1, rfl, ho1, hb1⟩; rw [← HLE.out] at ho1; obtain ⟨sa, c, hv1, -, hat⟩ := ho1.at; rw [HCL.out] at hv1 hat; subst hv1; have HAT := Lib.hid hat; have HB1 := Lib.hid (HW.out.trans (hb1.mono HW.out.size)); have HK1 := Lib.hid (Below.blk hb1 HK0.out (blk_lt HK0.out)); clear ho1 hat hb1))
  go_loopw [25] (fun i wr => i = .int .i64 0 ∧ w1 = wr) (fun _ _ => 0)
  case atStart => exact ⟨rfl, rfl⟩
  case round =>
    obtain ⟨rfl, rfl⟩ := hrel
    obtain ⟨ad, g, ci, sq, rfl, x0, hg, hci, -⟩ := HAT.out 0 h1
    have e0 : ad.add 0 = ad := by rcases ad with ⟨b, o, s⟩; cases s <;> simp [Addr.add]
    rw [e0] at x0
    clear e0
    have hsi := src_blk hg
    have HSI := Lib.hid hsi
    have HCI := Lib.hid (show (L.getD 0 []).length ≤ ci by omega)
    clear hg hsi hci
    generalize (L.getD 0 []) = l0 at x0 HSI HCI
    obtain ⟨ll, hll⟩ : ∃ x, x = l0.length := ⟨_, rfl⟩
    rw [← hll] at x0 HSI HCI
    clear hll
    go_wp2_with (first | ((with_reducible show wpList _ _ _ (Oper.mk (some 31) _ _ _ _ _ :: _) _ _); refine wpList_load_part rfl 35 _ rfl w.heap.size 0 _ 35 (0, 0) _ HK1.out rfl .u8 key (arr_part _ _) Try.underlying35 rfl (by rw [HKL.out]; exact size32) ?_) | ((with_reducible show Calls _ _ _ _ _); go_at_call 29; refine (HMS.out _ _ _ _ _ HSI.out HCI.out).mono ?_; rintro e w5 ⟨v5, rfl, ho5, hb5⟩; have HB5 := Lib.hid (HB1.out.trans (hb5.mono HB1.out.size)); clear ho5 hb5))
    go_ret2
    exact ⟨rfl, HB5.out⟩

set_option maxRecDepth 100000 in
set_option maxHeartbeats 4000000 in
theorem make_any (key xs : List Int) (v : Int) (sp : Option Addr) (n cp : Nat) (w : World) (hk : key.length = 32) (bk : bytes key) (hs : Src w sp n xs) (kc : n ≤ cp) (hn : n ≤ 2048) (hv : 0 ≤ v ∧ v ≤ 2147483647) :
    Calls Try.prog 32 #[.agg (arr .u8 key), .int .i64 v, .slice sp n cp] w fun e w' => ∃ u, e = .returned (.tuple #[u, .int .i64 0]) ∧ OwnL w' w.heap.size u (sealL key v xs (nblk n)) ∧ Below w.heap.size w w' := by
  have hbw := (Below.refl _ w).alloc (Nat.le_refl _) (.cells (arr .u8 key) 35)
  have HW := Lib.hid hbw
  have hl := hs.len
  have hcl := cutL_len xs
  rw [hl] at hcl
  have hcat := cutL_at xs
  rw [hl] at hcat
  have h32 := nblk_le hn
  have h1 : 0 < nblk n := by unfold nblk; split <;> omega
  have MS := fun (j : Nat) (hj : j < 32) (l : List Int) (hll : l.length = 64) sp cp w (hs : Src w sp 64 l) kc => iseal_any_good key l v j sp 64 cp w ⟨hv.1, hv.2, hj⟩ hk bk hs kc rfl
  have hr0 := blk_new w (.cells (arr .u8 key) 35)
  have HK0 := Lib.hid hr0
  have HX := Lib.hid (hs.below hbw)
  have HKL := Lib.hid hk
  have HMS := Lib.hid MS
  have HCA := Lib.hid hcat
  have HCL := Lib.hid hcl
  have HL := Lib.hid hl
  obtain ⟨m, hm⟩ : ∃ m, m = nblk n := ⟨_, rfl⟩
  rw [← hm] at HCA HCL h32 h1 ⊢
  clear hbw hr0 hs hk bk MS hcat hcl hl
  obtain ⟨L, hL⟩ : ∃ x, x = cutL xs := ⟨_, rfl⟩
  rw [← hL] at HCA HCL
  have HLE := Lib.hid hL
  clear hL
  go_enter Try.func32, Try.ntmps32
  go_wp2_with (first | ((with_reducible show Calls _ _ #[.slice _ _ _] _ _); go_at_call 14; refine (cut_any _ _ _ xs _ HX.out kc hn).mono ?_; rintro e w1 ⟨v1, rfl, ho1, hb1⟩; rw [← HLE.out] at ho1; obtain ⟨sa, c, hv1, -, hat⟩ := ho1.at; rw [HCL.out] at hv1 hat; subst hv1; have HAT := Lib.hid hat; have HB1 := Lib.hid (HW.out.trans (hb1.mono HW.out.size)); have HK1 := Lib.hid (Below.blk hb1 HK0.out (blk_lt HK0.out)); clear ho1 hat hb1))
  go_loopw [10, 25] (fun u i wr => ∃ j : Nat, j ≤ m ∧ i = .int .i64 j ∧ OwnL wr w1.heap.size u (sealL key v xs j) ∧ Below w1.heap.size w1 wr) (fun _ i _ => m - (intOf i).toNat)
  case atStart => exact ⟨0, Nat.zero_le _, rfl, OwnL.nil _ _, Below.refl _ _⟩
  case round =>
    obtain ⟨j, hj, rfl, hO, hB⟩ := hrel
    have hOf := hO.form
    rw [sealL_len] at hOf
    by_cases hlt : j < m
    · obtain ⟨ad, g, ci, sq, rfl, x1, hg, hci, -⟩ := HAT.out j hlt
      have x0 := below_cell hB x1
      have hsi := src_blk (Below.blk hB hg (blk_lt hg))
      have hch := HCA.out j hlt
      rw [hch, chunk_len] at x0 hci hsi
      have h64 := chunk_len xs j
      have hsl := sealAt_len key v xs j
      have hsx := sealL_succ key v xs j
      have MS := fun sp cp w hs kc => HMS.out j (by omega) (chunk xs j) h64 sp cp w hs kc
      have hse : seal' key (nonce12 (j : Int)) (chunk xs j) (be8 v) = sealAt key v xs j := rfl
      rw [hse] at MS
      generalize chunk xs j = ck at *
      generalize sealAt key v xs j = sk at *
      have hln := sealL_len key v xs j
      generalize sealL key v xs j = S0 at *
      have HM1 := Lib.hid MS
      have HSI := Lib.hid hsi
      have HCI := Lib.hid (show 64 ≤ ci by omega)
      have HSL := Lib.hid hsl
      have HSX := Lib.hid hsx
      have HO := Lib.hid hO
      have HBB := Lib.hid hB
      have HLN := Lib.hid hln
      have HKR := Lib.hid (Below.blk hB HK1.out (blk_lt HK1.out))
      obtain ⟨va, vc, hv1, -⟩ := hOf
      subst hv1
      clear x1 hg hci hsi hch h64 hsl hsx MS hse hO hB hln
      go_wp2_with (first | ((with_reducible show wpList _ _ _ (Oper.mk (some 31) _ _ _ _ _ :: _) _ _); refine wpList_load_part rfl 35 _ rfl w.heap.size 0 _ 35 (0, 0) _ HKR.out rfl .u8 key (arr_part _ _) Try.underlying35 rfl (by rw [HKL.out]; exact size32) ?_) | ((with_reducible show Calls _ _ _ _ _); go_at_call 29; refine (HM1.out _ _ _ HSI.out HCI.out).mono ?_; rintro e w5 ⟨v5, rfl, ho5, hb5⟩; obtain ⟨s5, c5, hv5, -⟩ := ho5.form; rw [HSL.out] at hv5; subst hv5; have HO5 := Lib.hid (owns_of ho5 (by decide)); have HB5 := Lib.hid hb5; clear ho5 hb5) | ((with_reducible show wpList _ _ _ (Oper.mk (some 44) _ _ _ _ _ :: _) _ _); refine wpList_appL rfl (.tmp 41) (.tmp 43) rfl w1.heap.size _ _ S0 sk rfl rfl (HO.out.below HB5.out) (HO5.out.mono HBB.out.size) (by rw [HLN.out]; omega) (Nat.le_trans HBB.out.size HB5.out.size) ?_; intro v6 w6 ho6 hg6; have HO6 := Lib.hid ho6; have HG6 := Lib.hid hg6; clear ho6 hg6))
      go_roundw
      case rel => exact ⟨j + 1, by omega, by go_num, by rw [HSX.out]; exact HO6.out, ((HBB.out.trans (HB5.out.mono HBB.out.size)).alloc (Nat.le_trans HBB.out.size HB5.out.size) _).grown HG6.out (Nat.le_trans HBB.out.size (Nat.le_trans HB5.out.size (by simp))) (fun j e => (OwnL.lt HO.out j e).1)⟩
      case measure => simp [intOf]; omega
    · obtain rfl : j = m := by omega
      have HO := Lib.hid hO
      have HBB := Lib.hid hB
      clear hO hB hOf
      go_wp2_with fail
      go_ret2
      exact ⟨_, rfl, HO.out.mono HB1.out.size, HB1.out.trans (HBB.out.mono HB1.out.size)⟩

theorem rblock_any_bad (key l : List Int) (v : Int) (sp : Option Addr) (n cp : Nat) (w : World) (hv : ¬ (0 ≤ v ∧ v ≤ 2147483647)) (hk : key.length = 32) (bk : bytes key) (hs : Src w sp n l) (kc : n ≤ cp) :
    Calls Try.prog 30 #[.agg (arr .u8 key), .int .i64 v, .int .i64 0, .slice sp n cp] w fun e w' => ∃ u, e = .returned (.tuple #[u, .int .i64 1]) ∧ Own8 w' w.heap.size u [] ∧ Below w.heap.size w w' := by
  have h := rblock_any key l v 0 sp n cp w hk bk hs kc
  rw [(sealX_no (key := key) (v := v) (i := 0) (p := l) (by omega)).1, (sealX_no (key := key) (v := v) (i := 0) (p := l) (by omega)).2] at h
  exact h

theorem rblock_any_good (key l : List Int) (v : Int) (j : Nat) (sp : Option Addr) (n cp : Nat) (w : World) (hv : 0 ≤ v ∧ v ≤ 2147483647 ∧ j < 32) (hk : key.length = 32) (bk : bytes key) (hs : Src w sp n l) (kc : n ≤ cp) (hl : n = 64) :
    Calls Try.prog 30 #[.agg (arr .u8 key), .int .i64 v, .int .i64 (j : Int), .slice sp n cp] w fun e w' => ∃ u, e = .returned (.tuple #[u, .int .i64 0]) ∧ Own8 w' w.heap.size u (seal' key (nonce12 (j : Int)) l (be8 v)) ∧ Below w.heap.size w w' := by
  have h := rblock_any key l v (j : Int) sp n cp w hk bk hs kc
  rw [(sealX_yes (key := key) (v := v) (i := (j : Int)) (p := l) (by omega) (by rw [hs.len]; exact hl)).1, (sealX_yes (key := key) (v := v) (i := (j : Int)) (p := l) (by omega) (by rw [hs.len]; exact hl)).2] at h
  exact h

set_option maxRecDepth 100000 in
set_option maxHeartbeats 4000000 in
theorem rmake_long (key : List Int) (v : Int) (sp : Option Addr) (n cp : Nat) (w : World) (hn : 2048 < n) :
    Calls Try.prog 33 #[.agg (arr .u8 key), .int .i64 v, .slice sp n cp] w fun e w' => e = .returned (.tuple #[.slice none 0 0, .int .i64 3]) ∧ Below w.heap.size w w' := by
  have hbw := (Below.refl _ w).alloc (Nat.le_refl _) (.cells (arr .u8 key) 35)
  have HW := Lib.hid hbw
  clear hbw
  go_enter Try.func33, Try.ntmps33
  go_wp2_with (first | ((with_reducible show Calls _ _ #[.slice _ _ _] _ _); go_at_call 15; refine (rcut_long _ _ _ _ hn).mono ?_; rintro e w1 ⟨rfl, rfl⟩))
  go_ret2
  exact ⟨rfl, HW.out⟩

set_option maxRecDepth 100000 in
set_option maxHeartbeats 4000000 in
theorem rmake_bad (key xs : List Int) (v : Int) (sp : Option Addr) (n cp : Nat) (w : World) (hk : key.length = 32) (bk : bytes key) (hs : Src w sp n xs) (kc : n ≤ cp) (hn : n ≤ 2048) (hv : ¬ (0 ≤ v ∧ v ≤ 2147483647)) :
    Calls Try.prog 33 #[.agg (arr .u8 key), .int .i64 v, .slice sp n cp] w fun e w' => e = .returned (.tuple #[.slice none 0 0, .int .i64 1]) ∧ Below w.heap.size w w' := by
  have hbw := (Below.refl _ w).alloc (Nat.le_refl _) (.cells (arr .u8 key) 35)
  have HW := Lib.hid hbw
  have hl := hs.len
  have hcl := cutL_len xs
  rw [hl] at hcl
  have hcat := cutL_at xs
  rw [hl] at hcat
  have h32 := nblk_le hn
  have h1 : 0 < nblk n := by unfold nblk; split <;> omega
  have MS := fun (l : List Int) sp n cp w hs kc => rblock_any_bad key l v sp n cp w hv hk bk hs kc
  have hr0 := blk_new w (.cells (arr .u8 key) 35)
  have HK0 := Lib.hid hr0
  have HX := Lib.hid (hs.below hbw)
  have HKL := Lib.hid hk
  have HMS := Lib.hid MS
  have HCA := Lib.hid hcat
  have HCL := Lib.hid hcl
  have HL := Lib.hid hl
  obtain ⟨m, hm⟩ : ∃ m, m = nblk n := ⟨_, rfl⟩
  rw [← hm] at HCA HCL h32 h1
  clear hbw hr0 hs hk bk MS hcat hcl hl
  obtain ⟨L, hL⟩ : ∃ x, x = cutL xs := ⟨_, rfl⟩
  rw [← hL] at HCA HCL
  have HLE := Lib.hid hL
  clear hL
  go_enter Try.func33, Try.ntmps33
  go_wp2_with (first | ((with_reducible show Calls _ _ #[.slice _ _ _] _ _); go_at_call 15; refine (rcut_any _ _ _ xs _ HX.out kc hn).mono ?_; rintro e w1 ⟨v1, rfl, ho1, hb1⟩; rw [← HLE.out] at ho1; obtain ⟨sa, c, hv1, -, hat⟩ := ho1.at; rw [HCL.out] at hv1 hat; subst hv1; have HAT := Lib.hid hat; have HB1 := Lib.hid (HW.out.trans (hb1.mono HW.out.size)); have HK1 := Lib.hid (Below.blk hb1 HK0.out (blk_lt HK0.out)); clear ho1 hat hb1))
  go_loopw [11] (fun i wr => i = .int .i64 0 ∧ w1 = wr) (fun _ _ => 0)
  case atStart => exact ⟨rfl, rfl⟩
  case round =>
    obtain ⟨rfl, rfl⟩ := hrel
    obtain ⟨ad, g, ci, sq, rfl, x0, hg, hci, -⟩ := HAT.out 0 h1
    have e0 : ad.add 0 = ad := by rcases ad with ⟨b, o, s⟩; cases s <;> simp [Addr.add]
    rw [e0] at x0
    clear e0
    have hsi := src_blk hg
    have HSI := Lib.hid hsi
    have HCI := Lib.hid (show (L.getD 0 []).length ≤ ci by omega)
    clear hg hsi hci
    generalize (L.getD 0 []) = l0 at x0 HSI HCI
    obtain ⟨ll, hll⟩ : ∃ x, x = l0.length := ⟨_, rfl⟩
    rw [← hll] at x0 HSI HCI
    clear hll
    go_upto_region 8 with fail
    have HB0 := Lib.hid (show Below w1.heap.size w1 w1.drew from ⟨rfl, rfl, rfl, Nat.le_refl _, fun _ _ => rfl⟩)
    refine wp_region_held_drew (S := (fun w' => Go.RowKit.Below w1.heap.size w1 w')) (by kernel_rfl) (HB0.out) (fun hHeld => ?_)
    refine' wpAnyH_take (i := 0) (oi := ({ dst := some 29, op := Op.load 35 (Operand.tmp 3), type := 35, pos := "makers.go:219", after := #[], guard := none } : Oper)) (v := _) rfl (by kernel_rfl) (by kernel_rfl) (by kernel_rfl) (fun _ _ _ h => h) (yieldsIf_load_mid (by rfl) _ _ rfl _ _ rfl (key.map (Value.int .u8)) _ ?hS1 Try.underlying35 rfl (by rw [List.length_map, HKL.out]; exact size32)) (by assumption) ?rest1
    case hS1 => (intro w hSw; exact range_part (Below.blk hSw HK1.out (blk_lt HK1.out)) 0 _ (by rw [List.length_map]; exact arr_part _ _))
    (try simp only [Act.put, List.setIfInBounds_toArray, List.set_cons_zero, List.set_cons_succ])
    refine wpAnyH_take (i := 1) (oi := ({ dst := some 30, op := Op.move (Operand.tmp 1), type := 3, pos := "makers.go:219", after := #[], guard := none } : Oper)) (v := ?v2) rfl (by kernel_rfl) (by kernel_rfl) (by kernel_rfl) (fun _ _ _ h => h) (Or.inl ⟨by rfl, ?hy2⟩) (by assumption) ?rest2
    case hy2 => (intro w hSw; (try dsimp only at hSw); go_simp; try (with_reducible rfl))
    (try simp only [Act.put, List.setIfInBounds_toArray, List.set_cons_zero, List.set_cons_succ])
    refine wpAnyH_take (i := 2) (oi := ({ dst := some 31, op := Op.move (Operand.tmp 11), type := 3, pos := "makers.go:219", after := #[], guard := none } : Oper)) (v := ?v3) rfl (by kernel_rfl) (by kernel_rfl) (by kernel_rfl) (fun _ _ _ h => h) (Or.inl ⟨by rfl, ?hy3⟩) (by assumption) ?rest3
    case hy3 => (intro w hSw; (try dsimp only at hSw); go_simp; try (with_reducible rfl))
    (try simp only [Act.put, List.setIfInBounds_toArray, List.set_cons_zero, List.set_cons_succ])
    refine wpAnyH_take (i := 3) (oi := ({ dst := some 32, op := Op.move (Operand.tmp 8), type := 24, pos := "makers.go:219", after := #[], guard := none } : Oper)) (v := ?v4) rfl (by kernel_rfl) (by kernel_rfl) (by kernel_rfl) (fun _ _ _ h => h) (Or.inl ⟨by rfl, ?hy4⟩) (by assumption) ?rest4
    case hy4 => (intro w hSw; (try dsimp only at hSw); go_simp; try (with_reducible rfl))
    (try simp only [Act.put, List.setIfInBounds_toArray, List.set_cons_zero, List.set_cons_succ])
    refine wpAnyH_take (i := 4) (oi := ({ dst := some 33, op := Op.move (Operand.tmp 11), type := 3, pos := "makers.go:219", after := #[], guard := none } : Oper)) (v := ?v5) rfl (by kernel_rfl) (by kernel_rfl) (by kernel_rfl) (fun _ _ _ h => h) (Or.inl ⟨by rfl, ?hy5⟩) (by assumption) ?rest5
    case hy5 => (intro w hSw; (try dsimp only at hSw); go_simp; try (with_reducible rfl))
    (try simp only [Act.put, List.setIfInBounds_toArray, List.set_cons_zero, List.set_cons_succ])
    refine wpAnyH_take (i := 5) (oi := ({ dst := some 34, op := Op.indexAddr 24 (Operand.tmp 32) (Operand.tmp 33), type := 0, pos := "makers.go:219", after := #[{ on := 3, ground := Ground.data }, { on := 4, ground := Ground.data }], guard := none } : Oper)) (v := ?v6) rfl (by kernel_rfl) (by kernel_rfl) (by kernel_rfl) (fun _ _ _ h => h) (Or.inl ⟨by rfl, ?hy6⟩) (by assumption) ?rest6
    case hy6 => (intro w hSw; (try dsimp only at hSw); go_simp; try (with_reducible rfl))
    (try simp only [Act.put, List.setIfInBounds_toArray, List.set_cons_zero, List.set_cons_succ])
    refine wpAnyH_take (i := 6) (oi := ({ dst := some 35, op := Op.load 22 (Operand.tmp 34), type := 22, pos := "makers.go:219", after := #[{ on := 5, ground := Ground.data }], guard := none } : Oper)) (v := (.slice (some ⟨g, 0, none⟩) ll ci)) rfl (by kernel_rfl) (by kernel_rfl) (by kernel_rfl) (fun _ _ _ h => h) (Or.inl ⟨by rfl, ?hy7⟩) (by assumption) ?rest7
    case hy7 => (intro w hSw; (try dsimp only at hSw); have hx := below_cell hSw x0; go_simp; try (with_reducible rfl))
    (try simp only [Act.put, List.setIfInBounds_toArray, List.set_cons_zero, List.set_cons_succ])
    refine wpAnyH_ready (rs := [7]) (by kernel_rfl) (by simp) ?_
    refine AllReadyH.cons (o := ({ dst := some 36, op := Op.call { callee := Callee.value (Operand.func 30), args := #[Operand.tmp 29, Operand.tmp 30, Operand.tmp 31, Operand.tmp 35], argTypes := #[35, 3, 3, 22] }, type := 54, pos := "makers.go:219", after := #[{ on := 0, ground := Ground.data }, { on := 1, ground := Ground.data }, { on := 2, ground := Ground.data }, { on := 6, ground := Ground.data }], guard := none } : Oper)) rfl (fun K hK => ?_) AllReadyH.nil
    go_simp
    go_at_call 30
    refine (HMS.out _ _ _ _ _ (HSI.out.below hHeld) HCI.out).mono ?_
    rintro e w8 ⟨v5, rfl, ho5, hb8⟩
    have HB8 := Lib.hid (HB0.out.trans (hb8.mono HB0.out.size))
    clear ho5
    clear hb8
    (try dsimp only)
    refine hK.out _ _ (HB8.out) (fun hHeld => ?_)
    clear hK K
    (try simp only [Act.put, List.setIfInBounds_toArray, List.set_cons_zero, List.set_cons_succ])
    refine wpAnyH_take (i := 8) (oi := ({ dst := some 28, op := Op.move (Operand.tmp 36), type := 54, pos := "makers.go:219", after := #[{ on := 7, ground := Ground.data }], guard := none } : Oper)) (v := ?v9) rfl (by kernel_rfl) (by kernel_rfl) (by kernel_rfl) (fun _ _ _ h => h) (Or.inl ⟨by rfl, ?hy9⟩) (by assumption) ?rest9
    case hy9 => (intro w hSw; (try dsimp only at hSw); go_simp; try (with_reducible rfl))
    (try simp only [Act.put, List.setIfInBounds_toArray, List.set_cons_zero, List.set_cons_succ])
    refine wpAnyH_take (i := 9) (oi := ({ dst := some 37, op := Op.extract (Operand.tmp 28) 0, type := 22, pos := "makers.go:219", after := #[{ on := 8, ground := Ground.data }], guard := none } : Oper)) (v := ?v10) rfl (by kernel_rfl) (by kernel_rfl) (by kernel_rfl) (fun _ _ _ h => h) (Or.inl ⟨by rfl, ?hy10⟩) (by assumption) ?rest10
    case hy10 => (intro w hSw; (try dsimp only at hSw); go_simp; try (with_reducible rfl))
    (try simp only [Act.put, List.setIfInBounds_toArray, List.set_cons_zero, List.set_cons_succ])
    refine wpAnyH_take (i := 10) (oi := ({ dst := some 38, op := Op.extract (Operand.tmp 28) 1, type := 3, pos := "makers.go:219", after := #[{ on := 8, ground := Ground.data }, { on := 11, ground := Ground.gcOnly Departure.lateStores }], guard := none } : Oper)) (v := ?v11) rfl (by kernel_rfl) (by kernel_rfl) (by kernel_rfl) (fun _ _ _ h => h) (Or.inl ⟨by rfl, ?hy11⟩) (by assumption) ?rest11
    case hy11 => (intro w hSw; (try dsimp only at hSw); go_simp; try (with_reducible rfl))
    (try simp only [Act.put, List.setIfInBounds_toArray, List.set_cons_zero, List.set_cons_succ])
    refine wpAnyH_take (i := 11) (oi := ({ dst := some 12, op := Op.assign (Operand.tmp 37), type := 22, pos := "makers.go:219", after := #[{ on := 9, ground := Ground.data }, { on := 7, ground := Ground.chain }, { on := 0, ground := Ground.phase }, { on := 1, ground := Ground.phase }, { on := 2, ground := Ground.phase }, { on := 3, ground := Ground.phase }, { on := 4, ground := Ground.phase }, { on := 5, ground := Ground.phase }, { on := 6, ground := Ground.phase }, { on := 7, ground := Ground.phase }, { on := 8, ground := Ground.phase }, { on := 9, ground := Ground.phase }, { on := 10, ground := Ground.textOnly Departure.lateStores }], guard := none } : Oper)) (v := ?v12) rfl (by kernel_rfl) (by kernel_rfl) (by kernel_rfl) (fun _ _ _ h => h) (Or.inl ⟨by rfl, ?hy12⟩) (by assumption) ?rest12
    case hy12 => (intro w hSw; (try dsimp only at hSw); go_simp; try (with_reducible rfl))
    (try simp only [Act.put, List.setIfInBounds_toArray, List.set_cons_zero, List.set_cons_succ])
    refine wpAnyH_take (i := 12) (oi := ({ dst := some 13, op := Op.assign (Operand.tmp 38), type := 3, pos := "makers.go:219", after := #[{ on := 10, ground := Ground.data }, { on := 11, ground := Ground.chain }, { on := 0, ground := Ground.phase }, { on := 1, ground := Ground.phase }, { on := 2, ground := Ground.phase }, { on := 3, ground := Ground.phase }, { on := 4, ground := Ground.phase }, { on := 5, ground := Ground.phase }, { on := 6, ground := Ground.phase }, { on := 7, ground := Ground.phase }, { on := 8, ground := Ground.phase }, { on := 9, ground := Ground.phase }, { on := 10, ground := Ground.phase }, { on := 11, ground := Ground.phase }], guard := none } : Oper)) (v := ?v13) rfl (by kernel_rfl) (by kernel_rfl) (by kernel_rfl) (fun _ _ _ h => h) (Or.inl ⟨by rfl, ?hy13⟩) (by assumption) ?rest13
    case hy13 => (intro w hSw; (try dsimp only at hSw); go_simp; try (with_reducible rfl))
    (try simp only [Act.put, List.setIfInBounds_toArray, List.set_cons_zero, List.set_cons_succ])
    refine wpAnyH_done (by kernel_rfl) ?_ _
    have HFIN := HB8
    (try simp only [Exit.then])
    go_wp2_with fail
    go_ret2
    exact ⟨rfl, HB1.out.trans (HFIN.out.mono HB1.out.size)⟩

set_option maxRecDepth 100000 in
set_option maxHeartbeats 4000000 in
theorem rmake_any (key xs : List Int) (v : Int) (sp : Option Addr) (n cp : Nat) (w : World) (hk : key.length = 32) (bk : bytes key) (hs : Src w sp n xs) (kc : n ≤ cp) (hn : n ≤ 2048) (hv : 0 ≤ v ∧ v ≤ 2147483647) :
    Calls Try.prog 33 #[.agg (arr .u8 key), .int .i64 v, .slice sp n cp] w fun e w' => ∃ u, e = .returned (.tuple #[u, .int .i64 0]) ∧ OwnL w' w.heap.size u (sealL key v xs (nblk n)) ∧ Below w.heap.size w w' := by
  have hbw := (Below.refl _ w).alloc (Nat.le_refl _) (.cells (arr .u8 key) 35)
  have HW := Lib.hid hbw
  have hl := hs.len
  have hcl := cutL_len xs
  rw [hl] at hcl
  have hcat := cutL_at xs
  rw [hl] at hcat
  have h32 := nblk_le hn
  have h1 : 0 < nblk n := by unfold nblk; split <;> omega
  have MS := fun (j : Nat) (hj : j < 32) (l : List Int) (hll : l.length = 64) sp cp w (hs : Src w sp 64 l) kc => rblock_any_good key l v j sp 64 cp w ⟨hv.1, hv.2, hj⟩ hk bk hs kc rfl
  have hr0 := blk_new w (.cells (arr .u8 key) 35)
  have HK0 := Lib.hid hr0
  have HX := Lib.hid (hs.below hbw)
  have HKL := Lib.hid hk
  have HMS := Lib.hid MS
  have HCA := Lib.hid hcat
  have HCL := Lib.hid hcl
  have HL := Lib.hid hl
  obtain ⟨m, hm⟩ : ∃ m, m = nblk n := ⟨_, rfl⟩
  rw [← hm] at HCA HCL h32 h1 ⊢
  clear hbw hr0 hs hk bk MS hcat hcl hl
  obtain ⟨L, hL⟩ : ∃ x, x = cutL xs := ⟨_, rfl⟩
  rw [← hL] at HCA HCL
  have HLE := Lib.hid hL
  clear hL
  go_enter Try.func33, Try.ntmps33
  go_wp2_with (first | ((with_reducible show Calls _ _ #[.slice _ _ _] _ _); go_at_call 15; refine (rcut_any _ _ _ xs _ HX.out kc hn).mono ?_; rintro e w1 ⟨v1, rfl, ho1, hb1⟩; rw [← HLE.out] at ho1; obtain ⟨sa, c, hv1, -, hat⟩ := ho1.at; rw [HCL.out] at hv1 hat; subst hv1; have HAT := Lib.hid hat; have HB1 := Lib.hid (HW.out.trans (hb1.mono HW.out.size)); have HK1 := Lib.hid (Below.blk hb1 HK0.out (blk_lt HK0.out)); clear ho1 hat hb1))
  go_loopw [10, 11] (fun u i wr => ∃ j : Nat, j ≤ m ∧ i = .int .i64 j ∧ OwnL wr w1.heap.size u (sealL key v xs j) ∧ Below w1.heap.size w1 wr) (fun _ i _ => m - (intOf i).toNat)
  case atStart => exact ⟨0, Nat.zero_le _, rfl, OwnL.nil _ _, Below.refl _ _⟩
  case round =>
    obtain ⟨j, hj, rfl, hO, hB⟩ := hrel
    have hOf := hO.form
    rw [sealL_len] at hOf
    by_cases hlt : j < m
    · obtain ⟨ad, g, ci, sq, rfl, x1, hg, hci, -⟩ := HAT.out j hlt
      have x0 := below_cell hB x1
      have hsi := src_blk (Below.blk hB hg (blk_lt hg))
      have hch := HCA.out j hlt
      rw [hch, chunk_len] at x0 hci hsi
      have h64 := chunk_len xs j
      have hsl := sealAt_len key v xs j
      have hsx := sealL_succ key v xs j
      have MS := fun sp cp w hs kc => HMS.out j (by omega) (chunk xs j) h64 sp cp w hs kc
      have hse : seal' key (nonce12 (j : Int)) (chunk xs j) (be8 v) = sealAt key v xs j := rfl
      rw [hse] at MS
      generalize chunk xs j = ck at *
      generalize sealAt key v xs j = sk at *
      have hln := sealL_len key v xs j
      generalize sealL key v xs j = S0 at *
      have HM1 := Lib.hid MS
      have HSI := Lib.hid hsi
      have HCI := Lib.hid (show 64 ≤ ci by omega)
      have HSL := Lib.hid hsl
      have HSX := Lib.hid hsx
      have HO := Lib.hid hO
      have HBB := Lib.hid hB
      have HLN := Lib.hid hln
      have HKR := Lib.hid (Below.blk hB HK1.out (blk_lt HK1.out))
      obtain ⟨va, vc, hv1, -⟩ := hOf
      subst hv1
      clear x1 hg hci hsi hch h64 hsl hsx MS hse hO hB hln
      go_upto_region 8 with fail
      have HB0 := Lib.hid (show Below wr.heap.size wr wr.drew from ⟨rfl, rfl, rfl, Nat.le_refl _, fun _ _ => rfl⟩)
      refine wp_region_held_drew (S := (fun w' => Go.RowKit.Below wr.heap.size wr w')) (by kernel_rfl) (HB0.out) (fun hHeld => ?_)
      refine' wpAnyH_take (i := 0) (oi := ({ dst := some 29, op := Op.load 35 (Operand.tmp 3), type := 35, pos := "makers.go:219", after := #[], guard := none } : Oper)) (v := _) rfl (by kernel_rfl) (by kernel_rfl) (by kernel_rfl) (fun _ _ _ h => h) (yieldsIf_load_mid (by rfl) _ _ rfl _ _ rfl (key.map (Value.int .u8)) _ ?hS1001 Try.underlying35 rfl (by rw [List.length_map, HKL.out]; exact size32)) (by assumption) ?rest1001
      case hS1001 => (intro w hSw; exact range_part (Below.blk hSw HKR.out (blk_lt HKR.out)) 0 _ (by rw [List.length_map]; exact arr_part _ _))
      (try simp only [Act.put, List.setIfInBounds_toArray, List.set_cons_zero, List.set_cons_succ])
      refine wpAnyH_take (i := 1) (oi := ({ dst := some 30, op := Op.move (Operand.tmp 1), type := 3, pos := "makers.go:219", after := #[], guard := none } : Oper)) (v := ?v1002) rfl (by kernel_rfl) (by kernel_rfl) (by kernel_rfl) (fun _ _ _ h => h) (Or.inl ⟨by rfl, ?hy1002⟩) (by assumption) ?rest1002
      case hy1002 => (intro w hSw; (try dsimp only at hSw); go_simp; try (with_reducible rfl))
      (try simp only [Act.put, List.setIfInBounds_toArray, List.set_cons_zero, List.set_cons_succ])
      refine wpAnyH_take (i := 2) (oi := ({ dst := some 31, op := Op.move (Operand.tmp 11), type := 3, pos := "makers.go:219", after := #[], guard := none } : Oper)) (v := ?v1003) rfl (by kernel_rfl) (by kernel_rfl) (by kernel_rfl) (fun _ _ _ h => h) (Or.inl ⟨by rfl, ?hy1003⟩) (by assumption) ?rest1003
      case hy1003 => (intro w hSw; (try dsimp only at hSw); go_simp; try (with_reducible rfl))
      (try simp only [Act.put, List.setIfInBounds_toArray, List.set_cons_zero, List.set_cons_succ])
      refine wpAnyH_take (i := 3) (oi := ({ dst := some 32, op := Op.move (Operand.tmp 8), type := 24, pos := "makers.go:219", after := #[], guard := none } : Oper)) (v := ?v1004) rfl (by kernel_rfl) (by kernel_rfl) (by kernel_rfl) (fun _ _ _ h => h) (Or.inl ⟨by rfl, ?hy1004⟩) (by assumption) ?rest1004
      case hy1004 => (intro w hSw; (try dsimp only at hSw); go_simp; try (with_reducible rfl))
      (try simp only [Act.put, List.setIfInBounds_toArray, List.set_cons_zero, List.set_cons_succ])
      refine wpAnyH_take (i := 4) (oi := ({ dst := some 33, op := Op.move (Operand.tmp 11), type := 3, pos := "makers.go:219", after := #[], guard := none } : Oper)) (v := ?v1005) rfl (by kernel_rfl) (by kernel_rfl) (by kernel_rfl) (fun _ _ _ h => h) (Or.inl ⟨by rfl, ?hy1005⟩) (by assumption) ?rest1005
      case hy1005 => (intro w hSw; (try dsimp only at hSw); go_simp; try (with_reducible rfl))
      (try simp only [Act.put, List.setIfInBounds_toArray, List.set_cons_zero, List.set_cons_succ])
      refine wpAnyH_take (i := 5) (oi := ({ dst := some 34, op := Op.indexAddr 24 (Operand.tmp 32) (Operand.tmp 33), type := 0, pos := "makers.go:219", after := #[{ on := 3, ground := Ground.data }, { on := 4, ground := Ground.data }], guard := none } : Oper)) (v := ?v1006) rfl (by kernel_rfl) (by kernel_rfl) (by kernel_rfl) (fun _ _ _ h => h) (Or.inl ⟨by rfl, ?hy1006⟩) (by assumption) ?rest1006
      case hy1006 => (intro w hSw; (try dsimp only at hSw); go_simp; try (with_reducible rfl))
      (try simp only [Act.put, List.setIfInBounds_toArray, List.set_cons_zero, List.set_cons_succ])
      refine wpAnyH_take (i := 6) (oi := ({ dst := some 35, op := Op.load 22 (Operand.tmp 34), type := 22, pos := "makers.go:219", after := #[{ on := 5, ground := Ground.data }], guard := none } : Oper)) (v := (.slice (some ⟨g, 0, none⟩) 64 ci)) rfl (by kernel_rfl) (by kernel_rfl) (by kernel_rfl) (fun _ _ _ h => h) (Or.inl ⟨by rfl, ?hy1007⟩) (by assumption) ?rest1007
      case hy1007 => (intro w hSw; (try dsimp only at hSw); have hx := below_cell hSw x0; go_simp; try (with_reducible rfl))
      (try simp only [Act.put, List.setIfInBounds_toArray, List.set_cons_zero, List.set_cons_succ])
      refine wpAnyH_ready (rs := [7]) (by kernel_rfl) (by simp) ?_
      refine AllReadyH.cons (o := ({ dst := some 36, op := Op.call { callee := Callee.value (Operand.func 30), args := #[Operand.tmp 29, Operand.tmp 30, Operand.tmp 31, Operand.tmp 35], argTypes := #[35, 3, 3, 22] }, type := 54, pos := "makers.go:219", after := #[{ on := 0, ground := Ground.data }, { on := 1, ground := Ground.data }, { on := 2, ground := Ground.data }, { on := 6, ground := Ground.data }], guard := none } : Oper)) rfl (fun K hK => ?_) AllReadyH.nil
      go_simp
      go_at_call 30
      refine (HM1.out _ _ _ (HSI.out.below hHeld) HCI.out).mono ?_
      rintro e w1008 ⟨v5, rfl, ho5, hb1008⟩
      have HB1008 := Lib.hid (HB0.out.trans (hb1008.mono HB0.out.size))
      obtain ⟨s5, c5, hv5, -⟩ := ho5.form
      rw [HSL.out] at hv5
      subst hv5
      have HO5 := Lib.hid ((owns_of ho5 (by decide)).mono (B' := wr.heap.size) hHeld.size)
      clear ho5
      clear hb1008
      (try dsimp only)
      refine hK.out _ _ (HB1008.out) (fun hHeld => ?_)
      clear hK K
      (try simp only [Act.put, List.setIfInBounds_toArray, List.set_cons_zero, List.set_cons_succ])
      refine wpAnyH_take (i := 8) (oi := ({ dst := some 28, op := Op.move (Operand.tmp 36), type := 54, pos := "makers.go:219", after := #[{ on := 7, ground := Ground.data }], guard := none } : Oper)) (v := ?v1009) rfl (by kernel_rfl) (by kernel_rfl) (by kernel_rfl) (fun _ _ _ h => h) (Or.inl ⟨by rfl, ?hy1009⟩) (by assumption) ?rest1009
      case hy1009 => (intro w hSw; (try dsimp only at hSw); go_simp; try (with_reducible rfl))
      (try simp only [Act.put, List.setIfInBounds_toArray, List.set_cons_zero, List.set_cons_succ])
      refine wpAnyH_take (i := 9) (oi := ({ dst := some 37, op := Op.extract (Operand.tmp 28) 0, type := 22, pos := "makers.go:219", after := #[{ on := 8, ground := Ground.data }], guard := none } : Oper)) (v := ?v1010) rfl (by kernel_rfl) (by kernel_rfl) (by kernel_rfl) (fun _ _ _ h => h) (Or.inl ⟨by rfl, ?hy1010⟩) (by assumption) ?rest1010
      case hy1010 => (intro w hSw; (try dsimp only at hSw); go_simp; try (with_reducible rfl))
      (try simp only [Act.put, List.setIfInBounds_toArray, List.set_cons_zero, List.set_cons_succ])
      refine wpAnyH_take (i := 10) (oi := ({ dst := some 38, op := Op.extract (Operand.tmp 28) 1, type := 3, pos := "makers.go:219", after := #[{ on := 8, ground := Ground.data }, { on := 11, ground := Ground.gcOnly Departure.lateStores }], guard := none } : Oper)) (v := ?v1011) rfl (by kernel_rfl) (by kernel_rfl) (by kernel_rfl) (fun _ _ _ h => h) (Or.inl ⟨by rfl, ?hy1011⟩) (by assumption) ?rest1011
      case hy1011 => (intro w hSw; (try dsimp only at hSw); go_simp; try (with_reducible rfl))
      (try simp only [Act.put, List.setIfInBounds_toArray, List.set_cons_zero, List.set_cons_succ])
      refine wpAnyH_take (i := 11) (oi := ({ dst := some 12, op := Op.assign (Operand.tmp 37), type := 22, pos := "makers.go:219", after := #[{ on := 9, ground := Ground.data }, { on := 7, ground := Ground.chain }, { on := 0, ground := Ground.phase }, { on := 1, ground := Ground.phase }, { on := 2, ground := Ground.phase }, { on := 3, ground := Ground.phase }, { on := 4, ground := Ground.phase }, { on := 5, ground := Ground.phase }, { on := 6, ground := Ground.phase }, { on := 7, ground := Ground.phase }, { on := 8, ground := Ground.phase }, { on := 9, ground := Ground.phase }, { on := 10, ground := Ground.textOnly Departure.lateStores }], guard := none } : Oper)) (v := ?v1012) rfl (by kernel_rfl) (by kernel_rfl) (by kernel_rfl) (fun _ _ _ h => h) (Or.inl ⟨by rfl, ?hy1012⟩) (by assumption) ?rest1012
      case hy1012 => (intro w hSw; (try dsimp only at hSw); go_simp; try (with_reducible rfl))
      (try simp only [Act.put, List.setIfInBounds_toArray, List.set_cons_zero, List.set_cons_succ])
      refine wpAnyH_take (i := 12) (oi := ({ dst := some 13, op := Op.assign (Operand.tmp 38), type := 3, pos := "makers.go:219", after := #[{ on := 10, ground := Ground.data }, { on := 11, ground := Ground.chain }, { on := 0, ground := Ground.phase }, { on := 1, ground := Ground.phase }, { on := 2, ground := Ground.phase }, { on := 3, ground := Ground.phase }, { on := 4, ground := Ground.phase }, { on := 5, ground := Ground.phase }, { on := 6, ground := Ground.phase }, { on := 7, ground := Ground.phase }, { on := 8, ground := Ground.phase }, { on := 9, ground := Ground.phase }, { on := 10, ground := Ground.phase }, { on := 11, ground := Ground.phase }], guard := none } : Oper)) (v := ?v1013) rfl (by kernel_rfl) (by kernel_rfl) (by kernel_rfl) (fun _ _ _ h => h) (Or.inl ⟨by rfl, ?hy1013⟩) (by assumption) ?rest1013
      case hy1013 => (intro w hSw; (try dsimp only at hSw); go_simp; try (with_reducible rfl))
      (try simp only [Act.put, List.setIfInBounds_toArray, List.set_cons_zero, List.set_cons_succ])
      refine wpAnyH_done (by kernel_rfl) ?_ _
      have HB5 := HB1008
      (try simp only [Exit.then])
      go_wp2_with (first | ((with_reducible show wpList _ _ _ (Oper.mk (some 45) _ _ _ _ _ :: _) _ _); refine wpList_appL rfl (.tmp 42) (.tmp 44) rfl w1.heap.size _ _ S0 sk rfl rfl (HO.out.below HB5.out) (HO5.out.mono HBB.out.size) (by rw [HLN.out]; omega) (Nat.le_trans HBB.out.size HB5.out.size) ?_; intro v6 w6 ho6 hg6; have HO6 := Lib.hid ho6; have HG6 := Lib.hid hg6; clear ho6 hg6))
      go_roundw
      case rel => exact ⟨j + 1, by omega, by go_num, by rw [HSX.out]; exact HO6.out, ((HBB.out.trans (HB5.out.mono HBB.out.size)).alloc (Nat.le_trans HBB.out.size HB5.out.size) _).grown HG6.out (Nat.le_trans HBB.out.size (Nat.le_trans HB5.out.size (by simp))) (fun j e => (OwnL.lt HO.out j e).1)⟩
      case measure => simp [intOf]; omega
    · obtain rfl : j = m := by omega
      have HO := Lib.hid hO
      have HBB := Lib.hid hB
      clear hO hB hOf
      go_wp2_with fail
      go_ret2
      exact ⟨_, rfl, HO.out.mono HB1.out.size, HB1.out.trans (HBB.out.mono HB1.out.size)⟩
end Go.Proofs.Ytdaaigodpglnnaa.Im
