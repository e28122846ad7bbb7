/- image.Seal, image.Open and the document's. Conditions: a key of 32 bytes; bytes in memory; what Go's integers allow. -/
import Derived.Test.YtoljnogpegemjaaM7
import Derived.Deep.CutBlock
namespace Go.Proofs.Ytoljnogpegemjaa.Im
open Go.RowKit Lm Po Ch Ae

def sealOk (v i : Int) (n : Nat) : Bool := mayB v i && decide (n = 64)
def openOk (v i : Int) (n : Nat) : Bool := mayB v i && decide (n = 80)
def sealX (key : List Int) (v i : Int) (p : List Int) : List Int := if sealOk v i p.length then seal' key (nonce12 i) p (be8 v) else []
def sealE (v i : Int) (p : List Int) : Int := if sealOk v i p.length then 0 else 1
def openX (key : List Int) (v i : Int) (c : List Int) : List Int := if openOk v i c.length then opened key (nonce12 i) c (be8 v) else []
def openE (key : List Int) (v i : Int) (c : List Int) : Int := if openOk v i c.length then (if okay key (nonce12 i) c (be8 v) then 0 else 10) else 1
theorem pack_nil (v : Int) : packL [] [v] = be8 v := by simp [packL]
theorem src_nil' (w : World) : Src w none 0 [] := ⟨rfl, fun i hi => absurd hi (by omega)⟩
theorem mayB_iff {v i : Int} : mayB v i = true ↔ (0 ≤ v ∧ v ≤ 2147483647 ∧ 0 ≤ i ∧ i < 32) := by simp [mayB]
theorem mayB_no {v i : Int} (h : ¬ (0 ≤ v ∧ v ≤ 2147483647 ∧ 0 ≤ i ∧ i < 32)) : mayB v i = false := by simp only [mayB]; exact decide_eq_false h

set_option maxRecDepth 100000 in
set_option maxHeartbeats 4000000 in
theorem iopen_any (key xs : List Int) (v i : Int) (sp : Option Addr) (n cp : Nat) (w : World) (hk : key.length = 32) (bk : bytes key) (hs : Src w sp n xs) (bs : bytes xs) (kc : n ≤ cp) :
    Calls Try.prog 25 #[.agg (arr .u8 key), .int .i64 v, .int .i64 i, .slice sp n cp] w fun e w' => ∃ u, e = .returned (.tuple #[u, .int .i64 (openE key v i xs)]) ∧ Own8 w' w.heap.size u (openX key v i xs) ∧ Below w.heap.size w w' := by
  have hl := hs.len
  have hbw := (Below.refl _ w).alloc (Nat.le_refl _) (.cells (arr .u8 key) 23)
  have HW := Lib.hid hbw
  by_cases h0 : (0 ≤ v ∧ v ≤ 2147483647 ∧ 0 ≤ i ∧ i < 32)
  · by_cases h1 : n = 80
    · subst h1
      have HM := Lib.hid (fun w => mayB_iff.2 h0 ▸ may_any v i w)
      have hE : openOk v i xs.length = true := by simp [openOk, mayB_iff.2 h0, hl]
      unfold openE openX
      rw [hE, if_pos rfl, if_pos rfl]
      clear hE
      have hnl := nonce12_len i
      have hnb := bytes_nonce12 i
      have hbl := be8_len v
      have hbb := be8_bytes v
      have MN := fun w => nonce_any i w
      have MP := fun w sa (h : SrcI w sa 1 [v]) => pint_any none sa 0 0 1 1 [] [v] w (src_nil' w) h (by omega) (by omega)
      rw [pack_nil] at MP
      have MS := fun w s c h1 h2 kc2 => open_any key (nonce12 i) xs (be8 v) sp s 80 8 cp c w hk hnl bk hnb h1 h2 bs hbb (by decide) (by decide) kc kc2
      obtain ⟨nn, hnn⟩ : ∃ x, x = nonce12 i := ⟨_, rfl⟩
      obtain ⟨b8, hb8⟩ : ∃ x, x = be8 v := ⟨_, rfl⟩
      rw [← hnn] at hnl MN MS ⊢
      rw [← hb8] at hbl MP MS ⊢
      obtain ⟨tx, htx⟩ : ∃ x, x = opened key nn xs b8 := ⟨_, rfl⟩
      obtain ⟨ok, hok⟩ : ∃ x, x = okay key nn xs b8 := ⟨_, rfl⟩
      rw [← htx, ← hok] at MS ⊢
      obtain ⟨er, her⟩ : ∃ x : Int, x = if ok = true then 0 else 10 := ⟨_, rfl⟩
      rw [← her] at MS ⊢
      clear her
      have hr0 := blk_new w (.cells (arr .u8 key) 23)
      have HK0 := Lib.hid hr0
      have HX := Lib.hid (hs.below hbw)
      have HKL := Lib.hid hk
      have HBL := Lib.hid hbl
      have HMN := Lib.hid MN
      have HMP := Lib.hid MP
      have HMS := Lib.hid MS
      obtain ⟨h00, h01, h02, h03⟩ := h0
      have h03' : i ≤ 31 := by omega
      clear hr0 hs hk bk bs hnl hnb hbl hbb MN MP MS hnn hb8 htx hok hl hbw
      go_enter Try.func25, Try.ntmps25
      go_upto_region 3 with (first | ((with_reducible show Calls _ _ _ _ _); go_at_call 34; refine (HM.out _).mono ?_; rintro e w1 ⟨rfl, rfl⟩))
      generalize w.alloc (.cells (arr .u8 key) 23) = wq at HK0 HX HW ⊢
      have hdr : Below wq.heap.size wq wq.drew := ⟨rfl, rfl, rfl, Nat.le_refl _, fun _ _ => rfl⟩
      have HX := Lib.hid (HX.out.below hdr)
      clear hdr
      have HB0 := Lib.hid (show Below wq.heap.size wq wq.drew from ⟨rfl, rfl, rfl, Nat.le_refl _, fun _ _ => rfl⟩)
      refine wp_region_held_drew (S := (fun w' => Go.RowKit.Below wq.heap.size wq w')) (by kernel_rfl) (HB0.out) (fun hHeld => ?_)
      obtain ⟨wv, hwv⟩ : ∃ x, x = wq.drew := ⟨_, rfl⟩
      rw [← hwv] at HB0 hHeld HX ⊢
      clear hwv
      refine' wpAnyH_take (i := 0) (oi := ({ dst := some 19, op := Op.load 23 (Operand.tmp 4), type := 23, pos := "image.go:52", after := #[], guard := none } : Oper)) (v := _) rfl (by kernel_rfl) (by kernel_rfl) (by kernel_rfl) (fun _ _ _ h => h) (yieldsIf_load_mid (by rfl) _ _ rfl _ _ rfl (key.map (Value.int .u8)) _ ?hS1001 Try.underlying23 rfl (by rw [List.length_map, HKL.out]; exact size32)) (by assumption) ?rest1001
      case hS1001 => (intro w hSw; exact range_part (Below.blk hSw HK0.out (blk_lt HK0.out)) 0 _ (by rw [List.length_map]; exact arr_part _ _))
      (try simp only [Act.put, List.setIfInBounds_toArray, List.set_cons_zero, List.set_cons_succ])
      refine wpAnyH_take (i := 1) (oi := ({ dst := some 20, op := Op.move (Operand.tmp 2), type := 3, pos := "image.go:52", after := #[], guard := none } : Oper)) (v := ?v1002) rfl (by kernel_rfl) (by kernel_rfl) (by kernel_rfl) (fun _ _ _ h => h) (Or.inl ⟨by rfl, ?hy1002⟩) (by assumption) ?rest1002
      case hy1002 => (intro w hSw; (try dsimp only at hSw); go_simp; try (with_reducible rfl))
      (try simp only [Act.put, List.setIfInBounds_toArray, List.set_cons_zero, List.set_cons_succ])
      refine wpAnyH_take (i := 3) (oi := ({ dst := some 22, op := Op.move (Operand.tmp 3), type := 24, pos := "image.go:52", after := #[], guard := none } : Oper)) (v := ?v1003) rfl (by kernel_rfl) (by kernel_rfl) (by kernel_rfl) (fun _ _ _ h => h) (Or.inl ⟨by rfl, ?hy1003⟩) (by assumption) ?rest1003
      case hy1003 => (intro w hSw; (try dsimp only at hSw); go_simp; try (with_reducible rfl))
      (try simp only [Act.put, List.setIfInBounds_toArray, List.set_cons_zero, List.set_cons_succ])
      refine wpAnyH_take (i := 4) (oi := ({ dst := some 23, op := Op.move (Operand.tmp 1), type := 3, pos := "image.go:52", after := #[], guard := none } : Oper)) (v := ?v1004) rfl (by kernel_rfl) (by kernel_rfl) (by kernel_rfl) (fun _ _ _ h => h) (Or.inl ⟨by rfl, ?hy1004⟩) (by assumption) ?rest1004
      case hy1004 => (intro w hSw; (try dsimp only at hSw); go_simp; try (with_reducible rfl))
      (try simp only [Act.put, List.setIfInBounds_toArray, List.set_cons_zero, List.set_cons_succ])
      refine wpAnyH_ready (rs := [2, 5]) (by kernel_rfl) (by simp) ?_
      refine AllReadyH.cons (o := ({ dst := some 21, op := Op.call { callee := Callee.value (Operand.func 36), args := #[Operand.tmp 20], argTypes := #[3] }, type := 46, pos := "image.go:52", after := #[{ on := 1, ground := Ground.data }], guard := none } : Oper)) rfl (fun K hK => ?_) ?_
      · go_simp
        go_at_call 36
        refine (HMN.out _).mono ?_
        rintro e w1005 ⟨rfl, hb1005⟩
        have HB1005 := Lib.hid (HB0.out.trans (hb1005.mono HB0.out.size))
        have HX := Lib.hid (HX.out.below hb1005)
        (try (have HA := Lib.hid (HA.out.below hb1005)))
        (try (have HS2 := Lib.hid (HS2.out.below hb1005)))
        clear hb1005
        (try dsimp only)
        refine hK.out _ _ (HB1005.out) (fun hHeld => ?_)
        clear hK K
        (try simp only [Act.put, List.setIfInBounds_toArray, List.set_cons_zero, List.set_cons_succ])
        refine wpAnyH_ready (rs := [5]) (by kernel_rfl) (by simp) ?_
        refine AllReadyH.cons (o := ({ dst := some 24, op := Op.buildSlice 64 1 #[(0, Operand.tmp 23)], type := 64, pos := "image.go:52", after := #[{ on := 4, ground := Ground.data }], guard := none } : Oper)) rfl (fun K hK => ?_) AllReadyH.nil
        go_simp
        have HA := Lib.hid (srcI_one _ v : SrcI ((w1005).alloc (.cells #[.int .i64 v] 3)) _ 1 [v])
        (try rw [World.size_alloc] at HA)
        have HX := Lib.hid (HX.out.below ((Below.refl _ _).alloc (Nat.le_refl _) (.cells #[.int .i64 v] 3)))
        have HB1006 := Lib.hid (HB1005.out.alloc HB1005.out.size (.cells #[.int .i64 v] 3))
        refine hK.out _ _ (HB1006.out) (fun hHeld => ?_)
        clear hK K
        (try simp only [Act.put, List.setIfInBounds_toArray, List.set_cons_zero, List.set_cons_succ])
        refine wpAnyH_ready (rs := [6]) (by kernel_rfl) (by simp) ?_
        refine AllReadyH.cons (o := ({ dst := some 25, op := Op.call { callee := Callee.value (Operand.func 37), args := #[Operand.const (Value.slice none 0 0), Operand.tmp 24], argTypes := #[24, 64] }, type := 24, pos := "image.go:52", after := #[{ on := 5, ground := Ground.data }, { on := 2, ground := Ground.chain }], guard := none } : Oper)) rfl (fun K hK => ?_) AllReadyH.nil
        go_simp
        go_at_call 37
        refine (HMP.out _ _ HA.out).mono ?_
        rintro e w1007 ⟨v2, rfl, ho2, hb1007⟩
        have HB1007 := Lib.hid (HB1006.out.trans (hb1007.mono HB1006.out.size))
        obtain ⟨s2, c2, hv2, hc2, -, hs2, -⟩ := ho2.form
        rw [HBL.out] at hv2 hs2 hc2
        subst hv2
        have HS2 := Lib.hid hs2
        have HC2 := Lib.hid hc2
        clear ho2 hs2 hc2
        have HX := Lib.hid (HX.out.below hb1007)
        clear hb1007
        (try dsimp only)
        refine hK.out _ _ (HB1007.out) (fun hHeld => ?_)
        clear hK K
        (try simp only [Act.put, List.setIfInBounds_toArray, List.set_cons_zero, List.set_cons_succ])
        refine wpAnyH_ready (rs := [7]) (by kernel_rfl) (by simp) ?_
        refine AllReadyH.cons (o := ({ dst := some 26, op := Op.call { callee := Callee.value (Operand.func 35), args := #[Operand.tmp 19, Operand.tmp 21, Operand.tmp 22, Operand.tmp 25], argTypes := #[23, 46, 24, 24] }, type := 57, pos := "image.go:52", after := #[{ on := 0, ground := Ground.data }, { on := 2, ground := Ground.data }, { on := 3, ground := Ground.data }, { on := 6, ground := Ground.data }, { on := 6, ground := Ground.chain }], guard := none } : Oper)) rfl (fun K hK => ?_) AllReadyH.nil
        go_simp
        go_at_call 35
        refine (HMS.out _ _ _ HX.out HS2.out HC2.out).mono ?_
        rintro e w1008 ⟨v3, rfl, ho3, hb1008⟩
        have HB1008 := Lib.hid (HB1007.out.trans (hb1008.mono HB1007.out.size))
        have HO3 := Lib.hid (ho3.mono (B' := w.heap.size) (Nat.le_trans HW.out.size HB1007.out.size))
        clear ho3
        clear hb1008
        (try dsimp only)
        refine hK.out _ _ (HB1008.out) (fun hHeld => ?_)
        clear hK K
        (try simp only [Act.put, List.setIfInBounds_toArray, List.set_cons_zero, List.set_cons_succ])
        refine wpAnyH_take (i := 8) (oi := ({ dst := some 27, op := Op.extract (Operand.tmp 26) 0, type := 24, pos := "image.go:52", after := #[{ on := 7, ground := Ground.data }], guard := none } : Oper)) (v := ?v1009) rfl (by kernel_rfl) (by kernel_rfl) (by kernel_rfl) (fun _ _ _ h => h) (Or.inl ⟨by rfl, ?hy1009⟩) (by assumption) ?rest1009
        case hy1009 => (intro w hSw; (try dsimp only at hSw); go_simp; try (with_reducible rfl))
        (try simp only [Act.put, List.setIfInBounds_toArray, List.set_cons_zero, List.set_cons_succ])
        refine wpAnyH_take (i := 9) (oi := ({ dst := some 28, op := Op.extract (Operand.tmp 26) 1, type := 33, pos := "image.go:52", after := #[{ on := 7, ground := Ground.data }], guard := none } : Oper)) (v := ?v1010) rfl (by kernel_rfl) (by kernel_rfl) (by kernel_rfl) (fun _ _ _ h => h) (Or.inl ⟨by rfl, ?hy1010⟩) (by assumption) ?rest1010
        case hy1010 => (intro w hSw; (try dsimp only at hSw); go_simp; try (with_reducible rfl))
        (try simp only [Act.put, List.setIfInBounds_toArray, List.set_cons_zero, List.set_cons_succ])
        refine wpAnyH_take (i := 10) (oi := ({ dst := some 8, op := Op.assign (Operand.tmp 27), type := 24, pos := "image.go:52", after := #[{ on := 8, ground := Ground.data }, { on := 7, ground := Ground.chain }, { on := 0, ground := Ground.phase }, { on := 1, ground := Ground.phase }, { on := 2, ground := Ground.phase }, { on := 3, ground := Ground.phase }, { on := 4, ground := Ground.phase }, { on := 5, ground := Ground.phase }, { on := 6, ground := Ground.phase }, { on := 7, ground := Ground.phase }, { on := 8, ground := Ground.phase }, { on := 9, ground := Ground.phase }], guard := none } : Oper)) (v := ?v1011) rfl (by kernel_rfl) (by kernel_rfl) (by kernel_rfl) (fun _ _ _ h => h) (Or.inl ⟨by rfl, ?hy1011⟩) (by assumption) ?rest1011
        case hy1011 => (intro w hSw; (try dsimp only at hSw); go_simp; try (with_reducible rfl))
        (try simp only [Act.put, List.setIfInBounds_toArray, List.set_cons_zero, List.set_cons_succ])
        refine wpAnyH_take (i := 11) (oi := ({ dst := some 9, op := Op.assign (Operand.tmp 28), type := 33, pos := "image.go:52", after := #[{ on := 9, ground := Ground.data }, { on := 10, ground := Ground.chain }, { on := 0, ground := Ground.phase }, { on := 1, ground := Ground.phase }, { on := 2, ground := Ground.phase }, { on := 3, ground := Ground.phase }, { on := 4, ground := Ground.phase }, { on := 5, ground := Ground.phase }, { on := 6, ground := Ground.phase }, { on := 7, ground := Ground.phase }, { on := 8, ground := Ground.phase }, { on := 9, ground := Ground.phase }, { on := 10, ground := Ground.phase }], guard := none } : Oper)) (v := ?v1012) rfl (by kernel_rfl) (by kernel_rfl) (by kernel_rfl) (fun _ _ _ h => h) (Or.inl ⟨by rfl, ?hy1012⟩) (by assumption) ?rest1012
        case hy1012 => (intro w hSw; (try dsimp only at hSw); go_simp; try (with_reducible rfl))
        (try simp only [Act.put, List.setIfInBounds_toArray, List.set_cons_zero, List.set_cons_succ])
        refine wpAnyH_done (by kernel_rfl) ?_ _
        (try simp only [Exit.then])
        go_wp2_with fail
        go_ret2
        exact ⟨_, rfl, HO3.out, HW.out.trans (HB1008.out.mono HW.out.size)⟩
      refine AllReadyH.cons (o := ({ dst := some 24, op := Op.buildSlice 64 1 #[(0, Operand.tmp 23)], type := 64, pos := "image.go:52", after := #[{ on := 4, ground := Ground.data }], guard := none } : Oper)) rfl (fun K hK => ?_) ?_
      · go_simp
        have HA := Lib.hid (srcI_one _ v : SrcI ((wv).alloc (.cells #[.int .i64 v] 3)) _ 1 [v])
        (try rw [World.size_alloc] at HA)
        have HX := Lib.hid (HX.out.below ((Below.refl _ _).alloc (Nat.le_refl _) (.cells #[.int .i64 v] 3)))
        have HB1013 := Lib.hid (HB0.out.alloc HB0.out.size (.cells #[.int .i64 v] 3))
        refine hK.out _ _ (HB1013.out) (fun hHeld => ?_)
        clear hK K
        (try simp only [Act.put, List.setIfInBounds_toArray, List.set_cons_zero, List.set_cons_succ])
        refine wpAnyH_ready (rs := [2]) (by kernel_rfl) (by simp) ?_
        refine AllReadyH.cons (o := ({ dst := some 21, op := Op.call { callee := Callee.value (Operand.func 36), args := #[Operand.tmp 20], argTypes := #[3] }, type := 46, pos := "image.go:52", after := #[{ on := 1, ground := Ground.data }], guard := none } : Oper)) rfl (fun K hK => ?_) AllReadyH.nil
        go_simp
        go_at_call 36
        refine (HMN.out _).mono ?_
        rintro e w1014 ⟨rfl, hb1014⟩
        have HB1014 := Lib.hid (HB1013.out.trans (hb1014.mono HB1013.out.size))
        have HX := Lib.hid (HX.out.below hb1014)
        (try (have HA := Lib.hid (HA.out.below hb1014)))
        (try (have HS2 := Lib.hid (HS2.out.below hb1014)))
        clear hb1014
        (try dsimp only)
        refine hK.out _ _ (HB1014.out) (fun hHeld => ?_)
        clear hK K
        (try simp only [Act.put, List.setIfInBounds_toArray, List.set_cons_zero, List.set_cons_succ])
        refine wpAnyH_ready (rs := [6]) (by kernel_rfl) (by simp) ?_
        refine AllReadyH.cons (o := ({ dst := some 25, op := Op.call { callee := Callee.value (Operand.func 37), args := #[Operand.const (Value.slice none 0 0), Operand.tmp 24], argTypes := #[24, 64] }, type := 24, pos := "image.go:52", after := #[{ on := 5, ground := Ground.data }, { on := 2, ground := Ground.chain }], guard := none } : Oper)) rfl (fun K hK => ?_) AllReadyH.nil
        go_simp
        go_at_call 37
        refine (HMP.out _ _ HA.out).mono ?_
        rintro e w1015 ⟨v2, rfl, ho2, hb1015⟩
        have HB1015 := Lib.hid (HB1014.out.trans (hb1015.mono HB1014.out.size))
        obtain ⟨s2, c2, hv2, hc2, -, hs2, -⟩ := ho2.form
        rw [HBL.out] at hv2 hs2 hc2
        subst hv2
        have HS2 := Lib.hid hs2
        have HC2 := Lib.hid hc2
        clear ho2 hs2 hc2
        have HX := Lib.hid (HX.out.below hb1015)
        clear hb1015
        (try dsimp only)
        refine hK.out _ _ (HB1015.out) (fun hHeld => ?_)
        clear hK K
        (try simp only [Act.put, List.setIfInBounds_toArray, List.set_cons_zero, List.set_cons_succ])
        refine wpAnyH_ready (rs := [7]) (by kernel_rfl) (by simp) ?_
        refine AllReadyH.cons (o := ({ dst := some 26, op := Op.call { callee := Callee.value (Operand.func 35), args := #[Operand.tmp 19, Operand.tmp 21, Operand.tmp 22, Operand.tmp 25], argTypes := #[23, 46, 24, 24] }, type := 57, pos := "image.go:52", after := #[{ on := 0, ground := Ground.data }, { on := 2, ground := Ground.data }, { on := 3, ground := Ground.data }, { on := 6, ground := Ground.data }, { on := 6, ground := Ground.chain }], guard := none } : Oper)) rfl (fun K hK => ?_) AllReadyH.nil
        go_simp
        go_at_call 35
        refine (HMS.out _ _ _ HX.out HS2.out HC2.out).mono ?_
        rintro e w1016 ⟨v3, rfl, ho3, hb1016⟩
        have HB1016 := Lib.hid (HB1015.out.trans (hb1016.mono HB1015.out.size))
        have HO3 := Lib.hid (ho3.mono (B' := w.heap.size) (Nat.le_trans HW.out.size HB1015.out.size))
        clear ho3
        clear hb1016
        (try dsimp only)
        refine hK.out _ _ (HB1016.out) (fun hHeld => ?_)
        clear hK K
        (try simp only [Act.put, List.setIfInBounds_toArray, List.set_cons_zero, List.set_cons_succ])
        refine wpAnyH_take (i := 8) (oi := ({ dst := some 27, op := Op.extract (Operand.tmp 26) 0, type := 24, pos := "image.go:52", after := #[{ on := 7, ground := Ground.data }], guard := none } : Oper)) (v := ?v1017) rfl (by kernel_rfl) (by kernel_rfl) (by kernel_rfl) (fun _ _ _ h => h) (Or.inl ⟨by rfl, ?hy1017⟩) (by assumption) ?rest1017
        case hy1017 => (intro w hSw; (try dsimp only at hSw); go_simp; try (with_reducible rfl))
        (try simp only [Act.put, List.setIfInBounds_toArray, List.set_cons_zero, List.set_cons_succ])
        refine wpAnyH_take (i := 9) (oi := ({ dst := some 28, op := Op.extract (Operand.tmp 26) 1, type := 33, pos := "image.go:52", after := #[{ on := 7, ground := Ground.data }], guard := none } : Oper)) (v := ?v1018) rfl (by kernel_rfl) (by kernel_rfl) (by kernel_rfl) (fun _ _ _ h => h) (Or.inl ⟨by rfl, ?hy1018⟩) (by assumption) ?rest1018
        case hy1018 => (intro w hSw; (try dsimp only at hSw); go_simp; try (with_reducible rfl))
        (try simp only [Act.put, List.setIfInBounds_toArray, List.set_cons_zero, List.set_cons_succ])
        refine wpAnyH_take (i := 10) (oi := ({ dst := some 8, op := Op.assign (Operand.tmp 27), type := 24, pos := "image.go:52", after := #[{ on := 8, ground := Ground.data }, { on := 7, ground := Ground.chain }, { on := 0, ground := Ground.phase }, { on := 1, ground := Ground.phase }, { on := 2, ground := Ground.phase }, { on := 3, ground := Ground.phase }, { on := 4, ground := Ground.phase }, { on := 5, ground := Ground.phase }, { on := 6, ground := Ground.phase }, { on := 7, ground := Ground.phase }, { on := 8, ground := Ground.phase }, { on := 9, ground := Ground.phase }], guard := none } : Oper)) (v := ?v1019) rfl (by kernel_rfl) (by kernel_rfl) (by kernel_rfl) (fun _ _ _ h => h) (Or.inl ⟨by rfl, ?hy1019⟩) (by assumption) ?rest1019
        case hy1019 => (intro w hSw; (try dsimp only at hSw); go_simp; try (with_reducible rfl))
        (try simp only [Act.put, List.setIfInBounds_toArray, List.set_cons_zero, List.set_cons_succ])
        refine wpAnyH_take (i := 11) (oi := ({ dst := some 9, op := Op.assign (Operand.tmp 28), type := 33, pos := "image.go:52", after := #[{ on := 9, ground := Ground.data }, { on := 10, ground := Ground.chain }, { on := 0, ground := Ground.phase }, { on := 1, ground := Ground.phase }, { on := 2, ground := Ground.phase }, { on := 3, ground := Ground.phase }, { on := 4, ground := Ground.phase }, { on := 5, ground := Ground.phase }, { on := 6, ground := Ground.phase }, { on := 7, ground := Ground.phase }, { on := 8, ground := Ground.phase }, { on := 9, ground := Ground.phase }, { on := 10, ground := Ground.phase }], guard := none } : Oper)) (v := ?v1020) rfl (by kernel_rfl) (by kernel_rfl) (by kernel_rfl) (fun _ _ _ h => h) (Or.inl ⟨by rfl, ?hy1020⟩) (by assumption) ?rest1020
        case hy1020 => (intro w hSw; (try dsimp only at hSw); go_simp; try (with_reducible rfl))
        (try simp only [Act.put, List.setIfInBounds_toArray, List.set_cons_zero, List.set_cons_succ])
        refine wpAnyH_done (by kernel_rfl) ?_ _
        (try simp only [Exit.then])
        go_wp2_with fail
        go_ret2
        exact ⟨_, rfl, HO3.out, HW.out.trans (HB1016.out.mono HW.out.size)⟩
      exact AllReadyH.nil
    · have hn : ((n : Int) == 80) = false := by rw [beq_eq_false_iff_ne]; omega
      have hy : mayB v i = true := mayB_iff.2 h0
      have HM := Lib.hid (fun w => mayB_iff.2 h0 ▸ may_any v i w)
      obtain ⟨h00, h01, h02, h03⟩ := h0
      have h03' : i ≤ 31 := by omega
      have hE : openE key v i xs = 1 := by simp [openE, openOk, hy, hl, h1]
      have hX : openX key v i xs = [] := by simp [openX, openOk, hy, hl, h1]
      rw [hE, hX]
      clear hE hX hk bk bs
      go_enter Try.func25, Try.ntmps25
      go_wp2_with (first | ((with_reducible show Calls _ _ _ _ _); go_at_call 34; refine (HM.out _).mono ?_; rintro e w1 ⟨rfl, rfl⟩))
      go_ret2
      exact ⟨_, rfl, Own8.nil _ _, HW.out⟩
  · have hy : mayB v i = false := mayB_no h0
    have HM := Lib.hid (fun w => hy ▸ may_any v i w)
    have hE : openE key v i xs = 1 := by simp [openE, openOk, hy]
    have hX : openX key v i xs = [] := by simp [openX, openOk, hy]
    rw [hE, hX]
    clear hE hX hk bk bs
    go_enter Try.func25, Try.ntmps25
    go_wp2_with (first | ((with_reducible show Calls _ _ _ _ _); go_at_call 34; refine (HM.out _).mono ?_; rintro e w1 ⟨rfl, rfl⟩))
    go_ret2
    exact ⟨_, rfl, Own8.nil _ _, HW.out⟩

set_option maxRecDepth 100000 in
set_option maxHeartbeats 4000000 in
theorem rblock_any (key xs : List Int) (v i : Int) (sp : Option Addr) (n cp : Nat) (w : World) (hk : key.length = 32) (bk : bytes key) (hs : Src w sp n xs) (kc : n ≤ cp) :
    Calls Try.prog 5 #[.agg (arr .u8 key), .int .i64 v, .int .i64 i, .slice sp n cp] w fun e w' => ∃ u, e = .returned (.tuple #[u, .int .i64 (sealE v i xs)]) ∧ Own8 w' w.heap.size u (sealX key v i xs) ∧ Below w.heap.size w w' := by
  have hl := hs.len
  have hbw := (Below.refl _ w).alloc (Nat.le_refl _) (.cells (arr .u8 key) 23)
  have HW := Lib.hid hbw
  by_cases h0 : (0 ≤ v ∧ v ≤ 2147483647 ∧ 0 ≤ i ∧ i < 32)
  · by_cases h1 : n = 64
    · subst h1
      have HM := Lib.hid (fun w => (show smallB v = true by simp only [smallB]; exact decide_eq_true ⟨h0.1, h0.2.1⟩) ▸ small_any v w)
      have hE : sealOk v i xs.length = true := by simp [sealOk, mayB_iff.2 h0, hl]
      unfold sealE sealX
      rw [hE, if_pos rfl, if_pos rfl]
      clear hE
      have hnl := nonce12_len i
      have hnb := bytes_nonce12 i
      have hbl := be8_len v
      have hbb := be8_bytes v
      have MN := fun w => rnonce_any i w ⟨by omega, by omega⟩
      have MP := fun w => one_any v w ⟨by omega, by omega⟩
      have MS := fun w s c h1 h2 => rseal_any key (nonce12 i) xs (be8 v) sp s 64 8 cp c w hk hnl bk hnb h1 h2 hbb (by decide) (by decide)
      obtain ⟨nn, hnn⟩ : ∃ x, x = nonce12 i := ⟨_, rfl⟩
      obtain ⟨b8, hb8⟩ : ∃ x, x = be8 v := ⟨_, rfl⟩
      rw [← hnn] at hnl MN MS ⊢
      rw [← hb8] at hbl MP MS ⊢
      obtain ⟨tx, htx⟩ : ∃ x, x = seal' key nn xs b8 := ⟨_, rfl⟩
      rw [← htx] at MS ⊢
      have hr0 := blk_new w (.cells (arr .u8 key) 23)
      have HK0 := Lib.hid hr0
      have HX := Lib.hid (hs.below hbw)
      have HKL := Lib.hid hk
      have HBL := Lib.hid hbl
      have HMN := Lib.hid MN
      have HMP := Lib.hid MP
      have HMS := Lib.hid MS
      obtain ⟨h00, h01, h02, h03⟩ := h0
      have h03' : i ≤ 31 := by omega
      have q0 : decide (i < 0) = false := decide_eq_false (by omega)
      have q1 : decide (31 < i) = false := decide_eq_false (by omega)
      clear hr0 hs hk bk hnl hnb hbl hbb MN MP MS hnn hb8 htx hl hbw
      go_enter Try.func5, Try.ntmps5
      go_upto_region 3 with (first | ((with_reducible show Calls _ _ _ _ _); go_at_call 14; refine (HM.out _).mono ?_; rintro e w1 ⟨rfl, rfl⟩))
      generalize w.alloc (.cells (arr .u8 key) 23) = wq at HK0 HX HW ⊢
      have hdr : Below wq.heap.size wq wq.drew := ⟨rfl, rfl, rfl, Nat.le_refl _, fun _ _ => rfl⟩
      have HX := Lib.hid (HX.out.below hdr)
      clear hdr
      have HB0 := Lib.hid (show Below wq.heap.size wq wq.drew from ⟨rfl, rfl, rfl, Nat.le_refl _, fun _ _ => rfl⟩)
      refine wp_region_held_drew (S := (fun w' => Go.RowKit.Below wq.heap.size wq w')) (by kernel_rfl) (HB0.out) (fun hHeld => ?_)
      obtain ⟨wv, hwv⟩ : ∃ x, x = wq.drew := ⟨_, rfl⟩
      rw [← hwv] at HB0 hHeld HX ⊢
      clear hwv
      refine' wpAnyH_take (i := 0) (oi := ({ dst := some 26, op := Op.load 23 (Operand.tmp 4), type := 23, pos := "makers.go:196", after := #[], guard := none } : Oper)) (v := _) rfl (by kernel_rfl) (by kernel_rfl) (by kernel_rfl) (fun _ _ _ h => h) (yieldsIf_load_mid (by rfl) _ _ rfl _ _ rfl (key.map (Value.int .u8)) _ ?hS2001 Try.underlying23 rfl (by rw [List.length_map, HKL.out]; exact size32)) (by assumption) ?rest2001
      case hS2001 => (intro w hSw; exact range_part (Below.blk hSw HK0.out (blk_lt HK0.out)) 0 _ (by rw [List.length_map]; exact arr_part _ _))
      (try simp only [Act.put, List.setIfInBounds_toArray, List.set_cons_zero, List.set_cons_succ])
      refine wpAnyH_take (i := 1) (oi := ({ dst := some 27, op := Op.move (Operand.tmp 2), type := 3, pos := "makers.go:196", after := #[], guard := none } : Oper)) (v := ?v2002) rfl (by kernel_rfl) (by kernel_rfl) (by kernel_rfl) (fun _ _ _ h => h) (Or.inl ⟨by rfl, ?hy2002⟩) (by assumption) ?rest2002
      case hy2002 => (intro w hSw; (try dsimp only at hSw); go_simp; try (with_reducible rfl))
      (try simp only [Act.put, List.setIfInBounds_toArray, List.set_cons_zero, List.set_cons_succ])
      refine wpAnyH_take (i := 3) (oi := ({ dst := some 29, op := Op.move (Operand.tmp 3), type := 24, pos := "makers.go:196", after := #[], guard := none } : Oper)) (v := ?v2003) rfl (by kernel_rfl) (by kernel_rfl) (by kernel_rfl) (fun _ _ _ h => h) (Or.inl ⟨by rfl, ?hy2003⟩) (by assumption) ?rest2003
      case hy2003 => (intro w hSw; (try dsimp only at hSw); go_simp; try (with_reducible rfl))
      (try simp only [Act.put, List.setIfInBounds_toArray, List.set_cons_zero, List.set_cons_succ])
      refine wpAnyH_take (i := 4) (oi := ({ dst := some 30, op := Op.move (Operand.tmp 1), type := 3, pos := "makers.go:196", after := #[], guard := none } : Oper)) (v := ?v2004) rfl (by kernel_rfl) (by kernel_rfl) (by kernel_rfl) (fun _ _ _ h => h) (Or.inl ⟨by rfl, ?hy2004⟩) (by assumption) ?rest2004
      case hy2004 => (intro w hSw; (try dsimp only at hSw); go_simp; try (with_reducible rfl))
      (try simp only [Act.put, List.setIfInBounds_toArray, List.set_cons_zero, List.set_cons_succ])
      refine wpAnyH_ready (rs := [2]) (by kernel_rfl) (by simp) ?_
      refine AllReadyH.cons (o := ({ dst := some 28, op := Op.call { callee := Callee.value (Operand.func 16), args := #[Operand.tmp 27], argTypes := #[3] }, type := 46, pos := "makers.go:196", after := #[{ on := 1, ground := Ground.data }], guard := none } : Oper)) rfl (fun K hK => ?_) AllReadyH.nil
      go_simp
      go_at_call 16
      refine (HMN.out _).mono ?_
      rintro e w2005 ⟨rfl, hb2005⟩
      have HB2005 := Lib.hid (HB0.out.trans (hb2005.mono HB0.out.size))
      have HX := Lib.hid (HX.out.below hb2005)
      (try (have HA := Lib.hid (HA.out.below hb2005)))
      (try (have HS2 := Lib.hid (HS2.out.below hb2005)))
      clear hb2005
      (try dsimp only)
      refine hK.out _ _ (HB2005.out) (fun hHeld => ?_)
      clear hK K
      (try simp only [Act.put, List.setIfInBounds_toArray, List.set_cons_zero, List.set_cons_succ])
      refine wpAnyH_ready (rs := [5]) (by kernel_rfl) (by simp) ?_
      refine AllReadyH.cons (o := ({ dst := some 31, op := Op.call { callee := Callee.value (Operand.func 17), args := #[Operand.tmp 30], argTypes := #[3] }, type := 24, pos := "makers.go:196", after := #[{ on := 4, ground := Ground.data }, { on := 2, ground := Ground.chain }], guard := none } : Oper)) rfl (fun K hK => ?_) AllReadyH.nil
      go_simp
      go_at_call 17
      refine (HMP.out _).mono ?_
      rintro e w2006 ⟨v2, rfl, ho2, hb2006⟩
      have HB2006 := Lib.hid (HB2005.out.trans (hb2006.mono HB2005.out.size))
      obtain ⟨s2, c2, hv2, hc2, -, hs2, -⟩ := ho2.form
      rw [HBL.out] at hv2 hs2 hc2
      subst hv2
      have HS2 := Lib.hid hs2
      have HC2 := Lib.hid hc2
      clear ho2 hs2 hc2
      have HX := Lib.hid (HX.out.below hb2006)
      clear hb2006
      (try dsimp only)
      refine hK.out _ _ (HB2006.out) (fun hHeld => ?_)
      clear hK K
      (try simp only [Act.put, List.setIfInBounds_toArray, List.set_cons_zero, List.set_cons_succ])
      refine wpAnyH_ready (rs := [6]) (by kernel_rfl) (by simp) ?_
      refine AllReadyH.cons (o := ({ dst := some 32, op := Op.call { callee := Callee.value (Operand.func 15), args := #[Operand.tmp 26, Operand.tmp 28, Operand.tmp 29, Operand.tmp 31], argTypes := #[23, 46, 24, 24] }, type := 24, pos := "makers.go:196", after := #[{ on := 0, ground := Ground.data }, { on := 2, ground := Ground.data }, { on := 3, ground := Ground.data }, { on := 5, ground := Ground.data }, { on := 5, ground := Ground.chain }], guard := none } : Oper)) rfl (fun K hK => ?_) AllReadyH.nil
      go_simp
      go_at_call 15
      refine (HMS.out _ _ _ HX.out HS2.out).mono ?_
      rintro e w2007 ⟨v3, rfl, ho3, hb2007⟩
      have HB2007 := Lib.hid (HB2006.out.trans (hb2007.mono HB2006.out.size))
      have HO3 := Lib.hid (ho3.mono (B' := w.heap.size) (Nat.le_trans HW.out.size HB2006.out.size))
      clear ho3
      clear hb2007
      (try dsimp only)
      refine hK.out _ _ (HB2007.out) (fun hHeld => ?_)
      clear hK K
      (try simp only [Act.put, List.setIfInBounds_toArray, List.set_cons_zero, List.set_cons_succ])
      refine wpAnyH_take (i := 7) (oi := ({ dst := some 8, op := Op.assign (Operand.tmp 32), type := 24, pos := "makers.go:196", after := #[{ on := 6, ground := Ground.data }, { on := 6, ground := Ground.chain }, { on := 0, ground := Ground.phase }, { on := 1, ground := Ground.phase }, { on := 2, ground := Ground.phase }, { on := 3, ground := Ground.phase }, { on := 4, ground := Ground.phase }, { on := 5, ground := Ground.phase }, { on := 6, ground := Ground.phase }], guard := none } : Oper)) (v := ?v2008) rfl (by kernel_rfl) (by kernel_rfl) (by kernel_rfl) (fun _ _ _ h => h) (Or.inl ⟨by rfl, ?hy2008⟩) (by assumption) ?rest2008
      case hy2008 => (intro w hSw; (try dsimp only at hSw); go_simp; try (with_reducible rfl))
      (try simp only [Act.put, List.setIfInBounds_toArray, List.set_cons_zero, List.set_cons_succ])
      refine wpAnyH_take (i := 8) (oi := ({ dst := some 9, op := Op.assign (Operand.const (Value.int IntKind.i64 0)), type := 3, pos := "makers.go:196", after := #[{ on := 7, ground := Ground.chain }, { on := 0, ground := Ground.phase }, { on := 1, ground := Ground.phase }, { on := 2, ground := Ground.phase }, { on := 3, ground := Ground.phase }, { on := 4, ground := Ground.phase }, { on := 5, ground := Ground.phase }, { on := 6, ground := Ground.phase }, { on := 7, ground := Ground.phase }], guard := none } : Oper)) (v := ?v2009) rfl (by kernel_rfl) (by kernel_rfl) (by kernel_rfl) (fun _ _ _ h => h) (Or.inl ⟨by rfl, ?hy2009⟩) (by assumption) ?rest2009
      case hy2009 => (intro w hSw; (try dsimp only at hSw); go_simp; try (with_reducible rfl))
      (try simp only [Act.put, List.setIfInBounds_toArray, List.set_cons_zero, List.set_cons_succ])
      refine wpAnyH_done (by kernel_rfl) ?_ _
      (try simp only [Exit.then])
      go_wp2_with fail
      go_ret2
      exact ⟨_, rfl, HO3.out, HW.out.trans (HB2007.out.mono HW.out.size)⟩
    · have hn : ((n : Int) == 64) = false := by rw [beq_eq_false_iff_ne]; omega
      have hy : mayB v i = true := mayB_iff.2 h0
      have HM := Lib.hid (fun w => (show smallB v = true by simp only [smallB]; exact decide_eq_true ⟨h0.1, h0.2.1⟩) ▸ small_any v w)
      obtain ⟨h00, h01, h02, h03⟩ := h0
      have h03' : i ≤ 31 := by omega
      have q0 : decide (i < 0) = false := decide_eq_false (by omega)
      have q1 : decide (31 < i) = false := decide_eq_false (by omega)
      have hE : sealE v i xs = 1 := by simp [sealE, sealOk, hy, hl, h1]
      have hX : sealX key v i xs = [] := by simp [sealX, sealOk, hy, hl, h1]
      rw [hE, hX]
      clear hE hX hk bk
      go_enter Try.func5, Try.ntmps5
      go_wp2_with (first | ((with_reducible show Calls _ _ _ _ _); go_at_call 14; refine (HM.out _).mono ?_; rintro e w1 ⟨rfl, rfl⟩))
      go_ret2
      exact ⟨_, rfl, Own8.nil _ _, HW.out⟩
  · have hy : mayB v i = false := mayB_no h0
    by_cases h2 : (0 ≤ v ∧ v ≤ 2147483647)
    · have HM := Lib.hid (fun w => (show smallB v = true by simp only [smallB]; exact decide_eq_true h2) ▸ small_any v w)
      by_cases h3 : i < 0
      · skip
        have hE : sealE v i xs = 1 := by simp [sealE, sealOk, hy]
        have hX : sealX key v i xs = [] := by simp [sealX, sealOk, hy]
        rw [hE, hX]
        clear hE hX hk bk
        go_enter Try.func5, Try.ntmps5
        go_wp2_with (first | ((with_reducible show Calls _ _ _ _ _); go_at_call 14; refine (HM.out _).mono ?_; rintro e w1 ⟨rfl, rfl⟩))
        go_ret2
        exact ⟨_, rfl, Own8.nil _ _, HW.out⟩
      · have h3' : 0 ≤ i := by omega
        have h4 : 31 < i := by omega
        have q0 : decide (i < 0) = false := decide_eq_false h3
        clear h0
        have hE : sealE v i xs = 1 := by simp [sealE, sealOk, hy]
        have hX : sealX key v i xs = [] := by simp [sealX, sealOk, hy]
        rw [hE, hX]
        clear hE hX hk bk
        go_enter Try.func5, Try.ntmps5
        go_wp2_with (first | ((with_reducible show Calls _ _ _ _ _); go_at_call 14; refine (HM.out _).mono ?_; rintro e w1 ⟨rfl, rfl⟩))
        go_ret2
        exact ⟨_, rfl, Own8.nil _ _, HW.out⟩
    · have HM := Lib.hid (fun w => (show smallB v = false by simp only [smallB]; exact decide_eq_false h2) ▸ small_any v w)
      have hE : sealE v i xs = 1 := by simp [sealE, sealOk, hy]
      have hX : sealX key v i xs = [] := by simp [sealX, sealOk, hy]
      rw [hE, hX]
      clear hE hX hk bk
      go_enter Try.func5, Try.ntmps5
      go_wp2_with (first | ((with_reducible show Calls _ _ _ _ _); go_at_call 14; refine (HM.out _).mono ?_; rintro e w1 ⟨rfl, rfl⟩))
      go_ret2
      exact ⟨_, rfl, Own8.nil _ _, HW.out⟩

end Go.Proofs.Ytoljnogpegemjaa.Im
