/- The document's Expand (of 32 bytes), wrapping: what they answer. Condition: the key and the bytes (one at least) lie there; the table holds what its text lays. -/
import Derived.Test.YtoljnogpegemjaaDoorMaR
import Derived.Test.YtoljnogpegemjaaDoorL1
namespace Go.Proofs.YtoljnogpegemjaaDoor.Wr
open Go.RowKit Lm Cu Sl
set_option linter.unusedSimpArgs false
set_option linter.unusedSimpArgs false
set_option linter.unusedVariables false

theorem Blk.grown {w wr w' : World} {l : List (Nat × Array Value × TypeId)} {r : Option Nat} (h : Blk w wr l) (hg : wr.grownBy w' r) (hne : ∀ e ∈ l, some e.1 ≠ r) (hb : Below w.heap.size w w') : Blk w w' l := by
  refine ⟨fun i g c t hi => ?_, h.inj, hb⟩
  obtain ⟨h1, h2⟩ := h.mem i g c t hi
  refine ⟨?_, h2⟩
  rw [hg.block g (h.lt i hi) (hne _ (List.mem_of_getElem? hi))]
  exact h1

set_option maxRecDepth 100000 in
set_option maxHeartbeats 16000000 in
theorem rexpand_any (key info : List Int) (a2 : Addr) (nb cb : Nat) (w : World) (hkl : key.length = 32) (hb : bytes key) (hB : Src w (some a2) nb info) (bB : bytes info) (hN : nb ≤ 1000000) (hk : Ha.TabK w) :
    Calls Tryd.prog 110 #[.agg (arr .u8 key), .slice (some a2) nb cb, .int .i64 32] w fun e w' => ∃ v, e = .returned v ∧ Own8 w' w.heap.size v (mac key (info ++ [1])) ∧ Below w.heap.size w w' := by
  have hl := hB.len
  have hms := fun (g : Addr) (s : Addr) (c : Nat) (u : World) (h1 : Src u (some g) 32 key) (h2 : Src u (some s) (nb + 1) (info ++ [1])) (h3 : Ha.TabK u) => rmac_any key (info ++ [1]) g 32 32 s (nb + 1) c u h1 hb (by decide) h2 (bytes_app bB (by intro x hx; simp only [List.mem_singleton] at hx; subst hx; decide)) (by omega) (by omega) h3
  obtain ⟨h1, hh1⟩ : ∃ x, x = mac key (info ++ [1]) := ⟨_, rfl⟩
  rw [← hh1] at hms ⊢
  have HH1 : Hid (h1.length = 32) := Lib.hid (by rw [hh1]; exact mac_len _ _)
  have HMS := Lib.hid hms
  have HS := Lib.hid hB
  have HTK := Lib.hid hk
  have HKL := Lib.hid hkl
  have HL := Lib.hid hl
  have HNB := Lib.hid hN
  obtain ⟨zn, hzn⟩ : ∃ zs : List Int, zs = List.replicate 32 0 := ⟨_, rfl⟩
  have HZzn : Hid (∀ w, (zeroValue 23).run Tryd.prog w = .ok (.agg (arr .u8 zn)) w) := Lib.hid (by intro w; rw [hzn]; exact zero_num w)
  have HLzn : Hid (zn.length = 32) := Lib.hid (by rw [hzn]; rfl)
  have HI0 := Lib.hid (Blk.one w (arr .u8 key) 23)
  clear hh1 hms hB hzn hb bB hN hk hkl hl
  go_enter Tryd.func110, Tryd.ntmps110
  go_wp2_with fail
  go_loopw [7, 8, 9] (fun v7 v8 v9 wr => (v9 = .int .i64 1 ∧ v7 = .slice none 0 0 ∧ v8 = .slice none 0 0 ∧ Blk w wr [(w.heap.size, arr .u8 key, 23)]) ∨ (v9 = .int .i64 2 ∧ Own8 wr w.heap.size v7 h1 ∧ Below w.heap.size w wr)) (fun _ _ v9 _ => (3 - intOf v9).toNat)
  case atStart => exact Or.inl ⟨rfl, rfl, rfl, HI0.out⟩
  clear HI0
  case round =>
  rcases hrel with ⟨rfl, rfl, rfl, hB⟩ | ⟨rfl, ho, hbl⟩
  rotate_left
  · have hq := ho.form
    obtain ⟨sa, c, rfl, hcc, hcm, hsr, hor⟩ := hq
    rw [HH1.out] at hcc hsr ⊢
    have HSR := Lib.hid hsr
    have HBL := Lib.hid hbl
    have hc1 : ¬ (c : Int) < 32 := by omega
    have hsa : ∃ g, sa = some ⟨g, 0, none⟩ := by
      rcases hor with ⟨-, h0, -⟩ | ⟨g, rfl, -, -⟩
      · have := HH1.out
        rw [h0] at this
        exact absurd this (by decide)
      · exact ⟨g, rfl⟩
    obtain ⟨g, rfl⟩ := hsa
    clear ho hsr hbl hcm hor
    go_wp2_with (first | ((with_reducible show wpList _ _ _ (Oper.mk (some 38) _ _ _ _ _ :: _) _ _); refine wpList_app8 rfl (.const (.slice none 0 0)) (.tmp 37) rfl wr.heap.size _ [] rfl (Own8.nil _ _) _ 32 c h1 rfl HSR.out (by decide) (Nat.le_refl _) ?_; rw [List.nil_append]; intro v9 w9 how hgr _ _; have hb9 := app8_below (Own8.nil wr wr.heap.size) hgr (Below.refl _ _) (Nat.le_refl _); have HO9 := Lib.hid (how.mono HBL.out.size); have HB9 := Lib.hid (HBL.out.trans (hb9.mono HBL.out.size)); clear how hgr hb9))
    (try simp only [Exit.then])
    go_ret
    exact ⟨v9, rfl, HO9.out, HB9.out⟩
  have HB := Lib.hid hB
  clear hB
  go_upto_region 7 with (first | ((with_reducible show wpList _ _ _ (Oper.mk (some 19) _ _ _ _ _ :: _) _ _); refine wpList_app8 rfl (.const (.slice none 0 0)) (.tmp 18) rfl wr.heap.size _ [] rfl (Own8.nil _ _) none 0 0 [] rfl ⟨rfl, fun i hi => absurd hi (by simp)⟩ (by decide) (Nat.le_refl _) ?_; intro vz wz how hgr hnn _; obtain rfl := hnn.2 ⟨rfl, rfl⟩; have hbz := app8_below (Own8.nil wr wr.heap.size) hgr (Below.refl _ _) (Nat.le_refl _); have HIz := Lib.hid (HB.out.kept hbz); have HSZ := Lib.hid hbz.size; clear how hgr hbz) | ((with_reducible show wpList _ _ _ (Oper.mk (some 21) _ _ _ _ _ :: _) _ _); refine wpList_app8 rfl (.tmp 19) (.tmp 20) rfl wz.heap.size _ [] rfl (Own8.nil _ _) (some a2) nb cb info rfl (HS.out.below HIz.out.below) (by have := HNB.out; simp; omega) (Nat.le_refl _) ?_; rw [List.nil_append]; intro vb wb how hgr _ _; have hbb := app8_below (Own8.nil wz wz.heap.size) hgr (Below.refl _ _) (Nat.le_refl _); have HI1 := Lib.hid (HIz.out.kept hbb); have HOB := Lib.hid how; have HWZ := Lib.hid (show wz.heap.size ≤ wb.heap.size from hbb.size); have HKZ := Lib.hid (HIz.out.lt 0 rfl); clear how hgr hbb))
  (try simp only [World.size_alloc, Act.put, List.setIfInBounds_toArray, List.set_cons_zero, List.set_cons_succ])
  refine wp_region_held_drew (S := fun _ => True) (by kernel_rfl) trivial (fun hHeld => ?_)
  have HBd := Lib.hid (HI1.out.drew)
  have HOd : Hid (Own8 wb.drew wz.heap.size vb info) := Lib.hid HOB.out.drew
  have HWd : Hid (wz.heap.size ≤ wb.drew.heap.size) := HWZ
  generalize wb.drew = wd at HBd HOd HWd ⊢
  refine wpAnyH_take (i := 0) (oi := ({ dst := some 22, op := Op.slice 23 (Operand.tmp 3) none none none, type := 24, pos := "bytes.go:306", after := #[], guard := none } : Oper)) (v := .slice (some ⟨w.heap.size, 0, none⟩) 32 32) rfl (by kernel_rfl) (by kernel_rfl) (by kernel_rfl) (fun _ _ _ h => h) (Or.inl ⟨by rfl, ?hy6701⟩) trivial ?rest6701
  case hy6701 => (intro w _; (try dsimp only); go_simp; try (with_reducible rfl))
  (try simp only [Act.put, List.setIfInBounds_toArray, List.set_cons_zero, List.set_cons_succ])
  refine wpAnyH_take (i := 1) (oi := ({ dst := some 23, op := Op.move (Operand.tmp 10), type := 24, pos := "bytes.go:306", after := #[], guard := none } : Oper)) (v := vb) rfl (by kernel_rfl) (by kernel_rfl) (by kernel_rfl) (fun _ _ _ h => h) (Or.inl ⟨by rfl, ?hy6702⟩) trivial ?rest6702
  case hy6702 => (intro w _; (try dsimp only); first | rfl | kernel_rfl)
  (try simp only [Act.put, List.setIfInBounds_toArray, List.set_cons_zero, List.set_cons_succ])
  refine wpAnyH_take (i := 2) (oi := ({ dst := some 24, op := Op.move (Operand.tmp 9), type := 3, pos := "bytes.go:306", after := #[], guard := none } : Oper)) (v := .int .i64 1) rfl (by kernel_rfl) (by kernel_rfl) (by kernel_rfl) (fun _ _ _ h => h) (Or.inl ⟨by rfl, ?hy6703⟩) trivial ?rest6703
  case hy6703 => (intro w _; (try dsimp only); first | rfl | kernel_rfl)
  (try simp only [Act.put, List.setIfInBounds_toArray, List.set_cons_zero, List.set_cons_succ])
  refine wpAnyH_take (i := 3) (oi := ({ dst := some 25, op := Op.binOp BinOp.and 3 (Operand.tmp 24) (Operand.const (Value.int IntKind.i64 255)) 3, type := 3, pos := "bytes.go:306", after := #[{ on := 2, ground := Ground.data }], guard := none } : Oper)) (v := .int .i64 1) rfl (by kernel_rfl) (by kernel_rfl) (by kernel_rfl) (fun _ _ _ h => h) (Or.inl ⟨by rfl, ?hy6704⟩) trivial ?rest6704
  case hy6704 => (intro w _; (try dsimp only); first | rfl | kernel_rfl | (go_simp; done))
  (try simp only [Act.put, List.setIfInBounds_toArray, List.set_cons_zero, List.set_cons_succ])
  refine wpAnyH_take (i := 4) (oi := ({ dst := some 26, op := Op.convert 3 5 (Operand.tmp 25), type := 5, pos := "bytes.go:306", after := #[{ on := 3, ground := Ground.data }], guard := none } : Oper)) (v := .int .u8 1) rfl (by kernel_rfl) (by kernel_rfl) (by kernel_rfl) (fun _ _ _ h => h) (Or.inl ⟨by rfl, ?hy6705⟩) trivial ?rest6705
  case hy6705 => (intro w _; (try dsimp only); first | rfl | kernel_rfl | (go_simp; done))
  (try simp only [Act.put, List.setIfInBounds_toArray, List.set_cons_zero, List.set_cons_succ])
  refine wpAnyH_ready (rs := [5, 8]) (by kernel_rfl) (by simp) ?_
  refine AllReadyH.cons (o := ({ dst := some 27, op := Op.buildSlice 24 1 #[(0, Operand.tmp 26)], type := 24, pos := "bytes.go:306", after := #[{ on := 4, ground := Ground.data }], guard := none } : Oper)) rfl (fun K hK => ?_) ?_
  · go_simp
    have HY1 := Lib.hid (HBd.out.alloc (arr .u8 [1]) 5)
    have HO1_ := Lib.hid (HOd.out.alloc (.cells (arr .u8 [1]) 5))
    have HW1 : Hid (wz.heap.size ≤ (wd.alloc (.cells (arr .u8 [1]) 5)).heap.size) := Lib.hid (Nat.le_trans HWd.out (by simp))
    have HG1 : Hid (∀ k, vb.ownBlock = some k → k < wd.heap.size) := Lib.hid (fun k h => (HOd.out.lt k h).2)
    rw [show (#[.int .u8 1] : Array Value) = arr .u8 [1] from rfl]
    generalize wd.heap.size = gk at HY1 HG1 ⊢
    generalize wd.alloc (.cells (arr .u8 [1]) 5) = y1 at HY1 HO1_ HW1 ⊢
    refine hK.out _ _ trivial (fun _ => ?_)
    clear hK K
    (try simp only [Act.put, List.setIfInBounds_toArray, List.set_cons_zero, List.set_cons_succ])
    refine wpAnyH_ready (rs := [6, 8]) (by kernel_rfl) (by simp) ?_
    refine AllReadyH.cons (o := ({ dst := some 28, op := Op.call { callee := Callee.builtin Builtin.append, args := #[Operand.tmp 23, Operand.tmp 27], argTypes := #[24, 24] }, type := 24, pos := "bytes.go:306", after := #[{ on := 1, ground := Ground.data }, { on := 5, ground := Ground.data }], guard := none } : Oper)) rfl (fun K hK => ?_) ?_
    · refine step_app8 rfl (.tmp 23) (.tmp 27) rfl wz.heap.size vb info rfl HO1_.out _ 1 1 [1] rfl (src_all (HY1.out.get 1 rfl) 1 rfl) (by have := HL.out; have := HNB.out; omega) HW1.out ?_
      intro v2 y2 how hgr _ _
      have hbe : Below w.heap.size w y2 := app8_below (HO1_.out.mono (Nat.le_trans (Nat.le_of_lt HKZ.out) (Nat.le_refl _))) hgr HY1.out.below HY1.out.below.size
      have HY2 := Lib.hid (Blk.grown HY1.out hgr (by
        intro e he
        simp only [List.mem_append, List.mem_cons, List.not_mem_nil, or_false, List.cons_append, List.nil_append] at he
        intro e2
        have hlt := HO1_.out.lt e.1 e2.symm
        have hkz := HKZ.out
        have hgk := HG1.out e.1 e2.symm
        rcases he with rfl | rfl <;> simp only at hlt hkz hgk <;> omega) hbe)
      have HO2_ := Lib.hid how
      have HW2 : Hid (wz.heap.size ≤ y2.heap.size) := Lib.hid (Nat.le_trans HW1.out hgr.size)
      clear how hgr hbe
      refine hK.out _ _ trivial (fun _ => ?_)
      clear hK K
      (try simp only [Act.put, List.setIfInBounds_toArray, List.set_cons_zero, List.set_cons_succ])
      refine wpAnyH_ready (rs := [7, 8]) (by kernel_rfl) (by simp) ?_
      refine AllReadyH.cons (o := ({ dst := some 29, op := Op.call { callee := Callee.value (Operand.func 71), args := #[Operand.tmp 22, Operand.tmp 28], argTypes := #[24, 24] }, type := 23, pos := "bytes.go:306", after := #[{ on := 0, ground := Ground.data }, { on := 6, ground := Ground.data }, { on := 6, ground := Ground.chain }], guard := none } : Oper)) rfl (fun K hK => ?_) ?_
      · have hfm := HO2_.out.form
        obtain ⟨sm, cm, rfl, -, -, hsm, hom⟩ := hfm
        obtain ⟨gm, rfl⟩ : ∃ g, sm = some ⟨g, 0, none⟩ := by
          rcases hom with ⟨-, h0, -⟩ | ⟨g, rfl, -, -⟩
          · exact absurd h0 (by simp)
          · exact ⟨g, rfl⟩
        rw [List.length_append, HL.out, show ([1] : List Int).length = 1 from rfl] at hsm ⊢
        go_simp
        go_at_call 71
        refine (HMS.out _ _ _ _ (src_all (HY2.out.get 0 rfl) 32 HKL.out) hsm (ktab_below HTK.out HY2.out.below)).mono ?_
        rintro e y3 ⟨rfl, hb9⟩
        have HY3 := Lib.hid (HY2.out.kept hb9)
        have HO3_ := Lib.hid (HO2_.out.below hb9)
        have HW3 : Hid (wz.heap.size ≤ y3.heap.size) := Lib.hid (Nat.le_trans HW2.out hb9.size)
        clear hb9 hsm hom
        (try dsimp only)
        refine hK.out _ _ trivial (fun _ => ?_)
        clear hK K
        (try simp only [Act.put, List.setIfInBounds_toArray, List.set_cons_zero, List.set_cons_succ])
        refine wpAnyH_ready (rs := [8]) (by kernel_rfl) (by simp) ?_
        refine AllReadyH.cons (o := ({ dst := some 11, op := Op.alloc 23, type := 0, pos := "bytes.go:306", after := #[], guard := none } : Oper)) rfl (fun K hK => ?_) AllReadyH.nil
        refine step_alloc_row rfl 23 rfl _ (HZzn.out _) ?_
        have HY4 := Lib.hid (HY3.out.alloc (arr .u8 zn) 23)
        have HO4_ := Lib.hid (HO3_.out.alloc (.cells (arr .u8 zn) 23))
        have HW4 : Hid (wz.heap.size ≤ (y3.alloc (.cells (arr .u8 zn) 23)).heap.size) := Lib.hid (Nat.le_trans HW3.out (by simp))
        generalize y3.heap.size = g11 at HY4 ⊢
        generalize y3.alloc (.cells (arr .u8 zn) 23) = y4 at HY4 HO4_ HW4 ⊢
        refine hK.out _ _ trivial (fun _ => ?_)
        clear hK K
        (try simp only [Act.put, List.setIfInBounds_toArray, List.set_cons_zero, List.set_cons_succ])
        refine wpAnyH_ready (rs := [9]) (by kernel_rfl) (by simp) ?_
        refine AllReadyH.cons (o := ({ dst := none, op := Op.store 23 (Operand.tmp 11) (Operand.tmp 29), type := 0, pos := "bytes.go:306", after := #[{ on := 8, ground := Ground.data }, { on := 7, ground := Ground.data }, { on := 7, ground := Ground.chain }, { on := 0, ground := Ground.phase }, { on := 1, ground := Ground.phase }, { on := 2, ground := Ground.phase }, { on := 3, ground := Ground.phase }, { on := 4, ground := Ground.phase }, { on := 5, ground := Ground.phase }, { on := 6, ground := Ground.phase }, { on := 7, ground := Ground.phase }, { on := 8, ground := Ground.phase }], guard := none } : Oper)) rfl (fun K hK => ?_) AllReadyH.nil
        refine step_store_whole rfl 23 (.tmp 11) (.tmp 29) rfl g11 _ _ 23 (HY4.out.get 2 rfl) rfl rfl (arr_len2 _ _ HH1.out HLzn.out) (num_s HH1.out) (all_arr _ _) ?_
        intro y5 hb9 hk9 hz9
        have HY5 := Lib.hid (HY4.out.put 2 rfl hk9 hb9)
        clear hb9 hk9 hz9
        refine hK.out _ _ trivial (fun _ => ?_)
        clear hK K
        (try simp only [Act.put, List.setIfInBounds_toArray, List.set_cons_zero, List.set_cons_succ])
        refine wpAnyH_done (by kernel_rfl) ?_ _
        (try simp only [Exit.then])
        go_wp2_with (first | ((with_reducible show wpList _ _ _ (Oper.mk (some 31) _ _ _ _ _ :: _) _ _); refine wpList_app8 rfl (.const (.slice none 0 0)) (.tmp 30) rfl (y5).heap.size _ [] rfl (Own8.nil _ _) _ 32 32 h1 rfl (src_all (HY5.out.get 2 rfl) 32 HH1.out) (by decide) (Nat.le_refl _) ?_; rw [List.nil_append]; intro vt wt how hgr _ _; have hbt := app8_below (Own8.nil (y5) (y5).heap.size) hgr (Below.refl _ _) (Nat.le_refl _); have HIt := Lib.hid (HY5.out.kept hbt); have HOT := Lib.hid how; clear how hgr hbt) | ((with_reducible show wpList _ _ _ (Oper.mk (some 34) _ _ _ _ _ :: _) _ _); obtain ⟨st_, ct_, rfl, -, -, hst, -⟩ := HOT.out.form; refine wpList_app8 rfl (.tmp 32) (.tmp 33) rfl wt.heap.size _ [] rfl (Own8.nil _ _) st_ _ ct_ h1 rfl hst (by rw [HH1.out]; decide) (Nat.le_refl _) ?_; rw [List.nil_append]; intro v7 w7 how hgr _ _; have hb7 := app8_below (Own8.nil wt wt.heap.size) hgr (Below.refl _ _) (Nat.le_refl _); have HO7 := Lib.hid (how.mono HIt.out.below.size); have HB7 := Lib.hid (HIt.out.kept hb7).below; clear how hgr hb7 hst))
        go_roundw
        case rel => exact Or.inr ⟨rfl, HO7.out, HB7.out⟩
        case measure => simp [intOf]
      refine AllReadyH.cons (o := ({ dst := some 11, op := Op.alloc 23, type := 0, pos := "bytes.go:306", after := #[], guard := none } : Oper)) rfl (fun K hK => ?_) AllReadyH.nil
      refine step_alloc_row rfl 23 rfl _ (HZzn.out _) ?_
      have HY6 := Lib.hid (HY2.out.alloc (arr .u8 zn) 23)
      have HO6_ := Lib.hid (HO2_.out.alloc (.cells (arr .u8 zn) 23))
      have HW6 : Hid (wz.heap.size ≤ (y2.alloc (.cells (arr .u8 zn) 23)).heap.size) := Lib.hid (Nat.le_trans HW2.out (by simp))
      generalize y2.heap.size = g11 at HY6 ⊢
      generalize y2.alloc (.cells (arr .u8 zn) 23) = y6 at HY6 HO6_ HW6 ⊢
      refine hK.out _ _ trivial (fun _ => ?_)
      clear hK K
      (try simp only [Act.put, List.setIfInBounds_toArray, List.set_cons_zero, List.set_cons_succ])
      refine wpAnyH_ready (rs := [7]) (by kernel_rfl) (by simp) ?_
      refine AllReadyH.cons (o := ({ dst := some 29, op := Op.call { callee := Callee.value (Operand.func 71), args := #[Operand.tmp 22, Operand.tmp 28], argTypes := #[24, 24] }, type := 23, pos := "bytes.go:306", after := #[{ on := 0, ground := Ground.data }, { on := 6, ground := Ground.data }, { on := 6, ground := Ground.chain }], guard := none } : Oper)) rfl (fun K hK => ?_) AllReadyH.nil
      have hfm := HO6_.out.form
      obtain ⟨sm, cm, rfl, -, -, hsm, hom⟩ := hfm
      obtain ⟨gm, rfl⟩ : ∃ g, sm = some ⟨g, 0, none⟩ := by
        rcases hom with ⟨-, h0, -⟩ | ⟨g, rfl, -, -⟩
        · exact absurd h0 (by simp)
        · exact ⟨g, rfl⟩
      rw [List.length_append, HL.out, show ([1] : List Int).length = 1 from rfl] at hsm ⊢
      go_simp
      go_at_call 71
      refine (HMS.out _ _ _ _ (src_all (HY6.out.get 0 rfl) 32 HKL.out) hsm (ktab_below HTK.out HY6.out.below)).mono ?_
      rintro e y7 ⟨rfl, hb9⟩
      have HY7 := Lib.hid (HY6.out.kept hb9)
      have HO7_ := Lib.hid (HO6_.out.below hb9)
      have HW7 : Hid (wz.heap.size ≤ y7.heap.size) := Lib.hid (Nat.le_trans HW6.out hb9.size)
      clear hb9 hsm hom
      (try dsimp only)
      refine hK.out _ _ trivial (fun _ => ?_)
      clear hK K
      (try simp only [Act.put, List.setIfInBounds_toArray, List.set_cons_zero, List.set_cons_succ])
      refine wpAnyH_ready (rs := [9]) (by kernel_rfl) (by simp) ?_
      refine AllReadyH.cons (o := ({ dst := none, op := Op.store 23 (Operand.tmp 11) (Operand.tmp 29), type := 0, pos := "bytes.go:306", after := #[{ on := 8, ground := Ground.data }, { on := 7, ground := Ground.data }, { on := 7, ground := Ground.chain }, { on := 0, ground := Ground.phase }, { on := 1, ground := Ground.phase }, { on := 2, ground := Ground.phase }, { on := 3, ground := Ground.phase }, { on := 4, ground := Ground.phase }, { on := 5, ground := Ground.phase }, { on := 6, ground := Ground.phase }, { on := 7, ground := Ground.phase }, { on := 8, ground := Ground.phase }], guard := none } : Oper)) rfl (fun K hK => ?_) AllReadyH.nil
      refine step_store_whole rfl 23 (.tmp 11) (.tmp 29) rfl g11 _ _ 23 (HY7.out.get 2 rfl) rfl rfl (arr_len2 _ _ HH1.out HLzn.out) (num_s HH1.out) (all_arr _ _) ?_
      intro y8 hb9 hk9 hz9
      have HY8 := Lib.hid (HY7.out.put 2 rfl hk9 hb9)
      clear hb9 hk9 hz9
      refine hK.out _ _ trivial (fun _ => ?_)
      clear hK K
      (try simp only [Act.put, List.setIfInBounds_toArray, List.set_cons_zero, List.set_cons_succ])
      refine wpAnyH_done (by kernel_rfl) ?_ _
      (try simp only [Exit.then])
      go_wp2_with (first | ((with_reducible show wpList _ _ _ (Oper.mk (some 31) _ _ _ _ _ :: _) _ _); refine wpList_app8 rfl (.const (.slice none 0 0)) (.tmp 30) rfl (y8).heap.size _ [] rfl (Own8.nil _ _) _ 32 32 h1 rfl (src_all (HY8.out.get 2 rfl) 32 HH1.out) (by decide) (Nat.le_refl _) ?_; rw [List.nil_append]; intro vt wt how hgr _ _; have hbt := app8_below (Own8.nil (y8) (y8).heap.size) hgr (Below.refl _ _) (Nat.le_refl _); have HIt := Lib.hid (HY8.out.kept hbt); have HOT := Lib.hid how; clear how hgr hbt) | ((with_reducible show wpList _ _ _ (Oper.mk (some 34) _ _ _ _ _ :: _) _ _); obtain ⟨st_, ct_, rfl, -, -, hst, -⟩ := HOT.out.form; refine wpList_app8 rfl (.tmp 32) (.tmp 33) rfl wt.heap.size _ [] rfl (Own8.nil _ _) st_ _ ct_ h1 rfl hst (by rw [HH1.out]; decide) (Nat.le_refl _) ?_; rw [List.nil_append]; intro v7 w7 how hgr _ _; have hb7 := app8_below (Own8.nil wt wt.heap.size) hgr (Below.refl _ _) (Nat.le_refl _); have HO7 := Lib.hid (how.mono HIt.out.below.size); have HB7 := Lib.hid (HIt.out.kept hb7).below; clear how hgr hb7 hst))
      go_roundw
      case rel => exact Or.inr ⟨rfl, HO7.out, HB7.out⟩
      case measure => simp [intOf]
    refine AllReadyH.cons (o := ({ dst := some 11, op := Op.alloc 23, type := 0, pos := "bytes.go:306", after := #[], guard := none } : Oper)) rfl (fun K hK => ?_) AllReadyH.nil
    refine step_alloc_row rfl 23 rfl _ (HZzn.out _) ?_
    have HY9 := Lib.hid (HY1.out.alloc (arr .u8 zn) 23)
    have HO9_ := Lib.hid (HO1_.out.alloc (.cells (arr .u8 zn) 23))
    have HW9 : Hid (wz.heap.size ≤ (y1.alloc (.cells (arr .u8 zn) 23)).heap.size) := Lib.hid (Nat.le_trans HW1.out (by simp))
    have HG9 : Hid (∀ k, vb.ownBlock = some k → k < y1.heap.size) := Lib.hid (fun k h => (HO1_.out.lt k h).2)
    generalize y1.heap.size = g11 at HY9 HG9 ⊢
    generalize y1.alloc (.cells (arr .u8 zn) 23) = y9 at HY9 HO9_ HW9 ⊢
    refine hK.out _ _ trivial (fun _ => ?_)
    clear hK K
    (try simp only [Act.put, List.setIfInBounds_toArray, List.set_cons_zero, List.set_cons_succ])
    refine wpAnyH_ready (rs := [6]) (by kernel_rfl) (by simp) ?_
    refine AllReadyH.cons (o := ({ dst := some 28, op := Op.call { callee := Callee.builtin Builtin.append, args := #[Operand.tmp 23, Operand.tmp 27], argTypes := #[24, 24] }, type := 24, pos := "bytes.go:306", after := #[{ on := 1, ground := Ground.data }, { on := 5, ground := Ground.data }], guard := none } : Oper)) rfl (fun K hK => ?_) AllReadyH.nil
    refine step_app8 rfl (.tmp 23) (.tmp 27) rfl wz.heap.size vb info rfl HO9_.out _ 1 1 [1] rfl (src_all (HY9.out.get 1 rfl) 1 rfl) (by have := HL.out; have := HNB.out; omega) HW9.out ?_
    intro v2 y10 how hgr _ _
    have hbe : Below w.heap.size w y10 := app8_below (HO9_.out.mono (Nat.le_trans (Nat.le_of_lt HKZ.out) (Nat.le_refl _))) hgr HY9.out.below HY9.out.below.size
    have HY10 := Lib.hid (Blk.grown HY9.out hgr (by
      intro e he
      simp only [List.mem_append, List.mem_cons, List.not_mem_nil, or_false, List.cons_append, List.nil_append] at he
      intro e2
      have hlt := HO9_.out.lt e.1 e2.symm
      have hkz := HKZ.out
      have hgk := HG1.out e.1 e2.symm
      have hg11 := HG9.out e.1 e2.symm
      rcases he with rfl | rfl | rfl <;> simp only at hlt hkz hgk hg11 <;> omega) hbe)
    have HO10_ := Lib.hid how
    have HW10 : Hid (wz.heap.size ≤ y10.heap.size) := Lib.hid (Nat.le_trans HW9.out hgr.size)
    clear how hgr hbe
    refine hK.out _ _ trivial (fun _ => ?_)
    clear hK K
    (try simp only [Act.put, List.setIfInBounds_toArray, List.set_cons_zero, List.set_cons_succ])
    refine wpAnyH_ready (rs := [7]) (by kernel_rfl) (by simp) ?_
    refine AllReadyH.cons (o := ({ dst := some 29, op := Op.call { callee := Callee.value (Operand.func 71), args := #[Operand.tmp 22, Operand.tmp 28], argTypes := #[24, 24] }, type := 23, pos := "bytes.go:306", after := #[{ on := 0, ground := Ground.data }, { on := 6, ground := Ground.data }, { on := 6, ground := Ground.chain }], guard := none } : Oper)) rfl (fun K hK => ?_) AllReadyH.nil
    have hfm := HO10_.out.form
    obtain ⟨sm, cm, rfl, -, -, hsm, hom⟩ := hfm
    obtain ⟨gm, rfl⟩ : ∃ g, sm = some ⟨g, 0, none⟩ := by
      rcases hom with ⟨-, h0, -⟩ | ⟨g, rfl, -, -⟩
      · exact absurd h0 (by simp)
      · exact ⟨g, rfl⟩
    rw [List.length_append, HL.out, show ([1] : List Int).length = 1 from rfl] at hsm ⊢
    go_simp
    go_at_call 71
    refine (HMS.out _ _ _ _ (src_all (HY10.out.get 0 rfl) 32 HKL.out) hsm (ktab_below HTK.out HY10.out.below)).mono ?_
    rintro e y11 ⟨rfl, hb9⟩
    have HY11 := Lib.hid (HY10.out.kept hb9)
    have HO11_ := Lib.hid (HO10_.out.below hb9)
    have HW11 : Hid (wz.heap.size ≤ y11.heap.size) := Lib.hid (Nat.le_trans HW10.out hb9.size)
    clear hb9 hsm hom
    (try dsimp only)
    refine hK.out _ _ trivial (fun _ => ?_)
    clear hK K
    (try simp only [Act.put, List.setIfInBounds_toArray, List.set_cons_zero, List.set_cons_succ])
    refine wpAnyH_ready (rs := [9]) (by kernel_rfl) (by simp) ?_
    refine AllReadyH.cons (o := ({ dst := none, op := Op.store 23 (Operand.tmp 11) (Operand.tmp 29), type := 0, pos := "bytes.go:306", after := #[{ on := 8, ground := Ground.data }, { on := 7, ground := Ground.data }, { on := 7, ground := Ground.chain }, { on := 0, ground := Ground.phase }, { on := 1, ground := Ground.phase }, { on := 2, ground := Ground.phase }, { on := 3, ground := Ground.phase }, { on := 4, ground := Ground.phase }, { on := 5, ground := Ground.phase }, { on := 6, ground := Ground.phase }, { on := 7, ground := Ground.phase }, { on := 8, ground := Ground.phase }], guard := none } : Oper)) rfl (fun K hK => ?_) AllReadyH.nil
    refine step_store_whole rfl 23 (.tmp 11) (.tmp 29) rfl g11 _ _ 23 (HY11.out.get 2 rfl) rfl rfl (arr_len2 _ _ HH1.out HLzn.out) (num_s HH1.out) (all_arr _ _) ?_
    intro y12 hb9 hk9 hz9
    have HY12 := Lib.hid (HY11.out.put 2 rfl hk9 hb9)
    clear hb9 hk9 hz9
    refine hK.out _ _ trivial (fun _ => ?_)
    clear hK K
    (try simp only [Act.put, List.setIfInBounds_toArray, List.set_cons_zero, List.set_cons_succ])
    refine wpAnyH_done (by kernel_rfl) ?_ _
    (try simp only [Exit.then])
    go_wp2_with (first | ((with_reducible show wpList _ _ _ (Oper.mk (some 31) _ _ _ _ _ :: _) _ _); refine wpList_app8 rfl (.const (.slice none 0 0)) (.tmp 30) rfl (y12).heap.size _ [] rfl (Own8.nil _ _) _ 32 32 h1 rfl (src_all (HY12.out.get 2 rfl) 32 HH1.out) (by decide) (Nat.le_refl _) ?_; rw [List.nil_append]; intro vt wt how hgr _ _; have hbt := app8_below (Own8.nil (y12) (y12).heap.size) hgr (Below.refl _ _) (Nat.le_refl _); have HIt := Lib.hid (HY12.out.kept hbt); have HOT := Lib.hid how; clear how hgr hbt) | ((with_reducible show wpList _ _ _ (Oper.mk (some 34) _ _ _ _ _ :: _) _ _); obtain ⟨st_, ct_, rfl, -, -, hst, -⟩ := HOT.out.form; refine wpList_app8 rfl (.tmp 32) (.tmp 33) rfl wt.heap.size _ [] rfl (Own8.nil _ _) st_ _ ct_ h1 rfl hst (by rw [HH1.out]; decide) (Nat.le_refl _) ?_; rw [List.nil_append]; intro v7 w7 how hgr _ _; have hb7 := app8_below (Own8.nil wt wt.heap.size) hgr (Below.refl _ _) (Nat.le_refl _); have HO7 := Lib.hid (how.mono HIt.out.below.size); have HB7 := Lib.hid (HIt.out.kept hb7).below; clear how hgr hb7 hst))
    go_roundw
    case rel => exact Or.inr ⟨rfl, HO7.out, HB7.out⟩
    case measure => simp [intOf]
  refine AllReadyH.cons (o := ({ dst := some 11, op := Op.alloc 23, type := 0, pos := "bytes.go:306", after := #[], guard := none } : Oper)) rfl (fun K hK => ?_) AllReadyH.nil
  refine step_alloc_row rfl 23 rfl _ (HZzn.out _) ?_
  have HY13 := Lib.hid (HBd.out.alloc (arr .u8 zn) 23)
  have HO13_ := Lib.hid (HOd.out.alloc (.cells (arr .u8 zn) 23))
  have HW13 : Hid (wz.heap.size ≤ (wd.alloc (.cells (arr .u8 zn) 23)).heap.size) := Lib.hid (Nat.le_trans HWd.out (by simp))
  have HG13 : Hid (∀ k, vb.ownBlock = some k → k < wd.heap.size) := Lib.hid (fun k h => (HOd.out.lt k h).2)
  generalize wd.heap.size = g11 at HY13 HG13 ⊢
  generalize wd.alloc (.cells (arr .u8 zn) 23) = y13 at HY13 HO13_ HW13 ⊢
  refine hK.out _ _ trivial (fun _ => ?_)
  clear hK K
  (try simp only [Act.put, List.setIfInBounds_toArray, List.set_cons_zero, List.set_cons_succ])
  refine wpAnyH_ready (rs := [5]) (by kernel_rfl) (by simp) ?_
  refine AllReadyH.cons (o := ({ dst := some 27, op := Op.buildSlice 24 1 #[(0, Operand.tmp 26)], type := 24, pos := "bytes.go:306", after := #[{ on := 4, ground := Ground.data }], guard := none } : Oper)) rfl (fun K hK => ?_) AllReadyH.nil
  go_simp
  have HY14 := Lib.hid (HY13.out.alloc (arr .u8 [1]) 5)
  have HO14_ := Lib.hid (HO13_.out.alloc (.cells (arr .u8 [1]) 5))
  have HW14 : Hid (wz.heap.size ≤ (y13.alloc (.cells (arr .u8 [1]) 5)).heap.size) := Lib.hid (Nat.le_trans HW13.out (by simp))
  have HG14 : Hid (∀ k, vb.ownBlock = some k → k < y13.heap.size) := Lib.hid (fun k h => (HO13_.out.lt k h).2)
  rw [show (#[.int .u8 1] : Array Value) = arr .u8 [1] from rfl]
  generalize y13.heap.size = gk at HY14 HG14 ⊢
  generalize y13.alloc (.cells (arr .u8 [1]) 5) = y14 at HY14 HO14_ HW14 ⊢
  refine hK.out _ _ trivial (fun _ => ?_)
  clear hK K
  (try simp only [Act.put, List.setIfInBounds_toArray, List.set_cons_zero, List.set_cons_succ])
  refine wpAnyH_ready (rs := [6]) (by kernel_rfl) (by simp) ?_
  refine AllReadyH.cons (o := ({ dst := some 28, op := Op.call { callee := Callee.builtin Builtin.append, args := #[Operand.tmp 23, Operand.tmp 27], argTypes := #[24, 24] }, type := 24, pos := "bytes.go:306", after := #[{ on := 1, ground := Ground.data }, { on := 5, ground := Ground.data }], guard := none } : Oper)) rfl (fun K hK => ?_) AllReadyH.nil
  refine step_app8 rfl (.tmp 23) (.tmp 27) rfl wz.heap.size vb info rfl HO14_.out _ 1 1 [1] rfl (src_all (HY14.out.get 2 rfl) 1 rfl) (by have := HL.out; have := HNB.out; omega) HW14.out ?_
  intro v2 y15 how hgr _ _
  have hbe : Below w.heap.size w y15 := app8_below (HO14_.out.mono (Nat.le_trans (Nat.le_of_lt HKZ.out) (Nat.le_refl _))) hgr HY14.out.below HY14.out.below.size
  have HY15 := Lib.hid (Blk.grown HY14.out hgr (by
    intro e he
    simp only [List.mem_append, List.mem_cons, List.not_mem_nil, or_false, List.cons_append, List.nil_append] at he
    intro e2
    have hlt := HO14_.out.lt e.1 e2.symm
    have hkz := HKZ.out
    have hgk := HG14.out e.1 e2.symm
    have hg11 := HG13.out e.1 e2.symm
    rcases he with rfl | rfl | rfl <;> simp only at hlt hkz hgk hg11 <;> omega) hbe)
  have HO15_ := Lib.hid how
  have HW15 : Hid (wz.heap.size ≤ y15.heap.size) := Lib.hid (Nat.le_trans HW14.out hgr.size)
  clear how hgr hbe
  refine hK.out _ _ trivial (fun _ => ?_)
  clear hK K
  (try simp only [Act.put, List.setIfInBounds_toArray, List.set_cons_zero, List.set_cons_succ])
  refine wpAnyH_ready (rs := [7]) (by kernel_rfl) (by simp) ?_
  refine AllReadyH.cons (o := ({ dst := some 29, op := Op.call { callee := Callee.value (Operand.func 71), args := #[Operand.tmp 22, Operand.tmp 28], argTypes := #[24, 24] }, type := 23, pos := "bytes.go:306", after := #[{ on := 0, ground := Ground.data }, { on := 6, ground := Ground.data }, { on := 6, ground := Ground.chain }], guard := none } : Oper)) rfl (fun K hK => ?_) AllReadyH.nil
  have hfm := HO15_.out.form
  obtain ⟨sm, cm, rfl, -, -, hsm, hom⟩ := hfm
  obtain ⟨gm, rfl⟩ : ∃ g, sm = some ⟨g, 0, none⟩ := by
    rcases hom with ⟨-, h0, -⟩ | ⟨g, rfl, -, -⟩
    · exact absurd h0 (by simp)
    · exact ⟨g, rfl⟩
  rw [List.length_append, HL.out, show ([1] : List Int).length = 1 from rfl] at hsm ⊢
  go_simp
  go_at_call 71
  refine (HMS.out _ _ _ _ (src_all (HY15.out.get 0 rfl) 32 HKL.out) hsm (ktab_below HTK.out HY15.out.below)).mono ?_
  rintro e y16 ⟨rfl, hb9⟩
  have HY16 := Lib.hid (HY15.out.kept hb9)
  have HO16_ := Lib.hid (HO15_.out.below hb9)
  have HW16 : Hid (wz.heap.size ≤ y16.heap.size) := Lib.hid (Nat.le_trans HW15.out hb9.size)
  clear hb9 hsm hom
  (try dsimp only)
  refine hK.out _ _ trivial (fun _ => ?_)
  clear hK K
  (try simp only [Act.put, List.setIfInBounds_toArray, List.set_cons_zero, List.set_cons_succ])
  refine wpAnyH_ready (rs := [9]) (by kernel_rfl) (by simp) ?_
  refine AllReadyH.cons (o := ({ dst := none, op := Op.store 23 (Operand.tmp 11) (Operand.tmp 29), type := 0, pos := "bytes.go:306", after := #[{ on := 8, ground := Ground.data }, { on := 7, ground := Ground.data }, { on := 7, ground := Ground.chain }, { on := 0, ground := Ground.phase }, { on := 1, ground := Ground.phase }, { on := 2, ground := Ground.phase }, { on := 3, ground := Ground.phase }, { on := 4, ground := Ground.phase }, { on := 5, ground := Ground.phase }, { on := 6, ground := Ground.phase }, { on := 7, ground := Ground.phase }, { on := 8, ground := Ground.phase }], guard := none } : Oper)) rfl (fun K hK => ?_) AllReadyH.nil
  refine step_store_whole rfl 23 (.tmp 11) (.tmp 29) rfl g11 _ _ 23 (HY16.out.get 1 rfl) rfl rfl (arr_len2 _ _ HH1.out HLzn.out) (num_s HH1.out) (all_arr _ _) ?_
  intro y17 hb9 hk9 hz9
  have HY17 := Lib.hid (HY16.out.put 1 rfl hk9 hb9)
  clear hb9 hk9 hz9
  refine hK.out _ _ trivial (fun _ => ?_)
  clear hK K
  (try simp only [Act.put, List.setIfInBounds_toArray, List.set_cons_zero, List.set_cons_succ])
  refine wpAnyH_done (by kernel_rfl) ?_ _
  (try simp only [Exit.then])
  go_wp2_with (first | ((with_reducible show wpList _ _ _ (Oper.mk (some 31) _ _ _ _ _ :: _) _ _); refine wpList_app8 rfl (.const (.slice none 0 0)) (.tmp 30) rfl (y17).heap.size _ [] rfl (Own8.nil _ _) _ 32 32 h1 rfl (src_all (HY17.out.get 1 rfl) 32 HH1.out) (by decide) (Nat.le_refl _) ?_; rw [List.nil_append]; intro vt wt how hgr _ _; have hbt := app8_below (Own8.nil (y17) (y17).heap.size) hgr (Below.refl _ _) (Nat.le_refl _); have HIt := Lib.hid (HY17.out.kept hbt); have HOT := Lib.hid how; clear how hgr hbt) | ((with_reducible show wpList _ _ _ (Oper.mk (some 34) _ _ _ _ _ :: _) _ _); obtain ⟨st_, ct_, rfl, -, -, hst, -⟩ := HOT.out.form; refine wpList_app8 rfl (.tmp 32) (.tmp 33) rfl wt.heap.size _ [] rfl (Own8.nil _ _) st_ _ ct_ h1 rfl hst (by rw [HH1.out]; decide) (Nat.le_refl _) ?_; rw [List.nil_append]; intro v7 w7 how hgr _ _; have hb7 := app8_below (Own8.nil wt wt.heap.size) hgr (Below.refl _ _) (Nat.le_refl _); have HO7 := Lib.hid (how.mono HIt.out.below.size); have HB7 := Lib.hid (HIt.out.kept hb7).below; clear how hgr hb7 hst))
  go_roundw
  case rel => exact Or.inr ⟨rfl, HO7.out, HB7.out⟩
  case measure => simp [intOf]
end Go.Proofs.YtoljnogpegemjaaDoor.Wr
