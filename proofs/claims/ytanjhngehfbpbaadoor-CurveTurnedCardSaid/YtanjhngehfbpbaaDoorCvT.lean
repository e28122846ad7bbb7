/- CurveTurned: it answers true. Condition: the document's tables hold what their text lays. -/
import Derived.Deep.DeepCutAuto
import Derived.Deep.CutBlock
import Derived.Test.YtanjhngehfbpbaaDoorRpT
import Derived.Test.YtanjhngehfbpbaaDoorRx
import Derived.Test.YtanjhngehfbpbaaDoorCvI
import Derived.Test.YtanjhngehfbpbaaDoorOpen
import Derived.Test.YtanjhngehfbpbaaDoorLig
namespace Go.Proofs.YtanjhngehfbpbaaDoor.Sl
open Go.RowKit Lm Fp Cu Rd Sc
set_option linter.unusedSimpArgs false
set_option linter.unusedSimpArgs false
set_option linter.unusedVariables false

theorem rowI_src {w : World} {a : Option Addr} {len cap : Nat} {zs : List Int} (h : RowI .u8 w a len cap zs) : Src w a len (zs.take len) ∧ bytes (zs.take len) ∧ len ≤ cap := by
  rcases h with ⟨rfl, rfl, rfl, rfl⟩ | ⟨x, rfl, hl, hm, hz, hc, hw⟩
  · exact ⟨⟨rfl, fun i hi => absurd hi (by omega)⟩, fun x hx => by simp at hx, Nat.le_refl _⟩
  · refine ⟨⟨by simp; omega, fun i hi => ⟨x, rfl, ?_⟩⟩, fun y hy => wf_u8 (hw y (List.mem_of_mem_take hy)), hl⟩
    rw [hc i (by omega)]
    simp [List.getD, hi]
structure Tabs (w : World) : Prop where
  d : TabD w
  i : TabI w
  x : TabX w
  y : TabY w
  q : TabQ w
  k : Hb.TabK w
theorem Tabs.below {a b : World} (h : Tabs a) (k : Below a.heap.size a b) : Tabs b := ⟨range_below h.d k, range_below h.i k, range_below h.x k, range_below h.y k, h.q.below k, tabk_below h.k k⟩
theorem srcL_new {w : World} {sb : Option Addr} {nb cb : Nat} {bs : List Int} (h : Src w sb nb bs) (hc : nb ≤ cb) : SrcL (w.alloc (.cells #[.slice sb nb cb] 33)) (some ⟨w.heap.size, 0, none⟩) 1 [bs] := csrcL_one h hc
theorem src_mk {w : World} {g : Nat} {t : TypeId} {fr : Nat × Nat} {sb : Option Addr} {nb cb : Nat} {bs : List Int} (h : w.heap[g]? = some (.cells #[.slice sb nb cb] t fr)) (h1 : Src w sb nb bs) (hc : nb ≤ cb) : SrcL w (some ⟨g, 0, none⟩) 1 [bs] := by
  have e := h1.len
  subst e
  refine ⟨rfl, fun i hi => ?_⟩
  obtain rfl : i = 0 := by omega
  exact ⟨_, sb, cb, rfl, by rw [show (⟨g, 0, none⟩ : Addr).add 0 = ⟨g, 0, none⟩ from rfl, cell_blk h]; rfl, hc, h1⟩

set_option maxRecDepth 100000 in
set_option maxHeartbeats 4000000 in
theorem turned_long {ks : List Int} (sb : Option Addr) (nb cb : Nat) (wh at' by' : Int) (w : World) (h : (500 : Int) < (nb : Int)) :
    Calls Tryd.prog 5 #[.agg (arr .u8 ks), .slice sb nb cb, .int .i64 wh, .int .i64 at', .int .u8 by'] w fun e w' => e = .returned (.bool true) ∧ Below w.heap.size w w' := by
  have HAL := Lib.hid (fun w => alive13_any w)
  have HS0 := Lib.hid (Blk.one w (arr .u8 ks) 23)
  go_enter Tryd.func5, Tryd.ntmps5
  go_wp2_with (first | ((with_reducible show Calls _ 9 _ _ _); go_at_call 9; refine (HAL.out _).mono ?_; rintro e w1 ⟨rfl, hb1⟩; have HI1 := Lib.hid (HS0.out.kept hb1); clear hb1))
  (try simp only [Exit.then])
  go_ret
  exact ⟨rfl, HI1.out.below⟩
set_option maxRecDepth 100000 in
set_option maxHeartbeats 4000000 in
theorem turned_neg {ks : List Int} (sb : Option Addr) (nb cb : Nat) (wh at' by' : Int) (w : World) (h0 : ¬ (500 : Int) < (nb : Int)) (h : at' < 0) :
    Calls Tryd.prog 5 #[.agg (arr .u8 ks), .slice sb nb cb, .int .i64 wh, .int .i64 at', .int .u8 by'] w fun e w' => e = .returned (.bool true) ∧ Below w.heap.size w w' := by
  have HAL := Lib.hid (fun w => alive13_any w)
  have HS0 := Lib.hid (Blk.one w (arr .u8 ks) 23)
  go_enter Tryd.func5, Tryd.ntmps5
  go_wp2_with (first | ((with_reducible show Calls _ 9 _ _ _); go_at_call 9; refine (HAL.out _).mono ?_; rintro e w1 ⟨rfl, hb1⟩; have HI1 := Lib.hid (HS0.out.kept hb1); clear hb1))
  (try simp only [Exit.then])
  go_ret
  exact ⟨rfl, HI1.out.below⟩
set_option maxRecDepth 100000 in
set_option maxHeartbeats 4000000 in
theorem turned_none {ks : List Int} (sb : Option Addr) (nb cb : Nat) (wh at' by' : Int) (w : World) (h0 : ¬ (500 : Int) < (nb : Int)) (h1 : ¬ at' < 0) (h : by' = 0) :
    Calls Tryd.prog 5 #[.agg (arr .u8 ks), .slice sb nb cb, .int .i64 wh, .int .i64 at', .int .u8 by'] w fun e w' => e = .returned (.bool true) ∧ Below w.heap.size w w' := by
  have HAL := Lib.hid (fun w => alive13_any w)
  have HS0 := Lib.hid (Blk.one w (arr .u8 ks) 23)
  go_enter Tryd.func5, Tryd.ntmps5
  go_wp2_with (first | ((with_reducible show Calls _ 9 _ _ _); go_at_call 9; refine (HAL.out _).mono ?_; rintro e w1 ⟨rfl, hb1⟩; have HI1 := Lib.hid (HS0.out.kept hb1); clear hb1))
  (try simp only [Exit.then])
  go_ret
  exact ⟨rfl, HI1.out.below⟩
theorem xor_u8 (a b : Int) : 0 ≤ bits .xor .u8 a b ∧ bits .xor .u8 a b ≤ 255 := by
  show 0 ≤ IntKind.u8.wrap _ ∧ IntKind.u8.wrap _ ≤ 255
  rw [IntKind.wrap_u8]
  omega
theorem bytes_set {xs : List Int} (h : bytes xs) (k : Nat) {v : Int} (hv : 0 ≤ v ∧ v ≤ 255) : bytes (xs.set k v) := by
  intro x hx
  rcases List.mem_or_eq_of_mem_set hx with h1 | rfl
  · exact h x h1
  · exact hv
set_option maxRecDepth 100000 in
set_option maxHeartbeats 16000000 in
theorem turned_core {ks bs : List Int} (a I : Nat) (sb : Option Addr) (nb cb : Nat) (wh by' : Int) (w : World) (hk : K32 ks a) (hs : Src w sb nb bs) (hc : nb ≤ cb) (hb : bytes bs) (hby : 0 ≤ by' ∧ by' ≤ 255) (hT : Tabs w) (hnb : nb ≤ 500) (hb0 : ¬ by' = 0) :
    Calls Tryd.prog 5 #[.agg (arr .u8 ks), .slice sb nb cb, .int .i64 wh, .int .i64 (I : Int), .int .u8 by'] w fun e w' => e = .returned (.bool true) ∧ Below w.heap.size w w' := by
  have hgt : ¬ ((500 : Int) < (nb : Int)) := by omega
  have hge : ¬ ((I : Int) < 0) := by omega
  have hl := hs.len
  have hi64 : ((I : Int)).tmod 64 = ((I % 64 : Nat) : Int) := by rw [Int.tmod_eq_emod_of_nonneg (by omega)]; omega
  have hi32 : ((I : Int)).tmod 32 = ((I % 32 : Nat) : Int) := by rw [Int.tmod_eq_emod_of_nonneg (by omega)]; omega
  have hrp : ∀ (u : World), Tabs u → Calls Tryd.prog 11 #[.agg (arr .u8 ks)] u fun e w' => e = .returned (.agg (arr .u8 (n32 (epub a)))) ∧ Below u.heap.size u w' := by
    intro u h
    rw [hk.1]
    exact rpublic_any a u h.d h.x h.y h.k
  have hrs : ∀ (u : World), Src u sb nb bs → Tabs u → Calls Tryd.prog 15 #[.agg (arr .u8 ks), .slice sb nb cb] u fun e w' => e = .returned (.agg (arr .u8 (esign a bs))) ∧ Below u.heap.size u w' := by
    intro u h1 h
    rw [hk.1]
    exact rsign_any a sb nb cb u h1 hc hb (by omega) h.d h.x h.y h.q h.k
  have hv1 : ∀ (ky gg cs : List Int) (u : World) (g : Nat), ky.length = 32 → bytes ky → gg.length = 64 → bytes gg → cs.length ≤ 501 → bytes cs → SrcL u (some ⟨g, 0, none⟩) 1 [cs] → Calls Tryd.prog 17 #[.agg (arr .u8 ky), .agg (arr .u8 gg), .slice (some ⟨g, 0, none⟩) 1 1] u fun e w' => e = .returned (.bool (everify (hnum ky) (hnum (gg.take 32)) (hnum (gg.drop 32)) cs)) ∧ Below u.heap.size u w' := by
    intro ky gg cs u g h1 h2 h3 h4 h5 h6 h7
    have := cverify_any (ks := ky) (hnum ky) (some ⟨g, 0, none⟩) 1 1 [cs] u ⟨(n32_hnum h2 h1).symm, by have := hnum_lt h2; rwa [h1] at this⟩ h3 h4 h7 (by intro l h; simp only [List.mem_singleton] at h; subst h; exact h6) (by rw [show ([cs] : List (List Int)).flatten = cs by simp]; omega) (by decide)
    rwa [show ([cs] : List (List Int)).flatten = cs by simp] at this
  have hv2 : ∀ (ky gg cs : List Int) (u : World) (s : Option Addr) (c : Nat), ky.length = 32 → bytes ky → gg.length = 64 → bytes gg → cs.length ≤ 501 → bytes cs → cs.length ≤ c → Src u s cs.length cs → Tabs u → Calls Tryd.prog 18 #[.agg (arr .u8 ky), .agg (arr .u8 gg), .slice s cs.length c] u fun e w' => e = .returned (.bool (everify (hnum ky) (hnum (gg.take 32)) (hnum (gg.drop 32)) cs)) ∧ Below u.heap.size u w' := by
    intro ky gg cs u s c h1 h2 h3 h4 h5 h6 h7 h8 h
    have hlt : hnum ky < 2 ^ 256 := by rw [show (2 : Nat) ^ 256 = 256 ^ 32 by decide]; have := hnum_lt h2; rwa [h1] at this
    have := rverify_any (hnum ky) s cs.length c u hlt h3 h4 h8 h7 h6 (by omega) h.d h.i h.x h.y h.q h.k
    rwa [n32_hnum h2 h1] at this
  obtain ⟨pl, hpl⟩ : ∃ p, p = n32 (epub a) := ⟨_, rfl⟩
  have hpll : pl.length = 32 := by rw [hpl]; exact n32_len _
  have hplb : bytes pl := by rw [hpl]; exact n32_bytes _
  rw [← hpl] at hrp
  obtain ⟨gs, hgs⟩ : ∃ g, g = esign a bs := ⟨_, rfl⟩
  have hgl : gs.length = 64 := by rw [hgs]; exact esign_len a bs
  have hgb : bytes gs := by rw [hgs]; exact esign_bytes a bs
  rw [← hgs] at hrs
  have HAL := Lib.hid (fun w => alive13_any w)
  have HRP := Lib.hid hrp
  have HRS := Lib.hid hrs
  have HV1 := Lib.hid hv1
  have HV2 := Lib.hid hv2
  have HPLL := Lib.hid hpll
  have HPLB := Lib.hid hplb
  have HGL := Lib.hid hgl
  have HGB := Lib.hid hgb
  have HKL := Lib.hid hk.len
  have HSB := Lib.hid hs
  have HBB := Lib.hid hb
  have HLB := Lib.hid hl
  have HNB := Lib.hid hnb
  have HC := Lib.hid hc
  have HT := Lib.hid hT
  have HBY := Lib.hid hby
  have hb0' : (by' == 0) = false := by rw [beq_eq_false_iff_ne]; exact hb0
  obtain ⟨zn, hzn⟩ : ∃ zs : List Int, zs = List.replicate 32 0 := ⟨_, rfl⟩
  have HZzn : Hid (∀ w, (zeroValue 23).run Tryd.prog w = .ok (.agg (arr .u8 zn)) w) := Lib.hid (by intro w; rw [hzn]; exact zero_num w)
  have HLzn : Hid (zn.length = 32) := Lib.hid (by rw [hzn]; rfl)
  obtain ⟨zs64, hzs64⟩ : ∃ zs : List Int, zs = List.replicate 64 0 := ⟨_, rfl⟩
  have HZzs64 : Hid (∀ w, (zeroValue 30).run Tryd.prog w = .ok (.agg (arr .u8 zs64)) w) := Lib.hid (by intro w; rw [hzs64]; exact zero_sig w)
  have HLzs64 : Hid (zs64.length = 64) := Lib.hid (by rw [hzs64]; rfl)
  have HS0 := Lib.hid (Blk.one w (arr .u8 ks) 23)
  clear hzn hzs64 hnb hl hrp hrs hv1 hv2 hpl hpll hplb hgs hgl hgb hk hs hb hc hT hby
  go_enter Tryd.func5, Tryd.ntmps5
  go_upto_region 4 with (first | ((with_reducible show Calls _ 9 _ _ _); go_at_call 9; refine (HAL.out _).mono ?_; rintro e w1 ⟨rfl, hb1⟩; have HI1 := Lib.hid (HS0.out.kept hb1); clear hb1))
  (try simp only [World.size_alloc, Act.put, sA, sZ, sS])
  go_upto_region 5 with (first | ((with_reducible refine aS 32 ?_); refine wpList_load_part rfl 23 _ rfl (w.heap.size) 0 _ 23 (0, 0) _ (HI1.out.get 0 rfl) rfl .u8 ks (arr_part _ _) Tryd.underlying23 rfl (num_i HKL.out) ?_) | ((with_reducible show Calls _ 11 _ _ _); go_at_call 11; refine (HRP.out _ (HT.out.below HI1.out.below)).mono ?_; rintro e w2 ⟨rfl, hb2⟩; have HI2 := Lib.hid (HI1.out.kept hb2); clear hb2) | ((with_reducible refine aS 12 ?_); refine wpList_alloc_row rfl 23 rfl _ (HZzn.out _) ?_; have HI3 := Lib.hid (HI2.out.alloc (arr .u8 zn) 23); generalize w2.heap.size = g12 at HI3 ⊢; generalize w2.alloc (.cells (arr .u8 zn) 23) = w3 at HI3 ⊢) | ((with_reducible refine aT 12 ?_); refine wpList_store_whole rfl 23 _ _ rfl (g12) _ _ 23 (HI3.out.get 1 rfl) rfl rfl (arr_len2 _ _ HPLL.out HLzn.out) (num_s HPLL.out) (all_arr _ _) ?_; intro w4 hb4 hk4 hz4; have HI4 := Lib.hid (HI3.out.put 1 rfl hk4 hb4); clear hb4 hk4 hz4))
  (try simp only [World.size_alloc, Act.put, sA, sZ, sS])
  go_upto_region 6 with (first | ((with_reducible refine aS 34 ?_); refine wpList_load_part rfl 23 _ rfl (w.heap.size) 0 _ 23 (0, 0) _ (HI4.out.get 0 rfl) rfl .u8 ks (arr_part _ _) Tryd.underlying23 rfl (num_i HKL.out) ?_) | ((with_reducible show Calls _ 15 _ _ _); go_at_call 15; refine (HRS.out _ (HSB.out.below HI4.out.below) (HT.out.below HI4.out.below)).mono ?_; rintro e w5 ⟨rfl, hb5⟩; have HI5 := Lib.hid (HI4.out.kept hb5); clear hb5) | ((with_reducible refine aS 13 ?_); refine wpList_alloc_row rfl 30 rfl _ (HZzs64.out _) ?_; have HI6 := Lib.hid (HI5.out.alloc (arr .u8 zs64) 30); generalize w5.heap.size = g13 at HI6 ⊢; generalize w5.alloc (.cells (arr .u8 zs64) 30) = w6 at HI6 ⊢) | ((with_reducible refine aT 13 ?_); refine wpList_store_whole rfl 30 _ _ rfl (g13) _ _ 30 (HI6.out.get 2 rfl) rfl rfl (arr_len2 _ _ HGL.out HLzs64.out) (sig_s HGL.out) (all_arr _ _) ?_; intro w7 hb7 hk7 hz7; have HI7 := Lib.hid (HI6.out.put 2 rfl hk7 hb7); clear hb7 hk7 hz7))
  (try simp only [World.size_alloc, Act.put, sA, sZ, sS])
  go_upto_block 0 with (first | ((with_reducible refine aS 38 ?_); refine wpList_app8 rfl (.const (.slice none 0 0)) (.tmp 37) rfl w7.heap.size _ [] rfl (Own8.nil _ _) sb nb cb bs rfl (HSB.out.below HI7.out.below) (by have := HNB.out; simp; omega) (Nat.le_refl _) ?_; rw [List.nil_append]; intro v8 w8 how hgr _ _; have HB8 := Lib.hid (app8_below (Own8.nil w7 w7.heap.size) hgr (Below.refl _ _) (Nat.le_refl _)); have HI8 := Lib.hid (HI7.out.kept HB8.out); have HOW := Lib.hid how; clear how hgr))
  (try simp only [World.size_alloc, Act.put, sA, sZ, sS])
  go_cut [14, 44, 55] (fun v14 _x44 _x55 wx => ∃ ky gg cs : List Int, (ky.length = 32 ∧ bytes ky) ∧ (gg.length = 64 ∧ bytes gg) ∧ (cs.length ≤ 501 ∧ bytes cs) ∧ Own8 wx w7.heap.size v14 cs ∧ Blk w wx [(w.heap.size, arr .u8 ks, 23), (g12, arr .u8 ky, 23), (g13, arr .u8 gg, 30)])
  case first =>
    by_cases hw0 : wh = 0
    · subst hw0
      have hm := Nat.mod_lt I (show 0 < 64 by decide)
      have hgg := HGB.out
      have hgl2 := HGL.out
      generalize I % 64 = k at hi64 hm
      have q0 := arr_get' (HI8.out.get 2 rfl) k (by rw [hgl2]; exact hm)
      have q1 := free_blk (HI8.out.get 2 rfl) k
      generalize hy : gs.getD k 0 = y at q0
      have hb1 := HI8.out.cell 2 rfl k (.int .u8 (bits .xor .u8 y by'))
      have e2 : (arr .u8 gs).setIfInBounds k (.int .u8 (bits .xor .u8 y by')) = arr .u8 (gs.set k (bits .xor .u8 y by')) := arr_set _ _ _ _
      have HB1 := Lib.hid (hb1.cast (l' := [(w.heap.size, arr .u8 ks, 23), (g12, arr .u8 pl, 23), (g13, arr .u8 (gs.set k (bits .xor .u8 y by')), 30)]) (by rw [← e2]; rfl))
      have HO1 := Lib.hid (HOW.out.kept (T := fun x => x = g13) (w' := w8.setCell ⟨g13, k, none⟩ (.int .u8 (bits .xor .u8 y by'))) ((Kept.refl _ _).at _ _) (fun g h e => by have h1 := HOW.out.lt g h; have h2 := HI7.out.lt 2 rfl; omega))
      have HX := Lib.hid (bytes_set hgg k (xor_u8 y by'))
      clear hb1 e2 hy hgg
      go_wp2_with fail
      go_meet
      exact ⟨pl, _, bs, ⟨HPLL.out, HPLB.out⟩, ⟨by rw [List.length_set]; exact hgl2, HX.out⟩, ⟨by rw [HLB.out]; have := HNB.out; omega, HBB.out⟩, HO1.out, HB1.out⟩
    · by_cases hw1 : wh = 1
      · subst hw1
        have hw0' : ((1 : Int) == 0) = false := rfl
        have hm := Nat.mod_lt I (show 0 < 32 by decide)
        have hgg := HPLB.out
        have hgl2 := HPLL.out
        generalize I % 32 = k at hi32 hm
        have q0 := arr_get' (HI8.out.get 1 rfl) k (by rw [hgl2]; exact hm)
        have q1 := free_blk (HI8.out.get 1 rfl) k
        generalize hy : pl.getD k 0 = y at q0
        have hb1 := HI8.out.cell 1 rfl k (.int .u8 (bits .xor .u8 y by'))
        have e2 : (arr .u8 pl).setIfInBounds k (.int .u8 (bits .xor .u8 y by')) = arr .u8 (pl.set k (bits .xor .u8 y by')) := arr_set _ _ _ _
        have HB1 := Lib.hid (hb1.cast (l' := [(w.heap.size, arr .u8 ks, 23), (g12, arr .u8 (pl.set k (bits .xor .u8 y by')), 23), (g13, arr .u8 gs, 30)]) (by rw [← e2]; rfl))
        have HO1 := Lib.hid (HOW.out.kept (T := fun x => x = g12) (w' := w8.setCell ⟨g12, k, none⟩ (.int .u8 (bits .xor .u8 y by'))) ((Kept.refl _ _).at _ _) (fun g h e => by have h1 := HOW.out.lt g h; have h2 := HI7.out.lt 1 rfl; omega))
        have HX := Lib.hid (bytes_set hgg k (xor_u8 y by'))
        clear hb1 e2 hy hgg
        go_wp2_with fail
        go_meet
        exact ⟨_, gs, bs, ⟨by rw [List.length_set]; exact hgl2, HX.out⟩, ⟨HGL.out, HGB.out⟩, ⟨by rw [HLB.out]; have := HNB.out; omega, HBB.out⟩, HO1.out, HB1.out⟩
      · have hw0' : (wh == 0) = false := by rw [beq_eq_false_iff_ne]; exact hw0
        have hw1' : (wh == 1) = false := by rw [beq_eq_false_iff_ne]; exact hw1
        go_wp2_with (first | ((with_reducible refine aS 43 ?_); refine wpList_app8 rfl (.tmp 40) (.tmp 42) rfl w7.heap.size _ bs rfl (HOW.out.alloc _) _ 1 1 [by'] rfl (src_one _ _) (by have := HNB.out; have := HLB.out; omega) (Nat.le_trans HB8.out.size (by simp)) ?_; intro v9 w9 how hgr _ _; have HB9 := Lib.hid (app8_below (HOW.out.alloc _) hgr (HB8.out.alloc HB8.out.size _) (Nat.le_trans HB8.out.size (by simp))); have HI9 := Lib.hid (HI7.out.kept HB9.out); have HO9 := Lib.hid how; clear how hgr))
        go_meet
        exact ⟨pl, gs, _, ⟨HPLL.out, HPLB.out⟩, ⟨HGL.out, HGB.out⟩, ⟨by rw [List.length_append, HLB.out]; have := HNB.out; simp; omega, bytes_app HBB.out (by intro x hx; simp only [List.mem_singleton] at hx; subst hx; exact HBY.out)⟩, HO9.out, HI9.out⟩
  case rest =>
  obtain ⟨wy, rfl⟩ : ∃ x : World, x = wc := ⟨_, rfl⟩
  obtain ⟨ky, gg, cs, ⟨hk1, hk2⟩, ⟨hg1, hg2⟩, ⟨hc1, hc2⟩, how, hB⟩ := hcut
  obtain ⟨sy, cy, rfl, hcy, _, hsy, _⟩ := how.form
  have HVA := Lib.hid (fun (u : World) (g : Nat) h => HV1.out ky gg cs u g hk1 hk2 hg1 hg2 hc1 hc2 h)
  have HVB := Lib.hid (fun (u : World) h1 h2 => HV2.out ky gg cs u sy cy hk1 hk2 hg1 hg2 hc1 hc2 hcy h1 h2)
  obtain ⟨m, hm⟩ : ∃ m, m = cs.length := ⟨_, rfl⟩
  rw [← hm] at HVB hsy hcy ⊢
  obtain ⟨ev, hev⟩ : ∃ e, e = everify (hnum ky) (hnum (gg.take 32)) (hnum (gg.drop 32)) cs := ⟨_, rfl⟩
  rw [← hev] at HVA HVB
  have HW := Lib.hid hB.below
  have HTY := Lib.hid (HT.out.below hB.below)
  have HKO : Hid (∀ u, Below wy.heap.size wy u → u.heap[g12]? = some (.cells (arr .u8 ky) 23 (0, 0))) := Lib.hid (fun u h => (h.block g12 (hB.lt 1 rfl)).trans (hB.get 1 rfl))
  have HGO : Hid (∀ u, Below wy.heap.size wy u → u.heap[g13]? = some (.cells (arr .u8 gg) 30 (0, 0))) := Lib.hid (fun u h => (h.block g13 (hB.lt 2 rfl)).trans (hB.get 2 rfl))
  have HKYL := Lib.hid hk1
  have HGGL := Lib.hid hg1
  have HSY := Lib.hid hsy
  have HCY := Lib.hid hcy
  have HI0 := Lib.hid (Blk.nil wy)
  clear hk1 hk2 hg1 hg2 hc1 hc2 how hB hsy hcy hm hev
  go_upto_region 13 with fail
  refine wp_region_lin (fun (fF : Fill) (uF : World) => (∀ v, fF 0 = some v → v = .agg (arr .u8 ky) ∧ True) ∧ (∀ v, fF 1 = some v → v = .agg (arr .u8 gg) ∧ True) ∧ (∀ v, fF 2 = some v → v = .slice sy m cy ∧ True) ∧ (∀ v, fF 3 = some v → ∃ g : Nat, v = .slice (some ⟨g, 0, none⟩) 1 1) ∧ (∀ v, fF 4 = some v → v = .bool ev ∧ True) ∧ (∀ v, fF 5 = some v → v = .agg (arr .u8 ky) ∧ True) ∧ (∀ v, fF 6 = some v → v = .agg (arr .u8 gg) ∧ True) ∧ (∀ v, fF 7 = some v → v = .slice sy m cy ∧ True) ∧ (∀ v, fF 8 = some v → v = .bool ev ∧ True) ∧ (∀ v, fF 9 = some v → v = .bool true ∧ True) ∧ (∀ v, fF 10 = some v → v = .bool true ∧ True) ∧ Blk wy uF ([] ++ (ent (fF 3) (#[.slice sy m cy]) 33))) (by kernel_rfl) (by kernel_rfl) ?zt13 ?st13 ?et13
  case zt13 => exact ⟨fun _ h => (by cases h), fun _ h => (by cases h), fun _ h => (by cases h), fun _ h => (by cases h), fun _ h => (by cases h), fun _ h => (by cases h), fun _ h => (by cases h), fun _ h => (by cases h), fun _ h => (by cases h), fun _ h => (by cases h), fun _ h => (by cases h), HI0.out.drew⟩
  case st13 =>
    refine LinAll.cons (fun fF bF uF kF hJF hfF hcF hupF hsF hKF => ?_) ?_
    · obtain ⟨j0, j1, j2, j3, j4, j5, j6, j7, j8, j9, j10, hB⟩ := hJF
      have e12 : bF.eval (.tmp 12) = .pointer (some ⟨g12, 0, none⟩) := hsF.old' 12 (by kernel_rfl) rfl
      exact step_load_part rfl 23 _ rfl g12 0 (arr .u8 ky) 23 (0, 0) _ (HKO.out _ hB.below) e12 .u8 ky (arr_part _ _) Tryd.underlying23 rfl (num_i HKYL.out) (hKF _ _ ⟨fun _ h => ⟨sI h, trivial⟩, j1, j2, j3, j4, j5, j6, j7, j8, j9, j10, hB⟩)
    refine LinAll.cons (fun fF bF uF kF hJF hfF hcF hupF hsF hKF => ?_) ?_
    · obtain ⟨j0, j1, j2, j3, j4, j5, j6, j7, j8, j9, j10, hB⟩ := hJF
      have e13 : bF.eval (.tmp 13) = .pointer (some ⟨g13, 0, none⟩) := hsF.old' 13 (by kernel_rfl) rfl
      exact step_load_part rfl 30 _ rfl g13 0 (arr .u8 gg) 30 (0, 0) _ (HGO.out _ hB.below) e13 .u8 gg (arr_part _ _) Tryd.underlying30 rfl (sig_i HGGL.out) (hKF _ _ ⟨j0, fun _ h => ⟨sI h, trivial⟩, j2, j3, j4, j5, j6, j7, j8, j9, j10, hB⟩)
    refine LinAll.cons (fun fF bF uF kF hJF hfF hcF hupF hsF hKF => ?_) ?_
    · obtain ⟨j0, j1, j2, j3, j4, j5, j6, j7, j8, j9, j10, hB⟩ := hJF
      have e14 : bF.eval (.tmp 14) = .slice sy m cy := hsF.old' 14 (by kernel_rfl) rfl
      exact lin_pure rfl (.slice sy m cy) (by simp only [execOp, e14] <;> first | rfl | kernel_rfl | (go_simp; done)) (hKF _ _ ⟨j0, j1, fun _ h => ⟨sI h, trivial⟩, j3, j4, j5, j6, j7, j8, j9, j10, hB⟩)
    refine LinAll.cons (fun fF bF uF kF hJF hfF hcF hupF hsF hKF => ?_) ?_
    · obtain ⟨j0, j1, j2, j3, j4, j5, j6, j7, j8, j9, j10, hB⟩ := hJF
      obtain ⟨e68, p68⟩ := hsF.at hupF 2 68 (by kernel_rfl) rfl j2
      have hB1 : Blk wy (uF.alloc (.cells #[.slice sy m cy] 33)) ([] ++ (ent ((some (.slice (some ⟨uF.heap.size, 0, none⟩) 1 1) : Option Value)) (#[.slice sy m cy]) 33)) := hB.ins (a := []) (b := []) _ _ (by rw [hfF]; simp only [ent_none, List.nil_append, List.append_nil, List.append_assoc, List.cons_append]) (by simp only [ent_slice, List.nil_append, List.append_nil, List.append_assoc, List.cons_append, Option.isSome_none, Bool.false_eq_true, if_false])
      rw [if_pos (by simp [Region.wanted])]
      unfold Oper.wp
      simp only [execOp, List.map_toArray, List.map_cons, List.map_nil, e68]
      generalize hX : Sem.run Tryd.prog _ uF = X
      have hrun : X = .ok (.value (.slice (some ⟨uF.heap.size, 0, none⟩) 1 1)) (uF.alloc (.cells #[.slice sy m cy] 33)) := by
        rw [← hX]
        first | rfl | kernel_rfl
      rw [hrun]
      exact hKF _ _ ⟨j0, j1, j2, fun _ h => ⟨_, sI h⟩, j4, j5, j6, j7, j8, j9, j10, hB1⟩
    refine LinAll.cons (fun fF bF uF kF hJF hfF hcF hupF hsF hKF => ?_) ?_
    · obtain ⟨j0, j1, j2, j3, j4, j5, j6, j7, j8, j9, j10, hB⟩ := hJF
      obtain ⟨e66, p66⟩ := hsF.at hupF 0 66 (by kernel_rfl) rfl j0
      obtain ⟨e67, p67⟩ := hsF.at hupF 1 67 (by kernel_rfl) rfl j1
      have y3 := hupF 3 (by kernel_rfl)
      obtain ⟨v3, s3⟩ := sE y3
      obtain ⟨gt13_0, rfl⟩ := j3 _ s3
      have e69 := hsF.val 3 69 rfl s3
      have hB' := hB
      rw [s3] at hB'
      have hsl := src_mk (hB'.get 0 rfl) (HSY.out.below hB.below) HCY.out
      refine lin_call rfl 17 [Operand.tmp 66, Operand.tmp 67, Operand.tmp 69] _ [.agg (arr .u8 ky), .agg (arr .u8 gg), .slice (some ⟨gt13_0, 0, none⟩) 1 1] rfl (by simp only [List.map_cons, List.map_nil, e66, e67, e69] <;> rfl) (fun _ _ => by kernel_rfl) ?_
      refine Calls.mono (HVA.out _ _ hsl) ?_
      rintro e w1 ⟨rfl, hb⟩
      exact ⟨_, rfl, hKF _ _ ⟨j0, j1, j2, j3, fun _ h => ⟨sI h, trivial⟩, j5, j6, j7, j8, j9, j10, hB.kept hb⟩⟩
    refine LinAll.cons (fun fF bF uF kF hJF hfF hcF hupF hsF hKF => ?_) ?_
    · obtain ⟨j0, j1, j2, j3, j4, j5, j6, j7, j8, j9, j10, hB⟩ := hJF
      have e12 : bF.eval (.tmp 12) = .pointer (some ⟨g12, 0, none⟩) := hsF.old' 12 (by kernel_rfl) rfl
      exact step_load_part rfl 23 _ rfl g12 0 (arr .u8 ky) 23 (0, 0) _ (HKO.out _ hB.below) e12 .u8 ky (arr_part _ _) Tryd.underlying23 rfl (num_i HKYL.out) (hKF _ _ ⟨j0, j1, j2, j3, j4, fun _ h => ⟨sI h, trivial⟩, j6, j7, j8, j9, j10, hB⟩)
    refine LinAll.cons (fun fF bF uF kF hJF hfF hcF hupF hsF hKF => ?_) ?_
    · obtain ⟨j0, j1, j2, j3, j4, j5, j6, j7, j8, j9, j10, hB⟩ := hJF
      have e13 : bF.eval (.tmp 13) = .pointer (some ⟨g13, 0, none⟩) := hsF.old' 13 (by kernel_rfl) rfl
      exact step_load_part rfl 30 _ rfl g13 0 (arr .u8 gg) 30 (0, 0) _ (HGO.out _ hB.below) e13 .u8 gg (arr_part _ _) Tryd.underlying30 rfl (sig_i HGGL.out) (hKF _ _ ⟨j0, j1, j2, j3, j4, j5, fun _ h => ⟨sI h, trivial⟩, j7, j8, j9, j10, hB⟩)
    refine LinAll.cons (fun fF bF uF kF hJF hfF hcF hupF hsF hKF => ?_) ?_
    · obtain ⟨j0, j1, j2, j3, j4, j5, j6, j7, j8, j9, j10, hB⟩ := hJF
      have e14 : bF.eval (.tmp 14) = .slice sy m cy := hsF.old' 14 (by kernel_rfl) rfl
      exact lin_pure rfl (.slice sy m cy) (by simp only [execOp, e14] <;> first | rfl | kernel_rfl | (go_simp; done)) (hKF _ _ ⟨j0, j1, j2, j3, j4, j5, j6, fun _ h => ⟨sI h, trivial⟩, j8, j9, j10, hB⟩)
    refine LinAll.cons (fun fF bF uF kF hJF hfF hcF hupF hsF hKF => ?_) ?_
    · obtain ⟨j0, j1, j2, j3, j4, j5, j6, j7, j8, j9, j10, hB⟩ := hJF
      obtain ⟨e71, p71⟩ := hsF.at hupF 5 71 (by kernel_rfl) rfl j5
      obtain ⟨e72, p72⟩ := hsF.at hupF 6 72 (by kernel_rfl) rfl j6
      obtain ⟨e73, p73⟩ := hsF.at hupF 7 73 (by kernel_rfl) rfl j7
      refine lin_call rfl 18 [Operand.tmp 71, Operand.tmp 72, Operand.tmp 73] _ [.agg (arr .u8 ky), .agg (arr .u8 gg), .slice sy m cy] rfl (by simp only [List.map_cons, List.map_nil, e71, e72, e73] <;> rfl) (fun _ _ => by kernel_rfl) ?_
      refine Calls.mono (HVB.out _ (HSY.out.below hB.below) (HTY.out.below hB.below)) ?_
      rintro e w1 ⟨rfl, hb⟩
      exact ⟨_, rfl, hKF _ _ ⟨j0, j1, j2, j3, j4, j5, j6, j7, fun _ h => ⟨sI h, trivial⟩, j9, j10, hB.kept hb⟩⟩
    refine LinAll.cons (fun fF bF uF kF hJF hfF hcF hupF hsF hKF => ?_) ?_
    · obtain ⟨j0, j1, j2, j3, j4, j5, j6, j7, j8, j9, j10, hB⟩ := hJF
      obtain ⟨e70, p70⟩ := hsF.at hupF 4 70 (by kernel_rfl) rfl j4
      obtain ⟨e74, p74⟩ := hsF.at hupF 8 74 (by kernel_rfl) rfl j8
      exact lin_pure rfl (.bool true) (by simp only [execOp, e70, e74]; cases ev <;> first | rfl | (go_simp; done)) (hKF _ _ ⟨j0, j1, j2, j3, j4, j5, j6, j7, j8, fun _ h => ⟨sI h, trivial⟩, j10, hB⟩)
    refine LinAll.cons (fun fF bF uF kF hJF hfF hcF hupF hsF hKF => ?_) ?_
    · obtain ⟨j0, j1, j2, j3, j4, j5, j6, j7, j8, j9, j10, hB⟩ := hJF
      obtain ⟨e75, p75⟩ := hsF.at hupF 9 75 (by kernel_rfl) rfl j9
      exact lin_pure rfl (.bool true) (by simp only [execOp, e75] <;> first | rfl | kernel_rfl | (go_simp; done)) (hKF _ _ ⟨j0, j1, j2, j3, j4, j5, j6, j7, j8, j9, fun _ h => ⟨sI h, trivial⟩, hB⟩)
    exact LinAll.nil
  case et13 =>
  intro fF ut13 hall hJF
  obtain ⟨j0, j1, j2, j3, j4, j5, j6, j7, j8, j9, j10, hB⟩ := hJF
  obtain ⟨v0, h0⟩ := sE (hall 0 (by decide))
  obtain ⟨rfl, p0⟩ := j0 _ h0
  obtain ⟨v1, h1⟩ := sE (hall 1 (by decide))
  obtain ⟨rfl, p1⟩ := j1 _ h1
  obtain ⟨v2, h2⟩ := sE (hall 2 (by decide))
  obtain ⟨rfl, p2⟩ := j2 _ h2
  obtain ⟨v3, h3⟩ := sE (hall 3 (by decide))
  obtain ⟨gt13_0, rfl⟩ := j3 _ h3
  obtain ⟨v4, h4⟩ := sE (hall 4 (by decide))
  obtain ⟨rfl, p4⟩ := j4 _ h4
  obtain ⟨v5, h5⟩ := sE (hall 5 (by decide))
  obtain ⟨rfl, p5⟩ := j5 _ h5
  obtain ⟨v6, h6⟩ := sE (hall 6 (by decide))
  obtain ⟨rfl, p6⟩ := j6 _ h6
  obtain ⟨v7, h7⟩ := sE (hall 7 (by decide))
  obtain ⟨rfl, p7⟩ := j7 _ h7
  obtain ⟨v8, h8⟩ := sE (hall 8 (by decide))
  obtain ⟨rfl, p8⟩ := j8 _ h8
  obtain ⟨v9, h9⟩ := sE (hall 9 (by decide))
  obtain ⟨rfl, p9⟩ := j9 _ h9
  obtain ⟨v10, h10⟩ := sE (hall 10 (by decide))
  obtain ⟨rfl, p10⟩ := j10 _ h10
  rw [h3] at hB
  have HBt13 : Hid (Blk wy ut13 [(gt13_0, #[.slice sy m cy], 33)]) := Lib.hid hB
  simp only [laid, Nat.zero_add, Nat.reduceAdd, h0, h1, h2, h3, h4, h5, h6, h7, h8, h9, h10, Act.put, sA, sZ, sS]
  clear j0 j1 j2 j3 j4 j5 j6 j7 j8 j9 j10 hB h0 h1 h2 h3 h4 h5 h6 h7 h8 h9 h10 hall fF HI0
  clear p0 p1 p2 p4 p5 p6 p7 p8 p9 p10
  (try simp only [Exit.then])
  go_wp2_with fail
  (try simp only [Exit.then])
  go_ret
  exact ⟨rfl, HW.out.trans (HBt13.out.below.mono HW.out.size)⟩
theorem turned_any {ks bs : List Int} (a : Nat) (wh at' by' : Int) (sb : Option Addr) (nb cb : Nat) (w : World) (hk : K32 ks a) (hs : Src w sb nb bs) (hc : nb ≤ cb) (hb : bytes bs) (hby : 0 ≤ by' ∧ by' ≤ 255) (hT : Tabs w) :
    Calls Tryd.prog 5 #[.agg (arr .u8 ks), .slice sb nb cb, .int .i64 wh, .int .i64 at', .int .u8 by'] w fun e w' => e = .returned (.bool true) ∧ Below w.heap.size w w' := by
  by_cases h1 : (500 : Int) < (nb : Int)
  · exact turned_long sb nb cb wh at' by' w h1
  by_cases h2 : at' < 0
  · exact turned_neg sb nb cb wh at' by' w h1 h2
  by_cases h3 : by' = 0
  · exact turned_none sb nb cb wh at' by' w h1 h2 h3
  obtain ⟨I, rfl⟩ : ∃ I : Nat, at' = (I : Int) := ⟨at'.toNat, by omega⟩
  exact turned_core a I sb nb cb wh by' w hk hs hc hb hby hT (by omega) h3
end Go.Proofs.YtanjhngehfbpbaaDoor.Sl
