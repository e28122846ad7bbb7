/- VerityTears: the walk. Conditions: a key of 32 bytes; the texts lie there; what Go's integers allow. -/
import Derived.Test.YtoljnogpegemjaaVtB
import Derived.Test.YtoljnogpegemjaaL1
import Derived.Test.YtoljnogpegemjaaM1
namespace Go.Proofs.Ytoljnogpegemjaa.Vt
open Go.RowKit Im Ae
set_option linter.unusedSimpArgs false
set_option linter.unusedVariables false

set_option maxRecDepth 100000 in
set_option maxHeartbeats 3000000 in
theorem tears_early (key : List Int) (v i o c : Int) (oa pa : Option Addr) (on oc pn pc : Nat) (w : World) (h : v < 0 ∨ (0 ≤ v ∧ 1073741824 < v) ∨ (0 ≤ v ∧ v ≤ 1073741824 ∧ i < 0) ∨ (0 ≤ v ∧ v ≤ 1073741824 ∧ 0 ≤ i ∧ 31 < i) ∨ (0 ≤ v ∧ v ≤ 1073741824 ∧ 0 ≤ i ∧ i ≤ 31 ∧ ((on : Int) == 64) = false ∧ ¬ (on : Int) = 64) ∨
    (0 ≤ v ∧ v ≤ 1073741824 ∧ 0 ≤ i ∧ i ≤ 31 ∧ on = 64 ∧ ((pn : Int) == 64) = false ∧ ¬ (pn : Int) = 64) ∨ (0 ≤ v ∧ v ≤ 1073741824 ∧ 0 ≤ i ∧ i ≤ 31 ∧ on = 64 ∧ pn = 64 ∧ o < 0) ∨ (0 ≤ v ∧ v ≤ 1073741824 ∧ 0 ≤ i ∧ i ≤ 31 ∧ on = 64 ∧ pn = 64 ∧ 0 ≤ o ∧ 1 < o)) :
    Calls Try.prog 3 #[.agg (arr .u8 key), .int .i64 v, .int .i64 i, .slice oa on oc, .slice pa pn pc, .agg #[.int .i64 o, .int .i64 c]] w fun e w' => e = .returned (.bool true) ∧ Below w.heap.size w w' := by
  have HI0 := Lib.hid (Blk.two w (arr .u8 key) #[.int .i64 o, .int .i64 c] 23 26)
  rcases h with h1 | ⟨h1, h2⟩ | ⟨h1, h2, h3⟩ | ⟨h1, h2, h3, h4⟩ | ⟨h1, h2, h3, h4, h5, h6⟩ | ⟨h1, h2, h3, h4, rfl, h5, h6⟩ | ⟨h1, h2, h3, h4, rfl, rfl, h5⟩ | ⟨h1, h2, h3, h4, rfl, rfl, h5, h6⟩
  all_goals
    go_enter Try.func3, Try.ntmps3
    go_upto_region 1 with fail
    (try simp only [World.size_alloc])
    generalize ((w.alloc (.cells (arr .u8 key) 23)).alloc (.cells #[.int .i64 o, .int .i64 c] 26)) = wb at HI0 ⊢
    go_upto_region 2 with (go_at_call 4; refine (alive25_any _).mono ?_; rintro e w1 ⟨rfl, hb1⟩; have HI1 := Lib.hid (HI0.out.kept hb1); have x0 : w1.cell? ⟨w.heap.size + 1, 0, none⟩ = some (.int .i64 o) := cell_blk (HI1.out.get 1 rfl) 0; clear hb1)
    go_wp2
    go_ret
    exact ⟨rfl, HI1.out.below⟩

/-- The bytes that are awaited, j of them laid. -/
def wj (W : List Int) (j : Nat) : List Int := upd (zeros 80) 0 j (fun k _ => W.getD k 0)
theorem wj_len (W : List Int) (j : Nat) : (wj W j).length = 80 := by simp [wj, upd_length, zeros_len]
theorem wj_zero (W : List Int) : wj W 0 = zeros 80 := upd_zero _ _ _
theorem wj_succ (W : List Int) (j : Nat) (h : j < 80) : wj W (j + 1) = (wj W j).set j (W.getD j 0) := by
  unfold wj
  rw [upd_succ _ _ _ _ (by rw [zeros_len]; omega)]
  simp
theorem upd_all (z W : List Int) (hz : z.length = 80) (h : W.length = 80) : upd z 0 80 (fun k _ => W.getD k 0) = W := by
  apply List.ext_getElem
  · rw [upd_length, hz, h]
  · intro k h1 h2
    have h3 : k < z.length := by rw [upd_length] at h1; exact h1
    rw [upd_get _ _ _ _ _ h3, if_pos (by omega)]
    simp [List.getD, List.getElem?_eq_getElem h2]
theorem wj_all (W : List Int) (h : W.length = 80) : wj W 80 = W := upd_all (zeros 80) W (zeros_len 80) h
theorem Blk.keptT {w wr w' : World} {l : List (Nat × Array Value × TypeId)} {T : Nat → Prop} (h : Blk w wr l) (k : Kept T wr w') (hT : ∀ i, T i → w.heap.size ≤ i) (hne : ∀ e ∈ l, ¬ T e.1) : Blk w w' l := by
  refine ⟨fun i g c t hi => ?_, h.inj, h.below.trans (k.toBelow h.below.size hT)⟩
  obtain ⟨h1, h2⟩ := h.mem i g c t hi
  exact ⟨k.blk h1 (hne _ (List.mem_of_getElem? hi)), h2⟩
theorem cell_set_ne {w : World} {g b o j : Nat} {x : Value} (hne : g ≠ b) (h : w.cell? ⟨g, o, none⟩ = some x) (y : Value) : (w.setCell ⟨b, j, none⟩ y).cell? ⟨g, o, none⟩ = some x := by
  simpa [World.setCell, World.cell?, Array.getElem?_modify, Ne.symm hne] using h
theorem cell_lt {w : World} {a : Addr} {v : Value} (h : w.cell? a = some v) : a.block < w.heap.size := by
  unfold World.cell? at h
  rcases Nat.lt_or_ge a.block w.heap.size with h1 | h1
  · exact h1
  · rw [Array.getElem?_eq_none h1] at h
    cases h
theorem row_store {w : World} {g : Nat} {xs : List Int} {t : TypeId} (h : w.heap[g]? = some (.cells (row8 xs []) t (0, 0))) (j : Nat) (hj : j < xs.length) (y : Int) : (w.setCell ⟨g, j, none⟩ (.int .u8 y)).heap[g]? = some (.cells (row8 (xs.set j y) []) t (0, 0)) := by
  rw [blk_setCell h, row8_set _ _ _ hj]

set_option maxRecDepth 100000 in
set_option maxHeartbeats 3000000 in
theorem tears_go (key old plain : List Int) (v : Int) (i : Nat) (o c : Int) (oa pa : Option Addr) (oc pc : Nat) (w : World) (hk : key.length = 32) (bk : bytes key) (hs : Src w oa 64 old) (hs2 : Src w pa 64 plain) (ho : 64 ≤ oc) (hp : 64 ≤ pc) (bo : bytes old) (bp : bytes plain) (h0 : 0 ≤ v) (h1 : v ≤ 1073741824) (hi : i ≤ 31) (hop : o = 0 ∨ o = 1) (hc : -9223372036854775808 ≤ c ∧ c ≤ 9223372036854775807) :
    Calls Try.prog 3 #[.agg (arr .u8 key), .int .i64 v, .int .i64 i, .slice oa 64 oc, .slice pa 64 pc, .agg #[.int .i64 o, .int .i64 c]] w fun e w' => e = .returned (.bool true) ∧ Below w.heap.size w w' := by
  have hv : 0 ≤ v ∧ v ≤ 2147483647 ∧ 0 ≤ (i : Int) ∧ (i : Int) < 32 := by omega
  have hm : mayB v i = true := mayB_iff.2 hv
  have hsa : sealE v i old = 0 ∧ (sealX key v i old).length = 80 := by
    simp only [sealE, sealX, sealOk, hm, hs.len, Bool.true_and, decide_true, if_true]
    exact ⟨trivial, by rw [seal_len, hs.len]⟩
  have hsb : sealE v i plain = 0 ∧ (sealX key v i plain).length = 80 := by
    simp only [sealE, sealX, sealOk, hm, hs2.len, Bool.true_and, decide_true, if_true]
    exact ⟨trivial, by rw [seal_len, hs2.len]⟩
  have bsx : ∀ p : List Int, bytes (sealX key v i p) := by
    intro p
    unfold sealX
    split
    · exact bytes_seal _ _ _ _
    · exact fun x hx => by cases hx
  have hopn : openE key v i (sealX key v i plain) = 0 := by
    have e1 : sealX key v i plain = seal' key (nonce12 i) plain (be8 v) := by simp only [sealX, sealOk, hm, hs2.len, Bool.true_and, decide_true, if_true]
    rw [openE, openOk, hm, hsb.2, e1, okay_seal]
    rfl
  have hra := fun (u : World) (h : Src u oa 64 old) => rblock_any key old v i oa 64 oc u hk bk h ho
  have hrb := fun (u : World) (h : Src u pa 64 plain) => rblock_any key plain v i pa 64 pc u hk bk h hp
  rw [hsa.1] at hra
  rw [hsb.1] at hrb
  have bA := bsx old
  have bB := bsx plain
  have lA := hsa.2
  have lB := hsb.2
  generalize sealX key v i old = A at hra bA lA
  generalize sealX key v i plain = B at hrb bB lB hopn
  clear hsa hsb bsx
  obtain ⟨K, hK⟩ : ∃ K : Nat, K = 96 + i := ⟨_, rfl⟩
  have hK2 : 256 * K + 256 ≤ 32768 := by omega
  have eK : (96 + (i : Int)) = (K : Int) := by omega
  have hnew := fun w => new_any 128 w
  obtain ⟨s0, e0⟩ : ∃ s, s = Fl.new 128 := ⟨_, rfl⟩
  have hk0 : Calm s0 32768 := by rw [e0]; exact Calm.new 128 32768 rfl
  have ok0 : s0.Ok := by rw [e0]; exact Fl.Ok.new 128
  rw [← e0] at hnew
  have hvn := fun w p g (h : IsFl w p g s0) => vnew_yes p g s0 1 w h (by rw [hk0.len]; decide) (by decide) (by decide)
  rw [show (64 + (1 : Int) * 32) = 96 by decide] at hvn
  have hw : ∀ (s : Fl) (u : World) (q p g : Nat) (ad : Addr) (cc : Nat) (X : List Int), IsFl u p g s → IsAr u q p 96 → Src u (some ad) 80 X → ad.block ≠ p → ad.block ≠ g → q ≠ p → q ≠ g → 80 ≤ cc → Calls Try.prog 9 #[.pointer (some ⟨q, 0, none⟩), .int .i64 i, .slice (some ad) 80 cc] u fun e w' => e = .returned (.int .i64 (vwE s K 80)) ∧ IsFl w' p g (vw s K X) ∧ Kept (fun x => x = p ∨ x = g) u w' := by
    intro s u q p g ad cc X f1 f2 f3 f4 f5 f6 f7 f8
    have := write_any q p g s 96 i ad cc X u f1 f2 f3 f4 f5 f6 f7 f8 (by omega) (by omega) (by decide) (by decide)
    rwa [eK] at this
  have hrw : ∀ (s : Fl) (u : World) (q p g : Nat), IsFl u p g s → IsAr u q p 96 → s.readOk ((K : Int) * 256) 80 = true → Calls Try.prog 12 #[.pointer (some ⟨q, 0, none⟩), .int .i64 i] u fun e w' => ∃ x, e = .returned (.tuple #[x, .bool true]) ∧ Own8 w' u.heap.size x (s.read ((K : Int) * 256) 80) ∧ Below u.heap.size u w' := by
    intro s u q p g f1 f2 f3
    have hq := vraw_any q p g s 96 i u f1 f2 (by decide) (by decide)
    have e1 : vrOk s 96 i = true := by
      rw [vrOk, eK, f3]
      simp
      omega
    rw [vrX, e1, eK] at hq
    exact hq
  have A0 := vw_calm hk0 K hK2 A lA bA
  have E0 := (vwE_calm hk0 K hK2).2
  obtain ⟨s1, e1⟩ : ∃ s, s = vw s0 K A := ⟨_, rfl⟩
  have hw1 := fun u q p g ad cc f1 f2 f3 f4 f5 f6 f7 f8 => hw s0 u q p g ad cc A f1 f2 f3 f4 f5 f6 f7 f8
  rw [E0, ← e1] at hw1
  rw [← e1] at A0
  have hpl := fun u p g (h : IsFl u p g s1) => plan_any p g s1 o c u h (by omega)
  obtain ⟨s2, e2⟩ : ∃ s, s = s1.plan o c := ⟨_, rfl⟩
  rw [← e2] at hpl
  have T1 := tear A0.1 K hK2 A B lB bB A0.2.1 o c hop
  rw [← e2] at T1
  obtain ⟨s3, e3⟩ : ∃ s, s = vw s2 K B := ⟨_, rfl⟩
  have hw2 := fun u q p g ad cc f1 f2 f3 f4 f5 f6 f7 f8 => hw s2 u q p g ad cc B f1 f2 f3 f4 f5 f6 f7 f8
  rw [T1.1, ← e3] at hw2
  rw [← e3] at T1
  have hst := fun u p g (h : IsFl u p g s3) => start_any p g s3 u h
  obtain ⟨s4, e4⟩ : ∃ s, s = s3.start := ⟨_, rfl⟩
  rw [← e4] at hst
  rw [← e4] at T1
  have hk4 : Calm s4 32768 := by
    rw [e4]
    refine start_calm ?_
    rw [e3, vw_len, e2]
    exact A0.1.len
  have hr4 := fun u q p g f1 f2 => hrw s4 u q p g f1 f2 (by rw [hk4.readOk]; exact inB_iff.2 (by omega))
  rw [T1.2] at hr4
  have A5 := vw_calm hk4 K hK2 B lB bB
  have E5 := (vwE_calm hk4 K hK2).2
  obtain ⟨s5, e5⟩ : ∃ s, s = vw s4 K B := ⟨_, rfl⟩
  have hw3 := fun u q p g ad cc f1 f2 f3 f4 f5 f6 f7 f8 => hw s4 u q p g ad cc B f1 f2 f3 f4 f5 f6 f7 f8
  rw [E5, ← e5] at hw3
  rw [← e5] at A5
  have hr5 := fun u q p g f1 f2 => hrw s5 u q p g f1 f2 A5.2.2.2
  rw [A5.2.2.1] at hr5
  have hhs : ∀ (u : World) (q p g : Nat), IsFl u p g s5 → IsAr u q p 96 → Calls Try.prog 13 #[.pointer (some ⟨q, 0, none⟩), .agg (arr .u8 key), .int .i64 v, .int .i64 i] u fun e w' => e = .returned (.bool true) ∧ Below u.heap.size u w' := by
    intro u q p g f1 f2
    have hq := vhas_any q p g s5 96 i v key u f1 f2 (by decide) (by decide) hk bk
    have e1 : vrOk s5 96 i = true := by
      rw [vrOk, eK, A5.2.2.2]
      simp
      omega
    have e2 : vhas s5 96 key v i = true := by
      rw [vhas, vrX, e1, eK]
      simp only [if_true, Bool.true_and]
      rw [A5.2.2.1, hopn]
      rfl
    rwa [e2] at hq
  have lW := wantL_len A B o c
  have gW := fun k h => wantL_get A B o c k h
  obtain ⟨W, hW⟩ : ∃ W, W = wantL A B o c := ⟨_, rfl⟩
  rw [← hW] at hr4 lW gW
  have hmk : ∀ w : World, (Instr.makeSlice 24 (.int .i64 80) (.int .i64 80)).run Try.prog w = .ok (.slice (some ⟨w.heap.size, 0, none⟩) 80 80) (w.alloc (.cells (row8 (zeros 80) []) 5)) := fun w => mk8 80 (by omega) w
  have z80 := wj_zero W
  obtain ⟨ZL, hZL⟩ : ∃ z, z = zeros 80 := ⟨_, rfl⟩
  rw [← hZL] at hmk z80
  clear hZL
  have zsu := wj_succ W
  have zal := wj_all W lW
  have zle := wj_len W
  obtain ⟨F, hF⟩ : ∃ F, F = wj W := ⟨_, rfl⟩
  rw [← hF] at z80 zsu zal zle
  clear hF
  have HZS := Lib.hid zsu
  have HZA := Lib.hid zal
  have HZL := Lib.hid zle
  clear zsu zal zle
  have HRA := Lib.hid hra
  have HRB := Lib.hid hrb
  have HN := Lib.hid hnew
  have HVN := Lib.hid hvn
  have HW1 := Lib.hid hw1
  have HPL := Lib.hid hpl
  have HW2 := Lib.hid hw2
  have HST := Lib.hid hst
  have HR4 := Lib.hid hr4
  have HW3 := Lib.hid hw3
  have HR5 := Lib.hid hr5
  have HHS := Lib.hid hhs
  have HLA := Lib.hid lA
  have HLB := Lib.hid lB
  have HLW := Lib.hid lW
  have HGW := Lib.hid gW
  have HZ := Lib.hid z80
  have HKL := Lib.hid hk
  have HS1 := Lib.hid hs
  have HS2 := Lib.hid hs2
  have HI0 := Lib.hid (Blk.two w (arr .u8 key) #[.int .i64 o, .int .i64 c] 23 26)
  have d4 : (i : Int) ≤ 31 := by omega
  have d0 : 0 ≤ (i : Int) := by omega
  clear hra hrb hnew hvn hw hrw hw1 hpl hw2 hst hr4 hw3 hr5 hhs lA lB lW gW z80 hk bk hs hs2 A0 E0 A5 E5 T1 e0 e1 e2 e3 e4 e5 hk0 ok0 hk4 hopn bA bB hm hv hW eK hK hK2 bo bp hi
  rcases hop with rfl | rfl
  · go_enter Try.func3, Try.ntmps3
    go_upto_region 1 with fail
    (try simp only [World.size_alloc])
    generalize ((w.alloc (.cells (arr .u8 key) 23)).alloc (.cells #[.int .i64 0, .int .i64 c] 26)) = wb at HI0 ⊢
    go_upto_region 2 with (go_at_call 4; refine (alive25_any _).mono ?_; rintro e w1 ⟨rfl, hb1⟩; have HI1 := Lib.hid (HI0.out.kept hb1); have x0 : w1.cell? ⟨w.heap.size + 1, 0, none⟩ = some (.int .i64 0) := cell_blk (HI1.out.get 1 rfl) 0; clear hb1)
    go_upto_region 4 with fail
    clear x0
    go_upto_region 5 with (first | ((with_reducible show wpList _ _ _ (Oper.mk (some 71) _ _ _ _ _ :: _) _ _); refine wpList_load_part rfl 23 _ rfl (w.heap.size) 0 _ 23 (0, 0) _ (HI1.out.get 0 rfl) rfl .u8 key (arr_part _ _) Try.underlying23 rfl (num_iv HKL.out) ?_) | (go_at_call 5; refine (HRA.out _ (HS1.out.below HI1.out.below)).mono ?_; rintro e w2 ⟨u2, rfl, ho2, hb2⟩; have HI2 := Lib.hid (HI1.out.kept hb2); have HO2 := Lib.hid ho2; have HZ2 := Lib.hid (Nat.le_trans HI1.out.below.size (Nat.le_refl w1.heap.size)); clear ho2 hb2))
    obtain ⟨sA, cA, rfl, hcA, -, hsA, hoA⟩ := HO2.out.form
    obtain ⟨gA, rfl, hgA, hhA⟩ : ∃ g : Nat, sA = some ⟨g, 0, none⟩ ∧ w1.heap.size ≤ g ∧ g < w2.heap.size := by
      rcases hoA with ⟨-, h0, -⟩ | ⟨g, rfl, h1, h2⟩
      · have := HLA.out
        rw [h0] at this
        exact absurd this (by decide)
      · exact ⟨g, rfl, h1, h2⟩
    rw [HLA.out] at hcA hsA ⊢
    have HSA := Lib.hid hsA
    have HCA := Lib.hid hcA
    have HGA := Lib.hid (And.intro hgA hhA)
    clear hcA hsA hoA hgA hhA
    clear HO2
    go_upto_region 6 with (first | ((with_reducible show wpList _ _ _ (Oper.mk (some 79) _ _ _ _ _ :: _) _ _); refine wpList_load_part rfl 23 _ rfl (w.heap.size) 0 _ 23 (0, 0) _ (HI2.out.get 0 rfl) rfl .u8 key (arr_part _ _) Try.underlying23 rfl (num_iv HKL.out) ?_) | (go_at_call 5; refine (HRB.out _ (HS2.out.below HI2.out.below)).mono ?_; rintro e w3 ⟨u3, rfl, ho3, hb3⟩; have HI3 := Lib.hid (HI2.out.kept hb3); have HO3 := Lib.hid ho3; have HSA3 := Lib.hid (HSA.out.below hb3); have HZ3 := Lib.hid hb3.size; clear ho3 hb3))
    obtain ⟨sB, cB, rfl, hcB, -, hsB, hoB⟩ := HO3.out.form
    obtain ⟨gB, rfl, hgB, hhB⟩ : ∃ g : Nat, sB = some ⟨g, 0, none⟩ ∧ w2.heap.size ≤ g ∧ g < w3.heap.size := by
      rcases hoB with ⟨-, h0, -⟩ | ⟨g, rfl, h1, h2⟩
      · have := HLB.out
        rw [h0] at this
        exact absurd this (by decide)
      · exact ⟨g, rfl, h1, h2⟩
    rw [HLB.out] at hcB hsB ⊢
    have HSB := Lib.hid hsB
    have HCB := Lib.hid hcB
    have HGB := Lib.hid (And.intro hgB hhB)
    clear hcB hsB hoB hgB hhB
    clear HO3 HSA
    go_upto_region 7 with (go_at_call 6; refine (HN.out _).mono ?_; rintro e w4 ⟨p, g, rfl, hf4, hp4, hg4, hb4⟩; have HI4 := Lib.hid (HI3.out.kept hb4); have HSA4 := Lib.hid (HSA3.out.below hb4); have HSB4 := Lib.hid (HSB.out.below hb4); have HF4 := Lib.hid hf4; have HP4 := Lib.hid (And.intro hp4 hg4); have HZ4 := Lib.hid hb4.size; clear hf4 hp4 hg4 hb4)
    clear HSA3 HSB
    go_upto_region 8 with (go_at_call 7; refine (HVN.out _ _ _ HF4.out).mono ?_; rintro e w5 ⟨rfl, ha5, hb5⟩; have HI5 := Lib.hid (HI4.out.kept hb5); have HSA5 := Lib.hid (HSA4.out.below hb5); have HSB5 := Lib.hid (HSB4.out.below hb5); have HF5 := Lib.hid (HF4.out.below hb5); have HA5 := Lib.hid ha5; have HQ5 := Lib.hid HF4.out.lt; clear ha5 hb5)
    have hne : gA ≠ p ∧ gA ≠ g ∧ gB ≠ p ∧ gB ≠ g ∧ w4.heap.size ≠ p ∧ w4.heap.size ≠ g ∧ w.heap.size < w1.heap.size ∧ w.heap.size + 1 < w1.heap.size ∧ w1.heap.size ≤ p ∧ w1.heap.size ≤ g ∧ w1.heap.size ≤ gA ∧ w1.heap.size ≤ gB ∧ w1.heap.size ≤ w4.heap.size ∧ gA < w4.heap.size ∧ gB < w4.heap.size ∧ p < w4.heap.size ∧ g < w4.heap.size := by
      have q1 := HI1.out.lt 0 rfl
      have q2 := HI1.out.lt 1 rfl
      have q3 := HGA.out
      have q4 := HGB.out
      have q5 := HP4.out
      have q6 := HZ3.out
      have q7 := HZ4.out
      have q8 := HQ5.out
      have q9 := HSA4.out.len
      refine ⟨?_, ?_, ?_, ?_, ?_, ?_, ?_, ?_, ?_, ?_, ?_, ?_, ?_, ?_, ?_, ?_, ?_⟩ <;> omega
    have HNE := Lib.hid hne
    clear hne HGA HGB HP4 HQ5 HSA4 HSB4 HF4
    generalize w4.heap.size = q at HA5 HNE ⊢
    go_upto_region 10 with (go_at_call 8; refine (num25_any _ _).mono ?_; rintro e w' ⟨rfl, rfl⟩)
    go_upto_region 11 with (go_at_call 9; refine (HW1.out _ _ _ _ _ _ HF5.out HA5.out HSA5.out HNE.out.1 HNE.out.2.1 HNE.out.2.2.2.2.1 HNE.out.2.2.2.2.2.1 HCA.out).mono ?_; rintro e w6 ⟨rfl, hf6, hk6⟩; have HI6 := Lib.hid (Blk.keptT HI5.out hk6 (fun i hi => by have := HNE.out; rcases hi with rfl | rfl <;> omega) (by intro e he; simp only [List.mem_cons, List.not_mem_nil, or_false] at he; have := HNE.out; rcases he with rfl | rfl <;> (rintro (e | e) <;> (simp only at e; omega)))); have HSA6 := Lib.hid (HSA5.out.kept hk6 (fun a e => .inr (by cases e; have := HNE.out; rintro (e | e) <;> (simp only at e; omega)))); have HSB6 := Lib.hid (HSB5.out.kept hk6 (fun a e => .inr (by cases e; have := HNE.out; rintro (e | e) <;> (simp only at e; omega)))); have HA6 := Lib.hid (HA5.out.kept hk6 (by have := HNE.out; rintro (e | e) <;> omega)); have HF6 := Lib.hid hf6; clear hf6 hk6)
    have x0 : w6.cell? ⟨w.heap.size + 1, 0, none⟩ = some (.int .i64 0) := cell_blk (HI6.out.get 1 rfl) 0
    have x1 : w6.cell? ⟨w.heap.size + 1, 1, none⟩ = some (.int .i64 c) := cell_blk (HI6.out.get 1 rfl) 1
    go_upto_region 12 with (go_at_call 10; refine (HPL.out _ _ _ HF6.out).mono ?_; rintro e w7 ⟨rfl, hf7, hk7⟩; have hk7' : Kept (fun x => x = p ∨ x = g) w6 w7 := hk7.mono (fun _ _ e => .inl e); have HI7 := Lib.hid (Blk.keptT HI6.out hk7' (fun i hi => by have := HNE.out; rcases hi with rfl | rfl <;> omega) (by intro e he; simp only [List.mem_cons, List.not_mem_nil, or_false] at he; have := HNE.out; rcases he with rfl | rfl <;> (rintro (e | e) <;> (simp only at e; omega)))); have HSA7 := Lib.hid (HSA6.out.kept hk7' (fun a e => .inr (by cases e; have := HNE.out; rintro (e | e) <;> (simp only at e; omega)))); have HSB7 := Lib.hid (HSB6.out.kept hk7' (fun a e => .inr (by cases e; have := HNE.out; rintro (e | e) <;> (simp only at e; omega)))); have HA7 := Lib.hid (HA6.out.kept hk7' (by have := HNE.out; rintro (e | e) <;> omega)); have HF7 := Lib.hid hf7; clear hf7 hk7 hk7')
    clear x0 x1
    go_upto_region 13 with (go_at_call 9; refine (HW2.out _ _ _ _ _ _ HF7.out HA7.out HSB7.out HNE.out.2.2.1 HNE.out.2.2.2.1 HNE.out.2.2.2.2.1 HNE.out.2.2.2.2.2.1 HCB.out).mono ?_; rintro e w8 ⟨rfl, hf8, hk8⟩; have HI8 := Lib.hid (Blk.keptT HI7.out hk8 (fun i hi => by have := HNE.out; rcases hi with rfl | rfl <;> omega) (by intro e he; simp only [List.mem_cons, List.not_mem_nil, or_false] at he; have := HNE.out; rcases he with rfl | rfl <;> (rintro (e | e) <;> (simp only at e; omega)))); have HSA8 := Lib.hid (HSA7.out.kept hk8 (fun a e => .inr (by cases e; have := HNE.out; rintro (e | e) <;> (simp only at e; omega)))); have HSB8 := Lib.hid (HSB7.out.kept hk8 (fun a e => .inr (by cases e; have := HNE.out; rintro (e | e) <;> (simp only at e; omega)))); have HA8 := Lib.hid (HA7.out.kept hk8 (by have := HNE.out; rintro (e | e) <;> omega)); have HF8 := Lib.hid hf8; clear hf8 hk8)
    go_upto_region 14 with (go_at_call 11; refine (HST.out _ _ _ HF8.out).mono ?_; rintro e w9 ⟨rfl, hf9, hk9, -⟩; have hk9' : Kept (fun x => x = p ∨ x = g) w8 w9 := hk9.mono (fun _ _ e => .inl e); have HI9 := Lib.hid (Blk.keptT HI8.out hk9' (fun i hi => by have := HNE.out; rcases hi with rfl | rfl <;> omega) (by intro e he; simp only [List.mem_cons, List.not_mem_nil, or_false] at he; have := HNE.out; rcases he with rfl | rfl <;> (rintro (e | e) <;> (simp only at e; omega)))); have HSA9 := Lib.hid (HSA8.out.kept hk9' (fun a e => .inr (by cases e; have := HNE.out; rintro (e | e) <;> (simp only at e; omega)))); have HSB9 := Lib.hid (HSB8.out.kept hk9' (fun a e => .inr (by cases e; have := HNE.out; rintro (e | e) <;> (simp only at e; omega)))); have HA9 := Lib.hid (HA8.out.kept hk9' (by have := HNE.out; rintro (e | e) <;> omega)); have HF9 := Lib.hid hf9; clear hf9 hk9 hk9')
    go_upto_region 15 with (go_at_call 12; refine (HR4.out _ _ _ _ HF9.out HA9.out).mono ?_; rintro e w10 ⟨u10, rfl, ho10, hb10⟩; have HI10 := Lib.hid (HI9.out.kept hb10); have HSA10 := Lib.hid (HSA9.out.below hb10); have HSB10 := Lib.hid (HSB9.out.below hb10); have HA10 := Lib.hid (HA9.out.below hb10); have HF10 := Lib.hid (HF9.out.below hb10); have HO10 := Lib.hid ho10; clear ho10 hb10)
    go_upto_region 16 with fail
    have hz : (w10.alloc (.cells (row8 ZL []) 5)).heap[w10.heap.size]? = some (.cells (row8 (F 0) []) 5 (0, 0)) := by rw [HZ.out]; exact blk_new _ _
    have hb11 : Below w10.heap.size w10 (w10.alloc (.cells (row8 ZL []) 5)) := (Below.refl _ _).alloc (Nat.le_refl _) _
    have HI11 := Lib.hid (HI10.out.kept hb11)
    have HSA11 := Lib.hid (HSA10.out.below hb11)
    have HSB11 := Lib.hid (HSB10.out.below hb11)
    have HA11 := Lib.hid (HA10.out.below hb11)
    have HF11 := Lib.hid (HF10.out.below hb11)
    have HO11 := Lib.hid (HO10.out.below hb11)
    have HB11 := Lib.hid hz
    have hgz : gA < w10.heap.size ∧ gB < w10.heap.size ∧ p < w10.heap.size ∧ g < w10.heap.size ∧ q < w10.heap.size ∧ w.heap.size < w10.heap.size ∧ w.heap.size + 1 < w10.heap.size ∧ ∀ k, u10.ownBlock = some k → k ≠ w10.heap.size := ⟨by have := HSA10.out; obtain ⟨a, e, h⟩ := this.cell 0 (by decide); cases e; exact cell_lt h, by have := HSB10.out; obtain ⟨a, e, h⟩ := this.cell 0 (by decide); cases e; exact cell_lt h, HF10.out.lt.1, HF10.out.lt.2, blk_lt HA10.out, HI10.out.lt 0 rfl, HI10.out.lt 1 rfl, fun k e => by have := HO10.out.lt k e; omega⟩
    have HOL : Hid (∀ k, u10.ownBlock = some k → w9.heap.size ≤ k) := Lib.hid (fun k e => (HO10.out.lt k e).1)
    have HPG : Hid (p < w9.heap.size ∧ g < w9.heap.size) := Lib.hid HF9.out.lt
    have HGZ := Lib.hid hgz
    clear hz hb11 hgz HI10 HSA10 HSB10 HA10 HF10 HO10
    generalize w10.heap.size = G at HB11 HGZ ⊢
    generalize w10.alloc (.cells (row8 ZL []) 5) = w11 at HI11 HSA11 HSB11 HA11 HF11 HO11 HB11 ⊢
    go_wp2_with fail
    go_loopw [26] (fun x wr => ∃ j : Nat, j ≤ 80 ∧ x = .int .i64 j ∧ wr.heap[G]? = some (.cells (row8 (F j) []) 5 (0, 0)) ∧ Kept (· = G) w11 wr) (fun x _ => 80 - (intOf x).toNat)
    case atStart => exact ⟨0, by omega, rfl, HB11.out, Kept.refl _ _⟩
    case round =>
      obtain ⟨j, hj, rfl, ra, rk⟩ := hrel
      have RK := Lib.hid rk
      by_cases hlt : j < 80
      · have sA := HSA11.out.kept rk (fun a e => .inr (by cases e; have := HGZ.out; intro e; simp only at e; omega))
        have sB := HSB11.out.kept rk (fun a e => .inr (by cases e; have := HGZ.out; intro e; simp only at e; omega))
        obtain ⟨a1, ea1, xa⟩ := sA.cell j hlt
        cases ea1
        obtain ⟨a2, ea2, xb⟩ := sB.cell j hlt
        cases ea2
        have y0 : wr.cell? ⟨w.heap.size + 1, 0, none⟩ = some (.int .i64 0) := cell_blk (rk.blk (HI11.out.get 1 rfl) (by have := HGZ.out; intro e; omega)) 0
        have y1 : wr.cell? ⟨w.heap.size + 1, 1, none⟩ = some (.int .i64 c) := cell_blk (rk.blk (HI11.out.get 1 rfl) (by have := HGZ.out; intro e; omega)) 1
        have eA : (⟨gA, 0, none⟩ : Addr).add j = ⟨gA, j, none⟩ := by unfold Addr.add; split <;> simp_all
        have eB : (⟨gB, 0, none⟩ : Addr).add j = ⟨gB, j, none⟩ := by unfold Addr.add; split <;> simp_all
        rw [eA] at xa
        rw [eB] at xb
        clear eA eB sA sB
        have ca : wr.cell? ⟨G, j, none⟩ = some (.int .u8 ((F j).getD j 0)) := by rw [cell_blk ra, row8_get _ _ _ (by rw [HZL.out]; exact hlt)]
        have fa : wr.frozen? ⟨G, j, none⟩ = false := free_blk ra _
        have gw := HGW.out j hlt
        have zs := HZS.out j hlt
        have st : ∀ (u : World) (X : List Int) (y : Int), X.length = 80 → u.heap[G]? = some (.cells (row8 X []) 5 (0, 0)) → (u.setCell ⟨G, j, none⟩ (.int .u8 y)).heap[G]? = some (.cells (row8 (X.set j y) []) 5 (0, 0)) := fun u X y hX h => row_store h j (by rw [hX]; exact hlt) y
        have ST := Lib.hid st
        clear st
        generalize A.getD j 0 = xa' at xa gw
        generalize B.getD j 0 = xb' at xb gw
        generalize W.getD j 0 = xw at gw zs
        generalize (F j).getD j 0 = ua at ca
        have RA := Lib.hid ra
        have ZS := Lib.hid zs
        have LF := Lib.hid (HZL.out j)
        have hgA : gA ≠ G ∧ gB ≠ G ∧ w.heap.size + 1 ≠ G := by have := HGZ.out; refine ⟨?_, ?_, ?_⟩ <;> omega
        clear ra zs rk
        go_upto_region 20 with fail
        have r1 := ST.out wr (F j) xa' LF.out RA.out
        have k1 := RK.out.setCell (p := ⟨G, j, none⟩) (.inl rfl) (.int .u8 xa')
        have yb1 : (wr.setCell ⟨G, j, none⟩ (.int .u8 xa')).cell? ⟨gB, j, none⟩ = some (.int .u8 xb') := cell_set_ne hgA.2.1 xb _
        have y01 : (wr.setCell ⟨G, j, none⟩ (.int .u8 xa')).cell? ⟨w.heap.size + 1, 0, none⟩ = some (.int .i64 0) := cell_set_ne hgA.2.2 y0 _
        have y11 : (wr.setCell ⟨G, j, none⟩ (.int .u8 xa')).cell? ⟨w.heap.size + 1, 1, none⟩ = some (.int .i64 c) := cell_set_ne hgA.2.2 y1 _
        have c1 : (wr.setCell ⟨G, j, none⟩ (.int .u8 xa')).cell? ⟨G, j, none⟩ = some (.int .u8 (((F j).set j xa').getD j 0)) := by rw [cell_blk r1, row8_get _ _ _ (by rw [List.length_set, LF.out]; exact hlt)]
        have f1 : (wr.setCell ⟨G, j, none⟩ (.int .u8 xa')).frozen? ⟨G, j, none⟩ = false := free_blk r1 _
        generalize ((F j).set j xa').getD j 0 = u1 at c1
        have R1 := Lib.hid r1
        have K1 := Lib.hid k1
        clear r1 k1 xa xb y0 y1 ca fa RA RK
        generalize wr.setCell ⟨G, j, none⟩ (.int .u8 xa') = wr1 at R1 K1 yb1 y01 y11 c1 f1 ⊢
        by_cases hcc : (j : Int) < c
        · simp [hcc] at gw
          go_wp2_with fail
          go_roundw
          case rel =>
            refine ⟨j + 1, by omega, by go_num, ?_, ?_⟩
            · have h := ST.out _ _ 255 (by rw [List.length_set]; exact LF.out) R1.out; rw [List.set_set] at h; rw [ZS.out, gw]; exact h
            · exact K1.out.setCell (p := ⟨G, j, none⟩) (.inl rfl) _
          case measure => simp [intOf]; omega
        · simp [hcc] at gw
          go_wp2_with fail
          go_roundw
          case rel =>
            refine ⟨j + 1, by omega, by go_num, ?_, ?_⟩
            · have h := R1.out; rw [ZS.out, gw]; exact h
            · exact K1.out
          case measure => simp [intOf]; omega
      · obtain rfl : j = 80 := by omega
        rw [HZA.out] at ra
        have HI12 := Lib.hid (Blk.keptT HI11.out rk (fun i hi => by have h1 := HNE.out; have h2 := HGZ.out; subst hi; omega) (by intro e he; simp only [List.mem_cons, List.not_mem_nil, or_false] at he; have := HGZ.out; rcases he with rfl | rfl <;> (intro e; simp only at e; omega)))
        have HSB12 := Lib.hid (HSB11.out.kept rk (fun a e => .inr (by cases e; have := HGZ.out; intro e; simp only at e; omega)))
        have HA12 := Lib.hid (HA11.out.kept rk (by have := HGZ.out; intro e; omega))
        have HF12 := Lib.hid (HF11.out.kept rk (by have := HGZ.out; intro e; omega) (by have := HGZ.out; intro e; omega))
        have HO12 := Lib.hid (HO11.out.kept rk (fun k e => HGZ.out.2.2.2.2.2.2.2 k e))
        have HW12 := Lib.hid ra
        clear ra rk RK HI11 HSA11 HSB11 HA11 HF11 HO11 HB11 hlt hj
        go_upto_region 25 with (go_at_call 9; refine (HW3.out _ _ _ _ _ _ HF12.out HA12.out HSB12.out HNE.out.2.2.1 HNE.out.2.2.2.1 HNE.out.2.2.2.2.1 HNE.out.2.2.2.2.2.1 HCB.out).mono ?_; rintro e w13 ⟨rfl, hf13, hk13⟩; have HI13 := Lib.hid (Blk.keptT HI12.out hk13 (fun i hi => by have := HNE.out; rcases hi with rfl | rfl <;> omega) (by intro e he; simp only [List.mem_cons, List.not_mem_nil, or_false] at he; have := HNE.out; rcases he with rfl | rfl <;> (rintro (e | e) <;> (simp only at e; omega)))); have HSB13 := Lib.hid (HSB12.out.kept hk13 (fun a e => .inr (by cases e; have := HNE.out; rintro (e | e) <;> (simp only at e; omega)))); have HA13 := Lib.hid (HA12.out.kept hk13 (by have := HNE.out; rintro (e | e) <;> omega)); have HW13 := Lib.hid (hk13.blk HW12.out (by have := HGZ.out; rintro (e | e) <;> omega)); have HO13 := Lib.hid (HO12.out.kept hk13 (fun k e => by have h1 := HOL.out k e; have h2 := HPG.out; rintro (e | e) <;> omega)); have HF13 := Lib.hid hf13; clear hf13 hk13)
        go_upto_region 26 with (go_at_call 12; refine (HR5.out _ _ _ _ HF13.out HA13.out).mono ?_; rintro e w14 ⟨u14, rfl, ho14, hb14⟩; have HI14 := Lib.hid (HI13.out.kept hb14); have HSB14 := Lib.hid (HSB13.out.below hb14); have HA14 := Lib.hid (HA13.out.below hb14); have HF14 := Lib.hid (HF13.out.below hb14); have HW14 := Lib.hid (Below.blk hb14 HW13.out (blk_lt HW13.out)); have t1 := (HO13.out.below hb14).str; have t2 := ho14.str; clear ho14 hb14)
        have t3 : (convert 24 9 (.slice (some ⟨G, 0, none⟩) 80 80)).run Try.prog w14 = .ok (.string (strOfNums W)) w14 := src_string (c := 80) (src_row HW14.out (by rw [Nat.mul_one]; simp [row8]; exact List.take_of_length_le (by simp)) HLW.out)
        have t4 := src_string (c := cB) HSB14.out
        generalize strOfNums W = SW at t1 t3
        generalize strOfNums B = SB at t2 t4
        have q1 : (SW.toList == SW.toList) = true := beq_self_eq_true _
        have q2 : (SB.toList == SB.toList) = true := beq_self_eq_true _
        clear HW14 HSB14 HO13 HW13 HSB13
        go_wp2_with (first | (go_at_call 8; refine (num25_any _ _).mono ?_; rintro e w' ⟨rfl, rfl⟩) | ((with_reducible show wpList _ _ _ (Oper.mk (some 198) _ _ _ _ _ :: _) _ _); refine wpList_load_wanted (by rfl) 23 _ rfl (w.heap.size) 0 _ 23 (0, 0) _ (HI14.out.get 0 rfl) rfl .u8 key (arr_part _ _) Try.underlying23 rfl (num_iv HKL.out) ?_) | (go_at_call 13; refine (HHS.out _ _ _ _ HF14.out HA14.out).mono ?_; rintro e w15 ⟨rfl, hb15⟩; have HI15 := Lib.hid (HI14.out.kept hb15); clear hb15))
        go_ret
        exact ⟨rfl, HI15.out.below⟩
  · go_enter Try.func3, Try.ntmps3
    go_upto_region 1 with fail
    (try simp only [World.size_alloc])
    generalize ((w.alloc (.cells (arr .u8 key) 23)).alloc (.cells #[.int .i64 1, .int .i64 c] 26)) = wb at HI0 ⊢
    go_upto_region 2 with (go_at_call 4; refine (alive25_any _).mono ?_; rintro e w1 ⟨rfl, hb1⟩; have HI1 := Lib.hid (HI0.out.kept hb1); have x0 : w1.cell? ⟨w.heap.size + 1, 0, none⟩ = some (.int .i64 1) := cell_blk (HI1.out.get 1 rfl) 0; clear hb1)
    go_upto_region 4 with fail
    clear x0
    go_upto_region 5 with (first | ((with_reducible show wpList _ _ _ (Oper.mk (some 71) _ _ _ _ _ :: _) _ _); refine wpList_load_part rfl 23 _ rfl (w.heap.size) 0 _ 23 (0, 0) _ (HI1.out.get 0 rfl) rfl .u8 key (arr_part _ _) Try.underlying23 rfl (num_iv HKL.out) ?_) | (go_at_call 5; refine (HRA.out _ (HS1.out.below HI1.out.below)).mono ?_; rintro e w2 ⟨u2, rfl, ho2, hb2⟩; have HI2 := Lib.hid (HI1.out.kept hb2); have HO2 := Lib.hid ho2; have HZ2 := Lib.hid (Nat.le_trans HI1.out.below.size (Nat.le_refl w1.heap.size)); clear ho2 hb2))
    obtain ⟨sA, cA, rfl, hcA, -, hsA, hoA⟩ := HO2.out.form
    obtain ⟨gA, rfl, hgA, hhA⟩ : ∃ g : Nat, sA = some ⟨g, 0, none⟩ ∧ w1.heap.size ≤ g ∧ g < w2.heap.size := by
      rcases hoA with ⟨-, h0, -⟩ | ⟨g, rfl, h1, h2⟩
      · have := HLA.out
        rw [h0] at this
        exact absurd this (by decide)
      · exact ⟨g, rfl, h1, h2⟩
    rw [HLA.out] at hcA hsA ⊢
    have HSA := Lib.hid hsA
    have HCA := Lib.hid hcA
    have HGA := Lib.hid (And.intro hgA hhA)
    clear hcA hsA hoA hgA hhA
    clear HO2
    go_upto_region 6 with (first | ((with_reducible show wpList _ _ _ (Oper.mk (some 79) _ _ _ _ _ :: _) _ _); refine wpList_load_part rfl 23 _ rfl (w.heap.size) 0 _ 23 (0, 0) _ (HI2.out.get 0 rfl) rfl .u8 key (arr_part _ _) Try.underlying23 rfl (num_iv HKL.out) ?_) | (go_at_call 5; refine (HRB.out _ (HS2.out.below HI2.out.below)).mono ?_; rintro e w3 ⟨u3, rfl, ho3, hb3⟩; have HI3 := Lib.hid (HI2.out.kept hb3); have HO3 := Lib.hid ho3; have HSA3 := Lib.hid (HSA.out.below hb3); have HZ3 := Lib.hid hb3.size; clear ho3 hb3))
    obtain ⟨sB, cB, rfl, hcB, -, hsB, hoB⟩ := HO3.out.form
    obtain ⟨gB, rfl, hgB, hhB⟩ : ∃ g : Nat, sB = some ⟨g, 0, none⟩ ∧ w2.heap.size ≤ g ∧ g < w3.heap.size := by
      rcases hoB with ⟨-, h0, -⟩ | ⟨g, rfl, h1, h2⟩
      · have := HLB.out
        rw [h0] at this
        exact absurd this (by decide)
      · exact ⟨g, rfl, h1, h2⟩
    rw [HLB.out] at hcB hsB ⊢
    have HSB := Lib.hid hsB
    have HCB := Lib.hid hcB
    have HGB := Lib.hid (And.intro hgB hhB)
    clear hcB hsB hoB hgB hhB
    clear HO3 HSA
    go_upto_region 7 with (go_at_call 6; refine (HN.out _).mono ?_; rintro e w4 ⟨p, g, rfl, hf4, hp4, hg4, hb4⟩; have HI4 := Lib.hid (HI3.out.kept hb4); have HSA4 := Lib.hid (HSA3.out.below hb4); have HSB4 := Lib.hid (HSB.out.below hb4); have HF4 := Lib.hid hf4; have HP4 := Lib.hid (And.intro hp4 hg4); have HZ4 := Lib.hid hb4.size; clear hf4 hp4 hg4 hb4)
    clear HSA3 HSB
    go_upto_region 8 with (go_at_call 7; refine (HVN.out _ _ _ HF4.out).mono ?_; rintro e w5 ⟨rfl, ha5, hb5⟩; have HI5 := Lib.hid (HI4.out.kept hb5); have HSA5 := Lib.hid (HSA4.out.below hb5); have HSB5 := Lib.hid (HSB4.out.below hb5); have HF5 := Lib.hid (HF4.out.below hb5); have HA5 := Lib.hid ha5; have HQ5 := Lib.hid HF4.out.lt; clear ha5 hb5)
    have hne : gA ≠ p ∧ gA ≠ g ∧ gB ≠ p ∧ gB ≠ g ∧ w4.heap.size ≠ p ∧ w4.heap.size ≠ g ∧ w.heap.size < w1.heap.size ∧ w.heap.size + 1 < w1.heap.size ∧ w1.heap.size ≤ p ∧ w1.heap.size ≤ g ∧ w1.heap.size ≤ gA ∧ w1.heap.size ≤ gB ∧ w1.heap.size ≤ w4.heap.size ∧ gA < w4.heap.size ∧ gB < w4.heap.size ∧ p < w4.heap.size ∧ g < w4.heap.size := by
      have q1 := HI1.out.lt 0 rfl
      have q2 := HI1.out.lt 1 rfl
      have q3 := HGA.out
      have q4 := HGB.out
      have q5 := HP4.out
      have q6 := HZ3.out
      have q7 := HZ4.out
      have q8 := HQ5.out
      have q9 := HSA4.out.len
      refine ⟨?_, ?_, ?_, ?_, ?_, ?_, ?_, ?_, ?_, ?_, ?_, ?_, ?_, ?_, ?_, ?_, ?_⟩ <;> omega
    have HNE := Lib.hid hne
    clear hne HGA HGB HP4 HQ5 HSA4 HSB4 HF4
    generalize w4.heap.size = q at HA5 HNE ⊢
    go_upto_region 10 with (go_at_call 8; refine (num25_any _ _).mono ?_; rintro e w' ⟨rfl, rfl⟩)
    go_upto_region 11 with (go_at_call 9; refine (HW1.out _ _ _ _ _ _ HF5.out HA5.out HSA5.out HNE.out.1 HNE.out.2.1 HNE.out.2.2.2.2.1 HNE.out.2.2.2.2.2.1 HCA.out).mono ?_; rintro e w6 ⟨rfl, hf6, hk6⟩; have HI6 := Lib.hid (Blk.keptT HI5.out hk6 (fun i hi => by have := HNE.out; rcases hi with rfl | rfl <;> omega) (by intro e he; simp only [List.mem_cons, List.not_mem_nil, or_false] at he; have := HNE.out; rcases he with rfl | rfl <;> (rintro (e | e) <;> (simp only at e; omega)))); have HSA6 := Lib.hid (HSA5.out.kept hk6 (fun a e => .inr (by cases e; have := HNE.out; rintro (e | e) <;> (simp only at e; omega)))); have HSB6 := Lib.hid (HSB5.out.kept hk6 (fun a e => .inr (by cases e; have := HNE.out; rintro (e | e) <;> (simp only at e; omega)))); have HA6 := Lib.hid (HA5.out.kept hk6 (by have := HNE.out; rintro (e | e) <;> omega)); have HF6 := Lib.hid hf6; clear hf6 hk6)
    have x0 : w6.cell? ⟨w.heap.size + 1, 0, none⟩ = some (.int .i64 1) := cell_blk (HI6.out.get 1 rfl) 0
    have x1 : w6.cell? ⟨w.heap.size + 1, 1, none⟩ = some (.int .i64 c) := cell_blk (HI6.out.get 1 rfl) 1
    go_upto_region 12 with (go_at_call 10; refine (HPL.out _ _ _ HF6.out).mono ?_; rintro e w7 ⟨rfl, hf7, hk7⟩; have hk7' : Kept (fun x => x = p ∨ x = g) w6 w7 := hk7.mono (fun _ _ e => .inl e); have HI7 := Lib.hid (Blk.keptT HI6.out hk7' (fun i hi => by have := HNE.out; rcases hi with rfl | rfl <;> omega) (by intro e he; simp only [List.mem_cons, List.not_mem_nil, or_false] at he; have := HNE.out; rcases he with rfl | rfl <;> (rintro (e | e) <;> (simp only at e; omega)))); have HSA7 := Lib.hid (HSA6.out.kept hk7' (fun a e => .inr (by cases e; have := HNE.out; rintro (e | e) <;> (simp only at e; omega)))); have HSB7 := Lib.hid (HSB6.out.kept hk7' (fun a e => .inr (by cases e; have := HNE.out; rintro (e | e) <;> (simp only at e; omega)))); have HA7 := Lib.hid (HA6.out.kept hk7' (by have := HNE.out; rintro (e | e) <;> omega)); have HF7 := Lib.hid hf7; clear hf7 hk7 hk7')
    clear x0 x1
    go_upto_region 13 with (go_at_call 9; refine (HW2.out _ _ _ _ _ _ HF7.out HA7.out HSB7.out HNE.out.2.2.1 HNE.out.2.2.2.1 HNE.out.2.2.2.2.1 HNE.out.2.2.2.2.2.1 HCB.out).mono ?_; rintro e w8 ⟨rfl, hf8, hk8⟩; have HI8 := Lib.hid (Blk.keptT HI7.out hk8 (fun i hi => by have := HNE.out; rcases hi with rfl | rfl <;> omega) (by intro e he; simp only [List.mem_cons, List.not_mem_nil, or_false] at he; have := HNE.out; rcases he with rfl | rfl <;> (rintro (e | e) <;> (simp only at e; omega)))); have HSA8 := Lib.hid (HSA7.out.kept hk8 (fun a e => .inr (by cases e; have := HNE.out; rintro (e | e) <;> (simp only at e; omega)))); have HSB8 := Lib.hid (HSB7.out.kept hk8 (fun a e => .inr (by cases e; have := HNE.out; rintro (e | e) <;> (simp only at e; omega)))); have HA8 := Lib.hid (HA7.out.kept hk8 (by have := HNE.out; rintro (e | e) <;> omega)); have HF8 := Lib.hid hf8; clear hf8 hk8)
    go_upto_region 14 with (go_at_call 11; refine (HST.out _ _ _ HF8.out).mono ?_; rintro e w9 ⟨rfl, hf9, hk9, -⟩; have hk9' : Kept (fun x => x = p ∨ x = g) w8 w9 := hk9.mono (fun _ _ e => .inl e); have HI9 := Lib.hid (Blk.keptT HI8.out hk9' (fun i hi => by have := HNE.out; rcases hi with rfl | rfl <;> omega) (by intro e he; simp only [List.mem_cons, List.not_mem_nil, or_false] at he; have := HNE.out; rcases he with rfl | rfl <;> (rintro (e | e) <;> (simp only at e; omega)))); have HSA9 := Lib.hid (HSA8.out.kept hk9' (fun a e => .inr (by cases e; have := HNE.out; rintro (e | e) <;> (simp only at e; omega)))); have HSB9 := Lib.hid (HSB8.out.kept hk9' (fun a e => .inr (by cases e; have := HNE.out; rintro (e | e) <;> (simp only at e; omega)))); have HA9 := Lib.hid (HA8.out.kept hk9' (by have := HNE.out; rintro (e | e) <;> omega)); have HF9 := Lib.hid hf9; clear hf9 hk9 hk9')
    go_upto_region 15 with (go_at_call 12; refine (HR4.out _ _ _ _ HF9.out HA9.out).mono ?_; rintro e w10 ⟨u10, rfl, ho10, hb10⟩; have HI10 := Lib.hid (HI9.out.kept hb10); have HSA10 := Lib.hid (HSA9.out.below hb10); have HSB10 := Lib.hid (HSB9.out.below hb10); have HA10 := Lib.hid (HA9.out.below hb10); have HF10 := Lib.hid (HF9.out.below hb10); have HO10 := Lib.hid ho10; clear ho10 hb10)
    go_upto_region 16 with fail
    have hz : (w10.alloc (.cells (row8 ZL []) 5)).heap[w10.heap.size]? = some (.cells (row8 (F 0) []) 5 (0, 0)) := by rw [HZ.out]; exact blk_new _ _
    have hb11 : Below w10.heap.size w10 (w10.alloc (.cells (row8 ZL []) 5)) := (Below.refl _ _).alloc (Nat.le_refl _) _
    have HI11 := Lib.hid (HI10.out.kept hb11)
    have HSA11 := Lib.hid (HSA10.out.below hb11)
    have HSB11 := Lib.hid (HSB10.out.below hb11)
    have HA11 := Lib.hid (HA10.out.below hb11)
    have HF11 := Lib.hid (HF10.out.below hb11)
    have HO11 := Lib.hid (HO10.out.below hb11)
    have HB11 := Lib.hid hz
    have hgz : gA < w10.heap.size ∧ gB < w10.heap.size ∧ p < w10.heap.size ∧ g < w10.heap.size ∧ q < w10.heap.size ∧ w.heap.size < w10.heap.size ∧ w.heap.size + 1 < w10.heap.size ∧ ∀ k, u10.ownBlock = some k → k ≠ w10.heap.size := ⟨by have := HSA10.out; obtain ⟨a, e, h⟩ := this.cell 0 (by decide); cases e; exact cell_lt h, by have := HSB10.out; obtain ⟨a, e, h⟩ := this.cell 0 (by decide); cases e; exact cell_lt h, HF10.out.lt.1, HF10.out.lt.2, blk_lt HA10.out, HI10.out.lt 0 rfl, HI10.out.lt 1 rfl, fun k e => by have := HO10.out.lt k e; omega⟩
    have HOL : Hid (∀ k, u10.ownBlock = some k → w9.heap.size ≤ k) := Lib.hid (fun k e => (HO10.out.lt k e).1)
    have HPG : Hid (p < w9.heap.size ∧ g < w9.heap.size) := Lib.hid HF9.out.lt
    have HGZ := Lib.hid hgz
    clear hz hb11 hgz HI10 HSA10 HSB10 HA10 HF10 HO10
    generalize w10.heap.size = G at HB11 HGZ ⊢
    generalize w10.alloc (.cells (row8 ZL []) 5) = w11 at HI11 HSA11 HSB11 HA11 HF11 HO11 HB11 ⊢
    go_wp2_with fail
    go_loopw [26] (fun x wr => ∃ j : Nat, j ≤ 80 ∧ x = .int .i64 j ∧ wr.heap[G]? = some (.cells (row8 (F j) []) 5 (0, 0)) ∧ Kept (· = G) w11 wr) (fun x _ => 80 - (intOf x).toNat)
    case atStart => exact ⟨0, by omega, rfl, HB11.out, Kept.refl _ _⟩
    case round =>
      obtain ⟨j, hj, rfl, ra, rk⟩ := hrel
      have RK := Lib.hid rk
      by_cases hlt : j < 80
      · have sA := HSA11.out.kept rk (fun a e => .inr (by cases e; have := HGZ.out; intro e; simp only at e; omega))
        have sB := HSB11.out.kept rk (fun a e => .inr (by cases e; have := HGZ.out; intro e; simp only at e; omega))
        obtain ⟨a1, ea1, xa⟩ := sA.cell j hlt
        cases ea1
        obtain ⟨a2, ea2, xb⟩ := sB.cell j hlt
        cases ea2
        have y0 : wr.cell? ⟨w.heap.size + 1, 0, none⟩ = some (.int .i64 1) := cell_blk (rk.blk (HI11.out.get 1 rfl) (by have := HGZ.out; intro e; omega)) 0
        have y1 : wr.cell? ⟨w.heap.size + 1, 1, none⟩ = some (.int .i64 c) := cell_blk (rk.blk (HI11.out.get 1 rfl) (by have := HGZ.out; intro e; omega)) 1
        have eA : (⟨gA, 0, none⟩ : Addr).add j = ⟨gA, j, none⟩ := by unfold Addr.add; split <;> simp_all
        have eB : (⟨gB, 0, none⟩ : Addr).add j = ⟨gB, j, none⟩ := by unfold Addr.add; split <;> simp_all
        rw [eA] at xa
        rw [eB] at xb
        clear eA eB sA sB
        have ca : wr.cell? ⟨G, j, none⟩ = some (.int .u8 ((F j).getD j 0)) := by rw [cell_blk ra, row8_get _ _ _ (by rw [HZL.out]; exact hlt)]
        have fa : wr.frozen? ⟨G, j, none⟩ = false := free_blk ra _
        have gw := HGW.out j hlt
        have zs := HZS.out j hlt
        have st : ∀ (u : World) (X : List Int) (y : Int), X.length = 80 → u.heap[G]? = some (.cells (row8 X []) 5 (0, 0)) → (u.setCell ⟨G, j, none⟩ (.int .u8 y)).heap[G]? = some (.cells (row8 (X.set j y) []) 5 (0, 0)) := fun u X y hX h => row_store h j (by rw [hX]; exact hlt) y
        have ST := Lib.hid st
        clear st
        generalize A.getD j 0 = xa' at xa gw
        generalize B.getD j 0 = xb' at xb gw
        generalize W.getD j 0 = xw at gw zs
        generalize (F j).getD j 0 = ua at ca
        have RA := Lib.hid ra
        have ZS := Lib.hid zs
        have LF := Lib.hid (HZL.out j)
        have hgA : gA ≠ G ∧ gB ≠ G ∧ w.heap.size + 1 ≠ G := by have := HGZ.out; refine ⟨?_, ?_, ?_⟩ <;> omega
        clear ra zs rk
        go_upto_region 20 with fail
        have r1 := ST.out wr (F j) xa' LF.out RA.out
        have k1 := RK.out.setCell (p := ⟨G, j, none⟩) (.inl rfl) (.int .u8 xa')
        have yb1 : (wr.setCell ⟨G, j, none⟩ (.int .u8 xa')).cell? ⟨gB, j, none⟩ = some (.int .u8 xb') := cell_set_ne hgA.2.1 xb _
        have y01 : (wr.setCell ⟨G, j, none⟩ (.int .u8 xa')).cell? ⟨w.heap.size + 1, 0, none⟩ = some (.int .i64 1) := cell_set_ne hgA.2.2 y0 _
        have y11 : (wr.setCell ⟨G, j, none⟩ (.int .u8 xa')).cell? ⟨w.heap.size + 1, 1, none⟩ = some (.int .i64 c) := cell_set_ne hgA.2.2 y1 _
        have c1 : (wr.setCell ⟨G, j, none⟩ (.int .u8 xa')).cell? ⟨G, j, none⟩ = some (.int .u8 (((F j).set j xa').getD j 0)) := by rw [cell_blk r1, row8_get _ _ _ (by rw [List.length_set, LF.out]; exact hlt)]
        have f1 : (wr.setCell ⟨G, j, none⟩ (.int .u8 xa')).frozen? ⟨G, j, none⟩ = false := free_blk r1 _
        generalize ((F j).set j xa').getD j 0 = u1 at c1
        have R1 := Lib.hid r1
        have K1 := Lib.hid k1
        clear r1 k1 xa xb y0 y1 ca fa RA RK
        generalize wr.setCell ⟨G, j, none⟩ (.int .u8 xa') = wr1 at R1 K1 yb1 y01 y11 c1 f1 ⊢
        by_cases hcc : (j : Int) < c
        · simp [hcc] at gw
          go_upto_region 22 with fail
          have r2 := ST.out _ _ 255 (by rw [List.length_set]; exact LF.out) R1.out
          have k2 := K1.out.setCell (p := ⟨G, j, none⟩) (.inl rfl) (.int .u8 255)
          have yb2 : (wr1.setCell ⟨G, j, none⟩ (.int .u8 255)).cell? ⟨gB, j, none⟩ = some (.int .u8 xb') := cell_set_ne hgA.2.1 yb1 _
          have y02 : (wr1.setCell ⟨G, j, none⟩ (.int .u8 255)).cell? ⟨w.heap.size + 1, 0, none⟩ = some (.int .i64 1) := cell_set_ne hgA.2.2 y01 _
          have y12 : (wr1.setCell ⟨G, j, none⟩ (.int .u8 255)).cell? ⟨w.heap.size + 1, 1, none⟩ = some (.int .i64 c) := cell_set_ne hgA.2.2 y11 _
          have c2 : (wr1.setCell ⟨G, j, none⟩ (.int .u8 255)).cell? ⟨G, j, none⟩ = some (.int .u8 ((((F j).set j xa').set j 255).getD j 0)) := by rw [cell_blk r2, row8_get _ _ _ (by rw [List.length_set, List.length_set, LF.out]; exact hlt)]
          have f2 : (wr1.setCell ⟨G, j, none⟩ (.int .u8 255)).frozen? ⟨G, j, none⟩ = false := free_blk r2 _
          generalize (((F j).set j xa').set j 255).getD j 0 = u2 at c2
          have R2 := Lib.hid r2
          have K2 := Lib.hid k2
          clear r2 k2 yb1 y01 y11 c1 f1 R1 K1
          generalize wr1.setCell ⟨G, j, none⟩ (.int .u8 255) = wr2 at R2 K2 yb2 y02 y12 c2 f2 ⊢
          go_wp2_with fail
          go_roundw
          case rel =>
            refine ⟨j + 1, by omega, by go_num, ?_, K2.out.setCell (p := ⟨G, j, none⟩) (.inl rfl) _⟩
            have h := ST.out _ _ xb' (by rw [List.length_set, List.length_set]; exact LF.out) R2.out
            rw [List.set_set, List.set_set] at h
            rw [ZS.out, gw]
            exact h
          case measure => simp [intOf]; omega
        · simp [hcc] at gw
          go_wp2_with fail
          go_roundw
          case rel =>
            refine ⟨j + 1, by omega, by go_num, ?_, ?_⟩
            · have h := ST.out _ _ 255 (by rw [List.length_set]; exact LF.out) R1.out; rw [List.set_set] at h; rw [ZS.out, gw]; exact h
            · exact K1.out.setCell (p := ⟨G, j, none⟩) (.inl rfl) _
          case measure => simp [intOf]; omega
      · obtain rfl : j = 80 := by omega
        rw [HZA.out] at ra
        have HI12 := Lib.hid (Blk.keptT HI11.out rk (fun i hi => by have h1 := HNE.out; have h2 := HGZ.out; subst hi; omega) (by intro e he; simp only [List.mem_cons, List.not_mem_nil, or_false] at he; have := HGZ.out; rcases he with rfl | rfl <;> (intro e; simp only at e; omega)))
        have HSB12 := Lib.hid (HSB11.out.kept rk (fun a e => .inr (by cases e; have := HGZ.out; intro e; simp only at e; omega)))
        have HA12 := Lib.hid (HA11.out.kept rk (by have := HGZ.out; intro e; omega))
        have HF12 := Lib.hid (HF11.out.kept rk (by have := HGZ.out; intro e; omega) (by have := HGZ.out; intro e; omega))
        have HO12 := Lib.hid (HO11.out.kept rk (fun k e => HGZ.out.2.2.2.2.2.2.2 k e))
        have HW12 := Lib.hid ra
        clear ra rk RK HI11 HSA11 HSB11 HA11 HF11 HO11 HB11 hlt hj
        go_upto_region 25 with (go_at_call 9; refine (HW3.out _ _ _ _ _ _ HF12.out HA12.out HSB12.out HNE.out.2.2.1 HNE.out.2.2.2.1 HNE.out.2.2.2.2.1 HNE.out.2.2.2.2.2.1 HCB.out).mono ?_; rintro e w13 ⟨rfl, hf13, hk13⟩; have HI13 := Lib.hid (Blk.keptT HI12.out hk13 (fun i hi => by have := HNE.out; rcases hi with rfl | rfl <;> omega) (by intro e he; simp only [List.mem_cons, List.not_mem_nil, or_false] at he; have := HNE.out; rcases he with rfl | rfl <;> (rintro (e | e) <;> (simp only at e; omega)))); have HSB13 := Lib.hid (HSB12.out.kept hk13 (fun a e => .inr (by cases e; have := HNE.out; rintro (e | e) <;> (simp only at e; omega)))); have HA13 := Lib.hid (HA12.out.kept hk13 (by have := HNE.out; rintro (e | e) <;> omega)); have HW13 := Lib.hid (hk13.blk HW12.out (by have := HGZ.out; rintro (e | e) <;> omega)); have HO13 := Lib.hid (HO12.out.kept hk13 (fun k e => by have h1 := HOL.out k e; have h2 := HPG.out; rintro (e | e) <;> omega)); have HF13 := Lib.hid hf13; clear hf13 hk13)
        go_upto_region 26 with (go_at_call 12; refine (HR5.out _ _ _ _ HF13.out HA13.out).mono ?_; rintro e w14 ⟨u14, rfl, ho14, hb14⟩; have HI14 := Lib.hid (HI13.out.kept hb14); have HSB14 := Lib.hid (HSB13.out.below hb14); have HA14 := Lib.hid (HA13.out.below hb14); have HF14 := Lib.hid (HF13.out.below hb14); have HW14 := Lib.hid (Below.blk hb14 HW13.out (blk_lt HW13.out)); have t1 := (HO13.out.below hb14).str; have t2 := ho14.str; clear ho14 hb14)
        have t3 : (convert 24 9 (.slice (some ⟨G, 0, none⟩) 80 80)).run Try.prog w14 = .ok (.string (strOfNums W)) w14 := src_string (c := 80) (src_row HW14.out (by rw [Nat.mul_one]; simp [row8]; exact List.take_of_length_le (by simp)) HLW.out)
        have t4 := src_string (c := cB) HSB14.out
        generalize strOfNums W = SW at t1 t3
        generalize strOfNums B = SB at t2 t4
        have q1 : (SW.toList == SW.toList) = true := beq_self_eq_true _
        have q2 : (SB.toList == SB.toList) = true := beq_self_eq_true _
        clear HW14 HSB14 HO13 HW13 HSB13
        go_wp2_with (first | (go_at_call 8; refine (num25_any _ _).mono ?_; rintro e w' ⟨rfl, rfl⟩) | ((with_reducible show wpList _ _ _ (Oper.mk (some 198) _ _ _ _ _ :: _) _ _); refine wpList_load_wanted (by rfl) 23 _ rfl (w.heap.size) 0 _ 23 (0, 0) _ (HI14.out.get 0 rfl) rfl .u8 key (arr_part _ _) Try.underlying23 rfl (num_iv HKL.out) ?_) | (go_at_call 13; refine (HHS.out _ _ _ _ HF14.out HA14.out).mono ?_; rintro e w15 ⟨rfl, hb15⟩; have HI15 := Lib.hid (HI14.out.kept hb15); clear hb15))
        go_ret
        exact ⟨rfl, HI15.out.below⟩

theorem vrow {w : World} {a : Option Addr} {len cap : Nat} {zs : List Int} (h : RowI .u8 w a len cap zs) : Src w a len (zs.take len) ∧ bytes (zs.take len) ∧ len ≤ cap := by
  rcases h with ⟨rfl, rfl, rfl, rfl⟩ | ⟨x, rfl, hl, hm, hz, hc, hw⟩
  · exact ⟨⟨rfl, fun i hi => absurd hi (by omega)⟩, fun x hx => by simp at hx, Nat.le_refl _⟩
  · refine ⟨⟨by simp; omega, fun i hi => ⟨x, rfl, ?_⟩⟩, fun y hy => wf_u8 (hw y (List.mem_of_mem_take hy)), hl⟩
    rw [hc i (by omega)]
    simp [List.getD, hi]
/-- VerityTears, at every input. -/
theorem vtears_any (key : List Int) (v i o c : Int) (oa pa : Option Addr) (on oc pn pc : Nat) (zo zp : List Int) (w : World) (hk : key.length = 32) (bk : bytes key) (h1 : RowI .u8 w oa on oc zo) (h2 : RowI .u8 w pa pn pc zp) (hc : -9223372036854775808 ≤ c ∧ c ≤ 9223372036854775807) :
    Calls Try.prog 3 #[.agg (arr .u8 key), .int .i64 v, .int .i64 i, .slice oa on oc, .slice pa pn pc, .agg #[.int .i64 o, .int .i64 c]] w fun e w' => e = .returned (.bool true) ∧ Below w.heap.size w w' := by
  have b1 : ∀ n : Nat, ¬ n = 64 → ((n : Int) == 64) = false ∧ ¬ (n : Int) = 64 := fun n h => ⟨by rw [beq_eq_false_iff_ne]; omega, by omega⟩
  by_cases e1 : v < 0
  · exact tears_early key v i o c oa pa on oc pn pc w (.inl e1)
  by_cases e2 : 1073741824 < v
  · exact tears_early key v i o c oa pa on oc pn pc w (.inr (.inl ⟨by omega, e2⟩))
  by_cases e3 : i < 0
  · exact tears_early key v i o c oa pa on oc pn pc w (.inr (.inr (.inl ⟨by omega, by omega, e3⟩)))
  by_cases e4 : 31 < i
  · exact tears_early key v i o c oa pa on oc pn pc w (.inr (.inr (.inr (.inl ⟨by omega, by omega, by omega, e4⟩))))
  by_cases e5 : on = 64
  rotate_left
  · exact tears_early key v i o c oa pa on oc pn pc w (.inr (.inr (.inr (.inr (.inl ⟨by omega, by omega, by omega, by omega, b1 on e5⟩)))))
  by_cases e6 : pn = 64
  rotate_left
  · exact tears_early key v i o c oa pa on oc pn pc w (.inr (.inr (.inr (.inr (.inr (.inl ⟨by omega, by omega, by omega, by omega, e5, b1 pn e6⟩))))))
  by_cases e7 : o < 0
  · exact tears_early key v i o c oa pa on oc pn pc w (.inr (.inr (.inr (.inr (.inr (.inr (.inl ⟨by omega, by omega, by omega, by omega, e5, e6, e7⟩)))))))
  by_cases e8 : 1 < o
  · exact tears_early key v i o c oa pa on oc pn pc w (.inr (.inr (.inr (.inr (.inr (.inr (.inr ⟨by omega, by omega, by omega, by omega, e5, e6, by omega, e8⟩)))))))
  subst e5 e6
  obtain ⟨j, rfl⟩ := Int.eq_ofNat_of_zero_le (show 0 ≤ i by omega)
  obtain ⟨k1, k2, k3⟩ := vrow h1
  obtain ⟨k4, k5, k6⟩ := vrow h2
  exact tears_go key _ _ v j o c oa pa oc pc w hk bk k1 k4 k3 k6 k2 k5 (by omega) (by omega) (by omega) (by omega) hc
end Go.Proofs.Ytoljnogpegemjaa.Vt
