/- The document's wide: what they answer. Condition: 32 bytes; lists of the call's size; the tables hold what their text lays. -/
import Derived.Test.YtjbgcbmgjdkpgaaDoorRsD
import Derived.Test.YtjbgcbmgjdkpgaaDoorHbS
import Derived.Test.YtjbgcbmgjdkpgaaDoorJoi
import Derived.Test.YtjbgcbmgjdkpgaaDoorCvF
namespace Go.Proofs.YtjbgcbmgjdkpgaaDoor.Rd
open Go.RowKit Lm Fp Cu Sc
set_option linter.unusedSimpArgs false

theorem tabk_below {a b : World} (h : Hb.TabK a) (k : Below a.heap.size a b) : Hb.TabK b := fun t ht => (Kept.of_below k (T := fun _ => False)).cellX (h t ht) id
theorem h512 : (2 : Nat) ^ 512 = 256 ^ 64 := by
  have := Nat.pow_mul 2 8 64
  rw [show 8 * 64 = 512 from rfl, show (2 : Nat) ^ 8 = 256 from rfl] at this
  exact this
theorem own_src {w : World} {B : Nat} {v : Value} {xs : List Int} (h : Own8 w B v xs) : ∃ s c, v = .slice s xs.length c ∧ Src w s xs.length xs := by
  obtain ⟨s, c, rfl, _, _, hs, _⟩ := h.form
  exact ⟨s, c, rfl, hs⟩

set_option maxRecDepth 100000 in
set_option maxHeartbeats 4000000 in
theorem wide_any (sa : Option Addr) (n c : Nat) (L : List (List Int)) (w : World) (hs : SrcL w sa n L) (hb : ∀ l ∈ L, bytes l) (hN : L.flatten.length ≤ 1099511627776) (hn : n ≤ 1099511627776) (hk : Hb.TabK w) (hT : TabQ w) :
    Calls Tryd.prog 33 #[.slice sa n c] w fun e w' => e = .returned (.agg (arr .u8 (n32 (wide L.flatten)))) ∧ Below w.heap.size w w' := by
  have hbf : bytes L.flatten := by intro x hx; obtain ⟨l, hl, hx⟩ := List.mem_flatten.1 hx; exact hb l hl x hx
  have hj : ∀ (u : World), SrcL u sa n L → Calls Tryd.prog 79 #[.slice sa n c] u fun e w' => ∃ s cc, e = .returned (.slice s L.flatten.length cc) ∧ Src w' s L.flatten.length L.flatten ∧ Below u.heap.size u w' := by
    intro u h
    refine (join_any sa n c L u h hN hn).mono ?_
    rintro e w' ⟨v, rfl, h1, h2⟩
    obtain ⟨s, cc, rfl, h3⟩ := own_src h1
    exact ⟨s, cc, rfl, h3, h2⟩
  have hsh := fun (u : World) (s : Option Addr) (c : Nat) (h : Src u s L.flatten.length L.flatten) (hk : Hb.TabK u) => Hb.ref_any s L.flatten.length c L.flatten u h hbf (by omega) hk
  have hh := hash_bytes' L.flatten
  have hl := Hb.hash_len L.flatten
  have hwd : wide L.flatten = hnum (Hb.hash L.flatten) % q := rfl
  rw [hwd]
  obtain ⟨hs', hhs⟩ : ∃ h, h = Hb.hash L.flatten := ⟨_, rfl⟩
  rw [← hhs] at hsh hh hl ⊢
  have hd := dig_hnum hh
  rw [hl] at hd
  have hV := hnum_lt hh
  rw [hl] at hV
  obtain ⟨V, hVe⟩ : ∃ v, v = hnum hs' := ⟨_, rfl⟩
  rw [← hVe] at hd hV ⊢
  generalize hLL : L.flatten.length = m at hj hsh
  have HRED : Hid (∀ (sa : Option Addr) (u : World), Src u sa 64 hs' → TabQ u → Calls Tryd.prog 80 #[.slice sa 64 64] u fun e w' => e = .returned (.agg (arr .u8 (n32 (V % q)))) ∧ Below u.heap.size u w') := Lib.hid (fun sa u h hT => reduce_any sa 64 V u (by rw [hd]; exact h) (by rw [h512]; exact hV) hT)
  obtain ⟨ro, hro⟩ : ∃ r, r = n32 (V % q) := ⟨_, rfl⟩
  rw [← hro] at HRED ⊢
  have HRL : Hid (ro.length = 32) := Lib.hid (by rw [hro]; exact n32_len _)
  have HJ := Lib.hid hj
  have HSH := Lib.hid hsh
  have HSL := Lib.hid hl
  have HS := Lib.hid hs
  have HK := Lib.hid hk
  have HT := Lib.hid hT
  obtain ⟨zn, hzn⟩ : ∃ zs : List Int, zs = List.replicate 32 0 := ⟨_, rfl⟩
  have HZzn : Hid (∀ w, (zeroValue 23).run Tryd.prog w = .ok (.agg (arr .u8 zn)) w) := Lib.hid (by intro w; rw [hzn]; exact zero_num w)
  have HLzn : Hid (zn.length = 32) := Lib.hid (by rw [hzn]; rfl)
  obtain ⟨zs64, hzs64⟩ : ∃ zs : List Int, zs = List.replicate 64 0 := ⟨_, rfl⟩
  have HZzs64 : Hid (∀ w, (zeroValue 25).run Tryd.prog w = .ok (.agg (arr .u8 zs64)) w) := Lib.hid (by intro w; rw [hzs64]; exact Sl.zero_sig w)
  have HLzs64 : Hid (zs64.length = 64) := Lib.hid (by rw [hzs64]; rfl)
  have HS0 := Lib.hid (Blk.one w (arr .u8 zn) 23)
  clear hLL hzn hzs64 hs hb hbf hj hsh hh hl hwd hhs hd hV hVe hro hk hT hN hn
  go_enter Tryd.func33, Tryd.ntmps33
  go_upto_region 1 with (first | ((with_reducible refine aS 2 ?_); refine wpList_alloc_row rfl 23 rfl _ (HZzn.out _) ?_))
  (try simp only [World.size_alloc, Act.put, sA, sZ, sS])
  generalize (w.alloc (.cells (arr .u8 zn) 23)) = wb at HS0 ⊢
  go_upto_region 2 with (first | ((with_reducible show Calls _ 79 _ _ _); go_at_call 79; refine (HJ.out _ (HS.out.below HS0.out.below)).mono ?_; rintro e w1 ⟨sj, cj, rfl, h1, hb1⟩; have HSJ := Lib.hid h1; have HB1 := Lib.hid (HS0.out.kept hb1); clear h1 hb1) | ((with_reducible show Calls _ 78 _ _ _); go_at_call 78; refine (HSH.out _ _ _ HSJ.out (tabk_below HK.out HB1.out.below)).mono ?_; rintro e w2 ⟨rfl, hb2⟩; have HB2 := Lib.hid (HB1.out.kept hb2); clear hb2) | ((with_reducible refine aS 3 ?_); refine wpList_alloc_row rfl 25 rfl _ (HZzs64.out _) ?_; have HB3 := Lib.hid (HB2.out.alloc (arr .u8 zs64) 25); generalize w2.heap.size = g5 at HB3 ⊢; generalize w2.alloc (.cells (arr .u8 zs64) 25) = w3 at HB3 ⊢) | ((with_reducible refine aT 3 ?_); refine wpList_store_whole rfl 25 _ _ rfl (g5) _ _ 25 (HB3.out.get 1 rfl) rfl rfl (arr_len2 _ _ HSL.out HLzs64.out) (Sl.sig_s HSL.out) (all_arr _ _) ?_; intro w4 hb4 hk4 hz4; have HB4 := Lib.hid (HB3.out.put 1 rfl hk4 hb4); clear hb4 hk4 hz4))
  (try simp only [World.size_alloc, Act.put, sA, sZ, sS])
  go_wp2_with (first | ((with_reducible show Calls _ 80 _ _ _); go_at_call 80; refine (HRED.out _ _ (Sl.src_all (HB4.out.get 1 rfl) 64 HSL.out) (HT.out.below HB4.out.below)).mono ?_; rintro e w5 ⟨rfl, hb5⟩; have HB5 := Lib.hid (HB4.out.kept hb5); clear hb5) | ((with_reducible refine aT 2 ?_); refine wpList_store_whole rfl 23 _ _ rfl (w.heap.size) _ _ 23 (HB5.out.get 0 rfl) rfl rfl (arr_len2 _ _ HRL.out HLzn.out) (num_s HRL.out) (all_arr _ _) ?_; intro w6 hb6 hk6 hz6; have HB6 := Lib.hid (HB5.out.put 0 rfl hk6 hb6); clear hb6 hk6 hz6))
  (try simp only [Exit.then])
  refine bodyPost_ret (results_cell_row rfl _ _ (w.heap.size) 23 _ (0, 0) _ rfl (HB6.out.get 0 rfl) Tryd.underlying23 rfl (num_s HRL.out)) rfl ?_
  exact ⟨rfl, HB6.out.below⟩
end Go.Proofs.YtjbgcbmgjdkpgaaDoor.Rd
