/- issue.Of: the secrets of a seed. No condition. -/
import Derived.Test.YtgnkamcockmhiaaDoorHaE
import Derived.Test.YtgnkamcockmhiaaDoorPak
import Derived.Test.YtgnkamcockmhiaaDoorStr
namespace Go.Proofs.YtgnkamcockmhiaaDoor.Is
open Go.RowKit

def setC (a b c d : List Int) : Array Value := arr .u8 (a ++ b ++ c ++ d)
theorem zeroSet (w : World) : (zeroValue 26).run Tryd.prog w = .ok (.agg (arr .u8 (List.replicate 128 0))) w := by kernel_rfl
theorem build_set (a b c d : List Int) (ha : a.length = 32) (hb : b.length = 32) (hc : c.length = 32) (hd : d.length = 32) (w : World) :
    (Instr.build 26 #[(0, .agg (arr .u8 a)), (1, .agg (arr .u8 b)), (2, .agg (arr .u8 c)), (3, .agg (arr .u8 d))]).run Tryd.prog w = .ok (.agg (setC a b c d)) w := by
  unfold Instr.build
  simp only [Sem.run_bind, zeroSet, Result.andThen_ok, run_underlying Tryd.underlying26]
  refine (congrArg (fun R => Result.andThen R _) (show _ = Result.ok #[((0 : Nat), 32), (32, 32), (2 * 32, 32), (3 * 32, 32)] w from ?h)).trans ?_
  case h => kernel_rfl
  simp only [Result.andThen_ok]
  rw [show (Value.agg (arr .u8 (List.replicate 128 0))).cells = arr .u8 (List.replicate 128 0) from rfl, fill4 .u8 32 a b c d (List.replicate 128 0) ha hb hc hd (by simp)]
  rfl
theorem setC_size {a b c d : List Int} (ha : a.length = 32) (hb : b.length = 32) (hc : c.length = 32) (hd : d.length = 32) : (setC a b c d).size = 128 := by simp [setC, arr_size, ha, hb, hc, hd]
theorem info_set : (Tryd.prog.info? 26).map (·.size) = some 128 := by kernel_rfl
theorem info_num : (Tryd.prog.info? 24).map (·.size) = some 32 := by kernel_rfl
theorem zeroNum (w : World) : (zeroValue 24).run Tryd.prog w = .ok (.agg (arr .u8 (List.replicate 32 0))) w := by kernel_rfl

/-- A list of two, laid in a block of its own. -/
theorem srcL_two {w : World} {s1 s2 : Option Addr} {n1 n2 c1 c2 : Nat} {x1 x2 : List Int} (h1 : Src w s1 n1 x1) (h2 : Src w s2 n2 x2) (l1 : n1 ≤ c1) (l2 : n2 ≤ c2) :
    SrcL (w.alloc (.cells #[.slice s1 n1 c1, .slice s2 n2 c2] 39)) (some ⟨w.heap.size, 0, none⟩) 2 [x1, x2] := by
  have hb := blk_new w (.cells #[.slice s1 n1 c1, .slice s2 n2 c2] 39)
  have hbl := (Below.refl _ w).alloc (Nat.le_refl _) (.cells #[.slice s1 n1 c1, .slice s2 n2 c2] 39)
  refine ⟨rfl, fun i hi => ?_⟩
  have e1 : ∀ i, (⟨w.heap.size, 0, none⟩ : Addr).add i = ⟨w.heap.size, i, none⟩ := fun i => by unfold Addr.add; split <;> simp_all
  have : i = 0 ∨ i = 1 := by omega
  rcases this with rfl | rfl
  · exact ⟨_, s1, c1, rfl, by rw [e1, cell_blk hb]; show some _ = some _; rw [show ([x1, x2].getD 0 []).length = n1 from h1.len]; rfl, by rw [show ([x1, x2].getD 0 []).length = n1 from h1.len]; exact l1, by rw [show ([x1, x2].getD 0 []).length = n1 from h1.len]; exact h1.below hbl⟩
  · exact ⟨_, s2, c2, rfl, by rw [e1, cell_blk hb]; show some _ = some _; rw [show ([x1, x2].getD 1 []).length = n2 from h2.len]; rfl, by rw [show ([x1, x2].getD 1 []).length = n2 from h2.len]; exact l2, by rw [show ([x1, x2].getD 1 []).length = n2 from h2.len]; exact h2.below hbl⟩

def secret (seed : Int) (s : ByteArray) : List Int := Ha.hash (be8 seed ++ sbytes s)
theorem secret_len (seed : Int) (s : ByteArray) : (secret seed s).length = 32 := Ha.hash_len _

set_option maxRecDepth 100000 in
set_option maxHeartbeats 2000000 in
theorem clo_any (s : ByteArray) (seed : Int) (g : Nat) (w : World) (hs : s.size ≤ 1000) (hg : w.heap[g]? = some (.cells #[.int .i64 seed] 3 (0, 0))) :
    Calls Tryd.prog 26 #[.string s, .pointer (some ⟨g, 0, none⟩)] w fun e w' => e = .returned (.agg (arr .u8 (secret seed s))) ∧ Below w.heap.size w w' := by
  obtain ⟨zs, hzs⟩ : ∃ zs : List Int, zs = List.replicate 32 0 := ⟨_, rfl⟩
  have hz : ∀ w, (zeroValue 24).run Tryd.prog w = .ok (.agg (arr .u8 zs)) w := by intro w; rw [hzs]; exact zeroNum w
  have hzl : zs.length = 32 := by rw [hzs]; rfl
  obtain ⟨w1, hw1⟩ : ∃ x, x = w.alloc (.cells (arr .u8 zs) 24) := ⟨_, rfl⟩
  have x0 : w1.cell? ⟨g, 0, none⟩ = some (.int .i64 seed) := by rw [hw1, cell_blk (blk_alloc hg _)]; rfl
  have hr1 : w1.heap[w.heap.size]? = some (.cells (arr .u8 zs) 24 (0, 0)) := by rw [hw1]; exact blk_new w _
  have hb1 : Below w.heap.size w w1 := by rw [hw1]; exact (Below.refl _ w).alloc (Nat.le_refl _) _
  have MP := pint_any none (some ⟨w1.heap.size, 0, none⟩) 0 0 1 1 [] [seed] (w1.alloc (.cells #[.int .i64 seed] 3)) ⟨rfl, fun i hi => absurd hi (by omega)⟩ (srcI_one w1 seed) (by omega) (by omega)
  rw [show packL [] [seed] = be8 seed by simp [packL], World.size_alloc] at MP
  have hbl := be8_len seed
  have hbb := be8_bytes seed
  obtain ⟨b8, hb8⟩ : ∃ x, x = be8 seed := ⟨_, rfl⟩
  have hse : secret seed s = Ha.hash (b8 ++ sbytes s) := by rw [secret, hb8]
  rw [← hb8] at MP hbl hbb
  have MS := fun sa w (h : SrcL w sa 2 [b8, sbytes s]) => Ha.sum_any sa 2 2 [b8, sbytes s] w h (by intro l hl; simp only [List.mem_cons, List.not_mem_nil, or_false] at hl; rcases hl with rfl | rfl; exact hbb; exact bytes_sbytes s) (by simp [sbytes_len, hbl]; omega) (by omega)
  rw [show [b8, sbytes s].flatten = b8 ++ sbytes s by simp, ← hse] at MS
  have hsl := secret_len seed s
  obtain ⟨out, hout⟩ : ∃ x, x = secret seed s := ⟨_, rfl⟩
  rw [← hout] at MS hsl ⊢
  have HZ := Lib.hid hz
  have HZL := Lib.hid hzl
  have HW1 := Lib.hid hw1.symm
  have HR1 := Lib.hid hr1
  have HB1 := Lib.hid hb1
  have HMP := Lib.hid MP
  have HMS := Lib.hid MS
  have HBL := Lib.hid hbl
  have HSL := Lib.hid hsl
  clear hz hzl hw1 hr1 hb1 MP MS hbl hbb hsl hzs hb8 hse hout hg hs
  go_enter Tryd.func26, Tryd.ntmps26
  go_wp2_with (first | ((with_reducible show wpList _ _ _ (Oper.mk (some 3) _ _ _ _ _ :: _) _ _); refine wpList_alloc_row rfl 24 rfl _ (HZ.out _) ?_; rw [HW1.out]) | ((with_reducible show Calls _ _ #[.slice none 0 0, _] _ _); go_at_call 28; refine HMP.out.mono ?_; rintro e w2 ⟨v2, rfl, ho2, hb2⟩; obtain ⟨s2, c2, hv2, hc2, -, hs2, -⟩ := ho2.form; rw [HBL.out] at hv2 hc2 hs2; subst hv2; have hb2' := HB1.out.trans ((((Below.refl _ w1).alloc (Nat.le_refl _) (.cells #[.int .i64 seed] 3)).trans (hb2.mono (Nat.le_succ _))).mono HB1.out.size); have HB2 := Lib.hid hb2'; have HR2 := Lib.hid (Below.blk hb2 (blk_alloc HR1.out (.cells #[.int .i64 seed] 3)) (by have := blk_lt HR1.out; omega)); have hx2 := hs2.below (conv_str_below w2 s); have HL2 := Lib.hid (srcL_two hx2 (conv_str_src w2 s) hc2 (conv_str_cap w2 s)); have HB2' := Lib.hid ((HB2.out.trans ((conv_str_below w2 s).mono HB2.out.size)).alloc (Nat.le_trans HB2.out.size (conv_str_below w2 s).size) (.cells #[.slice s2 8 c2, .slice (some ⟨w2.heap.size, 0, none⟩) s.size (grownCap w2 s.size 0 5)] 39)); have HR2' := Lib.hid (blk_alloc (Below.blk (conv_str_below w2 s) HR2.out (blk_lt HR2.out)) (.cells #[.slice s2 8 c2, .slice (some ⟨w2.heap.size, 0, none⟩) s.size (grownCap w2 s.size 0 5)] 39)); have hcv := conv_str s w2; obtain ⟨wb, hwb⟩ : ∃ x, x = Lib.bytesWorld w2 5 s := ⟨_, rfl⟩; rw [← hwb] at HL2 HB2' HR2' hcv; generalize grownCap w2 s.size 0 5 = gc at HL2 HB2' HR2' hcv; clear ho2 hb2 hb2' hs2 hc2 hx2 hwb) | ((with_reducible show Calls _ _ #[.slice _ 2 _] _ _); go_at_call 27; refine (HMS.out _ _ HL2.out).mono ?_; rintro e w3 ⟨rfl, hb3⟩; have HB3 := Lib.hid (HB2'.out.trans (hb3.mono HB2'.out.size)); have HR3 := Lib.hid (Below.blk hb3 HR2'.out (blk_lt HR2'.out)); clear hb3) | ((with_reducible show wpList _ _ _ (Oper.mk none _ _ _ _ _ :: _) _ _); refine wpList_store_whole rfl 24 _ _ rfl w.heap.size _ _ 24 HR3.out rfl rfl (by rw [arr_size, arr_size, HSL.out, HZL.out]) (by rw [arr_size, HSL.out]; exact info_num) (all_arr _ _) ?_; intro w4 hb4 hk4 hz4; have HR4 := Lib.hid hb4; have HB4 := Lib.hid (HB3.out.trans (hk4.toBelow HB3.out.size (by rintro i rfl; exact Nat.le_refl _))); clear hb4 hk4 hz4))
  (try simp only [Exit.inBlock, Exit.then])
  refine bodyPost_ret (results_cell_row rfl _ _ w.heap.size 24 _ (0, 0) _ rfl HR4.out Tryd.underlying24 rfl (by rw [arr_size, HSL.out]; exact info_num)) rfl ?_
  exact ⟨rfl, HB4.out⟩
end Go.Proofs.YtgnkamcockmhiaaDoor.Is
