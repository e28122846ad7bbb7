/- portcullislaw21.Begin: both flashes, both counters, new. No condition. -/
import Derived.Test.YtoljnogpegemjaaDoorB2
import Derived.Test.YtoljnogpegemjaaDoorRfB
namespace Go.Proofs.YtoljnogpegemjaaDoor.Bk
open Go.RowKit Wr Sl Sm
set_option linter.unusedSimpArgs false
set_option linter.unusedVariables false

theorem zero_pair (w : World) : (zeroValue 53).run Tryd.prog w = .ok (.agg #[.pointer none, .pointer none, .pointer none, .pointer none]) w := by kernel_rfl
theorem pair_i (a b c d : Option Addr) : (Tryd.prog.info? 53).map (·.size) = some (#[Value.pointer a, .pointer b, .pointer c, .pointer d] : Array Value).size := by kernel_rfl
/-- Both flashes, both counters. -/
structure Both (w : World) (p g o pr gr qr : Nat) (r s : List Int) (f : Fl) (c m : Int) : Prop where
  fl : IsFl w p g f
  ot : IsOtp w o (.pointer (some ⟨p, 0, none⟩)) r s c m
  rf : IsRf w pr gr f
  ro : IsRo w qr pr c m
structure Six (B p g o pr gr qr : Nat) : Prop where
  low : B ≤ p ∧ B ≤ g ∧ B ≤ o ∧ B ≤ pr ∧ B ≤ gr ∧ B ≤ qr
  ne : p ≠ g ∧ p ≠ o ∧ p ≠ pr ∧ p ≠ gr ∧ p ≠ qr ∧ g ≠ o ∧ g ≠ pr ∧ g ≠ gr ∧ g ≠ qr ∧ o ≠ pr ∧ o ≠ gr ∧ o ≠ qr ∧ pr ≠ gr ∧ pr ≠ qr ∧ gr ≠ qr
set_option maxRecDepth 100000 in
set_option maxHeartbeats 2000000 in
theorem begins_any (n m : Int) (r s : List Int) (hrl : r.length = 32) (hsl : s.length = 32) (w : World) :
    Calls Tryd.prog 25 #[.int .i64 n, .int .i64 m, .agg (arr .u8 r), .agg (arr .u8 s)] w fun e w' => ∃ p g o pr gr qr,
      e = .returned (.agg #[.pointer (some ⟨p, 0, none⟩), .pointer (some ⟨o, 0, none⟩), .pointer (some ⟨pr, 0, none⟩), .pointer (some ⟨qr, 0, none⟩)]) ∧
      Both w' p g o pr gr qr r s (Fl.new n) 0 (min (max 0 m) 1048576) ∧ Six w.heap.size p g o pr gr qr ∧ Below w.heap.size w w' := by
  have hnew := fun w => new_any n w
  have hrnew := fun w => rnew_any n w
  have hno := fun (a : Option Addr) w => onew_any a r s hrl hsl m w
  have hro := fun (a : Nat) w => ronew_any a m w
  obtain ⟨f0, hf0⟩ : ∃ f, f = Fl.new n := ⟨_, rfl⟩
  rw [← hf0] at hnew hrnew ⊢
  obtain ⟨M, hM⟩ : ∃ M, M = min (max 0 m) 1048576 := ⟨_, rfl⟩
  rw [← hM] at hno hro ⊢
  have HNEW := Lib.hid hnew
  have HRNEW := Lib.hid hrnew
  have HNO := Lib.hid hno
  have HRO := Lib.hid hro
  have HRL := Lib.hid hrl
  have HSL := Lib.hid hsl
  have HZ := Lib.hid zero_pair
  have HB0 := Lib.hid (Blk.three w (arr .u8 r) (arr .u8 s) #[.pointer none, .pointer none, .pointer none, .pointer none] 23 23 53)
  clear hnew hrnew hno hro hf0 hM hrl hsl
  go_enter Tryd.func25, Tryd.ntmps25
  go_upto_region 1 with ((with_reducible show wpList _ _ _ (Oper.mk (some 8) _ _ _ _ _ :: _) _ _); refine wpList_alloc_row rfl 53 rfl _ (HZ.out _) ?_)
  (try simp only [World.size_alloc, Act.put, List.setIfInBounds_toArray, List.set_cons_zero, List.set_cons_succ])
  generalize (((w.alloc (.cells (arr .u8 r) 23)).alloc (.cells (arr .u8 s) 23)).alloc (.cells #[.pointer none, .pointer none, .pointer none, .pointer none] 53)) = wb at HB0 ⊢
  go_upto_region 2 with (go_at_call 43; refine (HNEW.out _).mono ?_; rintro e w1 ⟨p, g, rfl, hf1, hp, hg, hb1⟩; have HF1 := Lib.hid hf1; have HPG := Lib.hid (And.intro hp hg); have HB1 := Lib.hid (HB0.out.kept hb1); clear hf1 hp hg hb1)
  go_upto_region 3 with (go_at_call 75; refine (HRNEW.out _).mono ?_; rintro e w2 ⟨pr, gr, rfl, hf2, hp, hg, hb2⟩; have HF2 := Lib.hid hf2; have HPR := Lib.hid (And.intro hp hg); have HG1 := Lib.hid (HF1.out.below hb2); have HB2 := Lib.hid (HB1.out.kept hb2); have HZ2 := Lib.hid hb2.size; clear hf2 hp hg hb2)
  go_wp2_with (first | ((with_reducible show wpList _ _ _ (Oper.mk (some 17) _ _ _ _ _ :: _) _ _); refine wpList_load_part rfl 23 _ rfl (w.heap.size) 0 _ 23 (0, 0) _ (HB2.out.get 0 rfl) rfl .u8 r (arr_part _ _) Tryd.underlying23 rfl (num_i HRL.out) ?_) | ((with_reducible show wpList _ _ _ (Oper.mk (some 18) _ _ _ _ _ :: _) _ _); refine wpList_load_part rfl 23 _ rfl (w.heap.size + 1) 0 _ 23 (0, 0) _ (HB2.out.get 1 rfl) rfl .u8 s (arr_part _ _) Tryd.underlying23 rfl (num_i HSL.out) ?_) | (go_at_call 66; refine (HNO.out _ _).mono ?_; rintro e w3 ⟨o, rfl, ho3, hq3, hb3⟩; have HO3 := Lib.hid ho3; have HG2 := Lib.hid (HG1.out.below hb3); have HR2 := Lib.hid (HF2.out.below hb3); have HB3 := Lib.hid (HB2.out.kept hb3); have HQ3 := Lib.hid hq3; have HZ3 := Lib.hid hb3.size; clear ho3 hq3 hb3) | (go_at_call 76; refine (HRO.out _ _).mono ?_; rintro e w4 ⟨qr, rfl, ho4, hq4, hb4⟩; have HRO4 := Lib.hid ho4; have HG3 := Lib.hid (HG2.out.below hb4); have HR3 := Lib.hid (HR2.out.below hb4); have HO4 := Lib.hid (HO3.out.below hb4); have HB4 := Lib.hid (HB3.out.kept hb4); have HQ4 := Lib.hid hq4; clear ho4 hq4 hb4) | ((with_reducible show wpList _ _ _ (Oper.mk none _ _ _ _ _ :: _) _ _); refine wpList_store_whole rfl 53 _ _ rfl (w.heap.size + 1 + 1) _ _ 53 (HB4.out.get 2 rfl) rfl rfl rfl (pair_i _ _ _ _) (by simp [Value.oneCell', Value.cells]) ?_; intro w5 hb5 hk5 hz5; have HB5 := Lib.hid (HB4.out.put 2 rfl hk5 hb5); have HK5 := Lib.hid hk5; clear hb5 hk5 hz5))
  (try simp only [Exit.then])
  have hlow := HB0.out.lt 2 rfl
  have h1 := HG1.out.lt
  have h2 := HF2.out.lt
  have h3 := HF1.out.lt
  have h4 := HF1.out.ne
  have h5 := HF2.out.ne
  have h6 := HPG.out
  have h7 := HPR.out
  have h8 := HQ3.out
  have h9 := HQ4.out
  have h10 := blk_lt HO3.out.1
  have h11 := HZ2.out
  have h12 := HZ3.out
  refine bodyPost_ret (results_cell_row rfl _ _ (w.heap.size + 1 + 1) 53 _ (0, 0) _ rfl (HB5.out.get 2 rfl) Tryd.underlying53 rfl (pair_i _ _ _ _)) rfl ?_
  refine ⟨p, g, o, pr, gr, qr, rfl, ⟨HG3.out.kept HK5.out (by omega) (by omega), HO4.out.kept HK5.out (by omega), HR3.out.kept HK5.out (by omega) (by omega), HRO4.out.kept HK5.out (by omega)⟩, ⟨by omega, by omega⟩, HB5.out.below⟩
end Go.Proofs.YtoljnogpegemjaaDoor.Bk
