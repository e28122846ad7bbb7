/- portcullislaw18: ImageOpens. No condition beyond the arguments' own. -/
import Derived.Test.YtdaaigodpglnnaaImF
import Derived.Test.YtdaaigodpglnnaaImgB
namespace Go.Proofs.Ytdaaigodpglnnaa.Im
open Go.RowKit Lm Po Ch Ae

structure B1 (w wr : World) (c0 : Array Value) (t0 : TypeId) : Prop where
  b0 : wr.heap[w.heap.size]? = some (.cells c0 t0 (0, 0))
  below : Below w.heap.size w wr
theorem B1.start (w : World) (c0 : Array Value) (t0 : TypeId) : B1 w (w.alloc (.cells c0 t0)) c0 t0 := ⟨blk_new w _, (Below.refl _ w).alloc (Nat.le_refl _) _⟩
theorem B1.after {w wr w' : World} {c0 : Array Value} {t0 : TypeId} (h : B1 w wr c0 t0) (k : Below wr.heap.size wr w') : B1 w w' c0 t0 := ⟨Below.blk k h.b0 (blk_lt h.b0), h.below.trans (k.mono h.below.size)⟩
set_option maxRecDepth 100000 in
set_option maxHeartbeats 4000000 in
theorem opens_any (key : List Int) (v i : Int) (hk : key.length = 32) (bk : bytes key) (pa pb : Option Addr) (lp cp lb cb : Nat) (zp zb : List Int) (w : World) (h1 : RowI .u8 w pa lp cp zp) (h2 : RowI .u8 w pb lb cb zb) :
    Calls Try.prog 10 #[.agg (arr .u8 key), .int .i64 v, .int .i64 i, .slice pa lp cp, .slice pb lb cb] w fun e w' => e = .returned (.bool true) ∧ Below w.heap.size w w' := by
  obtain ⟨hs1, bs1, k1⟩ := h1.src
  obtain ⟨hs2, bs2, k2⟩ := h2.src
  have S0 := B1.start w (arr .u8 key) 35
  have HS0 := Lib.hid S0
  clear h1 h2
  generalize zp.take lp = xs at hs1 bs1
  generalize zb.take lb = ys at hs2 bs2
  by_cases e0 : (200 : Int) < (lp : Int)
  · clear hs1 bs1 k1 hs2 bs2 k2 S0 hk bk
    go_enter Try.func10, Try.ntmps10
    go_wp2_with (first | ((with_reducible show Calls _ _ #[] _ _); go_at_call 13; refine (alive18_any _).mono ?_; rintro e w1 ⟨rfl, hb1⟩; have HB1 := Lib.hid (HS0.out.after hb1);  clear hb1))
    go_ret
    exact ⟨rfl, HB1.out.below⟩
  by_cases e1 : (200 : Int) < (lb : Int)
  · clear hs1 bs1 k1 hs2 bs2 k2 S0 hk bk
    go_enter Try.func10, Try.ntmps10
    go_wp2_with (first | ((with_reducible show Calls _ _ #[] _ _); go_at_call 13; refine (alive18_any _).mono ?_; rintro e w1 ⟨rfl, hb1⟩; have HB1 := Lib.hid (HS0.out.after hb1);  clear hb1))
    go_ret
    exact ⟨rfl, HB1.out.below⟩
  have M1 := fun w s => iopen_any key xs v i pa lp cp w hk bk s bs1 k1
  have M2 := fun w s => robl_any key xs v i pa lp cp w hk bk s bs1 k1
  have M3 := fun w s => iseal_any key ys v i pb lb cb w hk bk s k2
  have M4 := fun w s => rblock_any key ys v i pb lb cb w hk bk s k2
  generalize openX key v i xs = ox at M1 M2
  generalize openE key v i xs = oe at M1 M2
  generalize sealX key v i ys = sx at M3 M4
  generalize sealE v i ys = se at M3 M4
  have e0' : ¬ ((200 : Int) < (lp : Int)) := e0
  have e1' : ¬ ((200 : Int) < (lb : Int)) := e1
  have HX := Lib.hid (hs1.below S0.below)
  have HY := Lib.hid (hs2.below S0.below)
  have HK := Lib.hid hk
  have HM1 := Lib.hid M1
  have HM2 := Lib.hid M2
  have HM3 := Lib.hid M3
  have HM4 := Lib.hid M4
  clear M1 M2 M3 M4 S0 hk bk hs1 hs2 bs1 bs2 k1 k2
  go_enter Try.func10, Try.ntmps10
  go_wp2_with (first | ((with_reducible show Calls _ _ #[] _ _); go_at_call 13; refine (alive18_any _).mono ?_; rintro e w1 ⟨rfl, hb1⟩; have HB1 := Lib.hid (HS0.out.after hb1); have HX1 := Lib.hid (HX.out.below hb1); have HY1 := Lib.hid (HY.out.below hb1); clear hb1) | ((with_reducible show wpList _ _ _ (Oper.mk (some 35) _ _ _ _ _ :: _) _ _); refine wpList_load_part rfl 35 _ rfl w.heap.size 0 _ 35 (0, 0) _ HB1.out.b0 rfl .u8 key (arr_part _ _) Try.underlying35 rfl (by rw [HK.out]; exact size32) ?_) | ((with_reducible show wpList _ _ _ (Oper.mk (some 43) _ _ _ _ _ :: _) _ _); refine wpList_load_part rfl 35 _ rfl w.heap.size 0 _ 35 (0, 0) _ HB2.out.b0 rfl .u8 key (arr_part _ _) Try.underlying35 rfl (by rw [HK.out]; exact size32) ?_) | ((with_reducible show wpList _ _ _ (Oper.mk (some 51) _ _ _ _ _ :: _) _ _); refine wpList_load_part rfl 35 _ rfl w.heap.size 0 _ 35 (0, 0) _ HB3.out.b0 rfl .u8 key (arr_part _ _) Try.underlying35 rfl (by rw [HK.out]; exact size32) ?_) | ((with_reducible show wpList _ _ _ (Oper.mk (some 59) _ _ _ _ _ :: _) _ _); refine wpList_load_part rfl 35 _ rfl w.heap.size 0 _ 35 (0, 0) _ HB4.out.b0 rfl .u8 key (arr_part _ _) Try.underlying35 rfl (by rw [HK.out]; exact size32) ?_) | ((with_reducible show Calls _ _ #[.agg _, _, _, _] w1 _); go_at_call 27; refine (HM1.out _ HX1.out).mono ?_; rintro e w2 ⟨v2, rfl, ho2, hb2⟩; obtain ⟨s2, c2, hv2, -⟩ := ho2.form; subst hv2; have HB2 := Lib.hid (HB1.out.after hb2); have HX2 := Lib.hid (HX1.out.below hb2); have HY2 := Lib.hid (HY1.out.below hb2); have HO2_2 := Lib.hid ho2; clear ho2 hb2) | ((with_reducible show Calls _ _ #[.agg _, _, _, _] w2 _); go_at_call 28; refine (HM2.out _ HX2.out).mono ?_; rintro e w3 ⟨v3, rfl, ho3, hb3⟩; obtain ⟨s3, c3, hv3, -⟩ := ho3.form; subst hv3; have HB3 := Lib.hid (HB2.out.after hb3); have HX3 := Lib.hid (HX2.out.below hb3); have HY3 := Lib.hid (HY2.out.below hb3); have HO3_3 := Lib.hid ho3; have HO2_3 := Lib.hid (HO2_2.out.below hb3); clear ho3 hb3) | ((with_reducible show Calls _ _ #[.agg _, _, _, _] w3 _); go_at_call 29; refine (HM3.out _ HY3.out).mono ?_; rintro e w4 ⟨v4, rfl, ho4, hb4⟩; obtain ⟨s4, c4, hv4, -⟩ := ho4.form; subst hv4; have HB4 := Lib.hid (HB3.out.after hb4); have HX4 := Lib.hid (HX3.out.below hb4); have HY4 := Lib.hid (HY3.out.below hb4); have HO4_4 := Lib.hid ho4; have HO2_4 := Lib.hid (HO2_3.out.below hb4); have HO3_4 := Lib.hid (HO3_3.out.below hb4); clear ho4 hb4) | ((with_reducible show Calls _ _ #[.agg _, _, _, _] w4 _); go_at_call 30; refine (HM4.out _ HY4.out).mono ?_; rintro e w5 ⟨v5, rfl, ho5, hb5⟩; obtain ⟨s5, c5, hv5, -⟩ := ho5.form; subst hv5; have HB5 := Lib.hid (HB4.out.after hb5); have HX5 := Lib.hid (HX4.out.below hb5); have HY5 := Lib.hid (HY4.out.below hb5); have HO5_5 := Lib.hid ho5; have HO2_5 := Lib.hid (HO2_4.out.below hb5); have HO3_5 := Lib.hid (HO3_4.out.below hb5); have HO4_5 := Lib.hid (HO4_4.out.below hb5); have q2 := HO2_5.out.str; have q3 := HO3_5.out.str; have q4 := HO4_5.out.str; have q5 := HO5_5.out.str; clear ho5 hb5) | ((with_reducible show Calls _ _ #[.int _ _] _ _); go_at_call 16; refine (num18_any _ _).mono ?_; rintro e w9 ⟨rfl, rfl⟩))
  go_ret
  exact ⟨rfl, HB5.out.below⟩
end Go.Proofs.Ytdaaigodpglnnaa.Im
