/- portcullislaw11: AeadShort, AeadOpens, AeadTurned. No condition beyond the arguments' own. -/
import Derived.Test.YtdaaigodpglnnaaAeH
namespace Go.Proofs.Ytdaaigodpglnnaa.Ae
open Go.RowKit Lm Po Ch

theorem num11_b (e : Int) (w : World) : Calls Try.prog 22 #[.int .i64 e] w fun r w' => r = .returned (.int .i64 e) ∧ Below w.heap.size w w' :=
  (num11_any e w).mono fun _ _ h => ⟨h.1, h.2 ▸ Below.refl _ _⟩
theorem okay_short (key nonce b beside : List Int) (h : b.length < 16) : okay key nonce b beside = false := by
  unfold okay
  rw [decide_eq_false_iff_not]
  omega
theorem opened_not (key nonce b beside : List Int) (h : okay key nonce b beside = false) : opened key nonce b beside = [] := by unfold opened; rw [h]; rfl

set_option maxRecDepth 100000 in
set_option maxHeartbeats 4000000 in
theorem short_any (key nonce : List Int) (hk : key.length = 32) (hn : nonce.length = 12) (bk : bytes key) (bn : bytes nonce) (pa pb : Option Addr) (lp cp lb cb : Nat) (zp zb : List Int) (w : World) (h1 : RowI .u8 w pa lp cp zp) (h2 : RowI .u8 w pb lb cb zb) :
    Calls Try.prog 9 #[.agg (arr .u8 key), .agg (arr .u8 nonce), .slice pa lp cp, .slice pb lb cb] w fun e w' => e = .returned (.bool true) ∧ Below w.heap.size w w' := by
  obtain ⟨hs1, bs1, k1⟩ := h1.src
  obtain ⟨hs2, bs2, k2⟩ := h2.src
  have S0 := B2.start w (arr .u8 key) (arr .u8 nonce) 35 37
  have HS0 := Lib.hid S0
  clear h1 h2
  generalize zp.take lp = xs at hs1 bs1
  generalize zb.take lb = ys at hs2 bs2
  by_cases e0 : (15 : Int) < (lp : Int)
  · clear hs1 bs1 k1 hs2 bs2 k2 S0 hk hn bk bn
    go_enter Try.func9, Try.ntmps9
    go_wp2_with (first | ((with_reducible show Calls _ _ #[] _ _); go_at_call 18; refine (alive11_any _).mono ?_; rintro e w1 ⟨rfl, hb1⟩; have HB1 := Lib.hid (HS0.out.after hb1);  clear hb1))
    go_ret
    exact ⟨rfl, HB1.out.below⟩
  by_cases e1 : (300 : Int) < (lb : Int)
  · clear hs1 bs1 k1 hs2 bs2 k2 S0 hk hn bk bn
    go_enter Try.func9, Try.ntmps9
    go_wp2_with (first | ((with_reducible show Calls _ _ #[] _ _); go_at_call 18; refine (alive11_any _).mono ?_; rintro e w1 ⟨rfl, hb1⟩; have HB1 := Lib.hid (HS0.out.after hb1);  clear hb1))
    go_ret
    exact ⟨rfl, HB1.out.below⟩
  have hl : lp < 16 := by omega
  have hno := okay_short key nonce xs ys (by rw [hs1.len]; exact hl)
  have hnn := opened_not key nonce xs ys hno
  have M := fun w s1 s2 => open_any key nonce xs ys pa pb lp lb cp cb w hk hn bk bn s1 s2 bs1 bs2 (by omega) (by omega) k1 k2
  rw [hno, hnn] at M
  have e0' : ¬ ((15 : Int) < (lp : Int)) := e0
  have e1' : ¬ ((300 : Int) < (lb : Int)) := e1
  have HM := Lib.hid M
  have HX := Lib.hid (hs1.below S0.below)
  have HY := Lib.hid (hs2.below S0.below)
  have HK := Lib.hid hk
  have HN := Lib.hid hn
  clear M hno hnn hs1 bs1 k1 hs2 bs2 k2 S0 hk hn bk bn hl
  go_enter Try.func9, Try.ntmps9
  go_wp2_with (first | ((with_reducible show Calls _ _ #[] _ _); go_at_call 18; refine (alive11_any _).mono ?_; rintro e w1 ⟨rfl, hb1⟩; have HB1 := Lib.hid (HS0.out.after hb1); have HX1 := Lib.hid (HX.out.below hb1); have HY1 := Lib.hid (HY.out.below hb1); clear hb1) | ((with_reducible show wpList _ _ _ (Oper.mk (some 27) _ _ _ _ _ :: _) _ _); refine wpList_load_part rfl 35 _ rfl w.heap.size 0 _ 35 (0, 0) _ HB1.out.b0 rfl .u8 key (arr_part _ _) Try.underlying35 rfl (by rw [HK.out]; exact size32) ?_) | ((with_reducible show wpList _ _ _ (Oper.mk (some 28) _ _ _ _ _ :: _) _ _); refine wpList_load_part rfl 37 _ rfl (w.heap.size + 1) 0 _ 37 (0, 0) _ HB1.out.b1 rfl .u8 nonce (arr_part _ _) Try.underlying37 rfl (by rw [HN.out]; exact size12) ?_) | ((with_reducible show Calls _ _ #[.agg _, .agg _, _, _] w1 _); go_at_call 20; refine (HM.out _ HX1.out HY1.out).mono ?_; rintro e w2 ⟨v2, rfl, ho2, hb2⟩; obtain ⟨s2, c2, hv2, -⟩ := ho2.form; subst hv2; have HB2 := Lib.hid (HB1.out.after hb2); clear ho2 hb2) | ((with_reducible show Calls _ _ #[.int _ _] _ _); go_at_call 22; refine (num11_any _ _).mono ?_; rintro e w9 ⟨rfl, rfl⟩))
  go_ret
  exact ⟨rfl, HB2.out.below⟩

set_option maxRecDepth 100000 in
set_option maxHeartbeats 4000000 in
theorem opens_any (key nonce : List Int) (hk : key.length = 32) (hn : nonce.length = 12) (bk : bytes key) (bn : bytes nonce) (pa pb : Option Addr) (lp cp lb cb : Nat) (zp zb : List Int) (w : World) (h1 : RowI .u8 w pa lp cp zp) (h2 : RowI .u8 w pb lb cb zb) :
    Calls Try.prog 6 #[.agg (arr .u8 key), .agg (arr .u8 nonce), .slice pa lp cp, .slice pb lb cb] w fun e w' => e = .returned (.bool true) ∧ Below w.heap.size w w' := by
  obtain ⟨hs1, bs1, k1⟩ := h1.src
  obtain ⟨hs2, bs2, k2⟩ := h2.src
  have S0 := B2.start w (arr .u8 key) (arr .u8 nonce) 35 37
  have HS0 := Lib.hid S0
  clear h1 h2
  generalize zp.take lp = xs at hs1 bs1
  generalize zb.take lb = ys at hs2 bs2
  by_cases e0 : (1000 : Int) < (lp : Int)
  · clear hs1 bs1 k1 hs2 bs2 k2 S0 hk hn bk bn
    go_enter Try.func6, Try.ntmps6
    go_wp2_with (first | ((with_reducible show Calls _ _ #[] _ _); go_at_call 18; refine (alive11_any _).mono ?_; rintro e w1 ⟨rfl, hb1⟩; have HB1 := Lib.hid (HS0.out.after hb1);  clear hb1))
    go_ret
    exact ⟨rfl, HB1.out.below⟩
  by_cases e1 : (500 : Int) < (lb : Int)
  · clear hs1 bs1 k1 hs2 bs2 k2 S0 hk hn bk bn
    go_enter Try.func6, Try.ntmps6
    go_wp2_with (first | ((with_reducible show Calls _ _ #[] _ _); go_at_call 18; refine (alive11_any _).mono ?_; rintro e w1 ⟨rfl, hb1⟩; have HB1 := Lib.hid (HS0.out.after hb1);  clear hb1))
    go_ret
    exact ⟨rfl, HB1.out.below⟩
  have M := fun w s1 s2 => open_any key nonce xs ys pa pb lp lb cp cb w hk hn bk bn s1 s2 bs1 bs2 (by omega) (by omega) k1 k2
  have R := fun w s1 s2 => ropen_any key nonce xs ys pa pb lp lb cp cb w hk hn bk bn s1 s2 bs1 bs2 (by omega) (by omega) k1
  have e0' : ¬ ((1000 : Int) < (lp : Int)) := e0
  have e1' : ¬ ((500 : Int) < (lb : Int)) := e1
  have HX := Lib.hid (hs1.below S0.below)
  have HY := Lib.hid (hs2.below S0.below)
  have HK := Lib.hid hk
  have HN := Lib.hid hn
  by_cases hok : okay key nonce xs ys = true
  · rw [hok, if_pos rfl] at M
    rw [hok] at R
    generalize opened key nonce xs ys = op at M R
    have HM := Lib.hid M
    have HR := Lib.hid R
    clear M R hok hs1 bs1 k1 hs2 bs2 k2 S0 hk hn bk bn
    go_enter Try.func6, Try.ntmps6
    go_wp2_with (first | ((with_reducible show Calls _ _ #[] _ _); go_at_call 18; refine (alive11_any _).mono ?_; rintro e w1 ⟨rfl, hb1⟩; have HB1 := Lib.hid (HS0.out.after hb1); have HX1 := Lib.hid (HX.out.below hb1); have HY1 := Lib.hid (HY.out.below hb1); clear hb1) | ((with_reducible show wpList _ _ _ (Oper.mk (some 29) _ _ _ _ _ :: _) _ _); refine wpList_load_part rfl 35 _ rfl w.heap.size 0 _ 35 (0, 0) _ HB1.out.b0 rfl .u8 key (arr_part _ _) Try.underlying35 rfl (by rw [HK.out]; exact size32) ?_) | ((with_reducible show wpList _ _ _ (Oper.mk (some 30) _ _ _ _ _ :: _) _ _); refine wpList_load_part rfl 37 _ rfl (w.heap.size + 1) 0 _ 37 (0, 0) _ HB1.out.b1 rfl .u8 nonce (arr_part _ _) Try.underlying37 rfl (by rw [HN.out]; exact size12) ?_) | ((with_reducible show Calls _ _ #[.agg _, .agg _, _, _] w1 _); go_at_call 20; refine (HM.out _ HX1.out HY1.out).mono ?_; rintro e w2 ⟨v2, rfl, ho2, hb2⟩; obtain ⟨s2, c2, hv2, -⟩ := ho2.form; subst hv2; have HB2 := Lib.hid (HB1.out.after hb2); have HO2 := Lib.hid ho2; have HX2 := Lib.hid (HX1.out.below hb2); have HY2 := Lib.hid (HY1.out.below hb2); clear ho2 hb2) | ((with_reducible show wpList _ _ _ (Oper.mk (some 37) _ _ _ _ _ :: _) _ _); refine wpList_load_part rfl 35 _ rfl w.heap.size 0 _ 35 (0, 0) _ HB2.out.b0 rfl .u8 key (arr_part _ _) Try.underlying35 rfl (by rw [HK.out]; exact size32) ?_) | ((with_reducible show wpList _ _ _ (Oper.mk (some 38) _ _ _ _ _ :: _) _ _); refine wpList_load_part rfl 37 _ rfl (w.heap.size + 1) 0 _ 37 (0, 0) _ HB2.out.b1 rfl .u8 nonce (arr_part _ _) Try.underlying37 rfl (by rw [HN.out]; exact size12) ?_) | ((with_reducible show Calls _ _ #[.agg _, .agg _, _, _] w2 _); go_at_call 23; refine (HR.out _ HX2.out HY2.out).mono ?_; rintro e w3 ⟨v3, rfl, ho3, hb3⟩; obtain ⟨s3, c3, hv3, -⟩ := ho3.form; subst hv3; have HB3 := Lib.hid (HB2.out.after hb3); have q2 := (HO2.out.below hb3).str; have q3 := ho3.str; generalize strOfNums op = st at q2 q3; generalize op.length = ol at q2 q3 ⊢; clear ho3 hb3) | ((with_reducible show Calls _ _ #[.int _ _] _ _); go_at_call 22; refine (num11_any _ _).mono ?_; rintro e w9 ⟨rfl, rfl⟩))
    go_ret
    exact ⟨rfl, HB3.out.below⟩
  · have hno : okay key nonce xs ys = false := by simpa using hok
    have hnn := opened_not key nonce xs ys hno
    rw [hno, hnn, if_neg (by decide)] at M
    rw [hno, hnn] at R
    have HM := Lib.hid M
    have HR := Lib.hid R
    clear M R hok hno hnn hs1 bs1 k1 hs2 bs2 k2 S0 hk hn bk bn
    go_enter Try.func6, Try.ntmps6
    go_wp2_with (first | ((with_reducible show Calls _ _ #[] _ _); go_at_call 18; refine (alive11_any _).mono ?_; rintro e w1 ⟨rfl, hb1⟩; have HB1 := Lib.hid (HS0.out.after hb1); have HX1 := Lib.hid (HX.out.below hb1); have HY1 := Lib.hid (HY.out.below hb1); clear hb1) | ((with_reducible show wpList _ _ _ (Oper.mk (some 29) _ _ _ _ _ :: _) _ _); refine wpList_load_part rfl 35 _ rfl w.heap.size 0 _ 35 (0, 0) _ HB1.out.b0 rfl .u8 key (arr_part _ _) Try.underlying35 rfl (by rw [HK.out]; exact size32) ?_) | ((with_reducible show wpList _ _ _ (Oper.mk (some 30) _ _ _ _ _ :: _) _ _); refine wpList_load_part rfl 37 _ rfl (w.heap.size + 1) 0 _ 37 (0, 0) _ HB1.out.b1 rfl .u8 nonce (arr_part _ _) Try.underlying37 rfl (by rw [HN.out]; exact size12) ?_) | ((with_reducible show Calls _ _ #[.agg _, .agg _, _, _] w1 _); go_at_call 20; refine (HM.out _ HX1.out HY1.out).mono ?_; rintro e w2 ⟨v2, rfl, ho2, hb2⟩; obtain ⟨s2, c2, hv2, -⟩ := ho2.form; subst hv2; have HB2 := Lib.hid (HB1.out.after hb2); have HO2 := Lib.hid ho2; have HX2 := Lib.hid (HX1.out.below hb2); have HY2 := Lib.hid (HY1.out.below hb2); clear ho2 hb2) | ((with_reducible show wpList _ _ _ (Oper.mk (some 37) _ _ _ _ _ :: _) _ _); refine wpList_load_part rfl 35 _ rfl w.heap.size 0 _ 35 (0, 0) _ HB2.out.b0 rfl .u8 key (arr_part _ _) Try.underlying35 rfl (by rw [HK.out]; exact size32) ?_) | ((with_reducible show wpList _ _ _ (Oper.mk (some 38) _ _ _ _ _ :: _) _ _); refine wpList_load_part rfl 37 _ rfl (w.heap.size + 1) 0 _ 37 (0, 0) _ HB2.out.b1 rfl .u8 nonce (arr_part _ _) Try.underlying37 rfl (by rw [HN.out]; exact size12) ?_) | ((with_reducible show Calls _ _ #[.agg _, .agg _, _, _] w2 _); go_at_call 23; refine (HR.out _ HX2.out HY2.out).mono ?_; rintro e w3 ⟨v3, rfl, ho3, hb3⟩; obtain ⟨s3, c3, hv3, -⟩ := ho3.form; subst hv3; have HB3 := Lib.hid (HB2.out.after hb3); have q2 := (HO2.out.below hb3).str; have q3 := ho3.str; rw [show ([] : List Int).length = 0 from rfl] at q2 q3; generalize strOfNums [] = st at q2 q3; clear ho3 hb3) | ((with_reducible show Calls _ _ #[.int _ _] _ _); go_at_call 22; refine (num11_any _ _).mono ?_; rintro e w9 ⟨rfl, rfl⟩))
    go_ret
    exact ⟨rfl, HB3.out.below⟩
end Go.Proofs.Ytdaaigodpglnnaa.Ae
