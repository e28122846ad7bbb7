/- portcullislaw11: num, alive (the example of the document, by computation). No condition. -/
import Derived.Test.YtdaaigodpglnnaaAeG
import Derived.Lib.SlBytesConst
namespace Go.Proofs.Ytdaaigodpglnnaa.Ae
open Go.RowKit Lm Po Ch

def k0 : List Int := 1 :: List.replicate 31 0
def n0 : List Int := List.replicate 12 0
theorem alive_no : okay k0 n0 (seal' k0 n0 [120] [121]) [] = false := by decide +kernel
theorem num11_any (e : Int) (w : World) : Calls Try.prog 22 #[.int .i64 e] w fun r w' => r = .returned (.int .i64 e) ∧ w = w' := by
  go_enter Try.func22, Try.ntmps22
  go_wp2
  go_ret
  exact ⟨rfl, rfl⟩
theorem build_k (w : World) : (Instr.build 35 #[(0, .int .u8 1)]).run Try.prog w = .ok (.agg (arr .u8 k0)) w := by kernel_rfl
theorem build_n (w : World) : (Instr.build 37 #[]).run Try.prog w = .ok (.agg (arr .u8 n0)) w := by kernel_rfl
theorem x_str : strOfNums [120] = ⟨#[120]⟩ := by decide +kernel
theorem src_nil (w : World) : Src w none 0 [] := ⟨rfl, fun i hi => absurd hi (by omega)⟩

set_option maxRecDepth 100000 in
set_option maxHeartbeats 2000000 in
theorem alive11_any (w : World) : Calls Try.prog 18 #[] w fun e w' => e = .returned (.bool true) ∧ Below w.heap.size w w' := by
  have kcx : ∀ (x : Int) (w : World), (convert 22 22 (.slice (some ⟨w.heap.size, 0, none⟩) 1 1)).run Try.prog (w.alloc (.cells #[.int .u8 x] 5)) = .ok (.slice (some ⟨w.heap.size, 0, none⟩) 1 1) (w.alloc (.cells #[.int .u8 x] 5 (1, 2))) := fun x w =>
    Lib.run_convert_bytes_const w 22 5 #[.int .u8 x] 1 1 Try.underlying22 Try.underlying5
  have ksx : ∀ (x : Int) (w : World), Src (w.alloc (.cells #[.int .u8 x] 5 (1, 2))) (some ⟨w.heap.size, 0, none⟩) 1 [x] := fun x w => src_row (blk_new w _) rfl rfl
  have hk : k0.length = 32 := by decide
  have hn : n0.length = 12 := by decide
  have bk : bytes k0 := by unfold bytes k0; decide
  have bn : bytes n0 := by unfold bytes n0; decide
  have b1 : bytes [120] := by unfold bytes; decide
  have b2 : bytes [121] := by unfold bytes; decide
  have b3 : bytes [] := by unfold bytes; simp
  have M1 := fun w => seal_any k0 n0 [] [] none none 0 0 0 0 w hk hn bk bn (src_nil w) (src_nil w) b3 (by decide) (by decide) (by decide)
  have M2 := fun w sp sb hs ht => seal_any k0 n0 [120] [121] sp sb 1 1 1 1 w hk hn bk bn hs ht b2 (by decide) (by decide) (by decide)
  have hno := alive_no
  have hs17 := seal_len k0 n0 [120] [121]
  have hs16 := seal_len k0 n0 [] []
  have hb17 := bytes_seal k0 n0 [120] [121]
  have hoo := okay_seal k0 n0 [120] [121]
  have hop := opened_seal k0 n0 [120] [121] b1
  have BK := Lib.hid build_k
  have BN := Lib.hid build_n
  obtain ⟨sa, hsa⟩ : ∃ x, x = seal' k0 n0 [120] [121] := ⟨_, rfl⟩
  obtain ⟨sz, hsz⟩ : ∃ x, x = seal' k0 n0 [] [] := ⟨_, rfl⟩
  rw [← hsa] at hno hs17 hb17 hoo hop M2
  rw [← hsz] at hs16 M1
  have M3 := fun w sp sb c1 hs ht k1 => open_any k0 n0 sa [121] sp sb 17 1 c1 1 w hk hn bk bn hs ht hb17 b2 (by decide) (by decide) k1 (by decide)
  have M4 := fun w sp c1 hs k1 => open_any k0 n0 sa [] sp none 17 0 c1 0 w hk hn bk bn hs (src_nil w) hb17 b3 (by decide) (by decide) k1 (by decide)
  rw [hoo, hop] at M3
  rw [hno] at M4
  have hop2 : opened k0 n0 sa [] = [] := by unfold opened; rw [hno]; rfl
  rw [hop2] at M4
  rw [if_pos rfl] at M3
  rw [if_neg (by decide)] at M4
  have hxs := x_str
  generalize k0 = kk at *
  generalize n0 = nn at *
  have HM1 := Lib.hid M1
  have HM2 := Lib.hid M2
  have HM3 := Lib.hid M3
  have HM4 := Lib.hid M4
  have H17 := Lib.hid hs17
  have H16 := Lib.hid hs16
  have HXS := Lib.hid hxs
  clear hk hn bk bn b1 b2 b3 M1 M2 M3 M4 hno hs17 hs16 hb17 hoo hop hop2 hsa hsz hxs
  have KS := Lib.hid ksx
  clear ksx
  go_enter Try.func18, Try.ntmps18
  go_wp2_with (first | ((with_reducible show wpList _ _ _ (Oper.mk (some 7) _ _ _ _ _ :: _) _ _); refine wpList_build rfl 35 _ rfl #[(0, .int .u8 1)] rfl _ (BK.out _) ?_) | ((with_reducible show wpList _ _ _ (Oper.mk (some 8) _ _ _ _ _ :: _) _ _); refine wpList_build rfl 37 _ rfl #[] rfl _ (BN.out _) ?_) | ((with_reducible show Calls _ _ #[_, _, .slice none 0 0, .slice none 0 0] w _); go_at_call 19; refine (HM1.out _).mono ?_; rintro e w1 ⟨v1, rfl, ho1, hb1⟩; obtain ⟨s1, c1, hv1, -⟩ := ho1.form; rw [H16.out] at hv1; subst hv1; have HW1 := Lib.hid hb1; have kc1 := kcx 120 w1; have kc2 := kcx 121 (w1.alloc (.cells #[.int .u8 120] 5 (1, 2))); rw [World.size_alloc] at kc2; have hx1 := (KS.out 120 w1).below ((Below.refl _ _).alloc (Nat.le_refl _) (.cells #[.int .u8 121] 5 (1, 2))); have hy1 := KS.out 121 (w1.alloc (.cells #[.int .u8 120] 5 (1, 2))); rw [World.size_alloc] at hy1; have hz1 : Below w1.heap.size w1 ((w1.alloc (.cells #[.int .u8 120] 5 (1, 2))).alloc (.cells #[.int .u8 121] 5 (1, 2))) := ((Below.refl _ w1).alloc (Nat.le_refl _) _).alloc (by simp) _; have HX1 := Lib.hid hx1; have HY1 := Lib.hid hy1; have HZ1 := Lib.hid hz1; clear ho1 hb1 hx1 hy1 hz1) | ((with_reducible show wpList _ _ _ (Oper.mk (some 10) _ _ _ _ _ :: _) _ _); refine wpList_build rfl 35 _ rfl #[(0, .int .u8 1)] rfl _ (BK.out _) ?_) | ((with_reducible show wpList _ _ _ (Oper.mk (some 11) _ _ _ _ _ :: _) _ _); refine wpList_build rfl 37 _ rfl #[] rfl _ (BN.out _) ?_) | ((with_reducible show Calls _ _ #[_, _, .slice (some _) 1 1, .slice (some _) 1 1] _ _); go_at_call 19; refine (HM2.out _ _ _ HX1.out HY1.out).mono ?_; rintro e w2 ⟨v2, rfl, ho2, hb2⟩; obtain ⟨s2, c2, hv2, hcc2, -, hs2, -⟩ := ho2.form; rw [H17.out] at hv2 hcc2 hs2; subst hv2; have HW2 := Lib.hid ((HW1.out.trans (HZ1.out.mono HW1.out.size)).trans (hb2.mono (Nat.le_trans HW1.out.size HZ1.out.size))); have HS2 := Lib.hid hs2; have HC2 := Lib.hid hcc2; have kc3 := kcx 121 w2; have hz2 : Below w2.heap.size w2 (w2.alloc (.cells #[.int .u8 121] 5 (1, 2))) := (Below.refl _ w2).alloc (Nat.le_refl _) _; have HZ2 := Lib.hid hz2; clear ho2 hb2 hcc2 hs2 hz2) | ((with_reducible show wpList _ _ _ (Oper.mk (some 18) _ _ _ _ _ :: _) _ _); refine wpList_build rfl 35 _ rfl #[(0, .int .u8 1)] rfl _ (BK.out _) ?_) | ((with_reducible show wpList _ _ _ (Oper.mk (some 19) _ _ _ _ _ :: _) _ _); refine wpList_build rfl 37 _ rfl #[] rfl _ (BN.out _) ?_) | ((with_reducible show Calls _ _ #[_, _, .slice _ 17 _, .slice (some _) 1 1] _ _); go_at_call 20; refine (HM3.out _ _ _ _ (HS2.out.below HZ2.out) (KS.out 121 w2) HC2.out).mono ?_; rintro e w3 ⟨v3, rfl, ho3, hb3⟩; obtain ⟨s3, c3, hv3, -⟩ := ho3.form; rw [show ([120] : List Int).length = 1 from rfl] at hv3; subst hv3; have HS3 := Lib.hid ((HS2.out.below HZ2.out).below hb3); have HW3 := Lib.hid ((HW2.out.trans (HZ2.out.mono HW2.out.size)).trans (hb3.mono (Nat.le_trans HW2.out.size HZ2.out.size))); have HO3 := Lib.hid ho3; clear ho3 hb3) | ((with_reducible show wpList _ _ _ (Oper.mk (some 27) _ _ _ _ _ :: _) _ _); refine wpList_build rfl 35 _ rfl #[(0, .int .u8 1)] rfl _ (BK.out _) ?_) | ((with_reducible show wpList _ _ _ (Oper.mk (some 28) _ _ _ _ _ :: _) _ _); refine wpList_build rfl 37 _ rfl #[] rfl _ (BN.out _) ?_) | ((with_reducible show Calls _ _ #[_, _, .slice _ 17 _, .slice none 0 0] _ _); go_at_call 20; refine (HM4.out _ _ _ HS3.out HC2.out).mono ?_; rintro e w4 ⟨v4, rfl, ho4, hb4⟩; obtain ⟨s4, c4, hv4, -⟩ := ho4.form; subst hv4; have HW4 := Lib.hid (HW3.out.trans (hb4.mono HW3.out.size)); have hcv := (HO3.out.below hb4).str; rw [HXS.out] at hcv; clear ho4 hb4) | ((with_reducible show Calls _ _ #[.int _ _] _ _); go_at_call 22; refine (num11_any _ _).mono ?_; rintro e w9 ⟨rfl, rfl⟩))
  go_ret
  exact ⟨rfl, HW4.out⟩
end Go.Proofs.Ytdaaigodpglnnaa.Ae
