/- CurvePublics: it answers true. Condition: the document's tables hold what their text lays. -/
import Derived.Test.YtanjhngehfbpbaaDoorRpS
import Derived.Test.YtanjhngehfbpbaaDoorAgd
import Derived.Test.YtanjhngehfbpbaaDoorOpen
import Derived.Test.YtanjhngehfbpbaaDoorLig
namespace Go.Proofs.YtanjhngehfbpbaaDoor.Sl
open Go.RowKit Lm Fp Cu Rd Sc
set_option linter.unusedSimpArgs false
set_option linter.unusedSimpArgs false
set_option linter.unusedVariables false

set_option maxRecDepth 100000 in
set_option maxHeartbeats 16000000 in
theorem publics_any {ks : List Int} (a : Nat) (w : World) (hk : K32 ks a) (hTd : TabD w) (hTX : TabX w) (hTY : TabY w) (hTK : Hb.TabK w) :
    Calls Tryd.prog 3 #[.agg (arr .u8 ks)] w fun e w' => e = .returned (.bool true) ∧ Below w.heap.size w w' := by
  have hal := fun w => alive13_any w
  have hpb := fun (u : World) => cpublic_any a u hk
  have hrp : ∀ (u : World), TabD u → TabX u → TabY u → Hb.TabK u → Calls Tryd.prog 11 #[.agg (arr .u8 ks)] u fun e w' => e = .returned (.agg (arr .u8 (n32 (epub a)))) ∧ Below u.heap.size u w' := by
    intro u h1 h2 h3 h4
    rw [hk.1]
    exact rpublic_any a u h1 h2 h3 h4
  have hm := fun (u : World) => cmay_any (epub a) u ⟨rfl, epub_lt a⟩
  rw [Ed.may_pub a, show nar (dig 256 32 (epub a)) = n32 (epub a) from rfl] at hm
  obtain ⟨PB, hPB⟩ : ∃ p, p = epub a := ⟨_, rfl⟩
  rw [← hPB] at hpb hrp hm
  obtain ⟨pl, hpl⟩ : ∃ p, p = n32 PB := ⟨_, rfl⟩
  rw [← hpl] at hrp hm
  have hpb2 : ∀ (u : World), Calls Tryd.prog 10 #[.agg (arr .u8 ks)] u fun e w' => e = .returned (.agg (arr .u8 pl)) ∧ Below u.heap.size u w' := by
    intro u
    refine (hpb u).mono ?_
    rintro e w' ⟨z, rfl, h1, h2⟩
    obtain rfl : z = pl := by rw [hpl]; exact h1.1
    exact ⟨rfl, h2⟩
  have HPLL : Hid (pl.length = 32) := Lib.hid (by rw [hpl]; exact n32_len _)
  have HAL := Lib.hid hal
  have HPUB := Lib.hid hpb2
  have HRP := Lib.hid hrp
  have HM := Lib.hid hm
  have HKL := Lib.hid hk.len
  have HTD := Lib.hid hTd
  have HTX := Lib.hid hTX
  have HTY := Lib.hid hTY
  have HTK := Lib.hid hTK
  obtain ⟨zn, hzn⟩ : ∃ zs : List Int, zs = List.replicate 32 0 := ⟨_, rfl⟩
  have HZzn : Hid (∀ w, (zeroValue 23).run Tryd.prog w = .ok (.agg (arr .u8 zn)) w) := Lib.hid (by intro w; rw [hzn]; exact zero_num w)
  have HLzn : Hid (zn.length = 32) := Lib.hid (by rw [hzn]; rfl)
  have HS0 := Lib.hid (Blk.one w (arr .u8 ks) 23)
  clear hzn hal hpb hrp hm hPB hpl hpb2 hk hTd hTX hTY hTK
  go_enter Tryd.func3, Tryd.ntmps3
  go_upto_region 3 with (first | ((with_reducible show Calls _ 9 _ _ _); go_at_call 9; refine (HAL.out _).mono ?_; rintro e w1 ⟨rfl, hb1⟩; have HI1 := Lib.hid (HS0.out.kept hb1); clear hb1) | ((with_reducible refine aS 6 ?_); refine wpList_load_part rfl 23 _ rfl (w.heap.size) 0 _ 23 (0, 0) _ (HI1.out.get 0 rfl) rfl .u8 ks (arr_part _ _) Tryd.underlying23 rfl (num_i HKL.out) ?_) | ((with_reducible show Calls _ 10 _ _ _); go_at_call 10; refine (HPUB.out _).mono ?_; rintro e w2 ⟨rfl, hb2⟩; have HI2 := Lib.hid (HI1.out.kept hb2); clear hb2) | ((with_reducible refine aS 4 ?_); refine wpList_alloc_row rfl 23 rfl _ (HZzn.out _) ?_; have HI3 := Lib.hid (HI2.out.alloc (arr .u8 zn) 23); generalize w2.heap.size = g4 at HI3 ⊢; generalize w2.alloc (.cells (arr .u8 zn) 23) = w3 at HI3 ⊢) | ((with_reducible refine aT 4 ?_); refine wpList_store_whole rfl 23 _ _ rfl (g4) _ _ 23 (HI3.out.get 1 rfl) rfl rfl (arr_len2 _ _ HPLL.out HLzn.out) (num_s HPLL.out) (all_arr _ _) ?_; intro w4 hb4 hk4 hz4; have HI4 := Lib.hid (HI3.out.put 1 rfl hk4 hb4); clear hb4 hk4 hz4))
  (try simp only [World.size_alloc, Act.put, sA, sZ, sS])
  refine wp_region_ling (fun (fF : Fill) (uF : World) => (∀ v, fF 0 = some v → v = .bool true ∧ True) ∧ (∀ v, fF 1 = some v → v = .bool true ∧ True) ∧ (∀ v, fF 2 = some v → v = .agg (arr .u8 pl) ∧ True) ∧ (∀ v, fF 3 = some v → v = .agg (arr .u8 ks) ∧ True) ∧ (∀ v, fF 4 = some v → v = .agg (arr .u8 pl) ∧ True) ∧ (∀ v, fF 5 = some v → v = .bool true ∧ True) ∧ (∀ v, fF 6 = some v → v = .bool true ∧ True) ∧ (∀ v, fF 7 = some v → v = .bool true ∧ True) ∧ (∀ v, fF 8 = some v → v = .agg (arr .u8 pl) ∧ True) ∧ (∀ v, fF 9 = some v → v = .bool true ∧ True) ∧ (∀ v, fF 10 = some v → v = .bool true ∧ True) ∧ (∀ v, fF 11 = some v → v = .bool true ∧ True) ∧ Blk w uF ([(w.heap.size, arr .u8 ks, 23), (g4, arr .u8 pl, 23)])) (by kernel_rfl) (by kernel_rfl) ?zn3 ?sn3 ?en3
  case zn3 => exact ⟨fun _ h => (by cases h), fun _ h => (by cases h), fun _ h => (by cases h), fun _ h => (by cases h), fun _ h => (by cases h), fun _ h => (by cases h), fun _ h => (by cases h), fun _ h => (by cases h), fun _ h => (by cases h), fun _ h => (by cases h), fun _ h => (by cases h), fun _ h => (by cases h), HI4.out.drew⟩
  case sn3 =>
    refine LinAllG.cons (fun fF bF uF kF hJF hfF hcF hupF hsF hKF => ?_) ?_
    · obtain ⟨j0, j1, j2, j3, j4, j5, j6, j7, j8, j9, j10, j11, hB⟩ := hJF
      have e3 : bF.eval (.tmp 3) = .bool true := hsF.old' 3 (by kernel_rfl) rfl
      exact lin_pure rfl (.bool true) (by simp only [execOp, e3] <;> first | rfl | kernel_rfl | (go_simp; done)) (hKF _ _ ⟨fun _ h => ⟨sI h, trivial⟩, j1, j2, j3, j4, j5, j6, j7, j8, j9, j10, j11, hB⟩)
    refine LinAllG.cons (fun fF bF uF kF hJF hfF hcF hupF hsF hKF => ?_) ?_
    · obtain ⟨j0, j1, j2, j3, j4, j5, j6, j7, j8, j9, j10, j11, hB⟩ := hJF
      obtain ⟨e8, p8⟩ := hsF.at hupF 0 8 (by kernel_rfl) rfl j0
      exact lin_pure rfl (.bool true) (by simp only [execOp, e8] <;> first | rfl | kernel_rfl | (go_simp; done)) (hKF _ _ ⟨j0, fun _ h => ⟨sI h, trivial⟩, j2, j3, j4, j5, j6, j7, j8, j9, j10, j11, hB⟩)
    refine LinAllG.cons (fun fF bF uF kF hJF hfF hcF hupF hsF hKF => ?_) ?_
    · obtain ⟨j0, j1, j2, j3, j4, j5, j6, j7, j8, j9, j10, j11, hB⟩ := hJF
      obtain ⟨e9, p9⟩ := hsF.at hupF 1 9 (by kernel_rfl) rfl j1
      refine lin_unguard (wanted_of (j := 1) (s := 9) rfl rfl e9) ?_
      dsimp only
      have e4 : bF.eval (.tmp 4) = .pointer (some ⟨g4, 0, none⟩) := hsF.old' 4 (by kernel_rfl) rfl
      have hB' := hB
      refine step_load_part rfl 23 _ rfl (g4) (0) (arr .u8 pl) 23 (0, 0) _ (hB'.get 1 rfl) e4 .u8 pl (arr_part _ _) Tryd.underlying23 rfl (num_i HPLL.out) ?_
      exact hKF _ _ ⟨j0, j1, fun _ h => ⟨sI h, trivial⟩, j3, j4, j5, j6, j7, j8, j9, j10, j11, hB⟩
    refine LinAllG.cons (fun fF bF uF kF hJF hfF hcF hupF hsF hKF => ?_) ?_
    · obtain ⟨j0, j1, j2, j3, j4, j5, j6, j7, j8, j9, j10, j11, hB⟩ := hJF
      obtain ⟨e9, p9⟩ := hsF.at hupF 1 9 (by kernel_rfl) rfl j1
      refine lin_unguard (wanted_of (j := 1) (s := 9) rfl rfl e9) ?_
      dsimp only
      have e1 : bF.eval (.tmp 1) = .pointer (some ⟨w.heap.size, 0, none⟩) := hsF.old' 1 (by kernel_rfl) rfl
      have hB' := hB
      refine step_load_part rfl 23 _ rfl (w.heap.size) (0) (arr .u8 ks) 23 (0, 0) _ (hB'.get 0 rfl) e1 .u8 ks (arr_part _ _) Tryd.underlying23 rfl (num_i HKL.out) ?_
      exact hKF _ _ ⟨j0, j1, j2, fun _ h => ⟨sI h, trivial⟩, j4, j5, j6, j7, j8, j9, j10, j11, hB⟩
    refine LinAllG.cons (fun fF bF uF kF hJF hfF hcF hupF hsF hKF => ?_) ?_
    · obtain ⟨j0, j1, j2, j3, j4, j5, j6, j7, j8, j9, j10, j11, hB⟩ := hJF
      obtain ⟨e9, p9⟩ := hsF.at hupF 1 9 (by kernel_rfl) rfl j1
      refine lin_unguard (wanted_of (j := 1) (s := 9) rfl rfl e9) ?_
      dsimp only
      obtain ⟨e11, p11⟩ := hsF.at hupF 3 11 (by kernel_rfl) rfl j3
      refine lin_call rfl 11 [Operand.tmp 11] _ [.agg (arr .u8 ks)] rfl (by simp only [List.map_cons, List.map_nil, e11] <;> rfl) (fun _ _ => by kernel_rfl) ?_
      refine Calls.mono (HRP.out _ (range_below HTD.out hB.below) (range_below HTX.out hB.below) (range_below HTY.out hB.below) (tabk_below HTK.out hB.below)) ?_
      rintro e w1 ⟨rfl, hb⟩
      exact ⟨_, rfl, hKF _ _ ⟨j0, j1, j2, j3, fun _ h => ⟨sI h, trivial⟩, j5, j6, j7, j8, j9, j10, j11, hB.kept hb⟩⟩
    refine LinAllG.cons (fun fF bF uF kF hJF hfF hcF hupF hsF hKF => ?_) ?_
    · obtain ⟨j0, j1, j2, j3, j4, j5, j6, j7, j8, j9, j10, j11, hB⟩ := hJF
      obtain ⟨e9, p9⟩ := hsF.at hupF 1 9 (by kernel_rfl) rfl j1
      refine lin_unguard (wanted_of (j := 1) (s := 9) rfl rfl e9) ?_
      dsimp only
      obtain ⟨e10, p10⟩ := hsF.at hupF 2 10 (by kernel_rfl) rfl j2
      obtain ⟨e12, p12⟩ := hsF.at hupF 4 12 (by kernel_rfl) rfl j4
      exact lin_pure rfl (.bool true) (exec_eql_arr 23 _ _ (.tmp 10) (.tmp 12) rfl 32 .u8 .u8 Tryd.underlying23 Tryd.underlying5 (fun w => by kernel_rfl) (by kernel_rfl) pl pl e10 e12 HPLL.out HPLL.out _ (beq_self_eq_true pl)) (hKF _ _ ⟨j0, j1, j2, j3, j4, fun _ h => ⟨sI h, trivial⟩, j6, j7, j8, j9, j10, j11, hB⟩)
    refine LinAllG.cons (fun fF bF uF kF hJF hfF hcF hupF hsF hKF => ?_) ?_
    · obtain ⟨j0, j1, j2, j3, j4, j5, j6, j7, j8, j9, j10, j11, hB⟩ := hJF
      obtain ⟨e9, p9⟩ := hsF.at hupF 1 9 (by kernel_rfl) rfl j1
      obtain ⟨e13, p13⟩ := hsF.at hupF 5 13 (by kernel_rfl) rfl j5
      exact lin_pure rfl (.bool true) (by simp only [execOp, e9, e13]; first | rfl | (go_simp; done)) (hKF _ _ ⟨j0, j1, j2, j3, j4, j5, fun _ h => ⟨sI h, trivial⟩, j7, j8, j9, j10, j11, hB⟩)
    refine LinAllG.cons (fun fF bF uF kF hJF hfF hcF hupF hsF hKF => ?_) ?_
    · obtain ⟨j0, j1, j2, j3, j4, j5, j6, j7, j8, j9, j10, j11, hB⟩ := hJF
      obtain ⟨e14, p14⟩ := hsF.at hupF 6 14 (by kernel_rfl) rfl j6
      exact lin_pure rfl (.bool true) (by simp only [execOp, e14] <;> first | rfl | kernel_rfl | (go_simp; done)) (hKF _ _ ⟨j0, j1, j2, j3, j4, j5, j6, fun _ h => ⟨sI h, trivial⟩, j8, j9, j10, j11, hB⟩)
    refine LinAllG.cons (fun fF bF uF kF hJF hfF hcF hupF hsF hKF => ?_) ?_
    · obtain ⟨j0, j1, j2, j3, j4, j5, j6, j7, j8, j9, j10, j11, hB⟩ := hJF
      obtain ⟨e15, p15⟩ := hsF.at hupF 7 15 (by kernel_rfl) rfl j7
      refine lin_unguard (wanted_of (j := 7) (s := 15) rfl rfl e15) ?_
      dsimp only
      have e4 : bF.eval (.tmp 4) = .pointer (some ⟨g4, 0, none⟩) := hsF.old' 4 (by kernel_rfl) rfl
      have hB' := hB
      refine step_load_part rfl 23 _ rfl (g4) (0) (arr .u8 pl) 23 (0, 0) _ (hB'.get 1 rfl) e4 .u8 pl (arr_part _ _) Tryd.underlying23 rfl (num_i HPLL.out) ?_
      exact hKF _ _ ⟨j0, j1, j2, j3, j4, j5, j6, j7, fun _ h => ⟨sI h, trivial⟩, j9, j10, j11, hB⟩
    refine LinAllG.cons (fun fF bF uF kF hJF hfF hcF hupF hsF hKF => ?_) ?_
    · obtain ⟨j0, j1, j2, j3, j4, j5, j6, j7, j8, j9, j10, j11, hB⟩ := hJF
      obtain ⟨e15, p15⟩ := hsF.at hupF 7 15 (by kernel_rfl) rfl j7
      refine lin_unguard (wanted_of (j := 7) (s := 15) rfl rfl e15) ?_
      dsimp only
      obtain ⟨e16, p16⟩ := hsF.at hupF 8 16 (by kernel_rfl) rfl j8
      refine lin_call rfl 12 [Operand.tmp 16] _ [.agg (arr .u8 pl)] rfl (by simp only [List.map_cons, List.map_nil, e16] <;> rfl) (fun _ _ => by kernel_rfl) ?_
      refine Calls.mono (HM.out _) ?_
      rintro e w1 ⟨rfl, hb⟩
      exact ⟨_, rfl, hKF _ _ ⟨j0, j1, j2, j3, j4, j5, j6, j7, j8, fun _ h => ⟨sI h, trivial⟩, j10, j11, hB.kept hb⟩⟩
    refine LinAllG.cons (fun fF bF uF kF hJF hfF hcF hupF hsF hKF => ?_) ?_
    · obtain ⟨j0, j1, j2, j3, j4, j5, j6, j7, j8, j9, j10, j11, hB⟩ := hJF
      obtain ⟨e15, p15⟩ := hsF.at hupF 7 15 (by kernel_rfl) rfl j7
      obtain ⟨e17, p17⟩ := hsF.at hupF 9 17 (by kernel_rfl) rfl j9
      exact lin_pure rfl (.bool true) (by simp only [execOp, e15, e17]; first | rfl | (go_simp; done)) (hKF _ _ ⟨j0, j1, j2, j3, j4, j5, j6, j7, j8, j9, fun _ h => ⟨sI h, trivial⟩, j11, hB⟩)
    refine LinAllG.cons (fun fF bF uF kF hJF hfF hcF hupF hsF hKF => ?_) ?_
    · obtain ⟨j0, j1, j2, j3, j4, j5, j6, j7, j8, j9, j10, j11, hB⟩ := hJF
      obtain ⟨e18, p18⟩ := hsF.at hupF 10 18 (by kernel_rfl) rfl j10
      exact lin_pure rfl (.bool true) (by simp only [execOp, e18] <;> first | rfl | kernel_rfl | (go_simp; done)) (hKF _ _ ⟨j0, j1, j2, j3, j4, j5, j6, j7, j8, j9, j10, fun _ h => ⟨sI h, trivial⟩, hB⟩)
    exact LinAllG.nil
  case en3 =>
  intro fF un3 hall hJF
  obtain ⟨j0, j1, j2, j3, j4, j5, j6, j7, j8, j9, j10, j11, hB⟩ := hJF
  obtain ⟨v0, h0⟩ := sE (hall 0 (by decide))
  obtain ⟨rfl, p0⟩ := j0 _ h0
  obtain ⟨v1, h1⟩ := sE (hall 1 (by decide))
  obtain ⟨rfl, p1⟩ := j1 _ h1
  obtain ⟨v2, h2⟩ := sE (hall 2 (by decide))
  obtain ⟨rfl, p2⟩ := j2 _ h2
  obtain ⟨v3, h3⟩ := sE (hall 3 (by decide))
  obtain ⟨rfl, p3⟩ := j3 _ h3
  obtain ⟨v4, h4⟩ := sE (hall 4 (by decide))
  obtain ⟨rfl, p4⟩ := j4 _ h4
  obtain ⟨v5, h5⟩ := sE (hall 5 (by decide))
  obtain ⟨rfl, p5⟩ := j5 _ h5
  obtain ⟨v6, h6⟩ := sE (hall 6 (by decide))
  obtain ⟨rfl, p6⟩ := j6 _ h6
  obtain ⟨v7, h7⟩ := sE (hall 7 (by decide))
  obtain ⟨rfl, p7⟩ := j7 _ h7
  obtain ⟨v8, h8⟩ := sE (hall 8 (by decide))
  obtain ⟨rfl, p8⟩ := j8 _ h8
  obtain ⟨v9, h9⟩ := sE (hall 9 (by decide))
  obtain ⟨rfl, p9⟩ := j9 _ h9
  obtain ⟨v10, h10⟩ := sE (hall 10 (by decide))
  obtain ⟨rfl, p10⟩ := j10 _ h10
  obtain ⟨v11, h11⟩ := sE (hall 11 (by decide))
  obtain ⟨rfl, p11⟩ := j11 _ h11
  have HBn3 : Hid (Blk w un3 [(w.heap.size, arr .u8 ks, 23), (g4, arr .u8 pl, 23)]) := Lib.hid hB
  simp only [laid, Nat.zero_add, Nat.reduceAdd, h0, h1, h2, h3, h4, h5, h6, h7, h8, h9, h10, h11, Act.put, sA, sZ, sS]
  clear j0 j1 j2 j3 j4 j5 j6 j7 j8 j9 j10 j11 hB h0 h1 h2 h3 h4 h5 h6 h7 h8 h9 h10 h11 hall fF HI4
  clear p0 p1 p2 p3 p4 p5 p6 p7 p8 p9 p10 p11
  (try simp only [Exit.then])
  go_wp2_with fail
  (try simp only [Exit.then])
  go_ret
  exact ⟨rfl, HBn3.out.below⟩
end Go.Proofs.YtanjhngehfbpbaaDoor.Sl
