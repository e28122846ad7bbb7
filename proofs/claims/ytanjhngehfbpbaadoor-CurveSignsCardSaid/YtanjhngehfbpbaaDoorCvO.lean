/- CurveSigns: it answers true. Condition: the document's tables hold what their text lays. -/
import Derived.Test.YtanjhngehfbpbaaDoorRpT
import Derived.Test.YtanjhngehfbpbaaDoorAgd
import Derived.Test.YtanjhngehfbpbaaDoorBig
import Derived.Test.YtanjhngehfbpbaaDoorOpenL
import Derived.Test.YtanjhngehfbpbaaDoorOpen
import Derived.Test.YtanjhngehfbpbaaDoorLig
namespace Go.Proofs.YtanjhngehfbpbaaDoor.Sl
open Go.RowKit Lm Fp Cu Rd Sc
set_option linter.unusedSimpArgs false
set_option linter.unusedSimpArgs false
set_option linter.unusedVariables false

theorem bigL_false {L : List (List Int)} (h : bigL L = false) : L.length ≤ 30 ∧ ∀ l ∈ L, l.length ≤ 1000 := by
  unfold bigL at h
  simp only [Bool.or_eq_false_iff, decide_eq_false_iff_not, List.any_eq_false, decide_eq_true_eq] at h
  exact ⟨by omega, fun l hl => by have := h.2 l hl; omega⟩
theorem flat_le : ∀ (L : List (List Int)), (∀ l ∈ L, l.length ≤ 1000) → L.flatten.length ≤ 1000 * L.length
  | [], _ => by simp
  | x :: r, h => by
    have h1 := flat_le r (fun l hl => h l (List.mem_cons_of_mem _ hl))
    have h2 := h x List.mem_cons_self
    simp only [List.flatten_cons, List.length_append, List.length_cons]
    omega
set_option maxRecDepth 100000 in
set_option maxHeartbeats 16000000 in
theorem signs_core {ks : List Int} (a : Nat) (sa : Option Addr) (n c : Nat) (L : List (List Int)) (w : World) (hk : K32 ks a) (hs : SrcL w sa n L) (hb : ∀ l ∈ L, bytes l) (hTd : TabD w) (hTX : TabX w) (hTY : TabY w) (hTQ : TabQ w) (hTK : Hb.TabK w) :
    Calls Tryd.prog 4 #[.agg (arr .u8 ks), .slice sa n c] w fun e w' => e = .returned (.bool true) ∧ Below w.heap.size w w' := by
  have HAL := Lib.hid (fun w => alive13_any w)
  cases hbig : bigL L with
  | true =>
    have HBIG := Lib.hid hbig
    have HSB := Lib.hid hs
    have HS0 := Lib.hid (Blk.one w (arr .u8 ks) 23)
    clear hbig hs hb hTd hTX hTY hTQ hTK hk
    go_enter Tryd.func4, Tryd.ntmps4
    go_wp2_with (first | ((with_reducible show Calls _ 9 _ _ _); go_at_call 9; refine (HAL.out _).mono ?_; rintro e w1 ⟨rfl, hb1⟩; have HI1 := Lib.hid (HS0.out.kept hb1); clear hb1) | ((with_reducible show Calls _ 13 _ _ _); go_at_call 13; refine (big_any _ _ _ _ _ (HSB.out.below HI1.out.below)).mono ?_; rintro e w1' ⟨rfl, rfl⟩; rw [HBIG.out]))
    (try simp only [Exit.then])
    go_ret
    exact ⟨rfl, HI1.out.below⟩
  | false =>
    obtain ⟨hl1, hl2⟩ := bigL_false hbig
    have hfl := flat_le L hl2
    have hl := hs.len
    have hm : L.flatten.length ≤ 30000 := by omega
    have hfb : bytes L.flatten := by intro x hx; obtain ⟨l, h1, h2⟩ := List.mem_flatten.1 hx; exact hb l h1 x h2
    have hsg := fun (u : World) (h : SrcL u sa n L) => csign_any a sa n c L u hk h hb (by omega) (by omega)
    have hpb := fun (u : World) => cpublic_any a u hk
    have hho := Ed.holds_sig a L.flatten
    have hjo : ∀ (u : World), SrcL u sa n L → Calls Tryd.prog 16 #[.slice sa n c] u fun e w' => ∃ s cc, e = .returned (.slice s L.flatten.length cc) ∧ (Src w' s L.flatten.length L.flatten ∧ L.flatten.length ≤ cc) ∧ Below u.heap.size u w' := by
      intro u h
      refine (join_any sa n c L u h (by omega) (by omega)).mono ?_
      rintro e w' ⟨v, rfl, h1, h2⟩
      obtain ⟨s, cc, rfl, hcc, _, h3, _⟩ := h1.form
      exact ⟨s, cc, rfl, ⟨h3, hcc⟩, h2⟩
    have hrs : ∀ (u : World) (s : Option Addr) (cc : Nat), Src u s L.flatten.length L.flatten → L.flatten.length ≤ cc → TabD u → TabX u → TabY u → TabQ u → Hb.TabK u → Calls Tryd.prog 15 #[.agg (arr .u8 ks), .slice s L.flatten.length cc] u fun e w' => e = .returned (.agg (arr .u8 (esign a L.flatten))) ∧ Below u.heap.size u w' := by
      intro u s cc h1 h2 h3 h4 h5 h6 h7
      rw [hk.1]
      exact rsign_any a s L.flatten.length cc u h1 h2 hfb (by omega) h3 h4 h5 h6 h7
    have hgl := esign_len a L.flatten
    have hgb := esign_bytes a L.flatten
    have hv := fun (gs : List Int) (hgl : gs.length = 64) (hgb : bytes gs) (u : World) (zs : List Int) (h0 : K32 zs (epub a)) (h : SrcL u sa n L) => cverify_any (gs := gs) (epub a) sa n c L u h0 hgl hgb h hb (by omega) (by omega)
    have hv := hv _ hgl hgb
    rw [hho] at hv
    obtain ⟨PB, hPB⟩ : ∃ p, p = epub a := ⟨_, rfl⟩
    rw [← hPB] at hpb hv
    obtain ⟨gs, hgs⟩ : ∃ g, g = esign a L.flatten := ⟨_, rfl⟩
    rw [← hgs] at hsg hrs hgl hv
    obtain ⟨JL, hJL⟩ : ∃ j, j = L.flatten := ⟨_, rfl⟩
    rw [← hJL] at hjo hrs
    obtain ⟨m, hmm⟩ : ∃ m, m = JL.length := ⟨_, rfl⟩
    rw [← hmm] at hjo hrs
    have HBIG := Lib.hid hbig
    have HSG := Lib.hid hsg
    have HPUB := Lib.hid hpb
    have HJO := Lib.hid hjo
    have HRS := Lib.hid hrs
    have HV := Lib.hid hv
    have HGL := Lib.hid hgl
    have HKL := Lib.hid hk.len
    have HSB := Lib.hid hs
    have HTD := Lib.hid hTd
    have HTX := Lib.hid hTX
    have HTY := Lib.hid hTY
    have HTQ := Lib.hid hTQ
    have HTK := Lib.hid hTK
    obtain ⟨zs64, hzs64⟩ : ∃ zs : List Int, zs = List.replicate 64 0 := ⟨_, rfl⟩
    have HZzs64 : Hid (∀ w, (zeroValue 30).run Tryd.prog w = .ok (.agg (arr .u8 zs64)) w) := Lib.hid (by intro w; rw [hzs64]; exact zero_sig w)
    have HLzs64 : Hid (zs64.length = 64) := Lib.hid (by rw [hzs64]; rfl)
    have HS0 := Lib.hid (Blk.one w (arr .u8 ks) 23)
    clear hzs64 hmm hJL hgs hPB hgb hgl hv hrs hjo hho hpb hsg hfb hm hl hfl hl1 hl2 hbig hs hb hTd hTX hTY hTQ hTK hk
    go_enter Tryd.func4, Tryd.ntmps4
    go_upto_region 5 with (first | ((with_reducible show Calls _ 9 _ _ _); go_at_call 9; refine (HAL.out _).mono ?_; rintro e w1 ⟨rfl, hb1⟩; have HI1 := Lib.hid (HS0.out.kept hb1); clear hb1) | ((with_reducible show Calls _ 13 _ _ _); go_at_call 13; refine (big_any _ _ _ _ _ (HSB.out.below HI1.out.below)).mono ?_; rintro e w1' ⟨rfl, rfl⟩; rw [HBIG.out]))
    (try simp only [World.size_alloc, Act.put, sA, sZ, sS])
    go_upto_region 6 with (first | ((with_reducible refine aS 17 ?_); refine wpList_load_part rfl 23 _ rfl (w.heap.size) 0 _ 23 (0, 0) _ (HI1.out.get 0 rfl) rfl .u8 ks (arr_part _ _) Tryd.underlying23 rfl (num_i HKL.out) ?_) | ((with_reducible show Calls _ 14 _ _ _); go_at_call 14; refine (HSG.out _ (HSB.out.below HI1.out.below)).mono ?_; rintro e w2 ⟨rfl, hb2⟩; have HI2 := Lib.hid (HI1.out.kept hb2); clear hb2) | ((with_reducible refine aS 7 ?_); refine wpList_alloc_row rfl 30 rfl _ (HZzs64.out _) ?_; have HI3 := Lib.hid (HI2.out.alloc (arr .u8 zs64) 30); generalize w2.heap.size = g7 at HI3 ⊢; generalize w2.alloc (.cells (arr .u8 zs64) 30) = w3 at HI3 ⊢) | ((with_reducible refine aT 7 ?_); refine wpList_store_whole rfl 30 _ _ rfl (g7) _ _ 30 (HI3.out.get 1 rfl) rfl rfl (arr_len2 _ _ HGL.out HLzs64.out) (sig_s HGL.out) (all_arr _ _) ?_; intro w4 hb4 hk4 hz4; have HI4 := Lib.hid (HI3.out.put 1 rfl hk4 hb4); clear hb4 hk4 hz4))
    (try simp only [World.size_alloc, Act.put, sA, sZ, sS])
    obtain ⟨z8401, hz8401⟩ : ∃ z : List Int, z = nar (dig 256 32 PB) := ⟨_, rfl⟩
    have HE8401 := Lib.hid hz8401
    have HL8401 : Hid (z8401.length = 32) := Lib.hid (by rw [hz8401]; exact (nar_len _).trans (dig_len _ _ _))
    clear hz8401
    refine wp_region_ling (fun (fF : Fill) (uF : World) => (∀ v, fF 0 = some v → v = .agg (arr .u8 gs) ∧ True) ∧ (∀ v, fF 1 = some v → v = .agg (arr .u8 ks) ∧ True) ∧ (∀ v, fF 2 = some v → v = .slice sa n c ∧ True) ∧ (∀ v, fF 3 = some v → ∃ s cc, v = .slice s m cc ∧ (Src uF s m JL ∧ m ≤ cc)) ∧ (∀ v, fF 4 = some v → v = .agg (arr .u8 gs) ∧ True) ∧ (∀ v, fF 5 = some v → v = .bool true ∧ True) ∧ (∀ v, fF 6 = some v → v = .bool true ∧ True) ∧ (∀ v, fF 7 = some v → v = .agg (arr .u8 ks) ∧ True) ∧ (∀ v, fF 8 = some v → v = .agg (arr .u8 z8401) ∧ K32 z8401 PB) ∧ (∀ v, fF 9 = some v → v = .agg (arr .u8 gs) ∧ True) ∧ (∀ v, fF 10 = some v → v = .slice sa n c ∧ True) ∧ (∀ v, fF 11 = some v → v = .bool true ∧ True) ∧ (∀ v, fF 12 = some v → v = .bool true ∧ True) ∧ (∀ v, fF 13 = some v → v = .bool true ∧ True) ∧ Blk w uF ([(w.heap.size, arr .u8 ks, 23), (g7, arr .u8 gs, 30)])) (by kernel_rfl) (by kernel_rfl) ?zo6 ?so6 ?eo6
    case zo6 => exact ⟨fun _ h => (by cases h), fun _ h => (by cases h), fun _ h => (by cases h), fun _ h => (by cases h), fun _ h => (by cases h), fun _ h => (by cases h), fun _ h => (by cases h), fun _ h => (by cases h), fun _ h => (by cases h), fun _ h => (by cases h), fun _ h => (by cases h), fun _ h => (by cases h), fun _ h => (by cases h), fun _ h => (by cases h), HI4.out.drew⟩
    case so6 =>
      refine LinAllG.cons (fun fF bF uF kF hJF hfF hcF hupF hsF hKF => ?_) ?_
      · obtain ⟨j0, j1, j2, j3, j4, j5, j6, j7, j8, j9, j10, j11, j12, j13, hB⟩ := hJF
        have e7 : bF.eval (.tmp 7) = .pointer (some ⟨g7, 0, none⟩) := hsF.old' 7 (by kernel_rfl) rfl
        have hB' := hB
        refine step_load_part rfl 30 _ rfl (g7) (0) (arr .u8 gs) 30 (0, 0) _ (hB'.get 1 rfl) e7 .u8 gs (arr_part _ _) Tryd.underlying30 rfl (sig_i HGL.out) ?_
        exact hKF _ _ ⟨fun _ h => ⟨sI h, trivial⟩, j1, j2, j3, j4, j5, j6, j7, j8, j9, j10, j11, j12, j13, hB⟩
      refine LinAllG.cons (fun fF bF uF kF hJF hfF hcF hupF hsF hKF => ?_) ?_
      · obtain ⟨j0, j1, j2, j3, j4, j5, j6, j7, j8, j9, j10, j11, j12, j13, hB⟩ := hJF
        have e2 : bF.eval (.tmp 2) = .pointer (some ⟨w.heap.size, 0, none⟩) := hsF.old' 2 (by kernel_rfl) rfl
        have hB' := hB
        refine step_load_part rfl 23 _ rfl (w.heap.size) (0) (arr .u8 ks) 23 (0, 0) _ (hB'.get 0 rfl) e2 .u8 ks (arr_part _ _) Tryd.underlying23 rfl (num_i HKL.out) ?_
        exact hKF _ _ ⟨j0, fun _ h => ⟨sI h, trivial⟩, j2, j3, j4, j5, j6, j7, j8, j9, j10, j11, j12, j13, hB⟩
      refine LinAllG.cons (fun fF bF uF kF hJF hfF hcF hupF hsF hKF => ?_) ?_
      · obtain ⟨j0, j1, j2, j3, j4, j5, j6, j7, j8, j9, j10, j11, j12, j13, hB⟩ := hJF
        have e1 : bF.eval (.tmp 1) = .slice sa n c := hsF.old' 1 (by kernel_rfl) rfl
        exact lin_pure rfl (.slice sa n c) (by simp only [execOp, e1] <;> first | rfl | kernel_rfl | (go_simp; done)) (hKF _ _ ⟨j0, j1, fun _ h => ⟨sI h, trivial⟩, j3, j4, j5, j6, j7, j8, j9, j10, j11, j12, j13, hB⟩)
      refine LinAllG.cons (fun fF bF uF kF hJF hfF hcF hupF hsF hKF => ?_) ?_
      · obtain ⟨j0, j1, j2, j3, j4, j5, j6, j7, j8, j9, j10, j11, j12, j13, hB⟩ := hJF
        obtain ⟨e22, p22⟩ := hsF.at hupF 2 22 (by kernel_rfl) rfl j2
        refine lin_call rfl 16 [.tmp 22] _ [.slice sa n c] rfl (by simp only [List.map_cons, List.map_nil, e22] <;> rfl) (fun _ _ => by kernel_rfl) ?_
        refine Calls.mono (HJO.out _ (HSB.out.below hB.below)) ?_
        rintro e w1 ⟨sj, cj, rfl, hj, hb⟩
        exact ⟨_, rfl, hKF _ _ ⟨j0, j1, j2, fun _ h => ⟨sj, cj, sI h, hj⟩, j4, j5, j6, j7, j8, j9, j10, j11, j12, j13, hB.kept hb⟩⟩
      refine LinAllG.cons (fun fF bF uF kF hJF hfF hcF hupF hsF hKF => ?_) ?_
      · obtain ⟨j0, j1, j2, j3, j4, j5, j6, j7, j8, j9, j10, j11, j12, j13, hB⟩ := hJF
        obtain ⟨e21, p21⟩ := hsF.at hupF 1 21 (by kernel_rfl) rfl j1
        have y3 := hupF 3 (by kernel_rfl)
        obtain ⟨v3, s3⟩ := sE y3
        obtain ⟨sj, cj, rfl, hsj, hcj⟩ := j3 _ s3
        have e23 := hsF.val 3 23 rfl s3
        refine lin_call rfl 15 [.tmp 21, .tmp 23] _ [.agg (arr .u8 ks), .slice sj m cj] rfl (by simp only [List.map_cons, List.map_nil, e21, e23] <;> rfl) (fun _ _ => by kernel_rfl) ?_
        refine Calls.mono (HRS.out _ _ _ hsj hcj (range_below HTD.out hB.below) (range_below HTX.out hB.below) (range_below HTY.out hB.below) (HTQ.out.below hB.below) (tabk_below HTK.out hB.below)) ?_
        rintro e w1 ⟨rfl, hb⟩
        exact ⟨_, rfl, hKF _ _ ⟨j0, j1, j2, fun v h => let ⟨s, cc, e, p, q⟩ := j3 v h; ⟨s, cc, e, p.below hb, q⟩, fun _ h => ⟨sI h, trivial⟩, j5, j6, j7, j8, j9, j10, j11, j12, j13, hB.kept hb⟩⟩
      refine LinAllG.cons (fun fF bF uF kF hJF hfF hcF hupF hsF hKF => ?_) ?_
      · obtain ⟨j0, j1, j2, j3, j4, j5, j6, j7, j8, j9, j10, j11, j12, j13, hB⟩ := hJF
        obtain ⟨e20, p20⟩ := hsF.at hupF 0 20 (by kernel_rfl) rfl j0
        obtain ⟨e24, p24⟩ := hsF.at hupF 4 24 (by kernel_rfl) rfl j4
        exact lin_pure rfl (.bool true) (exec_eql_arr 30 _ _ (.tmp 20) (.tmp 24) rfl 64 .u8 .u8 Tryd.underlying30 Tryd.underlying5 (fun w => by kernel_rfl) (by kernel_rfl) gs gs e20 e24 HGL.out HGL.out _ (beq_self_eq_true gs)) (hKF _ _ ⟨j0, j1, j2, j3, j4, fun _ h => ⟨sI h, trivial⟩, j6, j7, j8, j9, j10, j11, j12, j13, hB⟩)
      refine LinAllG.cons (fun fF bF uF kF hJF hfF hcF hupF hsF hKF => ?_) ?_
      · obtain ⟨j0, j1, j2, j3, j4, j5, j6, j7, j8, j9, j10, j11, j12, j13, hB⟩ := hJF
        obtain ⟨e25, p25⟩ := hsF.at hupF 5 25 (by kernel_rfl) rfl j5
        exact lin_pure rfl (.bool true) (by simp only [execOp, e25] <;> first | rfl | kernel_rfl | (go_simp; done)) (hKF _ _ ⟨j0, j1, j2, j3, j4, j5, fun _ h => ⟨sI h, trivial⟩, j7, j8, j9, j10, j11, j12, j13, hB⟩)
      refine LinAllG.cons (fun fF bF uF kF hJF hfF hcF hupF hsF hKF => ?_) ?_
      · obtain ⟨j0, j1, j2, j3, j4, j5, j6, j7, j8, j9, j10, j11, j12, j13, hB⟩ := hJF
        obtain ⟨e26, p26⟩ := hsF.at hupF 6 26 (by kernel_rfl) rfl j6
        refine lin_unguard (wanted_of (j := 6) (s := 26) rfl rfl e26) ?_
        dsimp only
        have e2 : bF.eval (.tmp 2) = .pointer (some ⟨w.heap.size, 0, none⟩) := hsF.old' 2 (by kernel_rfl) rfl
        have hB' := hB
        refine step_load_part rfl 23 _ rfl (w.heap.size) (0) (arr .u8 ks) 23 (0, 0) _ (hB'.get 0 rfl) e2 .u8 ks (arr_part _ _) Tryd.underlying23 rfl (num_i HKL.out) ?_
        exact hKF _ _ ⟨j0, j1, j2, j3, j4, j5, j6, fun _ h => ⟨sI h, trivial⟩, j8, j9, j10, j11, j12, j13, hB⟩
      refine LinAllG.cons (fun fF bF uF kF hJF hfF hcF hupF hsF hKF => ?_) ?_
      · obtain ⟨j0, j1, j2, j3, j4, j5, j6, j7, j8, j9, j10, j11, j12, j13, hB⟩ := hJF
        obtain ⟨e26, p26⟩ := hsF.at hupF 6 26 (by kernel_rfl) rfl j6
        refine lin_unguard (wanted_of (j := 6) (s := 26) rfl rfl e26) ?_
        dsimp only
        obtain ⟨e27, p27⟩ := hsF.at hupF 7 27 (by kernel_rfl) rfl j7
        refine lin_call rfl 10 [Operand.tmp 27] _ [.agg (arr .u8 ks)] rfl (by simp only [List.map_cons, List.map_nil, e27] <;> rfl) (fun _ _ => by kernel_rfl) ?_
        refine Calls.mono (HPUB.out _) ?_
        rintro e w1 ⟨y8402_0, rfl, r8402_0, hb⟩
        obtain rfl : y8402_0 = z8401 := r8402_0.1.trans HE8401.out.symm
        exact ⟨_, rfl, hKF _ _ ⟨j0, j1, j2, fun v h => let ⟨s, cc, e, p, q⟩ := j3 v h; ⟨s, cc, e, p.below hb, q⟩, j4, j5, j6, j7, fun _ h => ⟨sI h, r8402_0⟩, j9, j10, j11, j12, j13, hB.kept hb⟩⟩
      refine LinAllG.cons (fun fF bF uF kF hJF hfF hcF hupF hsF hKF => ?_) ?_
      · obtain ⟨j0, j1, j2, j3, j4, j5, j6, j7, j8, j9, j10, j11, j12, j13, hB⟩ := hJF
        obtain ⟨e26, p26⟩ := hsF.at hupF 6 26 (by kernel_rfl) rfl j6
        refine lin_unguard (wanted_of (j := 6) (s := 26) rfl rfl e26) ?_
        dsimp only
        have e7 : bF.eval (.tmp 7) = .pointer (some ⟨g7, 0, none⟩) := hsF.old' 7 (by kernel_rfl) rfl
        have hB' := hB
        refine step_load_part rfl 30 _ rfl (g7) (0) (arr .u8 gs) 30 (0, 0) _ (hB'.get 1 rfl) e7 .u8 gs (arr_part _ _) Tryd.underlying30 rfl (sig_i HGL.out) ?_
        exact hKF _ _ ⟨j0, j1, j2, j3, j4, j5, j6, j7, j8, fun _ h => ⟨sI h, trivial⟩, j10, j11, j12, j13, hB⟩
      refine LinAllG.cons (fun fF bF uF kF hJF hfF hcF hupF hsF hKF => ?_) ?_
      · obtain ⟨j0, j1, j2, j3, j4, j5, j6, j7, j8, j9, j10, j11, j12, j13, hB⟩ := hJF
        obtain ⟨e26, p26⟩ := hsF.at hupF 6 26 (by kernel_rfl) rfl j6
        refine lin_unguard (wanted_of (j := 6) (s := 26) rfl rfl e26) ?_
        dsimp only
        have e1 : bF.eval (.tmp 1) = .slice sa n c := hsF.old' 1 (by kernel_rfl) rfl
        exact lin_pure rfl (.slice sa n c) (by simp only [execOp, e1] <;> first | rfl | kernel_rfl | (go_simp; done)) (hKF _ _ ⟨j0, j1, j2, j3, j4, j5, j6, j7, j8, j9, fun _ h => ⟨sI h, trivial⟩, j11, j12, j13, hB⟩)
      refine LinAllG.cons (fun fF bF uF kF hJF hfF hcF hupF hsF hKF => ?_) ?_
      · obtain ⟨j0, j1, j2, j3, j4, j5, j6, j7, j8, j9, j10, j11, j12, j13, hB⟩ := hJF
        obtain ⟨e26, p26⟩ := hsF.at hupF 6 26 (by kernel_rfl) rfl j6
        refine lin_unguard (wanted_of (j := 6) (s := 26) rfl rfl e26) ?_
        dsimp only
        obtain ⟨e28, p28⟩ := hsF.at hupF 8 28 (by kernel_rfl) rfl j8
        obtain ⟨e29, p29⟩ := hsF.at hupF 9 29 (by kernel_rfl) rfl j9
        obtain ⟨e30, p30⟩ := hsF.at hupF 10 30 (by kernel_rfl) rfl j10
        have y8 := hupF 8 (by kernel_rfl)
        obtain ⟨v8, s8⟩ := sE y8
        have HZ8401 := Lib.hid (j8 _ s8).2
        refine lin_call rfl 17 [Operand.tmp 28, Operand.tmp 29, Operand.tmp 30] _ [.agg (arr .u8 z8401), .agg (arr .u8 gs), .slice sa n c] rfl (by simp only [List.map_cons, List.map_nil, e28, e29, e30] <;> rfl) (fun _ _ => by kernel_rfl) ?_
        refine Calls.mono (HV.out _ _ HZ8401.out (HSB.out.below hB.below)) ?_
        rintro e w1 ⟨rfl, hb⟩
        exact ⟨_, rfl, hKF _ _ ⟨j0, j1, j2, fun v h => let ⟨s, cc, e, p, q⟩ := j3 v h; ⟨s, cc, e, p.below hb, q⟩, j4, j5, j6, j7, j8, j9, j10, fun _ h => ⟨sI h, trivial⟩, j12, j13, hB.kept hb⟩⟩
      refine LinAllG.cons (fun fF bF uF kF hJF hfF hcF hupF hsF hKF => ?_) ?_
      · obtain ⟨j0, j1, j2, j3, j4, j5, j6, j7, j8, j9, j10, j11, j12, j13, hB⟩ := hJF
        obtain ⟨e26, p26⟩ := hsF.at hupF 6 26 (by kernel_rfl) rfl j6
        obtain ⟨e31, p31⟩ := hsF.at hupF 11 31 (by kernel_rfl) rfl j11
        exact lin_pure rfl (.bool true) (by simp only [execOp, e26, e31]; first | rfl | (go_simp; done)) (hKF _ _ ⟨j0, j1, j2, j3, j4, j5, j6, j7, j8, j9, j10, j11, fun _ h => ⟨sI h, trivial⟩, j13, hB⟩)
      refine LinAllG.cons (fun fF bF uF kF hJF hfF hcF hupF hsF hKF => ?_) ?_
      · obtain ⟨j0, j1, j2, j3, j4, j5, j6, j7, j8, j9, j10, j11, j12, j13, hB⟩ := hJF
        obtain ⟨e32, p32⟩ := hsF.at hupF 12 32 (by kernel_rfl) rfl j12
        exact lin_pure rfl (.bool true) (by simp only [execOp, e32] <;> first | rfl | kernel_rfl | (go_simp; done)) (hKF _ _ ⟨j0, j1, j2, j3, j4, j5, j6, j7, j8, j9, j10, j11, j12, fun _ h => ⟨sI h, trivial⟩, hB⟩)
      exact LinAllG.nil
    case eo6 =>
    intro fF uo6 hall hJF
    obtain ⟨j0, j1, j2, j3, j4, j5, j6, j7, j8, j9, j10, j11, j12, j13, hB⟩ := hJF
    obtain ⟨v0, h0⟩ := sE (hall 0 (by decide))
    obtain ⟨rfl, p0⟩ := j0 _ h0
    obtain ⟨v1, h1⟩ := sE (hall 1 (by decide))
    obtain ⟨rfl, p1⟩ := j1 _ h1
    obtain ⟨v2, h2⟩ := sE (hall 2 (by decide))
    obtain ⟨rfl, p2⟩ := j2 _ h2
    obtain ⟨v3, h3⟩ := sE (hall 3 (by decide))
    obtain ⟨sj, cj, rfl, -, -⟩ := j3 _ h3
    obtain ⟨v4, h4⟩ := sE (hall 4 (by decide))
    obtain ⟨rfl, p4⟩ := j4 _ h4
    obtain ⟨v5, h5⟩ := sE (hall 5 (by decide))
    obtain ⟨rfl, p5⟩ := j5 _ h5
    obtain ⟨v6, h6⟩ := sE (hall 6 (by decide))
    obtain ⟨rfl, p6⟩ := j6 _ h6
    obtain ⟨v7, h7⟩ := sE (hall 7 (by decide))
    obtain ⟨rfl, p7⟩ := j7 _ h7
    obtain ⟨v8, h8⟩ := sE (hall 8 (by decide))
    obtain ⟨rfl, p8⟩ := j8 _ h8
    obtain ⟨v9, h9⟩ := sE (hall 9 (by decide))
    obtain ⟨rfl, p9⟩ := j9 _ h9
    obtain ⟨v10, h10⟩ := sE (hall 10 (by decide))
    obtain ⟨rfl, p10⟩ := j10 _ h10
    obtain ⟨v11, h11⟩ := sE (hall 11 (by decide))
    obtain ⟨rfl, p11⟩ := j11 _ h11
    obtain ⟨v12, h12⟩ := sE (hall 12 (by decide))
    obtain ⟨rfl, p12⟩ := j12 _ h12
    obtain ⟨v13, h13⟩ := sE (hall 13 (by decide))
    obtain ⟨rfl, p13⟩ := j13 _ h13
    have HBo6 : Hid (Blk w uo6 [(w.heap.size, arr .u8 ks, 23), (g7, arr .u8 gs, 30)]) := Lib.hid hB
    have HZ8401 := Lib.hid p8
    simp only [laid, Nat.zero_add, Nat.reduceAdd, h0, h1, h2, h3, h4, h5, h6, h7, h8, h9, h10, h11, h12, h13, Act.put, sA, sZ, sS]
    clear j0 j1 j2 j3 j4 j5 j6 j7 j8 j9 j10 j11 j12 j13 hB h0 h1 h2 h3 h4 h5 h6 h7 h8 h9 h10 h11 h12 h13 hall fF HI4
    clear p0 p1 p2 p4 p5 p6 p7 p8 p9 p10 p11 p12 p13
    (try simp only [Exit.then])
    go_wp2_with fail
    (try simp only [Exit.then])
    go_ret
    exact ⟨rfl, HBo6.out.below⟩
theorem signs_any {ks : List Int} (a : Nat) (sa : Option Addr) (n c : Nat) (w : World) (h : ∃ L, SrcL w sa n L ∧ ∀ l ∈ L, bytes l) (hk : K32 ks a) (hTd : TabD w) (hTX : TabX w) (hTY : TabY w) (hTQ : TabQ w) (hTK : Hb.TabK w) :
    Calls Tryd.prog 4 #[.agg (arr .u8 ks), .slice sa n c] w fun e w' => e = .returned (.bool true) ∧ Below w.heap.size w w' := by
  obtain ⟨L, h1, h2⟩ := h
  exact signs_core a sa n c L w hk h1 h2 hTd hTX hTY hTQ hTK
end Go.Proofs.YtanjhngehfbpbaaDoor.Sl
