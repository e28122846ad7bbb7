/- curve.Sign: what it answers. Condition: 32 bytes; lists of the call's size. -/
import Derived.Test.YtanjhngehfbpbaaDoorCvF
namespace Go.Proofs.YtanjhngehfbpbaaDoor.Sl
open Go.RowKit Lm Fp Cu Rd Sc
set_option linter.unusedSimpArgs false

theorem cells_of {w : World} {g : Nat} {zs : List Int} {n : Nat} (h : Src w (some ⟨g, 0, none⟩) n zs) : w.rangeAt g 0 (zs.map (Value.int .u8)) := by
  intro j v hj
  rw [List.getElem?_map, Option.map_eq_some_iff] at hj
  obtain ⟨y, hy, rfl⟩ := hj
  obtain ⟨hj1, hj2⟩ := List.getElem?_eq_some_iff.1 hy
  obtain ⟨a, e, hc⟩ := h.cell j (by rw [← h.len]; exact hj1)
  cases e
  rw [Addr.add_lit] at hc
  rw [hc]
  simp [List.getD, hy]
theorem info_u8' : (Tryd.prog.info? 5).map (fun i => (i.zero, i.size, i.bytes)) = some (some (.int .u8 0), 1, 1) := by kernel_rfl
/-- append onto all of an array. -/
theorem step_append_arr {w : World} {ops : Array Oper} {o : Oper} {a : Act} {K : Act → World → Prop} {Q : Exit → Act → World → Prop} {E : Prop} (hgd : o.guard = none) (s x : Operand)
    (ho : o.op = .call { callee := .builtin .append, args := #[s, x], argTypes := #[33, 33] }) (g g2 n m : Nat) (xs ys : List Int) (hs : a.eval s = .slice (some ⟨g, 0, none⟩) n n) (hx : a.eval x = .slice (some ⟨g2, 0, none⟩) m m)
    (h1 : Src w (some ⟨g, 0, none⟩) n xs) (h2 : Src w (some ⟨g2, 0, none⟩) m ys) (hm : 0 < m) (hle : n + m ≤ 1099511627776)
    (h : ∀ g' cap w', Src w' (some ⟨g', 0, none⟩) (n + m) (xs ++ ys) → Below w.heap.size w w' → K (a.put o.dst (.slice (some ⟨g', 0, none⟩) (n + m) cap)) w') :
    if Region.wanted o (yielded ops a.tmps) = true then Oper.wp Tryd.prog o a w K Q else E := by
  have hw : Region.wanted o (yielded ops a.tmps) = true := by simp [Region.wanted, hgd]
  rw [if_pos hw]
  obtain ⟨i0, hi, hz⟩ := Option.map_eq_some_iff.1 info_u8'
  simp only [Prod.mk.injEq] at hz
  obtain ⟨z0, z1, z2⟩ := hz
  obtain ⟨v', w', hrun, hown, hgr⟩ := run_append_arg_grows (P := Tryd.prog) w 33 o.type 5 i0 (.int .u8 0) 1 1 Tryd.underlying33 hi z0 z1 z2 rfl (by decide) ⟨g, 0, none⟩ n n (xs.map (Value.int .u8)) (by simp [h1.len]) (src_news h1 _ rfl) ⟨g2, 0, none⟩ m m (ys.map (Value.int .u8)) (by simp [h2.len]) (src_news h2 _ rfl) (by omega) (by unfold maxLen; omega) (by omega)
  have hb : Below w.heap.size w w' := ⟨hgr.os, hgr.tape, hgr.output, hgr.size, fun k hk => hgr.block k hk (by simp)⟩
  unfold Oper.wp execOp
  simp only [ho, resolve, invoke, builtin, Sem.run_bind, Sem.run_pure, Result.andThen_ok, List.map_toArray, List.map_cons, List.map_nil, hs, hx, hrun]
  rcases hown.2 with ⟨-, h0⟩ | ⟨g', cap, cur, rfl, -, -⟩
  · exact absurd h0 (by omega)
  · refine h g' cap w' ⟨by rw [List.length_append, h1.len, h2.len], fun j hj => ⟨_, rfl, ?_⟩⟩ hb
    rw [← List.map_append] at hown
    refine World.ownsRow.cells hown (g := g') rfl j _ ?_
    have hj2 : j < (xs ++ ys).length := by rw [List.length_append, h1.len, h2.len]; exact hj
    rw [List.getElem?_map, List.getD, List.getElem?_eq_getElem hj2]
    rfl

set_option maxRecDepth 100000 in
set_option maxHeartbeats 16000000 in
theorem csign_any {ks : List Int} (seed : Nat) (sb : Option Addr) (nb cb : Nat) (LB : List (List Int)) (w : World) (hk : K32 ks seed) (hB : SrcL w sb nb LB) (bB : ∀ l ∈ LB, bytes l) (hN : LB.flatten.length ≤ 1125899906842624) (hn : nb ≤ 1099511627770) :
    Calls Tryd.prog 14 #[.agg (arr .u8 ks), .slice sb nb cb] w fun e w' => e = .returned (.agg (arr .u8 (esign seed LB.flatten))) ∧ Below w.heap.size w w' := by
  have hsl := srest_len seed
  have hsb := srest_bytes seed
  have hsum1 := fun (g oa : Nat) (u : World) (hA : SrcL u (some ⟨g, oa, none⟩) 1 [srest seed]) (hB : SrcL u sb nb LB) => csum_any g oa 1 [srest seed] sb nb cb LB u hA hB (by intro l h; simp only [List.mem_singleton] at h; subst h; exact hsb) bB (by rw [List.flatten_append, List.length_append, show [srest seed].flatten = srest seed by simp, hsl]; omega) (by omega)
  rw [show ([srest seed] ++ LB).flatten = srest seed ++ LB.flatten by simp] at hsum1
  obtain ⟨BB, hBB⟩ : ∃ b, b = LB.flatten := ⟨_, rfl⟩
  have hsum2 := fun (g oa : Nat) (u : World) (x1 x2 : List Int) (n1 n2 : Nat) (k1 : K32 x1 n1) (k2 : K32 x2 n2) (hA : SrcL u (some ⟨g, oa, none⟩) 2 [x1, x2]) (hB : SrcL u sb nb LB) => csum_any g oa 2 [x1, x2] sb nb cb LB u hA hB (by intro l h; simp only [List.mem_cons, List.not_mem_nil, or_false] at h; rcases h with rfl | rfl; exact (by rw [k1.1]; exact n32_bytes n1); exact (by rw [k2.1]; exact n32_bytes n2)) bB (by rw [List.flatten_append, List.length_append, show [x1, x2].flatten = x1 ++ x2 by simp, List.length_append, k1.len, k2.len]; omega) (by omega)
  have hsum3 : ∀ (g oa : Nat) (u : World) (x1 x2 : List Int) (n1 n2 : Nat), K32 x1 n1 → K32 x2 n2 → SrcL u (some ⟨g, oa, none⟩) 2 [x1, x2] → SrcL u sb nb LB → Calls Tryd.prog 35 #[.slice sb nb cb, .slice (some ⟨g, oa, none⟩) 2 2] u fun e w' => ∃ zs, e = .returned (.agg (arr .u8 zs)) ∧ K32 zs (wide (n32 n1 ++ (n32 n2 ++ BB))) ∧ Below u.heap.size u w' := by
    intro g oa u x1 x2 n1 n2 k1 k2 hA hB
    have := hsum2 g oa u x1 x2 n1 n2 k1 k2 hA hB
    rw [show ([x1, x2] ++ LB).flatten = x1 ++ (x2 ++ LB.flatten) by simp] at this
    rw [hBB, n32, n32, ← k1.1, ← k2.1]
    exact this
  rw [← hBB] at hsum1 ⊢
  have hes : esign seed BB = n32 (esignR seed BB) ++ n32 (esignS seed BB) := rfl
  obtain ⟨RR, hRR⟩ : ∃ r, r = wide (srest seed ++ BB) := ⟨_, rfl⟩
  have hR : esignR seed BB = ebytes (emul base RR 256) := by rw [hRR]; rfl
  have hS : esignS seed BB = (RR + wide (n32 (ebytes (emul base RR 256)) ++ (n32 (epub seed) ++ BB)) * spart seed % q) % q := by rw [hRR]; rfl
  rw [← hRR] at hsum1
  rw [hes, hR, hS]
  obtain ⟨res, hres⟩ : ∃ r, r = n32 (ebytes (emul base RR 256)) ++ n32 ((RR + wide (n32 (ebytes (emul base RR 256)) ++ (n32 (epub seed) ++ BB)) * spart seed % q) % q) := ⟨_, rfl⟩
  rw [← hres]
  have HRES := Lib.hid hres
  have HRESL : Hid (res.length = 64) := Lib.hid (by rw [hres, List.length_append, n32_len, n32_len])
  have HSUM1 := Lib.hid hsum1
  have HSUM3 := Lib.hid hsum3
  have HSB := Lib.hid hB
  have HK := Lib.hid hk
  have HKL := Lib.hid hk.len
  obtain ⟨zn, hzn⟩ : ∃ zs : List Int, zs = List.replicate 32 0 := ⟨_, rfl⟩
  have HZzn : Hid (∀ w, (zeroValue 23).run Tryd.prog w = .ok (.agg (arr .u8 zn)) w) := Lib.hid (by intro w; rw [hzn]; exact zero_num w)
  have HLzn : Hid (zn.length = 32) := Lib.hid (by rw [hzn]; rfl)
  obtain ⟨zs64, hzs64⟩ : ∃ zs : List Int, zs = List.replicate 64 0 := ⟨_, rfl⟩
  have HZzs64 : Hid (∀ w, (zeroValue 30).run Tryd.prog w = .ok (.agg (arr .u8 zs64)) w) := Lib.hid (by intro w; rw [hzs64]; exact zero_sig w)
  have HLzs64 : Hid (zs64.length = 64) := Lib.hid (by rw [hzs64]; rfl)
  have HS0 := Lib.hid (Blk.two w (arr .u8 ks) (arr .u8 zs64) 23 30)
  clear hzn hzs64 hsl hsb hsum1 hBB hsum2 hsum3 hes hRR hR hS hres hk hB bB hN hn
  go_enter Tryd.func14, Tryd.ntmps14
  go_upto_region 1 with (first | ((with_reducible refine aS 4 ?_); refine wpList_alloc_row rfl 30 rfl _ (HZzs64.out _) ?_))
  (try simp only [World.size_alloc, Act.put, sA, sZ, sS])
  generalize ((w.alloc (.cells (arr .u8 ks) 23)).alloc (.cells (arr .u8 zs64) 30)) = wb at HS0 ⊢
  go_upto_region 2 with (first | ((with_reducible refine aS 13 ?_); refine wpList_load_part rfl 23 _ rfl (w.heap.size) 0 _ 23 (0, 0) _ (HS0.out.get 0 rfl) rfl .u8 ks (arr_part _ _) Tryd.underlying23 rfl (num_i HKL.out) ?_) | ((with_reducible show Calls _ 26 _ _ _); go_at_call 26; refine (csecret_any _ _ HK.out).mono ?_; rintro e w1 ⟨z1, gs, hs, rfl, h1, ⟨h2, h3, h4, h5⟩, hb1⟩; have HZ1 := Lib.hid h1; have HL1 := Lib.hid h1.len; have HB1 := Lib.hid (Blk.add HS0.out hb1 h2 h3); have HHL := Lib.hid h4; have HHD := Lib.hid h5; clear h1 hb1 h2 h3 h4 h5) | ((with_reducible refine aS 5 ?_); refine wpList_alloc_row rfl 23 rfl _ (HZzn.out _) ?_; have HB2 := Lib.hid (HB1.out.alloc (arr .u8 zn) 23); generalize w1.heap.size = g5 at HB2 ⊢; generalize w1.alloc (.cells (arr .u8 zn) 23) = w2 at HB2 ⊢) | ((with_reducible refine aT 5 ?_); refine wpList_store_whole rfl 23 _ _ rfl (g5) _ _ 23 (HB2.out.get 3 rfl) rfl rfl (arr_len2 _ _ HL1.out HLzn.out) (num_s HL1.out) (all_arr _ _) ?_; intro w3 hb3 hk3 hz3; have HB3 := Lib.hid (HB2.out.put 3 rfl hk3 hb3); clear hb3 hk3 hz3))
  (try simp only [World.size_alloc, Act.put, sA, sZ, sS])
  go_upto_region 3 with (first | ((with_reducible refine aS 17 ?_); refine wpList_load_part rfl 23 _ rfl (w.heap.size) 0 _ 23 (0, 0) _ (HB3.out.get 0 rfl) rfl .u8 ks (arr_part _ _) Tryd.underlying23 rfl (num_i HKL.out) ?_) | ((with_reducible show Calls _ 10 _ _ _); go_at_call 10; refine (cpublic_any _ _ HK.out).mono ?_; rintro e w4 ⟨z4, rfl, h4, hb4⟩; have HZ4 := Lib.hid h4; have HL4 := Lib.hid h4.len; have HB4 := Lib.hid (HB3.out.kept hb4); clear h4 hb4) | ((with_reducible refine aS 7 ?_); refine wpList_alloc_row rfl 23 rfl _ (HZzn.out _) ?_; have HB5 := Lib.hid (HB4.out.alloc (arr .u8 zn) 23); generalize w4.heap.size = g7 at HB5 ⊢; generalize w4.alloc (.cells (arr .u8 zn) 23) = w5 at HB5 ⊢) | ((with_reducible refine aT 7 ?_); refine wpList_store_whole rfl 23 _ _ rfl (g7) _ _ 23 (HB5.out.get 4 rfl) rfl rfl (arr_len2 _ _ HL4.out HLzn.out) (num_s HL4.out) (all_arr _ _) ?_; intro w6 hb6 hk6 hz6; have HB6 := Lib.hid (HB5.out.put 4 rfl hk6 hb6); clear hb6 hk6 hz6))
  (try simp only [World.size_alloc, Act.put, sA, sZ, sS])
  have HSRC : Hid (Src w6 (some ⟨gs, 32, none⟩) 32 (srest seed)) := Lib.hid (by have := src_off (HB6.out.get 2 rfl) 32 32 (by rw [HHL.out]; decide); rwa [List.take_of_length_le (by rw [List.length_drop, HHL.out]; decide), HHD.out] at this)
  go_upto_region 4 with (first | ((with_reducible show Calls _ 35 _ _ _); go_at_call 35; refine (HSUM1.out _ _ _ (csrcL_one HSRC.out (Nat.le_refl _)) (HSB.out.below (HB6.out.below.alloc HB6.out.below.size _))).mono ?_; rintro e w7 ⟨z7, rfl, h7, hb7⟩; have HZ7 := Lib.hid h7; have HL7 := Lib.hid h7.len; have HB7 := Lib.hid (HB6.out.kept (below_new hb7)); clear h7 hb7) | ((with_reducible refine aS 8 ?_); refine wpList_alloc_row rfl 23 rfl _ (HZzn.out _) ?_; have HB8 := Lib.hid (HB7.out.alloc (arr .u8 zn) 23); generalize w7.heap.size = g8 at HB8 ⊢; generalize w7.alloc (.cells (arr .u8 zn) 23) = w8 at HB8 ⊢) | ((with_reducible refine aT 8 ?_); refine wpList_store_whole rfl 23 _ _ rfl (g8) _ _ 23 (HB8.out.get 5 rfl) rfl rfl (arr_len2 _ _ HL7.out HLzn.out) (num_s HL7.out) (all_arr _ _) ?_; intro w9 hb9 hk9 hz9; have HB9 := Lib.hid (HB8.out.put 5 rfl hk9 hb9); clear hb9 hk9 hz9))
  (try simp only [World.size_alloc, Act.put, sA, sZ, sS])
  obtain ⟨z6101, hz6101⟩ : ∃ z : List Int, z = ptl base := ⟨_, rfl⟩
  have HE6101 := Lib.hid hz6101
  have HL6101 : Hid (z6101.length = 16) := Lib.hid (by rw [hz6101]; exact ptl_len _)
  clear hz6101
  obtain ⟨z6102, hz6102⟩ : ∃ z : List Int, z = ptl (emul base RR 256) := ⟨_, rfl⟩
  have HE6102 := Lib.hid hz6102
  have HL6102 : Hid (z6102.length = 16) := Lib.hid (by rw [hz6102]; exact ptl_len _)
  clear hz6102
  obtain ⟨z6103, hz6103⟩ : ∃ z : List Int, z = nar (dig 256 32 (ebytes (emul base RR 256))) := ⟨_, rfl⟩
  have HE6103 := Lib.hid hz6103
  have HL6103 : Hid (z6103.length = 32) := Lib.hid (by rw [hz6103]; exact (nar_len _).trans (dig_len _ _ _))
  clear hz6103
  refine wp_region_lin (fun (fF : Fill) (uF : World) => (∀ v, fF 0 = some v → v = .agg (arr .u64 z6101) ∧ P4 z6101 base) ∧ (∀ v, fF 1 = some v → v = .agg (arr .u8 z7) ∧ True) ∧ (∀ v, fF 2 = some v → v = .agg (arr .u64 z6102) ∧ P4 z6102 (emul base RR 256)) ∧ (∀ v, fF 3 = some v → v = .agg (arr .u8 z6103) ∧ K32 z6103 (ebytes (emul base RR 256))) ∧ (∀ v, fF 4 = some v → ∃ g : Nat, v = .pointer (some ⟨g, 0, none⟩)) ∧ Blk w uF ([(w.heap.size, arr .u8 ks, 23), (w.heap.size + 1, arr .u8 zs64, 30), (gs, arr .u8 hs, 30), (g5, arr .u8 z1, 23), (g7, arr .u8 z4, 23), (g8, arr .u8 z7, 23)] ++ (ent (fF 4) ((if (fF 5).isSome = true then arr .u8 z6103 else arr .u8 zn)) 23))) (by kernel_rfl) (by kernel_rfl) ?zg4 ?sg4 ?eg4
  case zg4 => exact ⟨fun _ h => (by cases h), fun _ h => (by cases h), fun _ h => (by cases h), fun _ h => (by cases h), fun _ h => (by cases h), HB9.out.drew⟩
  case sg4 =>
    refine LinAll.cons (fun fF bF uF kF hJF hfF hcF hupF hsF hKF => ?_) ?_
    · obtain ⟨j0, j1, j2, j3, j4, hB⟩ := hJF
      refine lin_call rfl 27 [] _ [] rfl (by simp only [List.map_cons, List.map_nil] <;> rfl) (fun _ _ => by kernel_rfl) ?_
      refine Calls.mono (base_any _) ?_
      rintro e w1 ⟨y6104_0, rfl, r6104_0, hb⟩
      obtain rfl : y6104_0 = z6101 := r6104_0.1.trans HE6101.out.symm
      exact ⟨_, rfl, hKF _ _ ⟨fun _ h => ⟨sI h, r6104_0⟩, j1, j2, j3, j4, hB.kept hb⟩⟩
    refine LinAll.cons (fun fF bF uF kF hJF hfF hcF hupF hsF hKF => ?_) ?_
    · obtain ⟨j0, j1, j2, j3, j4, hB⟩ := hJF
      have e8 : bF.eval (.tmp 8) = .pointer (some ⟨g8, 0, none⟩) := hsF.old' 8 (by kernel_rfl) rfl
      have hB' := hB
      refine step_load_part rfl 23 _ rfl (g8) (0) (arr .u8 z7) 23 (0, 0) _ (hB'.get 5 rfl) e8 .u8 z7 (arr_part _ _) Tryd.underlying23 rfl (num_i HL7.out) ?_
      exact hKF _ _ ⟨j0, fun _ h => ⟨sI h, trivial⟩, j2, j3, j4, hB⟩
    refine LinAll.cons (fun fF bF uF kF hJF hfF hcF hupF hsF hKF => ?_) ?_
    · obtain ⟨j0, j1, j2, j3, j4, hB⟩ := hJF
      obtain ⟨e23, p23⟩ := hsF.at hupF 0 23 (by kernel_rfl) rfl j0
      obtain ⟨e24, p24⟩ := hsF.at hupF 1 24 (by kernel_rfl) rfl j1
      have y0 := hupF 0 (by kernel_rfl)
      obtain ⟨v0, s0⟩ := sE y0
      have HZ6101 := Lib.hid (j0 _ s0).2
      refine lin_call rfl 28 [Operand.tmp 23, Operand.tmp 24] _ [.agg (arr .u64 z6101), .agg (arr .u8 z7)] rfl (by simp only [List.map_cons, List.map_nil, e23, e24] <;> rfl) (fun _ _ => by kernel_rfl) ?_
      refine Calls.mono (ptimes_any _ _ _ HZ6101.out HZ7.out) ?_
      rintro e w1 ⟨y6105_0, rfl, r6105_0, hb⟩
      obtain rfl : y6105_0 = z6102 := r6105_0.1.trans HE6102.out.symm
      exact ⟨_, rfl, hKF _ _ ⟨j0, j1, fun _ h => ⟨sI h, r6105_0⟩, j3, j4, hB.kept hb⟩⟩
    refine LinAll.cons (fun fF bF uF kF hJF hfF hcF hupF hsF hKF => ?_) ?_
    · obtain ⟨j0, j1, j2, j3, j4, hB⟩ := hJF
      obtain ⟨e25, p25⟩ := hsF.at hupF 2 25 (by kernel_rfl) rfl j2
      have y2 := hupF 2 (by kernel_rfl)
      obtain ⟨v2, s2⟩ := sE y2
      have HZ6102 := Lib.hid (j2 _ s2).2
      refine lin_call rfl 29 [Operand.tmp 25] _ [.agg (arr .u64 z6102)] rfl (by simp only [List.map_cons, List.map_nil, e25] <;> rfl) (fun _ _ => by kernel_rfl) ?_
      refine Calls.mono (pbytes_any _ _ HZ6102.out) ?_
      rintro e w1 ⟨y6106_0, rfl, r6106_0, hb⟩
      obtain rfl : y6106_0 = z6103 := r6106_0.1.trans HE6103.out.symm
      exact ⟨_, rfl, hKF _ _ ⟨j0, j1, j2, fun _ h => ⟨sI h, r6106_0⟩, j4, hB.kept hb⟩⟩
    refine LinAll.cons (fun fF bF uF kF hJF hfF hcF hupF hsF hKF => ?_) ?_
    · obtain ⟨j0, j1, j2, j3, j4, hB⟩ := hJF
      have n5 := hcF.down 5 4 (by kernel_rfl) hfF
      refine step_alloc_row rfl 23 rfl _ (HZzn.out _) ?_
      have hB1 : Blk w (uF.alloc (.cells (arr .u8 zn) 23)) ([(w.heap.size, arr .u8 ks, 23), (w.heap.size + 1, arr .u8 zs64, 30), (gs, arr .u8 hs, 30), (g5, arr .u8 z1, 23), (g7, arr .u8 z4, 23), (g8, arr .u8 z7, 23)] ++ (ent ((some (.pointer (some ⟨uF.heap.size, 0, none⟩)) : Option Value)) ((if (fF 5).isSome = true then arr .u8 z6103 else arr .u8 zn)) 23)) := hB.ins (a := [(w.heap.size, arr .u8 ks, 23), (w.heap.size + 1, arr .u8 zs64, 30), (gs, arr .u8 hs, 30), (g5, arr .u8 z1, 23), (g7, arr .u8 z4, 23), (g8, arr .u8 z7, 23)]) (b := []) _ _ (by rw [hfF, n5]; simp only [ent_none, List.nil_append, List.append_nil, List.append_assoc, List.cons_append]) (by rw [n5]; simp only [ent_some, List.nil_append, List.append_nil, List.append_assoc, List.cons_append, Option.isSome_none, Bool.false_eq_true, if_false])
      exact hKF _ _ ⟨j0, j1, j2, j3, fun _ h => ⟨_, sI h⟩, hB1⟩
    refine LinAll.cons (fun fF bF uF kF hJF hfF hcF hupF hsF hKF => ?_) ?_
    · obtain ⟨j0, j1, j2, j3, j4, hB⟩ := hJF
      have y4 := hupF 4 (by kernel_rfl)
      obtain ⟨v4, s4⟩ := sE y4
      obtain ⟨gg4_6, rfl⟩ := j4 _ s4
      have e9 := hsF.val 4 9 rfl s4
      obtain ⟨e26, p26⟩ := hsF.at hupF 3 26 (by kernel_rfl) rfl j3
      have y3 := hupF 3 (by kernel_rfl)
      obtain ⟨v3, s3⟩ := sE y3
      have HZ6103 := Lib.hid (j3 _ s3).2
      have hB' := hB
      rw [s4, hfF] at hB'
      refine step_store_whole rfl 23 (.tmp 9) (.tmp 26) rfl (gg4_6) (arr .u8 zn) _ 23 (hB'.get 6 rfl) e9 e26 (arr_len2 _ _ HL6103.out HLzn.out) (num_s HL6103.out) (all_arr _ _) ?_
      intro w1 hb1 hk1 hz1
      have hB1 : Blk w w1 ([(w.heap.size, arr .u8 ks, 23), (w.heap.size + 1, arr .u8 zs64, 30), (gs, arr .u8 hs, 30), (g5, arr .u8 z1, 23), (g7, arr .u8 z4, 23), (g8, arr .u8 z7, 23)] ++ (ent (fF 4) ((if ((some undef : Option Value)).isSome = true then arr .u8 z6103 else arr .u8 zn)) 23)) := by rw [s4]; exact hB'.put 6 rfl hk1 hb1
      exact hKF undef w1 ⟨j0, j1, j2, j3, j4, hB1⟩
    exact LinAll.nil
  case eg4 =>
  intro fF ug4 hall hJF
  obtain ⟨j0, j1, j2, j3, j4, hB⟩ := hJF
  obtain ⟨v0, h0⟩ := sE (hall 0 (by decide))
  obtain ⟨rfl, p0⟩ := j0 _ h0
  obtain ⟨v1, h1⟩ := sE (hall 1 (by decide))
  obtain ⟨rfl, p1⟩ := j1 _ h1
  obtain ⟨v2, h2⟩ := sE (hall 2 (by decide))
  obtain ⟨rfl, p2⟩ := j2 _ h2
  obtain ⟨v3, h3⟩ := sE (hall 3 (by decide))
  obtain ⟨rfl, p3⟩ := j3 _ h3
  obtain ⟨v4, h4⟩ := sE (hall 4 (by decide))
  obtain ⟨gg4_6, rfl⟩ := j4 _ h4
  obtain ⟨v5, h5⟩ := sE (hall 5 (by decide))
  rw [h4, h5] at hB
  have HBg4 : Hid (Blk w ug4 [(w.heap.size, arr .u8 ks, 23), (w.heap.size + 1, arr .u8 zs64, 30), (gs, arr .u8 hs, 30), (g5, arr .u8 z1, 23), (g7, arr .u8 z4, 23), (g8, arr .u8 z7, 23), (gg4_6, arr .u8 z6103, 23)]) := Lib.hid hB
  have HZ6101 := Lib.hid p0
  have HZ6102 := Lib.hid p2
  have HZ6103 := Lib.hid p3
  simp only [laid, Nat.zero_add, Nat.reduceAdd, h0, h1, h2, h3, h4, h5, Act.put, sA, sZ, sS]
  clear j0 j1 j2 j3 j4 hB h0 h1 h2 h3 h4 h5 hall fF HB9
  clear p0 p1 p2 p3
  (try simp only [Exit.then])
  go_upto_region 5 with fail
  (try simp only [World.size_alloc, Act.put, sA, sZ, sS])
  obtain ⟨z6107, hz6107⟩ : ∃ z : List Int, z = nar (dig 256 32 (wide (n32 (ebytes (emul base RR 256)) ++ (n32 (epub seed) ++ BB)))) := ⟨_, rfl⟩
  have HE6107 := Lib.hid hz6107
  have HL6107 : Hid (z6107.length = 32) := Lib.hid (by rw [hz6107]; exact (nar_len _).trans (dig_len _ _ _))
  clear hz6107
  refine wp_region_lin (fun (fF : Fill) (uF : World) => (∀ v, fF 0 = some v → v = .slice sb nb cb ∧ True) ∧ (∀ v, fF 1 = some v → v = .slice (some ⟨gg4_6, 0, none⟩) 32 32 ∧ True) ∧ (∀ v, fF 2 = some v → v = .slice (some ⟨g7, 0, none⟩) 32 32 ∧ True) ∧ (∀ v, fF 3 = some v → ∃ g : Nat, v = .slice (some ⟨g, 0, none⟩) 2 2) ∧ (∀ v, fF 4 = some v → v = .agg (arr .u8 z6107) ∧ K32 z6107 (wide (n32 (ebytes (emul base RR 256)) ++ (n32 (epub seed) ++ BB)))) ∧ (∀ v, fF 5 = some v → ∃ g : Nat, v = .pointer (some ⟨g, 0, none⟩)) ∧ Blk w uF ([(w.heap.size, arr .u8 ks, 23), (w.heap.size + 1, arr .u8 zs64, 30), (gs, arr .u8 hs, 30), (g5, arr .u8 z1, 23), (g7, arr .u8 z4, 23), (g8, arr .u8 z7, 23), (gg4_6, arr .u8 z6103, 23)] ++ (ent (fF 3) (#[.slice (some ⟨gg4_6, 0, none⟩) 32 32, .slice (some ⟨g7, 0, none⟩) 32 32]) 33 ++ (ent (fF 5) ((if (fF 6).isSome = true then arr .u8 z6107 else arr .u8 zn)) 23)))) (by kernel_rfl) (by kernel_rfl) ?zg5 ?sg5 ?eg5
  case zg5 => exact ⟨fun _ h => (by cases h), fun _ h => (by cases h), fun _ h => (by cases h), fun _ h => (by cases h), fun _ h => (by cases h), fun _ h => (by cases h), HBg4.out.drew⟩
  case sg5 =>
    refine LinAll.cons (fun fF bF uF kF hJF hfF hcF hupF hsF hKF => ?_) ?_
    · obtain ⟨j0, j1, j2, j3, j4, j5, hB⟩ := hJF
      have e1 : bF.eval (.tmp 1) = .slice sb nb cb := hsF.old' 1 (by kernel_rfl) rfl
      exact lin_pure rfl (.slice sb nb cb) (by simp only [execOp, e1] <;> first | rfl | kernel_rfl | (go_simp; done)) (hKF _ _ ⟨fun _ h => ⟨sI h, trivial⟩, j1, j2, j3, j4, j5, hB⟩)
    refine LinAll.cons (fun fF bF uF kF hJF hfF hcF hupF hsF hKF => ?_) ?_
    · obtain ⟨j0, j1, j2, j3, j4, j5, hB⟩ := hJF
      have e9 : bF.eval (.tmp 9) = .pointer (some ⟨gg4_6, 0, none⟩) := hsF.old' 9 (by kernel_rfl) rfl
      exact lin_pure rfl (.slice (some ⟨gg4_6, 0, none⟩) 32 32) (by simp only [execOp, e9]; first | rfl | (go_simp; done)) (hKF _ _ ⟨j0, fun _ h => ⟨sI h, trivial⟩, j2, j3, j4, j5, hB⟩)
    refine LinAll.cons (fun fF bF uF kF hJF hfF hcF hupF hsF hKF => ?_) ?_
    · obtain ⟨j0, j1, j2, j3, j4, j5, hB⟩ := hJF
      have e7 : bF.eval (.tmp 7) = .pointer (some ⟨g7, 0, none⟩) := hsF.old' 7 (by kernel_rfl) rfl
      exact lin_pure rfl (.slice (some ⟨g7, 0, none⟩) 32 32) (by simp only [execOp, e7]; first | rfl | (go_simp; done)) (hKF _ _ ⟨j0, j1, fun _ h => ⟨sI h, trivial⟩, j3, j4, j5, hB⟩)
    refine LinAll.cons (fun fF bF uF kF hJF hfF hcF hupF hsF hKF => ?_) ?_
    · obtain ⟨j0, j1, j2, j3, j4, j5, hB⟩ := hJF
      obtain ⟨e28, p28⟩ := hsF.at hupF 1 28 (by kernel_rfl) rfl j1
      obtain ⟨e29, p29⟩ := hsF.at hupF 2 29 (by kernel_rfl) rfl j2
      have hB1 : Blk w (uF.alloc (.cells #[.slice (some ⟨gg4_6, 0, none⟩) 32 32, .slice (some ⟨g7, 0, none⟩) 32 32] 33)) ([(w.heap.size, arr .u8 ks, 23), (w.heap.size + 1, arr .u8 zs64, 30), (gs, arr .u8 hs, 30), (g5, arr .u8 z1, 23), (g7, arr .u8 z4, 23), (g8, arr .u8 z7, 23), (gg4_6, arr .u8 z6103, 23)] ++ (ent ((some (.slice (some ⟨uF.heap.size, 0, none⟩) 2 2) : Option Value)) (#[.slice (some ⟨gg4_6, 0, none⟩) 32 32, .slice (some ⟨g7, 0, none⟩) 32 32]) 33 ++ (ent (fF 5) ((if (fF 6).isSome = true then arr .u8 z6107 else arr .u8 zn)) 23))) := hB.ins (a := [(w.heap.size, arr .u8 ks, 23), (w.heap.size + 1, arr .u8 zs64, 30), (gs, arr .u8 hs, 30), (g5, arr .u8 z1, 23), (g7, arr .u8 z4, 23), (g8, arr .u8 z7, 23), (gg4_6, arr .u8 z6103, 23)]) (b := ent (fF 5) ((if (fF 6).isSome = true then arr .u8 z6107 else arr .u8 zn)) 23) _ _ (by rw [hfF]; simp only [ent_none, List.nil_append, List.append_nil, List.append_assoc, List.cons_append]) (by simp only [ent_slice, List.nil_append, List.append_nil, List.append_assoc, List.cons_append, Option.isSome_none, Bool.false_eq_true, if_false])
      rw [if_pos (by simp [Region.wanted])]
      unfold Oper.wp
      simp only [execOp, List.map_toArray, List.map_cons, List.map_nil, e28, e29]
      go_simp
      exact hKF _ _ ⟨j0, j1, j2, fun _ h => ⟨_, sI h⟩, j4, j5, hB1⟩
    refine LinAll.cons (fun fF bF uF kF hJF hfF hcF hupF hsF hKF => ?_) ?_
    · obtain ⟨j0, j1, j2, j3, j4, j5, hB⟩ := hJF
      obtain ⟨e27, p27⟩ := hsF.at hupF 0 27 (by kernel_rfl) rfl j0
      have y3 := hupF 3 (by kernel_rfl)
      obtain ⟨v3, s3⟩ := sE y3
      obtain ⟨gg5_7, rfl⟩ := j3 _ s3
      have e30 := hsF.val 3 30 rfl s3
      have hB' := hB
      rw [s3] at hB'
      have hsl := src_two (hB'.get 7 rfl) (src_all (hB'.get 6 rfl) 32 HL6103.out) (src_all (hB'.get 4 rfl) 32 HL4.out) (Nat.le_refl _) (Nat.le_refl _)
      refine lin_call rfl 35 [Operand.tmp 27, Operand.tmp 30] _ [.slice sb nb cb, .slice (some ⟨gg5_7, 0, none⟩) 2 2] rfl (by simp only [List.map_cons, List.map_nil, e27, e30] <;> rfl) (fun _ _ => by kernel_rfl) ?_
      refine Calls.mono (HSUM3.out _ _ _ _ _ _ _ HZ6103.out HZ4.out hsl (HSB.out.below hB.below)) ?_
      rintro e w1 ⟨y6108_0, rfl, r6108_0, hb⟩
      obtain rfl : y6108_0 = z6107 := r6108_0.1.trans HE6107.out.symm
      exact ⟨_, rfl, hKF _ _ ⟨j0, j1, j2, j3, fun _ h => ⟨sI h, r6108_0⟩, j5, hB.kept hb⟩⟩
    refine LinAll.cons (fun fF bF uF kF hJF hfF hcF hupF hsF hKF => ?_) ?_
    · obtain ⟨j0, j1, j2, j3, j4, j5, hB⟩ := hJF
      have n6 := hcF.down 6 5 (by kernel_rfl) hfF
      refine step_alloc_row rfl 23 rfl _ (HZzn.out _) ?_
      have hB1 : Blk w (uF.alloc (.cells (arr .u8 zn) 23)) ([(w.heap.size, arr .u8 ks, 23), (w.heap.size + 1, arr .u8 zs64, 30), (gs, arr .u8 hs, 30), (g5, arr .u8 z1, 23), (g7, arr .u8 z4, 23), (g8, arr .u8 z7, 23), (gg4_6, arr .u8 z6103, 23)] ++ (ent (fF 3) (#[.slice (some ⟨gg4_6, 0, none⟩) 32 32, .slice (some ⟨g7, 0, none⟩) 32 32]) 33 ++ (ent ((some (.pointer (some ⟨uF.heap.size, 0, none⟩)) : Option Value)) ((if (fF 6).isSome = true then arr .u8 z6107 else arr .u8 zn)) 23))) := hB.ins (a := [(w.heap.size, arr .u8 ks, 23), (w.heap.size + 1, arr .u8 zs64, 30), (gs, arr .u8 hs, 30), (g5, arr .u8 z1, 23), (g7, arr .u8 z4, 23), (g8, arr .u8 z7, 23), (gg4_6, arr .u8 z6103, 23)] ++ ent (fF 3) (#[.slice (some ⟨gg4_6, 0, none⟩) 32 32, .slice (some ⟨g7, 0, none⟩) 32 32]) 33) (b := []) _ _ (by rw [hfF, n6]; simp only [ent_none, List.nil_append, List.append_nil, List.append_assoc, List.cons_append]) (by rw [n6]; simp only [ent_some, List.nil_append, List.append_nil, List.append_assoc, List.cons_append, Option.isSome_none, Bool.false_eq_true, if_false])
      exact hKF _ _ ⟨j0, j1, j2, j3, j4, fun _ h => ⟨_, sI h⟩, hB1⟩
    refine LinAll.cons (fun fF bF uF kF hJF hfF hcF hupF hsF hKF => ?_) ?_
    · obtain ⟨j0, j1, j2, j3, j4, j5, hB⟩ := hJF
      have y3 := hupF 3 (by kernel_rfl)
      obtain ⟨v3, s3⟩ := sE y3
      obtain ⟨gg5_7, rfl⟩ := j3 _ s3
      have y5 := hupF 5 (by kernel_rfl)
      obtain ⟨v5, s5⟩ := sE y5
      obtain ⟨gg5_8, rfl⟩ := j5 _ s5
      have e10 := hsF.val 5 10 rfl s5
      obtain ⟨e31, p31⟩ := hsF.at hupF 4 31 (by kernel_rfl) rfl j4
      have y4 := hupF 4 (by kernel_rfl)
      obtain ⟨v4, s4⟩ := sE y4
      have HZ6107 := Lib.hid (j4 _ s4).2
      have hB' := hB
      rw [s3, s5, hfF] at hB'
      refine step_store_whole rfl 23 (.tmp 10) (.tmp 31) rfl (gg5_8) (arr .u8 zn) _ 23 (hB'.get 8 rfl) e10 e31 (arr_len2 _ _ HL6107.out HLzn.out) (num_s HL6107.out) (all_arr _ _) ?_
      intro w1 hb1 hk1 hz1
      have hB1 : Blk w w1 ([(w.heap.size, arr .u8 ks, 23), (w.heap.size + 1, arr .u8 zs64, 30), (gs, arr .u8 hs, 30), (g5, arr .u8 z1, 23), (g7, arr .u8 z4, 23), (g8, arr .u8 z7, 23), (gg4_6, arr .u8 z6103, 23)] ++ (ent (fF 3) (#[.slice (some ⟨gg4_6, 0, none⟩) 32 32, .slice (some ⟨g7, 0, none⟩) 32 32]) 33 ++ (ent (fF 5) ((if ((some undef : Option Value)).isSome = true then arr .u8 z6107 else arr .u8 zn)) 23))) := by rw [s3, s5]; exact hB'.put 8 rfl hk1 hb1
      exact hKF undef w1 ⟨j0, j1, j2, j3, j4, j5, hB1⟩
    exact LinAll.nil
  case eg5 =>
  intro fF ug5 hall hJF
  obtain ⟨j0, j1, j2, j3, j4, j5, hB⟩ := hJF
  obtain ⟨v0, h0⟩ := sE (hall 0 (by decide))
  obtain ⟨rfl, p0⟩ := j0 _ h0
  obtain ⟨v1, h1⟩ := sE (hall 1 (by decide))
  obtain ⟨rfl, p1⟩ := j1 _ h1
  obtain ⟨v2, h2⟩ := sE (hall 2 (by decide))
  obtain ⟨rfl, p2⟩ := j2 _ h2
  obtain ⟨v3, h3⟩ := sE (hall 3 (by decide))
  obtain ⟨gg5_7, rfl⟩ := j3 _ h3
  obtain ⟨v4, h4⟩ := sE (hall 4 (by decide))
  obtain ⟨rfl, p4⟩ := j4 _ h4
  obtain ⟨v5, h5⟩ := sE (hall 5 (by decide))
  obtain ⟨gg5_8, rfl⟩ := j5 _ h5
  obtain ⟨v6, h6⟩ := sE (hall 6 (by decide))
  rw [h3, h5, h6] at hB
  have HBg5 : Hid (Blk w ug5 [(w.heap.size, arr .u8 ks, 23), (w.heap.size + 1, arr .u8 zs64, 30), (gs, arr .u8 hs, 30), (g5, arr .u8 z1, 23), (g7, arr .u8 z4, 23), (g8, arr .u8 z7, 23), (gg4_6, arr .u8 z6103, 23), (gg5_7, #[.slice (some ⟨gg4_6, 0, none⟩) 32 32, .slice (some ⟨g7, 0, none⟩) 32 32], 33), (gg5_8, arr .u8 z6107, 23)]) := Lib.hid hB
  have HZ6107 := Lib.hid p4
  simp only [laid, Nat.zero_add, Nat.reduceAdd, h0, h1, h2, h3, h4, h5, h6, Act.put, sA, sZ, sS]
  clear j0 j1 j2 j3 j4 j5 hB h0 h1 h2 h3 h4 h5 h6 hall fF HBg4
  clear p0 p1 p2 p4
  (try simp only [Exit.then])
  go_upto_region 6 with fail
  (try simp only [World.size_alloc, Act.put, sA, sZ, sS])
  obtain ⟨z6109, hz6109⟩ : ∃ z : List Int, z = nar (dig 256 32 ((wide (n32 (ebytes (emul base RR 256)) ++ (n32 (epub seed) ++ BB))) * (spart seed) % q)) := ⟨_, rfl⟩
  have HE6109 := Lib.hid hz6109
  have HL6109 : Hid (z6109.length = 32) := Lib.hid (by rw [hz6109]; exact (nar_len _).trans (dig_len _ _ _))
  clear hz6109
  obtain ⟨z6110, hz6110⟩ : ∃ z : List Int, z = nar (dig 256 32 ((RR + ((wide (n32 (ebytes (emul base RR 256)) ++ (n32 (epub seed) ++ BB))) * (spart seed) % q)) % q)) := ⟨_, rfl⟩
  have HE6110 := Lib.hid hz6110
  have HL6110 : Hid (z6110.length = 32) := Lib.hid (by rw [hz6110]; exact (nar_len _).trans (dig_len _ _ _))
  clear hz6110
  refine wp_region_lin (fun (fF : Fill) (uF : World) => (∀ v, fF 0 = some v → v = .agg (arr .u8 z7) ∧ True) ∧ (∀ v, fF 1 = some v → v = .agg (arr .u8 z6107) ∧ True) ∧ (∀ v, fF 2 = some v → v = .agg (arr .u8 z1) ∧ True) ∧ (∀ v, fF 3 = some v → v = .agg (arr .u8 z6109) ∧ K32 z6109 ((wide (n32 (ebytes (emul base RR 256)) ++ (n32 (epub seed) ++ BB))) * (spart seed) % q)) ∧ (∀ v, fF 4 = some v → v = .agg (arr .u8 z6110) ∧ K32 z6110 ((RR + ((wide (n32 (ebytes (emul base RR 256)) ++ (n32 (epub seed) ++ BB))) * (spart seed) % q)) % q)) ∧ (∀ v, fF 5 = some v → ∃ g : Nat, v = .pointer (some ⟨g, 0, none⟩)) ∧ Blk w uF ([(w.heap.size, arr .u8 ks, 23), (w.heap.size + 1, arr .u8 zs64, 30), (gs, arr .u8 hs, 30), (g5, arr .u8 z1, 23), (g7, arr .u8 z4, 23), (g8, arr .u8 z7, 23), (gg4_6, arr .u8 z6103, 23), (gg5_7, #[.slice (some ⟨gg4_6, 0, none⟩) 32 32, .slice (some ⟨g7, 0, none⟩) 32 32], 33), (gg5_8, arr .u8 z6107, 23)] ++ (ent (fF 5) ((if (fF 6).isSome = true then arr .u8 z6110 else arr .u8 zn)) 23))) (by kernel_rfl) (by kernel_rfl) ?zg6 ?sg6 ?eg6
  case zg6 => exact ⟨fun _ h => (by cases h), fun _ h => (by cases h), fun _ h => (by cases h), fun _ h => (by cases h), fun _ h => (by cases h), fun _ h => (by cases h), HBg5.out.drew⟩
  case sg6 =>
    refine LinAll.cons (fun fF bF uF kF hJF hfF hcF hupF hsF hKF => ?_) ?_
    · obtain ⟨j0, j1, j2, j3, j4, j5, hB⟩ := hJF
      have e8 : bF.eval (.tmp 8) = .pointer (some ⟨g8, 0, none⟩) := hsF.old' 8 (by kernel_rfl) rfl
      have hB' := hB
      refine step_load_part rfl 23 _ rfl (g8) (0) (arr .u8 z7) 23 (0, 0) _ (hB'.get 5 rfl) e8 .u8 z7 (arr_part _ _) Tryd.underlying23 rfl (num_i HL7.out) ?_
      exact hKF _ _ ⟨fun _ h => ⟨sI h, trivial⟩, j1, j2, j3, j4, j5, hB⟩
    refine LinAll.cons (fun fF bF uF kF hJF hfF hcF hupF hsF hKF => ?_) ?_
    · obtain ⟨j0, j1, j2, j3, j4, j5, hB⟩ := hJF
      have e10 : bF.eval (.tmp 10) = .pointer (some ⟨gg5_8, 0, none⟩) := hsF.old' 10 (by kernel_rfl) rfl
      have hB' := hB
      refine step_load_part rfl 23 _ rfl (gg5_8) (0) (arr .u8 z6107) 23 (0, 0) _ (hB'.get 8 rfl) e10 .u8 z6107 (arr_part _ _) Tryd.underlying23 rfl (num_i HL6107.out) ?_
      exact hKF _ _ ⟨j0, fun _ h => ⟨sI h, trivial⟩, j2, j3, j4, j5, hB⟩
    refine LinAll.cons (fun fF bF uF kF hJF hfF hcF hupF hsF hKF => ?_) ?_
    · obtain ⟨j0, j1, j2, j3, j4, j5, hB⟩ := hJF
      have e5 : bF.eval (.tmp 5) = .pointer (some ⟨g5, 0, none⟩) := hsF.old' 5 (by kernel_rfl) rfl
      have hB' := hB
      refine step_load_part rfl 23 _ rfl (g5) (0) (arr .u8 z1) 23 (0, 0) _ (hB'.get 3 rfl) e5 .u8 z1 (arr_part _ _) Tryd.underlying23 rfl (num_i HL1.out) ?_
      exact hKF _ _ ⟨j0, j1, fun _ h => ⟨sI h, trivial⟩, j3, j4, j5, hB⟩
    refine LinAll.cons (fun fF bF uF kF hJF hfF hcF hupF hsF hKF => ?_) ?_
    · obtain ⟨j0, j1, j2, j3, j4, j5, hB⟩ := hJF
      obtain ⟨e33, p33⟩ := hsF.at hupF 1 33 (by kernel_rfl) rfl j1
      obtain ⟨e34, p34⟩ := hsF.at hupF 2 34 (by kernel_rfl) rfl j2
      refine lin_call rfl 37 [Operand.tmp 33, Operand.tmp 34] _ [.agg (arr .u8 z6107), .agg (arr .u8 z1)] rfl (by simp only [List.map_cons, List.map_nil, e33, e34] <;> rfl) (fun _ _ => by kernel_rfl) ?_
      refine Calls.mono (smul_any _ _ _ HZ6107.out HZ1.out) ?_
      rintro e w1 ⟨y6111_0, rfl, r6111_0, hb⟩
      obtain rfl : y6111_0 = z6109 := r6111_0.1.trans HE6109.out.symm
      exact ⟨_, rfl, hKF _ _ ⟨j0, j1, j2, fun _ h => ⟨sI h, r6111_0⟩, j4, j5, hB.kept hb⟩⟩
    refine LinAll.cons (fun fF bF uF kF hJF hfF hcF hupF hsF hKF => ?_) ?_
    · obtain ⟨j0, j1, j2, j3, j4, j5, hB⟩ := hJF
      obtain ⟨e32, p32⟩ := hsF.at hupF 0 32 (by kernel_rfl) rfl j0
      obtain ⟨e35, p35⟩ := hsF.at hupF 3 35 (by kernel_rfl) rfl j3
      have y3 := hupF 3 (by kernel_rfl)
      obtain ⟨v3, s3⟩ := sE y3
      have HZ6109 := Lib.hid (j3 _ s3).2
      refine lin_call rfl 36 [Operand.tmp 32, Operand.tmp 35] _ [.agg (arr .u8 z7), .agg (arr .u8 z6109)] rfl (by simp only [List.map_cons, List.map_nil, e32, e35] <;> rfl) (fun _ _ => by kernel_rfl) ?_
      refine Calls.mono (sadd_any _ _ _ HZ7.out HZ6109.out) ?_
      rintro e w1 ⟨y6112_0, rfl, r6112_0, hb⟩
      obtain rfl : y6112_0 = z6110 := r6112_0.1.trans HE6110.out.symm
      exact ⟨_, rfl, hKF _ _ ⟨j0, j1, j2, j3, fun _ h => ⟨sI h, r6112_0⟩, j5, hB.kept hb⟩⟩
    refine LinAll.cons (fun fF bF uF kF hJF hfF hcF hupF hsF hKF => ?_) ?_
    · obtain ⟨j0, j1, j2, j3, j4, j5, hB⟩ := hJF
      have n6 := hcF.down 6 5 (by kernel_rfl) hfF
      refine step_alloc_row rfl 23 rfl _ (HZzn.out _) ?_
      have hB1 : Blk w (uF.alloc (.cells (arr .u8 zn) 23)) ([(w.heap.size, arr .u8 ks, 23), (w.heap.size + 1, arr .u8 zs64, 30), (gs, arr .u8 hs, 30), (g5, arr .u8 z1, 23), (g7, arr .u8 z4, 23), (g8, arr .u8 z7, 23), (gg4_6, arr .u8 z6103, 23), (gg5_7, #[.slice (some ⟨gg4_6, 0, none⟩) 32 32, .slice (some ⟨g7, 0, none⟩) 32 32], 33), (gg5_8, arr .u8 z6107, 23)] ++ (ent ((some (.pointer (some ⟨uF.heap.size, 0, none⟩)) : Option Value)) ((if (fF 6).isSome = true then arr .u8 z6110 else arr .u8 zn)) 23)) := hB.ins (a := [(w.heap.size, arr .u8 ks, 23), (w.heap.size + 1, arr .u8 zs64, 30), (gs, arr .u8 hs, 30), (g5, arr .u8 z1, 23), (g7, arr .u8 z4, 23), (g8, arr .u8 z7, 23), (gg4_6, arr .u8 z6103, 23), (gg5_7, #[.slice (some ⟨gg4_6, 0, none⟩) 32 32, .slice (some ⟨g7, 0, none⟩) 32 32], 33), (gg5_8, arr .u8 z6107, 23)]) (b := []) _ _ (by rw [hfF, n6]; simp only [ent_none, List.nil_append, List.append_nil, List.append_assoc, List.cons_append]) (by rw [n6]; simp only [ent_some, List.nil_append, List.append_nil, List.append_assoc, List.cons_append, Option.isSome_none, Bool.false_eq_true, if_false])
      exact hKF _ _ ⟨j0, j1, j2, j3, j4, fun _ h => ⟨_, sI h⟩, hB1⟩
    refine LinAll.cons (fun fF bF uF kF hJF hfF hcF hupF hsF hKF => ?_) ?_
    · obtain ⟨j0, j1, j2, j3, j4, j5, hB⟩ := hJF
      have y5 := hupF 5 (by kernel_rfl)
      obtain ⟨v5, s5⟩ := sE y5
      obtain ⟨gg6_9, rfl⟩ := j5 _ s5
      have e11 := hsF.val 5 11 rfl s5
      obtain ⟨e36, p36⟩ := hsF.at hupF 4 36 (by kernel_rfl) rfl j4
      have y4 := hupF 4 (by kernel_rfl)
      obtain ⟨v4, s4⟩ := sE y4
      have HZ6110 := Lib.hid (j4 _ s4).2
      have hB' := hB
      rw [s5, hfF] at hB'
      refine step_store_whole rfl 23 (.tmp 11) (.tmp 36) rfl (gg6_9) (arr .u8 zn) _ 23 (hB'.get 9 rfl) e11 e36 (arr_len2 _ _ HL6110.out HLzn.out) (num_s HL6110.out) (all_arr _ _) ?_
      intro w1 hb1 hk1 hz1
      have hB1 : Blk w w1 ([(w.heap.size, arr .u8 ks, 23), (w.heap.size + 1, arr .u8 zs64, 30), (gs, arr .u8 hs, 30), (g5, arr .u8 z1, 23), (g7, arr .u8 z4, 23), (g8, arr .u8 z7, 23), (gg4_6, arr .u8 z6103, 23), (gg5_7, #[.slice (some ⟨gg4_6, 0, none⟩) 32 32, .slice (some ⟨g7, 0, none⟩) 32 32], 33), (gg5_8, arr .u8 z6107, 23)] ++ (ent (fF 5) ((if ((some undef : Option Value)).isSome = true then arr .u8 z6110 else arr .u8 zn)) 23)) := by rw [s5]; exact hB'.put 9 rfl hk1 hb1
      exact hKF undef w1 ⟨j0, j1, j2, j3, j4, j5, hB1⟩
    exact LinAll.nil
  case eg6 =>
  intro fF ug6 hall hJF
  obtain ⟨j0, j1, j2, j3, j4, j5, hB⟩ := hJF
  obtain ⟨v0, h0⟩ := sE (hall 0 (by decide))
  obtain ⟨rfl, p0⟩ := j0 _ h0
  obtain ⟨v1, h1⟩ := sE (hall 1 (by decide))
  obtain ⟨rfl, p1⟩ := j1 _ h1
  obtain ⟨v2, h2⟩ := sE (hall 2 (by decide))
  obtain ⟨rfl, p2⟩ := j2 _ h2
  obtain ⟨v3, h3⟩ := sE (hall 3 (by decide))
  obtain ⟨rfl, p3⟩ := j3 _ h3
  obtain ⟨v4, h4⟩ := sE (hall 4 (by decide))
  obtain ⟨rfl, p4⟩ := j4 _ h4
  obtain ⟨v5, h5⟩ := sE (hall 5 (by decide))
  obtain ⟨gg6_9, rfl⟩ := j5 _ h5
  obtain ⟨v6, h6⟩ := sE (hall 6 (by decide))
  rw [h5, h6] at hB
  have HBg6 : Hid (Blk w ug6 [(w.heap.size, arr .u8 ks, 23), (w.heap.size + 1, arr .u8 zs64, 30), (gs, arr .u8 hs, 30), (g5, arr .u8 z1, 23), (g7, arr .u8 z4, 23), (g8, arr .u8 z7, 23), (gg4_6, arr .u8 z6103, 23), (gg5_7, #[.slice (some ⟨gg4_6, 0, none⟩) 32 32, .slice (some ⟨g7, 0, none⟩) 32 32], 33), (gg5_8, arr .u8 z6107, 23), (gg6_9, arr .u8 z6110, 23)]) := Lib.hid hB
  have HZ6109 := Lib.hid p3
  have HZ6110 := Lib.hid p4
  simp only [laid, Nat.zero_add, Nat.reduceAdd, h0, h1, h2, h3, h4, h5, h6, Act.put, sA, sZ, sS]
  clear j0 j1 j2 j3 j4 j5 hB h0 h1 h2 h3 h4 h5 h6 hall fF HBg5
  clear p0 p1 p2 p3 p4
  (try simp only [Exit.then])
  go_upto_region 7 with fail
  (try simp only [World.size_alloc, Act.put, sA, sZ, sS])
  have hfin : z6103 ++ z6110 = res := by rw [HRES.out, HZ6103.out.1, HZ6110.out.1]; rfl
  have HFIN := Lib.hid hfin
  clear hfin
  refine wp_region_held_drew (S := fun _ => True) (by kernel_rfl) trivial (fun hHeld => ?_)
  have HBd := Lib.hid (HBg6.out.drew)
  generalize ug6.drew = wd at HBd ⊢
  refine wpAnyH_take (i := 0) (oi := (⟨some 37, _, _, _, _, none⟩ : Oper)) (v := .slice (some ⟨gg4_6, 0, none⟩) 32 32) rfl (by kernel_rfl) (by kernel_rfl) (by kernel_rfl) (fun _ _ _ h => h) (Or.inl ⟨by rfl, ?hy4100⟩) trivial ?rest4100
  case hy4100 => (intro w _; (try dsimp only); go_simp; try (with_reducible rfl))
  (try simp only [Act.put, sA, sZ, sS])
  refine wpAnyH_take (i := 1) (oi := (⟨some 38, _, _, _, _, none⟩ : Oper)) (v := .slice (some ⟨gg6_9, 0, none⟩) 32 32) rfl (by kernel_rfl) (by kernel_rfl) (by kernel_rfl) (fun _ _ _ h => h) (Or.inl ⟨by rfl, ?hy4101⟩) trivial ?rest4101
  case hy4101 => (intro w _; (try dsimp only); go_simp; try (with_reducible rfl))
  (try simp only [Act.put, sA, sZ, sS])
  refine wpAnyH_ready (rs := [2]) (by kernel_rfl) (by simp) ?_
  refine AllReadyH.cons (o := (⟨some 39, _, _, _, _, none⟩ : Oper)) rfl (fun K hK => ?_) AllReadyH.nil
  refine step_append_arr rfl (.tmp 37) (.tmp 38) rfl gg4_6 gg6_9 32 32 z6103 z6110 rfl rfl (src_all (HBd.out.get 6 rfl) 32 HL6103.out) (src_all (HBd.out.get 9 rfl) 32 HL6110.out) (by decide) (by decide) ?_
  rw [HFIN.out]
  intro gr cap we hre hbe
  have HRE := Lib.hid hre
  have HBe := Lib.hid (HBd.out.kept hbe)
  clear hre hbe
  refine hK.out _ _ trivial (fun _ => ?_)
  clear hK K
  (try simp only [Act.put, sA, sZ, sS])
  refine wpAnyH_take (i := 3) (oi := (⟨some 40, _, _, _, _, none⟩ : Oper)) (v := .pointer (some ⟨gr, 0, none⟩)) rfl (by kernel_rfl) (by kernel_rfl) (by kernel_rfl) (fun _ _ _ h => h) (Or.inl ⟨by rfl, ?hy4103⟩) trivial ?rest4103
  case hy4103 => (intro w _; (try dsimp only); first | rfl | kernel_rfl)
  (try simp only [Act.put, sA, sZ, sS])
  refine wpAnyH_ready (rs := [4]) (by kernel_rfl) (by simp) ?_
  refine AllReadyH.cons (o := (⟨some 41, _, _, _, _, none⟩ : Oper)) rfl (fun K hK => ?_) AllReadyH.nil
  rw [if_pos (by simp [Region.wanted])]
  refine wp_load_mid 30 (.tmp 40) rfl gr 0 rfl (res.map (Value.int .u8)) _ (cells_of HRE.out) Tryd.underlying30 rfl (by rw [List.length_map]; exact sig_i HRESL.out) ?_
  refine hK.out _ _ trivial (fun _ => ?_)
  clear hK K
  (try simp only [Act.put, sA, sZ, sS])
  refine wpAnyH_ready (rs := [5]) (by kernel_rfl) (by simp) ?_
  refine AllReadyH.cons (o := (⟨none, _, _, _, _, none⟩ : Oper)) rfl (fun K hK => ?_) AllReadyH.nil
  refine step_store_whole rfl 30 (.tmp 4) (.tmp 41) rfl (w.heap.size + 1) _ _ 30 (HBe.out.get 1 rfl) rfl rfl (arr_len2 _ _ HRESL.out HLzs64.out) (sig_s HRESL.out) (all_arr _ _) ?_
  intro wf hbf hkf hzf
  have HBf := Lib.hid (HBe.out.put 1 rfl hkf hbf)
  clear hbf hkf hzf
  refine hK.out _ _ trivial (fun _ => ?_)
  clear hK K
  (try simp only [Act.put, sA, sZ, sS])
  refine wpAnyH_done (by kernel_rfl) ?_ _
  (try simp only [Exit.then])
  go_wp2_with fail
  refine bodyPost_ret (results_cell_row rfl _ _ (w.heap.size + 1) 30 _ (0, 0) _ rfl (HBf.out.get 1 rfl) Tryd.underlying30 rfl (sig_s HRESL.out)) rfl ?_
  exact ⟨rfl, HBf.out.below⟩
end Go.Proofs.YtanjhngehfbpbaaDoor.Sl
