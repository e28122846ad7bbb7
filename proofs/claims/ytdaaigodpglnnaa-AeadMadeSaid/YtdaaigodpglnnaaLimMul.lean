/- limb.N's Mul: the whole product. Condition: four limbs each. -/
import Derived.Test.YtdaaigodpglnnaaLimA
import Derived.Test.YtdaaigodpglnnaaLimQ
import Derived.StillTailTactics
namespace Go.Proofs.Ytdaaigodpglnnaa.Lm
open Go.RowKit
theorem zero8 (w : World) : (zeroValue 95).run Try.prog w = .ok (.agg (arr .u64 (List.replicate 8 0))) w := by kernel_rfl
theorem nar8 (xs : List Nat) (hl : xs.length = 8) : (arr .u64 (nar xs)).size = (arr .u64 (List.replicate 8 0)).size := by rw [arr_size, arr_size, nar_len, hl, List.length_replicate]
theorem nar8s (xs : List Nat) (hl : xs.length = 8) : (Try.prog.info? 95).map (·.size) = some (arr .u64 (nar xs)).size := by rw [arr_size, nar_len, hl]; kernel_rfl
theorem nar8i (xs : List Nat) (hl : xs.length = 8) : (Try.prog.info? 95).map (·.size) = some (nar xs).length := by rw [nar_len, hl]; kernel_rfl
theorem prod_le (x y : Nat) (hx : x < 18446744073709551616) (hy : y < 18446744073709551616) : x * y ≤ 18446744073709551615 * 18446744073709551615 := Nat.mul_le_mul (by omega) (by omega)

set_option maxRecDepth 100000 in
set_option maxHeartbeats 2000000 in
theorem lmul_any (xs ys : List Nat) (w : World) (lx : xs.length = 4) (ly : ys.length = 4) (bx : ∀ x ∈ xs, x < 18446744073709551616) (bby : ∀ x ∈ ys, x < 18446744073709551616) :
    Calls Try.prog 65 #[.agg (arr .u64 (nar xs)), .agg (arr .u64 (nar ys))] w fun e w' => e = .returned (.agg (arr .u64 (nar (dig 18446744073709551616 8 (val 18446744073709551616 xs * val 18446744073709551616 ys))))) ∧ Below w.heap.size w w' := by
  have S0 := Lib.hid (B4.start w (arr .u64 (nar xs)) (arr .u64 (nar ys)) (arr .u64 (List.replicate 8 0)) (arr .u64 (List.replicate 8 0)) 75 75 95 95)
  have LX := Lib.hid lx
  have LY := Lib.hid ly
  have BX := Lib.hid bx
  have BY := Lib.hid bby
  clear lx ly bx bby
  go_enter Try.func65, Try.ntmps65
  go_wp2_with (first | ((with_reducible show wpList _ _ _ (Oper.mk (some 4) _ _ _ _ _ :: _) _ _); refine wpList_alloc_row rfl 95 rfl _ (zero8 _) ?_) | ((with_reducible show wpList _ _ _ (Oper.mk (some 5) _ _ _ _ _ :: _) _ _); refine wpList_alloc_row rfl 95 rfl _ (zero8 _) ?_))
  go_loopw [12] (fun v wr => ∃ (i : Nat) (os : List Nat), i ≤ 4 ∧ v = .int .i64 i ∧ os.length = 8 ∧ (∀ x ∈ os, x < 18446744073709551616) ∧ (∀ k, i + 4 ≤ k → os.getD k 0 = 0) ∧ val 18446744073709551616 os = val 18446744073709551616 (xs.take i) * val 18446744073709551616 ys ∧ B4 w wr (arr .u64 (nar xs)) (arr .u64 (nar ys)) (arr .u64 (List.replicate 8 0)) (arr .u64 (nar os)) 75 75 95 95) (fun v _ => 4 - (intOf v).toNat)
  case atStart => exact ⟨0, List.replicate 8 0, Nat.zero_le _, rfl, by simp, by simp, fun k _ => getD_zeros 8 k, by rw [val_zeros, List.take_zero]; simp [val], by rw [nar_zeros]; exact S0.out⟩
  clear S0
  case round =>
  obtain ⟨i, os, hi, rfl, hol, hob, hoz, hv, hB⟩ := hrel
  by_cases hlt : i < 4
  · have xi := lt_getD BX.out (by omega) i
    generalize hx : xs.getD i 0 = x at xi
    have HX := Lib.hid hx
    have HB := Lib.hid hB
    have HOL := Lib.hid hol
    have HOB := Lib.hid hob
    have HOZ := Lib.hid hoz
    have HV := Lib.hid hv
    clear hx hB hol hob hoz hv
    go_wp2_with fail
    generalize Value.bool (decide ((i : Int) < 4)) = u13'
    go_loopw [7, 15] (fun cv jv wr => ∃ (j c : Nat) (ps : List Nat), j ≤ 4 ∧ jv = .int .i64 j ∧ cv = .int .u64 c ∧ c < 18446744073709551616 ∧ ps.length = 8 ∧ (∀ x ∈ ps, x < 18446744073709551616) ∧ (∀ k, i + 4 ≤ k → ps.getD k 0 = 0) ∧ val 18446744073709551616 ps + 18446744073709551616 ^ (i + j) * c = val 18446744073709551616 os + 18446744073709551616 ^ i * x * val 18446744073709551616 (ys.take j) ∧ B4 w wr (arr .u64 (nar xs)) (arr .u64 (nar ys)) (arr .u64 (List.replicate 8 0)) (arr .u64 (nar ps)) 75 75 95 95) (fun _ jv _ => 4 - (intOf jv).toNat)
    case atStart => exact ⟨0, 0, os, Nat.zero_le _, rfl, rfl, by decide, HOL.out, HOB.out, HOZ.out, by rw [List.take_zero]; simp [val], HB.out⟩
    case round =>
      obtain ⟨j, c, ps, hj, rfl, rfl, hc, hpl, hpb, hpz, hpv, hP⟩ := hrel
      by_cases hlj : j < 4
      · have q0 := blk_arr' hP.b0 i (by rw [nar_len, LX.out]; exact hlt)
        have q1 := blk_arr' hP.b1 j (by rw [nar_len, LY.out]; exact hlj)
        have q2 := blk_arr' hP.b3 (i + j) (by rw [nar_len, hpl]; omega)
        have q3 := free_blk hP.b3 (i + j)
        rw [nar_get] at q0 q1 q2
        rw [HX.out] at q0
        have yj := lt_getD BY.out (by omega) j
        have oj := lt_getD hpb (by omega) (i + j)
        generalize hy : ys.getD j 0 = y at q1 yj
        generalize ho : ps.getD (i + j) 0 = o at q2 oj
        obtain ⟨m1, m2⟩ := mul_bits (x * y) o c (prod_le x y xi yj) oj hc
        have M1 := fun w => mul64 x y xi yj w
        have a1 := add64 (x * y % 18446744073709551616) o 0 (by omega)
        have a2 := add64 ((x * y % 18446744073709551616 + o) % 18446744073709551616) c 0 (by omega)
        rw [Nat.add_zero] at a1 a2
        have e0 : ((0 : Nat) : Int) = 0 := rfl
        rw [e0] at a1 a2
        have k0 : x * y / 18446744073709551616 ≤ 18446744073709551616 - 2 := by have := prod_le x y xi yj; omega
        have k1 : (x * y % 18446744073709551616 + o) / 18446744073709551616 ≤ 1 := by omega
        have k2 : ((x * y % 18446744073709551616 + o) % 18446744073709551616 + c) / 18446744073709551616 ≤ 1 := by omega
        have k3 : ((x * y % 18446744073709551616 + o) % 18446744073709551616 + c) % 18446744073709551616 < 18446744073709551616 := Nat.mod_lt _ (by decide)
        have k4 : x * y % 18446744073709551616 < 18446744073709551616 := Nat.mod_lt _ (by decide)
        have k5 : (x * y % 18446744073709551616 + o) % 18446744073709551616 < 18446744073709551616 := Nat.mod_lt _ (by decide)
        generalize hP0 : x * y = P0 at M1 a1 a2 k0 k1 k2 k3 k4 k5 m1 m2
        generalize P0 / 18446744073709551616 = h0 at M1 a1 a2 k0 k1 k2 k3 k4 k5 m1 m2
        generalize P0 % 18446744073709551616 = l0 at M1 a1 a2 k1 k2 k3 k4 k5 m1 m2
        generalize (l0 + o) / 18446744073709551616 = c1 at a1 k1 m1 m2
        generalize (l0 + o) % 18446744073709551616 = s1 at a1 a2 k2 k3 k5 m1 m2
        generalize (s1 + c) / 18446744073709551616 = c2 at a2 k2 m1 m2
        generalize (s1 + c) % 18446744073709551616 = lo at a2 k3 m1
        subst hP0
        have hb1 := hP.set3 (i + j) (.int .u64 ((lo : Nat) : Int))
        rw [arr_set, ← nar_set] at hb1
        have hs := val_set 18446744073709551616 ps (i + j) lo (by omega)
        rw [ho] at hs
        have hst := mul_step 18446744073709551616 i j x y o c lo (h0 + c1 + c2) _ _ _ _ hpv hs m1
        rw [← hy, ← val_take_succ 18446744073709551616 ys j (by rw [LY.out]; exact hlj)] at hst
        have HB1 := Lib.hid hb1
        have HST := Lib.hid hst
        have HPL : Hid ((ps.set (i + j) lo).length = 8) := Lib.hid (by simpa using hpl)
        have HPB : Hid (∀ z ∈ ps.set (i + j) lo, z < 18446744073709551616) := Lib.hid (lt_set hpb _ _ k3)
        have HPZ : Hid (∀ k, i + 4 ≤ k → (ps.set (i + j) lo).getD k 0 = 0) := Lib.hid (by intro k hk; have e := hpz k hk; simp only [List.getD] at e ⊢; rw [List.getElem?_set_ne (by omega)]; exact e)
        clear hP hb1 hs hst hpl hpb hpz hpv hy ho m1
        go_wp2_with fail
        refine wp_region_still_lit (by kernel_rfl) (by kernel_rfl) ?_
        repeat still_step
        (refine wpStill_step (fun K hK => ?_); go_simp; refine Exists.intro _ (And.intro (M1 _) ?_); refine hK _ ?_; clear hK K)
        repeat still_step
        refine wpStill_nil ?_
        go_wp2_with fail
        go_roundw
        case rel => exact ⟨j + 1, h0 + c1 + c2, _, by omega, by go_num, by go_num, m2, HPL.out, HPB.out, HPZ.out, HST.out, HB1.out.drew⟩
        case measure => simp [intOf]; omega
      · have e4 : j = 4 := by omega
        have ty : ys.take 4 = ys := take4 ys LY.out
        rw [e4, ty] at hpv
        have hz4 := hpz (i + 4) (Nat.le_refl _)
        have hs := val_set 18446744073709551616 ps (i + 4) c (by omega)
        rw [hz4, Nat.mul_zero, Nat.add_zero, hpv, HV.out, ← HX.out, ← Nat.add_mul, ← val_take_succ 18446744073709551616 xs i (by rw [LX.out]; exact hlt)] at hs
        have q2 := blk_arr' hP.b3 (i + 4) (by rw [nar_len, hpl]; omega)
        have q3 := free_blk hP.b3 (i + 4)
        have hb1 := hP.set3 (i + 4) (.int .u64 ((c : Nat) : Int))
        rw [arr_set, ← nar_set] at hb1
        have HB1 := Lib.hid hb1
        have HS := Lib.hid hs
        have HPL : Hid ((ps.set (i + 4) c).length = 8) := Lib.hid (by simpa using hpl)
        have HPB : Hid (∀ z ∈ ps.set (i + 4) c, z < 18446744073709551616) := Lib.hid (lt_set hpb _ _ hc)
        have HPZ : Hid (∀ k, i + 1 + 4 ≤ k → (ps.set (i + 4) c).getD k 0 = 0) := Lib.hid (by intro k hk; have e := hpz k (by omega); simp only [List.getD] at e ⊢; rw [List.getElem?_set_ne (by omega)]; exact e)
        clear hP hb1 hs hpl hpb hpz hpv hz4 ty e4 HV HB HOL HOB HOZ
        go_wp2_with fail
        go_roundw
        case rel => exact ⟨i + 1, _, by omega, by go_num, HPL.out, HPB.out, HPZ.out, HS.out, HB1.out⟩
        case measure => simp [intOf]; omega
  · have e4 : i = 4 := by omega
    rw [e4, take4 xs LX.out] at hv
    have HD := Lib.hid (dig_eq 18446744073709551616 (by decide) 8 _ os hol hob hv)
    have HB := Lib.hid hB
    have HOL := Lib.hid hol
    clear hB hv hol hob hoz e4
    go_wp2_with (first | ((with_reducible show wpList _ _ _ (Oper.mk (some 61) _ _ _ _ _ :: _) _ _); refine wpList_load_part rfl 95 _ rfl (w.heap.size + 1 + 1 + 1) 0 _ 95 (0, 0) _ HB.out.b3 rfl .u64 (nar os) (arr_part _ _) Try.underlying95 rfl (nar8i os HOL.out) ?_) | ((with_reducible show wpList _ _ _ (Oper.mk none _ _ _ _ _ :: _) _ _); refine wpList_store_whole rfl 95 _ _ rfl (w.heap.size + 1 + 1) _ _ 95 HB.out.b2 rfl rfl (nar8 os HOL.out) (nar8s os HOL.out) (all_arr _ _) ?_; intro w7 hb7 hk7 hz7; have HB7 := Lib.hid (HB.out.put2 hk7 hb7); clear hb7 hk7 hz7))
    (try simp only [Exit.inBlock, Exit.then])
    refine bodyPost_ret (results_cell_row rfl _ _ (w.heap.size + 1 + 1) 95 _ (0, 0) _ rfl HB7.out.b2 Try.underlying95 rfl (nar8s os HOL.out)) rfl ?_
    exact ⟨by rw [← HD.out], HB7.out.below⟩
end Go.Proofs.Ytdaaigodpglnnaa.Lm
