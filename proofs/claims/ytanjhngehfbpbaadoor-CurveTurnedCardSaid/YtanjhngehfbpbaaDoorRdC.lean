/- The document's mul: what it answers. Condition: two rows that stand for numbers modulo p. -/
import Derived.Test.YtanjhngehfbpbaaDoorRdB
namespace Go.Proofs.YtanjhngehfbpbaaDoor.Rd
open Go.RowKit Lm Fp

theorem zero_31 (w : World) : (zeroValue 139).run Tryd.prog w = .ok (.agg (arr .i64 (List.replicate 31 0))) w := by kernel_rfl
def mf (ts : List Int) (i : Nat) : List Int := tb 16 fun j => if j < i then (if j < 15 then ts.getD j 0 + 38 * ts.getD (j + 16) 0 else ts.getD j 0) else 0
theorem mf_zero (ts : List Int) : List.replicate 16 0 = mf ts 0 := by
  rw [tb_zero]
  exact tb_congr _ _ _ fun j _ => by rw [if_neg (by omega)]
theorem mf_all (ts : List Int) : mf ts 16 = foldr ts := tb_congr _ _ _ fun _ hj => if_pos hj
theorem mf_step (ts : List Int) (i : Nat) (v : Int) (h : (if i < 15 then ts.getD i 0 + 38 * ts.getD (i + 16) 0 else ts.getD i 0) = v) : (mf ts i).set i v = mf ts (i + 1) := by
  subst h
  rw [mf, tb_set]
  refine tb_congr _ _ _ fun j _ => ?_
  by_cases e : j = i
  · subst e; rw [if_pos rfl, if_pos (show j < j + 1 by omega)]
  · rw [if_neg e]
    by_cases e3 : j < i
    · rw [if_pos e3, if_pos (show j < i + 1 by omega)]
    · rw [if_neg e3, if_neg (show ¬ j < i + 1 by omega)]
theorem row_done (a b c d : Int) (h : c = a * d + b * d) : c = (a + b) * d := by rw [h, Int.add_mul]

set_option maxRecDepth 100000 in
set_option maxHeartbeats 4000000 in
theorem mul_any (xs ys : List Int) (a b : Nat) (w : World) (hx : El xs a) (hy : El ys b) :
    Calls Tryd.prog 68 #[.agg (arr .i64 xs), .agg (arr .i64 ys)] w fun e w' => ∃ zs, e = .returned (.agg (arr .i64 zs)) ∧ El zs (fmul a b) ∧ Below w.heap.size w w' := by
  obtain ⟨ze, hze⟩ : ∃ zs : List Int, zs = List.replicate 16 0 := ⟨_, rfl⟩
  have HZze : Hid (∀ w, (zeroValue 64).run Tryd.prog w = .ok (.agg (arr .i64 ze)) w) := Lib.hid (by intro w; rw [hze]; exact zero_el w)
  have HLze : Hid (ze.length = 16) := Lib.hid (by rw [hze]; rfl)
  obtain ⟨zt, hzt⟩ : ∃ zs : List Int, zs = List.replicate 31 0 := ⟨_, rfl⟩
  have HZt : Hid (∀ w, (zeroValue 139).run Tryd.prog w = .ok (.agg (arr .i64 zt)) w) := Lib.hid (by intro w; rw [hzt]; exact zero_31 w)
  have HLt : Hid (zt.length = 31) := Lib.hid (by rw [hzt]; rfl)
  have HVt : Hid (vi zt = 0) := Lib.hid (by rw [hzt]; decide)
  have HGt : Hid (∀ n, zt.getD n 0 = 0) := Lib.hid (by intro n; rw [hzt, List.getD, List.getElem?_replicate]; split <;> rfl)
  have HZ0 : Hid (∀ ts, ze = mf ts 0) := Lib.hid (fun ts => by rw [hze]; exact mf_zero ts)
  have HX := Lib.hid hx
  have HY := Lib.hid hy
  have HXB := Lib.hid (getD_bound xs 1048576 hx.2.1 (by decide))
  have HYB := Lib.hid (getD_bound ys 1048576 hy.2.1 (by decide))
  have HYV : Hid (si 16 (fun j => 65536 ^ j * ys.getD j 0) = vi ys) := Lib.hid (vi_len 16 ys hy.1).symm
  have HXV : Hid (si 16 (fun j => 65536 ^ j * xs.getD j 0) = vi xs) := Lib.hid (vi_len 16 xs hx.1).symm
  have HS0 := Lib.hid (Blk.four w (arr .i64 xs) (arr .i64 ys) (arr .i64 ze) (arr .i64 zt) 64 64 64 139)
  clear hze hzt hx hy
  go_enter Tryd.func68, Tryd.ntmps68
  go_wp2_with (first | ((with_reducible refine aS 4 ?_); refine wpList_alloc_row rfl 64 rfl _ (HZze.out _) ?_) | ((with_reducible refine aS 5 ?_); refine wpList_alloc_row rfl 139 rfl _ (HZt.out _) ?_))
  go_loopw [6] (fun v wr => ∃ i : Nat, i ≤ 16 ∧ v = .int .i64 i ∧ ∃ ts : List Int, ts.length = 31 ∧ (∀ n, -(1099511627776 * (i : Int)) ≤ ts.getD n 0 ∧ ts.getD n 0 ≤ 1099511627776 * (i : Int)) ∧ vi ts = si i (fun j => 65536 ^ j * xs.getD j 0) * vi ys ∧ Blk w wr [(w.heap.size, arr .i64 xs, 64), (w.heap.size + 1, arr .i64 ys, 64), (w.heap.size + 1 + 1, arr .i64 ze, 64), (w.heap.size + 1 + 1 + 1, arr .i64 ts, 139)]) (fun v _ => 16 - (intOf v).toNat)
  case atStart => exact ⟨0, Nat.zero_le _, rfl, zt, HLt.out, (by intro n; rw [HGt.out n]; omega), (by rw [HVt.out, si, Int.zero_mul]), HS0.out⟩
  clear HS0
  case round =>
  obtain ⟨i, hi, rfl, ts, tl, tb0, tv, hB⟩ := hrel
  by_cases hlt : i < 16
  · have HB := Lib.hid hB
    have HTL := Lib.hid tl
    have HTB := Lib.hid tb0
    have HTV := Lib.hid tv
    clear hB tl tb0 tv
    go_wp2_with fail
    generalize Value.bool (decide ((i : Int) < 16)) = u11'
    go_loopw [7] (fun v wr => ∃ k : Nat, k ≤ 16 ∧ v = .int .i64 k ∧ ∃ us : List Int, us.length = 31 ∧ (∀ n, -(1099511627776 * ((i : Int) + if i ≤ n ∧ n < i + k then 1 else 0)) ≤ us.getD n 0 ∧ us.getD n 0 ≤ 1099511627776 * ((i : Int) + if i ≤ n ∧ n < i + k then 1 else 0)) ∧ vi us = si i (fun j => 65536 ^ j * xs.getD j 0) * vi ys + 65536 ^ i * xs.getD i 0 * si k (fun j => 65536 ^ j * ys.getD j 0) ∧ Blk w wr [(w.heap.size, arr .i64 xs, 64), (w.heap.size + 1, arr .i64 ys, 64), (w.heap.size + 1 + 1, arr .i64 ze, 64), (w.heap.size + 1 + 1 + 1, arr .i64 us, 139)]) (fun v _ => 16 - (intOf v).toNat)
    case atStart => exact ⟨0, Nat.zero_le _, rfl, ts, HTL.out, (by intro n; rw [if_neg (by omega)]; have := HTB.out n; omega), (by rw [HTV.out, si, Int.mul_zero, Int.add_zero]), HB.out⟩
    case round =>
      obtain ⟨k, hk, rfl, us, ul, ub, uv, hU⟩ := hrel
      by_cases hlk : k < 16
      · have q0 := arr_get' (hU.get 0 rfl) i (by rw [HX.out.1]; exact hlt)
        have q1 := arr_get' (hU.get 1 rfl) k (by rw [HY.out.1]; exact hlk)
        have q2 := arr_get' (hU.get 3 rfl) (i + k) (by rw [ul]; omega)
        have q3 := free_blk (hU.get 3 rfl) (i + k)
        have pb := prod_bound xs ys us i k HXB.out HYB.out hlt hlk ul ub
        have ps := prod_step xs ys us i k hlt hlk ul _ uv
        have ub0 := ub (i + k)
        rw [if_neg (by omega)] at ub0
        have hp : -1099511627776 ≤ xs.getD i 0 * ys.getD k 0 ∧ xs.getD i 0 * ys.getD k 0 ≤ 1099511627776 := by
          have h1 := HXB.out i
          have h2 := HYB.out k
          generalize xs.getD i 0 = x at h1
          generalize ys.getD k 0 = y at h2
          have e := Int.natAbs_mul x y
          have a1 : x.natAbs ≤ 1048576 := by omega
          have a2 : y.natAbs ≤ 1048576 := by omega
          have := Nat.mul_le_mul a1 a2
          omega
        have HPB := Lib.hid pb
        have HPS := Lib.hid ps
        have HPL : Hid ((us.set (i + k) (us.getD (i + k) 0 + xs.getD i 0 * ys.getD k 0)).length = 31) := Lib.hid (by rw [List.length_set, ul])
        have hb1 := hU.cell 3 rfl (i + k) (.int .i64 (us.getD (i + k) 0 + xs.getD i 0 * ys.getD k 0))
        obtain ⟨vs, hvs⟩ : ∃ vs, vs = us.set (i + k) (us.getD (i + k) 0 + xs.getD i 0 * ys.getD k 0) := ⟨_, rfl⟩
        have e2 : (arr .i64 us).setIfInBounds (i + k) (.int .i64 (us.getD (i + k) 0 + xs.getD i 0 * ys.getD k 0)) = arr .i64 vs := by rw [arr_set, hvs]
        have HB1 := Lib.hid (hb1.cast (l' := [(w.heap.size, arr .i64 xs, 64), (w.heap.size + 1, arr .i64 ys, 64), (w.heap.size + 1 + 1, arr .i64 ze, 64), (w.heap.size + 1 + 1 + 1, arr .i64 vs, 139)]) (by rw [← e2]; rfl))
        rw [← hvs] at HPB HPS HPL
        clear hb1 e2 hvs hU ul ub uv pb ps
        generalize us.getD (i + k) 0 = u at q2 ub0 HB1
        generalize xs.getD i 0 = x at q0 hp HPS HB1
        generalize ys.getD k 0 = y at q1 hp HB1
        go_wp2_with fail
        go_region
        go_wp2_with fail
        go_roundw
        case rel => exact ⟨k + 1, by omega, by go_num, vs, HPL.out, HPB.out, HPS.out, HB1.out.drew⟩
        case measure => simp [intOf]; omega
      · obtain rfl : k = 16 := by omega
        rw [HYV.out] at uv
        have HU := Lib.hid hU
        have HUL := Lib.hid ul
        have HUB : Hid (∀ n, -(1099511627776 * ((i + 1 : Nat) : Int)) ≤ us.getD n 0 ∧ us.getD n 0 ≤ 1099511627776 * ((i + 1 : Nat) : Int)) := Lib.hid (by
          intro n
          have := ub n
          by_cases e : i ≤ n ∧ n < i + 16
          · rw [if_pos e] at this; omega
          · rw [if_neg e] at this; omega)
        have HUV : Hid (vi us = si (i + 1) (fun j => 65536 ^ j * xs.getD j 0) * vi ys) := Lib.hid (by rw [uv, si, Int.add_mul])
        clear hU ul ub uv HB HTL HTB HTV
        go_wp2_with fail
        go_roundw
        case rel => exact ⟨i + 1, by omega, by go_num, us, HUL.out, HUB.out, HUV.out, HU.out⟩
        case measure => simp [intOf]; omega
  · obtain rfl : i = 16 := by omega
    rw [HXV.out] at tv
    have hf := El.mul HX.out HY.out tl (by intro n; have := tb0 n; omega) tv
    have fb : ∀ x ∈ foldr ts, -1125899906842624 ≤ x ∧ x ≤ 1125899906842624 := tb_mem _ _ _ fun i _ => by
      have h1 := tb0 i
      have h2 := tb0 (i + 16)
      split <;> omega
    have n1 : Near (38 * 17180200000) (carry (foldr ts)) := carry_any _ 1125899906842624 17180200000 (getD_bound _ _ fb (by decide)) (by decide) (by decide)
    have HC1 := Lib.hid (fun w => carry_code (foldr ts) w (tb_len _ _) (fun x hx => by have := fb x hx; omega))
    have HC2 := Lib.hid (fun w => carry_code (carry (foldr ts)) w (carry_len _) (fun x hx => by have := near_mem n1 (by decide) x hx; omega))
    obtain ⟨rs, hrs⟩ : ∃ rs, rs = carry (carry (foldr ts)) := ⟨_, rfl⟩
    have HRL : Hid (rs.length = 16) := Lib.hid (by rw [hrs]; exact carry_len _)
    rw [← hrs] at hf HC2
    obtain ⟨cs1, hcs1⟩ : ∃ cs, cs = carry (foldr ts) := ⟨_, rfl⟩
    rw [← hcs1] at HC1 HC2
    have HF := Lib.hid hf
    have HTB := Lib.hid tb0
    have HTL := Lib.hid tl
    have HB := Lib.hid (hB.alloc (arr .i64 ze) 64)
    clear hf fb n1 hrs hcs1 tb0 tl tv hB
    go_wp2_with (first | ((with_reducible refine aS 8 ?_); refine wpList_alloc_row rfl 64 rfl _ (HZze.out _) ?_))
    generalize wr.heap.size = go at HB ⊢
    go_loopw [9] (fun v wq => ∃ i : Nat, i ≤ 16 ∧ v = .int .i64 i ∧ ∃ os : List Int, os = mf ts i ∧ Blk w wq [(w.heap.size, arr .i64 xs, 64), (w.heap.size + 1, arr .i64 ys, 64), (w.heap.size + 1 + 1, arr .i64 ze, 64), (w.heap.size + 1 + 1 + 1, arr .i64 ts, 139), (go, arr .i64 os, 64)]) (fun v _ => 16 - (intOf v).toNat)
    case atStart => exact ⟨0, Nat.zero_le _, rfl, _, HZ0.out ts, HB.out⟩
    case round =>
      obtain ⟨i, hi, rfl, os, hos, hQ⟩ := hrel
      have ol : os.length = 16 := by rw [hos]; exact tb_len _ _
      by_cases hlo : i < 16
      · have q0 := arr_get' (hQ.get 3 rfl) i (by rw [HTL.out]; omega)
        have q2 := arr_get' (hQ.get 4 rfl) i (by rw [ol]; exact hlo)
        have q3 := free_blk (hQ.get 4 rfl) i
        have b0 := HTB.out i
        by_cases h15 : i < 15
        · have q1 := arr_get' (hQ.get 3 rfl) (i + 16) (by rw [HTL.out]; omega)
          have b1 := HTB.out (i + 16)
          have st := mf_step ts i _ (if_pos h15)
          generalize ts.getD i 0 = x at q0 b0 st
          generalize ts.getD (i + 16) 0 = y at q1 b1 st
          have hb1 := (hQ.cell 4 rfl i (.int .i64 x)).cell 4 rfl i (.int .i64 (x + 38 * y))
          have e2 : ((arr .i64 os).setIfInBounds i (.int .i64 x)).setIfInBounds i (.int .i64 (x + 38 * y)) = arr .i64 (mf ts (i + 1)) := by rw [arr_set, arr_set, List.set_set, hos, st]
          have HB1 := Lib.hid (hb1.cast (l' := [(w.heap.size, arr .i64 xs, 64), (w.heap.size + 1, arr .i64 ys, 64), (w.heap.size + 1 + 1, arr .i64 ze, 64), (w.heap.size + 1 + 1 + 1, arr .i64 ts, 139), (go, arr .i64 (mf ts (i + 1)), 64)]) (by rw [← e2]; rfl))
          clear hb1 e2 hos hQ st ol
          go_wp2_with fail
          go_region
          go_wp2_with fail
          go_roundw
          case rel => exact ⟨i + 1, by omega, by go_num, _, rfl, HB1.out.drew⟩
          case measure => simp [intOf]; omega
        · have st := mf_step ts i _ (if_neg h15)
          generalize ts.getD i 0 = x at q0 b0 st
          have hb1 := hQ.cell 4 rfl i (.int .i64 x)
          have e2 : (arr .i64 os).setIfInBounds i (.int .i64 x) = arr .i64 (mf ts (i + 1)) := by rw [arr_set, hos, st]
          have HB1 := Lib.hid (hb1.cast (l' := [(w.heap.size, arr .i64 xs, 64), (w.heap.size + 1, arr .i64 ys, 64), (w.heap.size + 1 + 1, arr .i64 ze, 64), (w.heap.size + 1 + 1 + 1, arr .i64 ts, 139), (go, arr .i64 (mf ts (i + 1)), 64)]) (by rw [← e2]; rfl))
          clear hb1 e2 hos hQ st ol
          go_wp2_with fail
          go_roundw
          case rel => exact ⟨i + 1, by omega, by go_num, _, rfl, HB1.out⟩
          case measure => simp [intOf]; omega
      · obtain rfl : i = 16 := by omega
        rw [mf_all] at hos
        rw [← hos] at HC1
        have HQ := Lib.hid hQ
        have HOL := Lib.hid ol
        clear hQ ol hos HB
        go_wp2_with (first | ((with_reducible refine aS 57 ?_); refine wpList_load_part rfl 64 _ rfl (go) 0 _ 64 (0, 0) _ (HQ.out.get 4 rfl) rfl .i64 os (arr_part _ _) Tryd.underlying64 rfl (el_i HOL.out) ?_) | ((with_reducible show Calls _ _ #[.agg (arr _ os)] _ _); go_at_call 112; refine (HC1.out _).mono ?_; rintro e w6 ⟨rfl, hb6⟩; have HB6 := Lib.hid (HQ.out.kept hb6); clear hb6) | ((with_reducible show Calls _ _ #[.agg (arr _ cs1)] _ _); go_at_call 112; refine (HC2.out _).mono ?_; rintro e w7 ⟨rfl, hb7⟩; have HB7 := Lib.hid (HB6.out.kept hb7); clear hb7) | ((with_reducible refine aT 4 ?_); refine wpList_store_whole rfl 64 _ _ rfl (w.heap.size + 1 + 1) _ _ 64 (HB7.out.get 2 rfl) rfl rfl (arr_len2 _ _ HRL.out HLze.out) (el_s HRL.out) (all_arr _ _) ?_; intro w8 hb8 hk8 hz8; have HB8 := Lib.hid (HB7.out.put 2 rfl hk8 hb8); clear hb8 hk8 hz8))
        (try simp only [Exit.inBlock, Exit.then])
        refine bodyPost_ret (results_cell_row rfl _ _ (w.heap.size + 1 + 1) 64 _ (0, 0) _ rfl (HB8.out.get 2 rfl) Tryd.underlying64 rfl (el_s HRL.out)) rfl ?_
        exact ⟨_, rfl, HF.out, HB8.out.below⟩
end Go.Proofs.YtanjhngehfbpbaaDoor.Rd
