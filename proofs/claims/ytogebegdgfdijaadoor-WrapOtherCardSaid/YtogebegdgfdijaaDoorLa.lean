/- ladder.Clamp: what it answers. Condition: 32 bytes. ladder.step: what it answers. Condition: numbers below p. ladder.Mul: what it answers. Condition: 32 bytes each. ladder.Public, Shared: what they answer. Condition: 32 bytes each. -/
import Derived.Test.YtogebegdgfdijaaDoorFa
import Derived.Test.YtogebegdgfdijaaDoorRl
import Derived.Test.YtogebegdgfdijaaDoorMa
import Derived.Test.YtogebegdgfdijaaDoorSyx
set_option maxRecDepth 100000
set_option maxHeartbeats 16000000
set_option linter.unusedSimpArgs false
set_option linter.unusedVariables false
namespace Go.Proofs.YtogebegdgfdijaaDoor.Sl
open Go.RowKit Lm Fp Cu Rd
theorem clamp_run (v : Nat) (w : World) (hv : v < 2 ^ 256) :
    Calls Tryd.prog 24 #[.agg (arr .u8 (nar (dig 256 32 v)))] w fun e w' => e = .returned (.agg (arr .u8 (nar (dig 256 32 (clamp v))))) ∧ Below w.heap.size w w' := by
  have hcs := clamp_set v hv
  obtain ⟨t1, t2⟩ := top_byte256 v hv
  have l1 := low_byte v
  have g0 : (nar (dig 256 32 v)).getD 0 0 = ((v % 256 : Nat) : Int) := by rw [nar_get, l1]
  have g31 : (nar (dig 256 32 v)).getD 31 0 = ((v / 256 ^ 31 : Nat) : Int) := by rw [nar_get, t1]
  have a0 := and248 (v % 256) (Nat.mod_lt _ (by decide))
  have a1 := or64 (v / 256 ^ 31) t2
  have hfin : ((nar (dig 256 32 v)).set 0 ((v % 256 / 8 * 8 : Nat) : Int)).set 31 ((v / 256 ^ 31 % 64 + 64 : Nat) : Int) = nar (dig 256 32 (clamp v)) := by rw [← nar_set, ← nar_set, hcs]
  obtain ⟨ns, hns⟩ : ∃ x, x = nar (dig 256 32 v) := ⟨_, rfl⟩
  obtain ⟨rs, hrs⟩ : ∃ x, x = nar (dig 256 32 (clamp v)) := ⟨_, rfl⟩
  have HNL : Hid (ns.length = 32) := Lib.hid (by rw [hns, nar_len, dig_len])
  have HRL : Hid (rs.length = 32) := Lib.hid (by rw [hrs, nar_len, dig_len])
  rw [← hns] at g0 g31 hfin ⊢
  rw [← hrs] at hfin
  generalize v / 256 ^ 31 = t at g31 a1 hfin t2
  generalize hx : v % 256 = x at g0 a0 hfin
  have hx2 : x < 256 := by omega
  obtain ⟨zn, hzn⟩ : ∃ zs : List Int, zs = List.replicate 32 0 := ⟨_, rfl⟩
  have HZzn : Hid (∀ w, (zeroValue 23).run Tryd.prog w = .ok (.agg (arr .u8 zn)) w) := Lib.hid (by intro w; rw [hzn]; exact zero_num w)
  have HLzn : Hid (zn.length = 32) := Lib.hid (by rw [hzn]; rfl)
  have HS0 := Lib.hid (Blk.two w (arr .u8 ns) (arr .u8 zn) 23 23)
  have e2 : ((arr .u8 ns).setIfInBounds 0 (.int .u8 (bits .and .u8 (x : Int) 248))).setIfInBounds 31 (.int .u8 (bits .or .u8 (bits .and .u8 (t : Int) 127) 64)) = arr .u8 rs := by rw [a0, a1, arr_set, arr_set, hfin]
  have HE2 := Lib.hid e2
  have HRS := Lib.hid hrs
  have HG0 := Lib.hid g0
  have HG31 := Lib.hid g31
  clear hzn hns hrs hcs t1 l1 g0 g31 a0 a1 hfin e2 hx
  go_enter Tryd.func24, Tryd.ntmps24
  go_upto_region 1 with (first | ((with_reducible refine aS 2 ?_); refine wpList_alloc_row rfl 23 rfl _ (HZzn.out _) ?_))
  (try simp only [World.size_alloc, Act.put, sA, sZ, sS])
  generalize ((w.alloc (.cells (arr .u8 ns) 23)).alloc (.cells (arr .u8 zn) 23)) = wb at HS0 ⊢
  have q0 := arr_get' (HS0.out.get 0 rfl) 0 (by rw [HNL.out]; decide)
  have q1 := arr_get' (HS0.out.get 0 rfl) 31 (by rw [HNL.out]; decide)
  have q2 := free_blk (HS0.out.get 0 rfl) 0
  have q3 := free_blk (HS0.out.get 0 rfl) 31
  rw [HG0.out] at q0
  rw [HG31.out] at q1
  have hb1 := (HS0.out.cell 0 rfl 0 (.int .u8 (bits .and .u8 (x : Int) 248))).cell 0 rfl 31 (.int .u8 (bits .or .u8 (bits .and .u8 (t : Int) 127) 64))
  have HS1 := Lib.hid (hb1.cast (l' := [(w.heap.size, arr .u8 rs, 23), (w.heap.size + 1, arr .u8 zn, 23)]) (by rw [← HE2.out]; rfl))
  clear hb1
  go_upto_region 3 with fail
  go_wp2_with (first | ((with_reducible refine aS 12 ?_); refine wpList_load_part rfl 23 _ rfl (w.heap.size) 0 _ 23 (0, 0) _ (HS1.out.get 0 rfl) rfl .u8 rs (arr_part _ _) Tryd.underlying23 rfl (num_i HRL.out) ?_) | ((with_reducible refine aT 2 ?_); refine wpList_store_whole rfl 23 _ _ rfl (w.heap.size + 1) _ _ 23 (HS1.out.get 1 rfl) rfl rfl (arr_len2 _ _ HRL.out HLzn.out) (num_s HRL.out) (all_arr _ _) ?_; intro w3 hb3 hk3 hz3; have HB3 := Lib.hid (HS1.out.put 1 rfl hk3 hb3); clear hb3 hk3 hz3))
  (try simp only [Exit.then])
  refine bodyPost_ret (results_cell_row rfl _ _ (w.heap.size + 1) 23 _ (0, 0) _ rfl (HB3.out.get 1 rfl) Tryd.underlying23 rfl (num_s HRL.out)) rfl ?_
  exact ⟨by rw [HRS.out], HB3.out.below⟩
theorem clamp_lt (k : Nat) : clamp k < 2 ^ 255 := by
  unfold clamp
  have := Nat.mod_lt (k / 8 * 8) (show 0 < 2 ^ 254 by decide)
  rw [show (2 : Nat) ^ 255 = 2 ^ 254 + 2 ^ 254 by decide]
  omega
theorem clamp_any {ks : List Int} (k : Nat) (w : World) (h : K32 ks k) : Calls Tryd.prog 24 #[.agg (arr .u8 ks)] w fun e w' => ∃ zs, e = .returned (.agg (arr .u8 zs)) ∧ K32 zs (clamp k) ∧ Below w.heap.size w w' := by
  obtain ⟨rfl, h1⟩ := h
  refine (clamp_run k w (by rw [show (2 : Nat) ^ 256 = 256 ^ 32 by decide]; exact h1)).mono ?_
  rintro e w' ⟨rfl, hb⟩
  exact ⟨_, rfl, ⟨rfl, Nat.lt_of_lt_of_le (clamp_lt k) (by decide)⟩, hb⟩
end Go.Proofs.YtogebegdgfdijaaDoor.Sl
namespace Go.Proofs.YtogebegdgfdijaaDoor.Fp
open Go.RowKit Lm Cu
theorem Blk.nine (w : World) (c1 c2 c3 c4 c5 c6 c7 c8 c9 : Array Value) (t : TypeId) : Blk w (((((((((w.alloc (.cells c1 t)).alloc (.cells c2 t)).alloc (.cells c3 t)).alloc (.cells c4 t)).alloc (.cells c5 t)).alloc (.cells c6 t)).alloc (.cells c7 t)).alloc (.cells c8 t)).alloc (.cells c9 t))
    [(w.heap.size, c1, t), (w.heap.size + 1, c2, t), (w.heap.size + 1 + 1, c3, t), (w.heap.size + 1 + 1 + 1, c4, t), (w.heap.size + 1 + 1 + 1 + 1, c5, t), (w.heap.size + 1 + 1 + 1 + 1 + 1, c6, t), (w.heap.size + 1 + 1 + 1 + 1 + 1 + 1, c7, t), (w.heap.size + 1 + 1 + 1 + 1 + 1 + 1 + 1, c8, t), (w.heap.size + 1 + 1 + 1 + 1 + 1 + 1 + 1 + 1, c9, t)] := by
  have h := (((((Blk.four w c1 c2 c3 c4 t t t t).alloc c5 t).alloc c6 t).alloc c7 t).alloc c8 t).alloc c9 t
  simp only [size1, List.cons_append, List.nil_append] at h
  exact h
theorem results_cells4 {P : Program} {fn : Func} {p1 p2 p3 p4 : Tmp} {ty : TypeId} (h : fn.results = #[.cell p1 ty, .cell p2 ty, .cell p3 ty, .cell p4 ty]) (tmps : Array Value) (w : World) (g1 g2 g3 g4 : Nat) (t : TypeId) (c1 c2 c3 c4 : Array Value) (fr : Nat × Nat) (d : TypeDesc)
    (e1 : tmps.getD p1 undef = .pointer (some ⟨g1, 0, none⟩)) (e2 : tmps.getD p2 undef = .pointer (some ⟨g2, 0, none⟩)) (e3 : tmps.getD p3 undef = .pointer (some ⟨g3, 0, none⟩)) (e4 : tmps.getD p4 undef = .pointer (some ⟨g4, 0, none⟩))
    (h1 : w.heap[g1]? = some (.cells c1 t fr)) (h2 : w.heap[g2]? = some (.cells c2 t fr)) (h3 : w.heap[g3]? = some (.cells c3 t fr)) (h4 : w.heap[g4]? = some (.cells c4 t fr))
    (hu : P.underlying ty = some d) (hd : (match d with | .struct _ | .array _ _ => true | _ => false) = true) (hi : ∀ c ∈ [c1, c2, c3, c4], (P.info? ty).map (·.size) = some c.size) :
    (results fn tmps).run P w = .ok (.tuple #[.agg c1, .agg c2, .agg c3, .agg c4]) w := by
  have r1 := run_loadVar_row w g1 t ty c1 fr d h1 hu hd (hi _ (by simp))
  have r2 := run_loadVar_row w g2 t ty c2 fr d h2 hu hd (hi _ (by simp))
  have r3 := run_loadVar_row w g3 t ty c3 fr d h3 hu hd (hi _ (by simp))
  have r4 := run_loadVar_row w g4 t ty c4 fr d h4 hu hd (hi _ (by simp))
  unfold results
  rw [h]
  rw [Array.getD_eq_getD_getElem?] at e1 e2 e3 e4
  simp [e1, e2, e3, e4, asAddr, r1, r2, r3, r4, Result.andThen]
theorem step_any {xs az bs cs ds : List Int} (x a b c d : Nat) (w : World) (hx : N4 xs x) (ha : N4 az a) (hb : N4 bs b) (hc : N4 cs c) (hd : N4 ds d) (la : a < p) (lb : b < p) (lc : c < p) (ld : d < p) :
    Calls Tryd.prog 28 #[.agg (arr .u64 xs), .agg (arr .u64 az), .agg (arr .u64 bs), .agg (arr .u64 cs), .agg (arr .u64 ds)] w fun e w' => ∃ z1 z2 z3 z4, e = .returned (.tuple #[.agg (arr .u64 z1), .agg (arr .u64 z2), .agg (arr .u64 z3), .agg (arr .u64 z4)]) ∧ N4 z1 (lstep x ⟨a, b, c, d⟩).a ∧ N4 z2 (lstep x ⟨a, b, c, d⟩).b ∧ N4 z3 (lstep x ⟨a, b, c, d⟩).c ∧ N4 z4 (lstep x ⟨a, b, c, d⟩).d ∧ Below w.heap.size w w' := by
  have hk : N4 [(121665 : Int), 0, 0, 0] 121665 := n4_small 121665 (by decide)
  have hbk := fun w => build_raw 121665 w
  obtain ⟨ks, hks⟩ : ∃ b : List Int, b = [(121665 : Int), 0, 0, 0] := ⟨_, rfl⟩
  rw [← hks] at hk hbk
  have HK := Lib.hid hk
  have HKL := Lib.hid hk.len
  have HBK := Lib.hid hbk
  have HX := Lib.hid hx
  have HLx := Lib.hid hx.len
  have HA := Lib.hid ha
  have HLa := Lib.hid ha.len
  have HB := Lib.hid hb
  have HLb := Lib.hid hb.len
  have HC := Lib.hid hc
  have HLc := Lib.hid hc.len
  have HD := Lib.hid hd
  have HLd := Lib.hid hd.len
  obtain ⟨zl, hzl⟩ : ∃ zs : List Int, zs = List.replicate 4 0 := ⟨_, rfl⟩
  have HZzl : Hid (∀ w, (zeroValue 53).run Tryd.prog w = .ok (.agg (arr .u64 zl)) w) := Lib.hid (by intro w; rw [hzl]; exact zero_lim w)
  have HLzl : Hid (zl.length = 4) := Lib.hid (by rw [hzl]; rfl)
  have HS0 := Lib.hid (Blk.nine w (arr .u64 xs) (arr .u64 az) (arr .u64 bs) (arr .u64 cs) (arr .u64 ds) (arr .u64 zl) (arr .u64 zl) (arr .u64 zl) (arr .u64 zl) 53)
  clear hzl hx ha hb hc hd hk hbk hks
  go_enter Tryd.func28, Tryd.ntmps28
  go_upto_region 1 with (first | ((with_reducible refine aS 10 ?_); refine wpList_alloc_row rfl 53 rfl _ (HZzl.out _) ?_) | ((with_reducible refine aS 11 ?_); refine wpList_alloc_row rfl 53 rfl _ (HZzl.out _) ?_) | ((with_reducible refine aS 12 ?_); refine wpList_alloc_row rfl 53 rfl _ (HZzl.out _) ?_) | ((with_reducible refine aS 13 ?_); refine wpList_alloc_row rfl 53 rfl _ (HZzl.out _) ?_))
  (try simp only [World.size_alloc, Act.put, sA, sZ, sS])
  generalize (((((((((w.alloc (.cells (arr .u64 xs) 53)).alloc (.cells (arr .u64 az) 53)).alloc (.cells (arr .u64 bs) 53)).alloc (.cells (arr .u64 cs) 53)).alloc (.cells (arr .u64 ds) 53)).alloc (.cells (arr .u64 zl) 53)).alloc (.cells (arr .u64 zl) 53)).alloc (.cells (arr .u64 zl) 53)).alloc (.cells (arr .u64 zl) 53)) = wb at HS0 ⊢
  obtain ⟨z5001, HZ5001, HL5001, HE5001⟩ := n4_ex (a := (fadd a b)) (fadd_lt _ _)
  obtain ⟨z5002, HZ5002, HL5002, HE5002⟩ := n4_ex (a := (fsub a b)) (fsub_lt _ _)
  refine wp_region_sym (T := fun _ => False) (w := w) (sy := [sa .u64 az, sa .u64 bs, sa .u64 z5001, sa .u64 az, sa .u64 bs, sa .u64 z5002, sn (arr .u64 zl) 53, sn (arr .u64 zl) 53, s0, s0]) (pt := [(8, 15, cel (arr .u64 z5001) 53), (9, 16, cel (arr .u64 z5002) 53)]) (by kernel_rfl) (by kernel_rfl) (by kernel_rfl) HS0.out.holds (fun hW => ?sr1) (fun qr1 xr1 ur1 _ hH => ?er1)
  case sr1 =>
    refine yl hW ?_ 1 0 (arr .u64 az) 53 rowL HLa.out (arr_part _ _)
    refine yl hW ?_ 2 0 (arr .u64 bs) 53 rowL HLb.out (arr_part _ _)
    refine yc hW ?_ (fun _ => plus_any _ _ _ HA.out HB.out) HE5001.out
    refine yl hW ?_ 1 0 (arr .u64 az) 53 rowL HLa.out (arr_part _ _)
    refine yl hW ?_ 2 0 (arr .u64 bs) 53 rowL HLb.out (arr_part _ _)
    refine yc hW ?_ (fun _ => minus_any _ _ _ HA.out HB.out la lb) HE5002.out
    refine ya hW ?_ HZzl.out
    refine ya hW ?_ HZzl.out
    refine ys hW ?_ 15 (arr .u64 zl) 53 rowL HL5001.out (asz HLzl.out)
    refine ys hW ?_ 16 (arr .u64 zl) 53 rowL HL5002.out (asz HLzl.out)
    exact yn
  case er1 =>
  have HBr1 := Lib.hid (hH.blk [0, 1, 2, 3, 4, 5, 6, 7, 8, 15, 16] [(w.heap.size, arr .u64 xs, 53), (w.heap.size + 1, arr .u64 az, 53), (w.heap.size + 1 + 1, arr .u64 bs, 53), (w.heap.size + 1 + 1 + 1, arr .u64 cs, 53), (w.heap.size + 1 + 1 + 1 + 1, arr .u64 ds, 53), (w.heap.size + 1 + 1 + 1 + 1 + 1, arr .u64 zl, 53), (w.heap.size + 1 + 1 + 1 + 1 + 1 + 1, arr .u64 zl, 53), (w.heap.size + 1 + 1 + 1 + 1 + 1 + 1 + 1, arr .u64 zl, 53), (w.heap.size + 1 + 1 + 1 + 1 + 1 + 1 + 1 + 1, arr .u64 zl, 53), ((qr1 6), arr .u64 z5001, 53), ((qr1 7), arr .u64 z5002, 53)] (by decide) (by kernel_rfl))
  simp only [lay, Sy.at, den', sa, sv, sp, sq, sn, s0, Act.put, sA, sZ, sS, Nat.reduceAdd]
  clear hH HS0
  (try simp only [Exit.then])
  go_upto_region 2 with fail
  (try simp only [World.size_alloc, Act.put, sA, sZ, sS])
  obtain ⟨z5003, HZ5003, HL5003, HE5003⟩ := n4_ex (a := (fmul (fadd a b) (fadd a b))) (fmul_lt _ _)
  obtain ⟨z5004, HZ5004, HL5004, HE5004⟩ := n4_ex (a := (fmul (fsub a b) (fsub a b))) (fmul_lt _ _)
  refine wp_region_sym (T := fun _ => False) (w := w) (sy := [sa .u64 z5001, sa .u64 z5001, sa .u64 z5003, sa .u64 z5002, sa .u64 z5002, sa .u64 z5004, sn (arr .u64 zl) 53, sn (arr .u64 zl) 53, s0, s0]) (pt := [(8, 17, cel (arr .u64 z5003) 53), (9, 18, cel (arr .u64 z5004) 53)]) (by kernel_rfl) (by kernel_rfl) (by kernel_rfl) HBr1.out.holds (fun hW => ?sr2) (fun qr2 xr2 ur2 _ hH => ?er2)
  case sr2 =>
    refine yl hW ?_ 9 0 (arr .u64 z5001) 53 rowL HL5001.out (arr_part _ _)
    refine yl hW ?_ 9 0 (arr .u64 z5001) 53 rowL HL5001.out (arr_part _ _)
    refine yc hW ?_ (fun _ => times_any _ _ _ HZ5001.out HZ5001.out) HE5003.out
    refine yl hW ?_ 10 0 (arr .u64 z5002) 53 rowL HL5002.out (arr_part _ _)
    refine yl hW ?_ 10 0 (arr .u64 z5002) 53 rowL HL5002.out (arr_part _ _)
    refine yc hW ?_ (fun _ => times_any _ _ _ HZ5002.out HZ5002.out) HE5004.out
    refine ya hW ?_ HZzl.out
    refine ya hW ?_ HZzl.out
    refine ys hW ?_ 17 (arr .u64 zl) 53 rowL HL5003.out (asz HLzl.out)
    refine ys hW ?_ 18 (arr .u64 zl) 53 rowL HL5004.out (asz HLzl.out)
    exact yn
  case er2 =>
  have HBr2 := Lib.hid (hH.blk [0, 1, 2, 3, 4, 5, 6, 7, 8, 9, 10, 17, 18] [(w.heap.size, arr .u64 xs, 53), (w.heap.size + 1, arr .u64 az, 53), (w.heap.size + 1 + 1, arr .u64 bs, 53), (w.heap.size + 1 + 1 + 1, arr .u64 cs, 53), (w.heap.size + 1 + 1 + 1 + 1, arr .u64 ds, 53), (w.heap.size + 1 + 1 + 1 + 1 + 1, arr .u64 zl, 53), (w.heap.size + 1 + 1 + 1 + 1 + 1 + 1, arr .u64 zl, 53), (w.heap.size + 1 + 1 + 1 + 1 + 1 + 1 + 1, arr .u64 zl, 53), (w.heap.size + 1 + 1 + 1 + 1 + 1 + 1 + 1 + 1, arr .u64 zl, 53), ((qr1 6), arr .u64 z5001, 53), ((qr1 7), arr .u64 z5002, 53), ((qr2 6), arr .u64 z5003, 53), ((qr2 7), arr .u64 z5004, 53)] (by decide) (by kernel_rfl))
  simp only [lay, Sy.at, den', sa, sv, sp, sq, sn, s0, Act.put, sA, sZ, sS, Nat.reduceAdd]
  clear hH HBr1
  (try simp only [Exit.then])
  go_upto_region 3 with fail
  (try simp only [World.size_alloc, Act.put, sA, sZ, sS])
  go_upto_region 4 with (first | ((with_reducible refine aS 35 ?_); refine wpList_load_part rfl 53 _ rfl ((qr2 6)) (0) _ 53 (0, 0) _ (HBr2.out.get 11 rfl) rfl .u64 z5003 (arr_part _ _) Tryd.underlying53 rfl (lim_i HL5003.out) ?_) | ((with_reducible refine aS 36 ?_); refine wpList_load_part rfl 53 _ rfl ((qr2 7)) (0) _ 53 (0, 0) _ (HBr2.out.get 12 rfl) rfl .u64 z5004 (arr_part _ _) Tryd.underlying53 rfl (lim_i HL5004.out) ?_) | ((with_reducible show Calls _ 47 #[.agg _, .agg _] _ _); go_at_call 47; refine (minus_any _ _ _ HZ5003.out HZ5004.out (fmul_lt _ _) (fmul_lt _ _)).mono ?_; rintro e w2301 ⟨z2301, rfl, h2301, hb2301⟩; have HZ2301 := Lib.hid h2301; have HL2301 := Lib.hid h2301.len; clear h2301; have HB2301 := Lib.hid (HBr2.out.kept hb2301); clear hb2301) | ((with_reducible refine aS 18 ?_); refine wpList_alloc_row rfl 53 rfl _ (HZzl.out _) ?_; have HB2302 := Lib.hid (HB2301.out.alloc (arr .u64 zl) 53); generalize w2301.heap.size = g2302 at HB2302 ⊢; generalize w2301.alloc (.cells (arr .u64 zl) 53) = w2302 at HB2302 ⊢; clear HB2301) | ((with_reducible refine aT 18 (x := (Operand.tmp 37)) ?_); refine wpList_store_whole rfl 53 _ _ rfl (g2302) _ _ 53 (HB2302.out.get 13 rfl) rfl rfl (arr_len2 _ _ HL2301.out HLzl.out) (lim_s HL2301.out) (all_arr _ _) ?_; intro w2303 hb2303 hk2303 hz2303; have HB2303 := Lib.hid (HB2302.out.put 13 rfl hk2303 hb2303); clear hb2303 hk2303 hz2303; clear HB2302))
  (try simp only [World.size_alloc, Act.put, sA, sZ, sS])
  obtain ⟨z5005, HZ5005, HL5005, HE5005⟩ := n4_ex (a := (fsub c d)) (fsub_lt _ _)
  obtain ⟨z5006, HZ5006, HL5006, HE5006⟩ := n4_ex (a := (fmul (fsub c d) (fadd a b))) (fmul_lt _ _)
  refine wp_region_sym (T := fun _ => False) (w := w) (sy := [sa .u64 cs, sa .u64 ds, sa .u64 z5005, sa .u64 z5001, sa .u64 z5006, sn (arr .u64 zl) 53, s0]) (pt := [(6, 19, cel (arr .u64 z5006) 53)]) (by kernel_rfl) (by kernel_rfl) (by kernel_rfl) HB2303.out.holds (fun hW => ?sr4) (fun qr4 xr4 ur4 _ hH => ?er4)
  case sr4 =>
    refine yl hW ?_ 3 0 (arr .u64 cs) 53 rowL HLc.out (arr_part _ _)
    refine yl hW ?_ 4 0 (arr .u64 ds) 53 rowL HLd.out (arr_part _ _)
    refine yc hW ?_ (fun _ => minus_any _ _ _ HC.out HD.out lc ld) HE5005.out
    refine yl hW ?_ 9 0 (arr .u64 z5001) 53 rowL HL5001.out (arr_part _ _)
    refine yc hW ?_ (fun _ => times_any _ _ _ HZ5005.out HZ5001.out) HE5006.out
    refine ya hW ?_ HZzl.out
    refine ys hW ?_ 19 (arr .u64 zl) 53 rowL HL5006.out (asz HLzl.out)
    exact yn
  case er4 =>
  have HBr4 := Lib.hid (hH.blk [0, 1, 2, 3, 4, 5, 6, 7, 8, 9, 10, 11, 12, 13, 19] [(w.heap.size, arr .u64 xs, 53), (w.heap.size + 1, arr .u64 az, 53), (w.heap.size + 1 + 1, arr .u64 bs, 53), (w.heap.size + 1 + 1 + 1, arr .u64 cs, 53), (w.heap.size + 1 + 1 + 1 + 1, arr .u64 ds, 53), (w.heap.size + 1 + 1 + 1 + 1 + 1, arr .u64 zl, 53), (w.heap.size + 1 + 1 + 1 + 1 + 1 + 1, arr .u64 zl, 53), (w.heap.size + 1 + 1 + 1 + 1 + 1 + 1 + 1, arr .u64 zl, 53), (w.heap.size + 1 + 1 + 1 + 1 + 1 + 1 + 1 + 1, arr .u64 zl, 53), ((qr1 6), arr .u64 z5001, 53), ((qr1 7), arr .u64 z5002, 53), ((qr2 6), arr .u64 z5003, 53), ((qr2 7), arr .u64 z5004, 53), (g2302, (arr .u64 z2301), 53), ((qr4 5), arr .u64 z5006, 53)] (by decide) (by kernel_rfl))
  simp only [lay, Sy.at, den', sa, sv, sp, sq, sn, s0, Act.put, sA, sZ, sS, Nat.reduceAdd]
  clear hH HB2303
  (try simp only [Exit.then])
  go_upto_region 5 with fail
  (try simp only [World.size_alloc, Act.put, sA, sZ, sS])
  obtain ⟨z5007, HZ5007, HL5007, HE5007⟩ := n4_ex (a := (fadd c d)) (fadd_lt _ _)
  obtain ⟨z5008, HZ5008, HL5008, HE5008⟩ := n4_ex (a := (fmul (fadd c d) (fsub a b))) (fmul_lt _ _)
  refine wp_region_sym (T := fun _ => False) (w := w) (sy := [sa .u64 cs, sa .u64 ds, sa .u64 z5007, sa .u64 z5002, sa .u64 z5008, sn (arr .u64 zl) 53, s0]) (pt := [(6, 20, cel (arr .u64 z5008) 53)]) (by kernel_rfl) (by kernel_rfl) (by kernel_rfl) HBr4.out.holds (fun hW => ?sr5) (fun qr5 xr5 ur5 _ hH => ?er5)
  case sr5 =>
    refine yl hW ?_ 3 0 (arr .u64 cs) 53 rowL HLc.out (arr_part _ _)
    refine yl hW ?_ 4 0 (arr .u64 ds) 53 rowL HLd.out (arr_part _ _)
    refine yc hW ?_ (fun _ => plus_any _ _ _ HC.out HD.out) HE5007.out
    refine yl hW ?_ 10 0 (arr .u64 z5002) 53 rowL HL5002.out (arr_part _ _)
    refine yc hW ?_ (fun _ => times_any _ _ _ HZ5007.out HZ5002.out) HE5008.out
    refine ya hW ?_ HZzl.out
    refine ys hW ?_ 20 (arr .u64 zl) 53 rowL HL5008.out (asz HLzl.out)
    exact yn
  case er5 =>
  have HBr5 := Lib.hid (hH.blk [0, 1, 2, 3, 4, 5, 6, 7, 8, 9, 10, 11, 12, 13, 14, 20] [(w.heap.size, arr .u64 xs, 53), (w.heap.size + 1, arr .u64 az, 53), (w.heap.size + 1 + 1, arr .u64 bs, 53), (w.heap.size + 1 + 1 + 1, arr .u64 cs, 53), (w.heap.size + 1 + 1 + 1 + 1, arr .u64 ds, 53), (w.heap.size + 1 + 1 + 1 + 1 + 1, arr .u64 zl, 53), (w.heap.size + 1 + 1 + 1 + 1 + 1 + 1, arr .u64 zl, 53), (w.heap.size + 1 + 1 + 1 + 1 + 1 + 1 + 1, arr .u64 zl, 53), (w.heap.size + 1 + 1 + 1 + 1 + 1 + 1 + 1 + 1, arr .u64 zl, 53), ((qr1 6), arr .u64 z5001, 53), ((qr1 7), arr .u64 z5002, 53), ((qr2 6), arr .u64 z5003, 53), ((qr2 7), arr .u64 z5004, 53), (g2302, (arr .u64 z2301), 53), ((qr4 5), arr .u64 z5006, 53), ((qr5 5), arr .u64 z5008, 53)] (by decide) (by kernel_rfl))
  simp only [lay, Sy.at, den', sa, sv, sp, sq, sn, s0, Act.put, sA, sZ, sS, Nat.reduceAdd]
  clear hH HBr4
  (try simp only [Exit.then])
  go_upto_region 6 with fail
  (try simp only [World.size_alloc, Act.put, sA, sZ, sS])
  obtain ⟨z5009, HZ5009, HL5009, HE5009⟩ := n4_ex (a := (fadd (fmul (fsub c d) (fadd a b)) (fmul (fadd c d) (fsub a b)))) (fadd_lt _ _)
  obtain ⟨z5010, HZ5010, HL5010, HE5010⟩ := n4_ex (a := (fsub (fmul (fsub c d) (fadd a b)) (fmul (fadd c d) (fsub a b)))) (fsub_lt _ _)
  refine wp_region_sym (T := fun _ => False) (w := w) (sy := [sa .u64 z5006, sa .u64 z5008, sa .u64 z5009, sa .u64 z5006, sa .u64 z5008, sa .u64 z5010, sn (arr .u64 zl) 53, sn (arr .u64 zl) 53, s0, s0]) (pt := [(8, 22, cel (arr .u64 z5009) 53), (9, 23, cel (arr .u64 z5010) 53)]) (by kernel_rfl) (by kernel_rfl) (by kernel_rfl) HBr5.out.holds (fun hW => ?sr6) (fun qr6 xr6 ur6 _ hH => ?er6)
  case sr6 =>
    refine yl hW ?_ 14 0 (arr .u64 z5006) 53 rowL HL5006.out (arr_part _ _)
    refine yl hW ?_ 15 0 (arr .u64 z5008) 53 rowL HL5008.out (arr_part _ _)
    refine yc hW ?_ (fun _ => plus_any _ _ _ HZ5006.out HZ5008.out) HE5009.out
    refine yl hW ?_ 14 0 (arr .u64 z5006) 53 rowL HL5006.out (arr_part _ _)
    refine yl hW ?_ 15 0 (arr .u64 z5008) 53 rowL HL5008.out (arr_part _ _)
    refine yc hW ?_ (fun _ => minus_any _ _ _ HZ5006.out HZ5008.out (fmul_lt _ _) (fmul_lt _ _)) HE5010.out
    refine ya hW ?_ HZzl.out
    refine ya hW ?_ HZzl.out
    refine ys hW ?_ 22 (arr .u64 zl) 53 rowL HL5009.out (asz HLzl.out)
    refine ys hW ?_ 23 (arr .u64 zl) 53 rowL HL5010.out (asz HLzl.out)
    exact yn
  case er6 =>
  have HBr6 := Lib.hid (hH.blk [0, 1, 2, 3, 4, 5, 6, 7, 8, 9, 10, 11, 12, 13, 14, 15, 22, 23] [(w.heap.size, arr .u64 xs, 53), (w.heap.size + 1, arr .u64 az, 53), (w.heap.size + 1 + 1, arr .u64 bs, 53), (w.heap.size + 1 + 1 + 1, arr .u64 cs, 53), (w.heap.size + 1 + 1 + 1 + 1, arr .u64 ds, 53), (w.heap.size + 1 + 1 + 1 + 1 + 1, arr .u64 zl, 53), (w.heap.size + 1 + 1 + 1 + 1 + 1 + 1, arr .u64 zl, 53), (w.heap.size + 1 + 1 + 1 + 1 + 1 + 1 + 1, arr .u64 zl, 53), (w.heap.size + 1 + 1 + 1 + 1 + 1 + 1 + 1 + 1, arr .u64 zl, 53), ((qr1 6), arr .u64 z5001, 53), ((qr1 7), arr .u64 z5002, 53), ((qr2 6), arr .u64 z5003, 53), ((qr2 7), arr .u64 z5004, 53), (g2302, (arr .u64 z2301), 53), ((qr4 5), arr .u64 z5006, 53), ((qr5 5), arr .u64 z5008, 53), ((qr6 6), arr .u64 z5009, 53), ((qr6 7), arr .u64 z5010, 53)] (by decide) (by kernel_rfl))
  simp only [lay, Sy.at, den', sa, sv, sp, sq, sn, s0, Act.put, sA, sZ, sS, Nat.reduceAdd]
  clear hH HBr5
  (try simp only [Exit.then])
  go_upto_region 7 with fail
  (try simp only [World.size_alloc, Act.put, sA, sZ, sS])
  obtain ⟨z5011, HZ5011, HL5011, HE5011⟩ := n4_ex (a := (fmul (fmul (fadd a b) (fadd a b)) (fmul (fsub a b) (fsub a b)))) (fmul_lt _ _)
  obtain ⟨z5012, HZ5012, HL5012, HE5012⟩ := n4_ex (a := (fmul 121665 (fsub (fmul (fadd a b) (fadd a b)) (fmul (fsub a b) (fsub a b))))) (fmul_lt _ _)
  obtain ⟨z5013, HZ5013, HL5013, HE5013⟩ := n4_ex (a := (fadd (fmul (fadd a b) (fadd a b)) (fmul 121665 (fsub (fmul (fadd a b) (fadd a b)) (fmul (fsub a b) (fsub a b)))))) (fadd_lt _ _)
  obtain ⟨z5014, HZ5014, HL5014, HE5014⟩ := n4_ex (a := (fmul (fsub (fmul (fadd a b) (fadd a b)) (fmul (fsub a b) (fsub a b))) (fadd (fmul (fadd a b) (fadd a b)) (fmul 121665 (fsub (fmul (fadd a b) (fadd a b)) (fmul (fsub a b) (fsub a b))))))) (fmul_lt _ _)
  obtain ⟨z5015, HZ5015, HL5015, HE5015⟩ := n4_ex (a := (fmul (fadd (fmul (fsub c d) (fadd a b)) (fmul (fadd c d) (fsub a b))) (fadd (fmul (fsub c d) (fadd a b)) (fmul (fadd c d) (fsub a b))))) (fmul_lt _ _)
  obtain ⟨z5016, HZ5016, HL5016, HE5016⟩ := n4_ex (a := (fmul (fsub (fmul (fsub c d) (fadd a b)) (fmul (fadd c d) (fsub a b))) (fsub (fmul (fsub c d) (fadd a b)) (fmul (fadd c d) (fsub a b))))) (fmul_lt _ _)
  obtain ⟨z5017, HZ5017, HL5017, HE5017⟩ := n4_ex (a := (fmul x (fmul (fsub (fmul (fsub c d) (fadd a b)) (fmul (fadd c d) (fsub a b))) (fsub (fmul (fsub c d) (fadd a b)) (fmul (fadd c d) (fsub a b)))))) (fmul_lt _ _)
  refine wp_region_sym (T := fun _ => False) (w := w) (sy := [sa .u64 z5003, sa .u64 z5004, sa .u64 z5011, sa .u64 z2301, sa .u64 z5003, sa .u64 ks, sa .u64 z2301, sa .u64 z5012, sa .u64 z5013, sa .u64 z5014, sa .u64 z5009, sa .u64 z5009, sa .u64 z5015, sa .u64 xs, sa .u64 z5010, sa .u64 z5010, sa .u64 z5016, sa .u64 z5017, s0, s0, s0, s0]) (pt := [(18, 5, cel (arr .u64 z5011) 53), (19, 6, cel (arr .u64 z5014) 53), (20, 7, cel (arr .u64 z5015) 53), (21, 8, cel (arr .u64 z5017) 53)]) (by kernel_rfl) (by kernel_rfl) (by kernel_rfl) HBr6.out.holds (fun hW => ?sr7) (fun qr7 xr7 ur7 _ hH => ?er7)
  case sr7 =>
    refine yl hW ?_ 11 0 (arr .u64 z5003) 53 rowL HL5003.out (arr_part _ _)
    refine yl hW ?_ 12 0 (arr .u64 z5004) 53 rowL HL5004.out (arr_part _ _)
    refine yc hW ?_ (fun _ => times_any _ _ _ HZ5003.out HZ5004.out) HE5011.out
    refine yl hW ?_ 13 0 ((arr .u64 z2301)) 53 rowL HL2301.out (arr_part _ _)
    refine yl hW ?_ 11 0 (arr .u64 z5003) 53 rowL HL5003.out (arr_part _ _)
    refine yb hW ?_ _ _ _ (fun u => HBK.out u)
    refine yl hW ?_ 13 0 ((arr .u64 z2301)) 53 rowL HL2301.out (arr_part _ _)
    refine yc hW ?_ (fun _ => times_any _ _ _ HK.out HZ2301.out) HE5012.out
    refine yc hW ?_ (fun _ => plus_any _ _ _ HZ5003.out HZ5012.out) HE5013.out
    refine yc hW ?_ (fun _ => times_any _ _ _ HZ2301.out HZ5013.out) HE5014.out
    refine yl hW ?_ 16 0 (arr .u64 z5009) 53 rowL HL5009.out (arr_part _ _)
    refine yl hW ?_ 16 0 (arr .u64 z5009) 53 rowL HL5009.out (arr_part _ _)
    refine yc hW ?_ (fun _ => times_any _ _ _ HZ5009.out HZ5009.out) HE5015.out
    refine yl hW ?_ 0 0 (arr .u64 xs) 53 rowL HLx.out (arr_part _ _)
    refine yl hW ?_ 17 0 (arr .u64 z5010) 53 rowL HL5010.out (arr_part _ _)
    refine yl hW ?_ 17 0 (arr .u64 z5010) 53 rowL HL5010.out (arr_part _ _)
    refine yc hW ?_ (fun _ => times_any _ _ _ HZ5010.out HZ5010.out) HE5016.out
    refine yc hW ?_ (fun _ => times_any _ _ _ HX.out HZ5016.out) HE5017.out
    refine ys hW ?_ 5 (arr .u64 zl) 53 rowL HL5011.out (asz HLzl.out)
    refine ys hW ?_ 6 (arr .u64 zl) 53 rowL HL5014.out (asz HLzl.out)
    refine ys hW ?_ 7 (arr .u64 zl) 53 rowL HL5015.out (asz HLzl.out)
    refine ys hW ?_ 8 (arr .u64 zl) 53 rowL HL5017.out (asz HLzl.out)
    exact yn
  case er7 =>
  have HBr7 := Lib.hid (hH.blk [0, 1, 2, 3, 4, 5, 6, 7, 8, 9, 10, 11, 12, 13, 14, 15, 16, 17] [(w.heap.size, arr .u64 xs, 53), (w.heap.size + 1, arr .u64 az, 53), (w.heap.size + 1 + 1, arr .u64 bs, 53), (w.heap.size + 1 + 1 + 1, arr .u64 cs, 53), (w.heap.size + 1 + 1 + 1 + 1, arr .u64 ds, 53), (w.heap.size + 1 + 1 + 1 + 1 + 1, arr .u64 z5011, 53), (w.heap.size + 1 + 1 + 1 + 1 + 1 + 1, arr .u64 z5014, 53), (w.heap.size + 1 + 1 + 1 + 1 + 1 + 1 + 1, arr .u64 z5015, 53), (w.heap.size + 1 + 1 + 1 + 1 + 1 + 1 + 1 + 1, arr .u64 z5017, 53), ((qr1 6), arr .u64 z5001, 53), ((qr1 7), arr .u64 z5002, 53), ((qr2 6), arr .u64 z5003, 53), ((qr2 7), arr .u64 z5004, 53), (g2302, (arr .u64 z2301), 53), ((qr4 5), arr .u64 z5006, 53), ((qr5 5), arr .u64 z5008, 53), ((qr6 6), arr .u64 z5009, 53), ((qr6 7), arr .u64 z5010, 53)] (by decide) (by kernel_rfl))
  simp only [lay, Sy.at, den', sa, sv, sp, sq, sn, s0, Act.put, sA, sZ, sS, Nat.reduceAdd]
  clear hH HBr6
  (try simp only [Exit.then])
  (try simp only [Exit.then])
  go_wp2_with fail
  refine bodyPost_ret (results_cells4 rfl _ _ (w.heap.size + 1 + 1 + 1 + 1 + 1) (w.heap.size + 1 + 1 + 1 + 1 + 1 + 1) (w.heap.size + 1 + 1 + 1 + 1 + 1 + 1 + 1) (w.heap.size + 1 + 1 + 1 + 1 + 1 + 1 + 1 + 1) 53 _ _ _ _ (0, 0) _ rfl rfl rfl rfl (HBr7.out.get 5 rfl) (HBr7.out.get 6 rfl) (HBr7.out.get 7 rfl) (HBr7.out.get 8 rfl) Tryd.underlying53 rfl (by intro c hc; simp only [List.mem_cons, List.not_mem_nil, or_false] at hc; rcases hc with rfl | rfl | rfl | rfl; exact lim_s HL5011.out; exact lim_s HL5014.out; exact lim_s HL5015.out; exact lim_s HL5017.out)) rfl ?_
  exact ⟨_, _, _, _, rfl, HZ5011.out, HZ5014.out, HZ5015.out, HZ5017.out, HBr7.out.below⟩
end Go.Proofs.YtogebegdgfdijaaDoor.Fp
namespace Go.Proofs.YtogebegdgfdijaaDoor.Sl
open Go.RowKit Lm Fp Cu Rd
theorem swap_swap (s : La) (b : Nat) : (s.swap b).swap b = s := by
  unfold La.swap
  split <;> rfl
theorem swap_pick (s : La) (u b c : Nat) (hu : u = 0 ∨ u = 1) (hb : b = 0 ∨ b = 1) (hc : c = (u + b) % 2) :
    (if c = 1 then (s.swap u).c else (s.swap u).a) = (s.swap b).a ∧ (if c = 1 then (s.swap u).d else (s.swap u).b) = (s.swap b).b ∧
    (if c = 1 then (s.swap u).a else (s.swap u).c) = (s.swap b).c ∧ (if c = 1 then (s.swap u).b else (s.swap u).d) = (s.swap b).d := by
  rcases hu with rfl | rfl <;> rcases hb with rfl | rfl <;> subst hc <;> exact ⟨rfl, rfl, rfl, rfl⟩
theorem swap_end (s : La) (u : Nat) (hu : u = 0 ∨ u = 1) : (if u = 1 then (s.swap u).c else (s.swap u).a) = s.a ∧ (if u = 1 then (s.swap u).d else (s.swap u).b) = s.b := by
  rcases hu with rfl | rfl <;> exact ⟨rfl, rfl⟩
structure LOk (s : La) : Prop where
  a : s.a < p
  b : s.b < p
  c : s.c < p
  d : s.d < p
theorem LOk.swap {s : La} (h : LOk s) (b : Nat) : LOk (s.swap b) := by
  unfold La.swap
  split
  · exact ⟨h.c, h.d, h.a, h.b⟩
  · exact h
theorem step_ok (x : Nat) (s : La) : LOk (lstep x s) := ⟨fmul_lt _ _, fmul_lt _ _, fmul_lt _ _, fmul_lt _ _⟩
theorem lgo_ok (x k : Nat) (hx : x < p) : ∀ n, LOk (lgo x k n)
  | 0 => ⟨one_lt, p_pos, hx, one_lt⟩
  | _ + 1 => (step_ok _ _).swap _
theorem lgo_swap (x k n b : Nat) (hb : k / 2 ^ (254 - n) % 2 = b) : (lgo x k (n + 1)).swap b = lstep x ((lgo x k n).swap b) := by
  rw [show lgo x k (n + 1) = (lstep x ((lgo x k n).swap (k / 2 ^ (254 - n) % 2))).swap (k / 2 ^ (254 - n) % 2) from rfl, hb, swap_swap]
theorem xor_bits (u b : Nat) (hu : u = 0 ∨ u = 1) (hb : b = 0 ∨ b = 1) : bits .xor .u64 (u : Int) (b : Int) = (((u + b) % 2 : Nat) : Int) := by
  rcases hu with rfl | rfl <;> rcases hb with rfl | rfl <;> decide
theorem lmul_run {ks us : List Int} (k u : Nat) (w : World) (hks : K32 ks k) (hus : K32 us u) :
    Calls Tryd.prog 13 #[.agg (arr .u8 ks), .agg (arr .u8 us)] w fun e w' => ∃ zs, e = .returned (.agg (arr .u8 zs)) ∧ K32 zs (x25519 k u) ∧ Below w.heap.size w w' := by
  have p256 : (256 : Nat) ^ 32 = 2 ^ 256 := by decide
  have hu := hus.2
  rw [p256] at hu
  obtain ⟨t1, t2⟩ := top_byte256 u hu
  have hds := dec_set u hu
  have hy2 : u % 2 ^ 255 < 2 ^ 255 := Nat.mod_lt _ (by decide)
  have g31 : us.getD 31 0 = ((u / 256 ^ 31 : Nat) : Int) := by rw [hus.1, nar_get, t1]
  have hn2 : us.set 31 ((u / 256 ^ 31 % 128 : Nat) : Int) = nar (dig 256 32 (u % 2 ^ 255)) := by rw [hus.1, ← nar_set, hds]
  have ha := sand127 (u / 256 ^ 31) t2
  generalize u / 256 ^ 31 = t at g31 hn2 ha t2
  obtain ⟨K, hK⟩ : ∃ K, K = clamp k := ⟨_, rfl⟩
  obtain ⟨X, hX⟩ : ∃ X, X = u % 2 ^ 255 % p := ⟨_, rfl⟩
  have lX : X < p := by rw [hX]; exact Nat.mod_lt _ p_pos
  have hres : x25519 k u = fmul (lgo X K 255).a (finv (lgo X K 255).b) := by rw [hK, hX]; rfl
  rw [hres]
  have hclp := fun (ks : List Int) (w : World) (h : K32 ks k) => clamp_any k w h
  rw [← hK] at hclp
  have hles := fun (xs : List Int) (w : World) (h : N4 xs (u % 2 ^ 255)) => lessen_any (u % 2 ^ 255) w h
  rw [← hX] at hles
  obtain ⟨um, hum⟩ : ∃ x, x = nar (dig 256 32 (u % 2 ^ 255)) := ⟨_, rfl⟩
  have hum32 : K32 um (u % 2 ^ 255) := ⟨hum, Nat.lt_of_lt_of_le hy2 (by decide)⟩
  rw [← hum] at hn2
  obtain ⟨U, hU⟩ : ∃ U, U = u % 2 ^ 255 := ⟨_, rfl⟩
  rw [← hU] at hum32 hles
  have HUM := Lib.hid hum32
  have HUML := Lib.hid hum32.len
  have HCLP := Lib.hid hclp
  have HLES := Lib.hid hles
  have HKS := Lib.hid hks
  have HKL := Lib.hid hks.len
  have HUL := Lib.hid hus.len
  have HG := Lib.hid g31
  have HN2 := Lib.hid hn2
  have HA := Lib.hid ha
  have hk1 : N4 [(1 : Int), 0, 0, 0] 1 := n4_small 1 (by decide)
  have hk0 : N4 [(0 : Int), 0, 0, 0] 0 := n4_small 0 (by decide)
  have hbk1 := fun w => build_raw 1 w
  have hbk0 := fun w => build_no w
  obtain ⟨k1, hk1e⟩ : ∃ b : List Int, b = [(1 : Int), 0, 0, 0] := ⟨_, rfl⟩
  obtain ⟨k0, hk0e⟩ : ∃ b : List Int, b = [(0 : Int), 0, 0, 0] := ⟨_, rfl⟩
  rw [← hk1e] at hk1 hbk1
  rw [← hk0e] at hk0 hbk0
  have HK1 := Lib.hid hk1
  have HK0 := Lib.hid hk0
  have HK1L := Lib.hid hk1.len
  have HK0L := Lib.hid hk0.len
  have HBK1 := Lib.hid hbk1
  have HBK0 := Lib.hid hbk0
  obtain ⟨zl, hzl⟩ : ∃ zs : List Int, zs = List.replicate 4 0 := ⟨_, rfl⟩
  have HZzl : Hid (∀ w, (zeroValue 53).run Tryd.prog w = .ok (.agg (arr .u64 zl)) w) := Lib.hid (by intro w; rw [hzl]; exact zero_lim w)
  have HLzl : Hid (zl.length = 4) := Lib.hid (by rw [hzl]; rfl)
  obtain ⟨zn, hzn⟩ : ∃ zs : List Int, zs = List.replicate 32 0 := ⟨_, rfl⟩
  have HZzn : Hid (∀ w, (zeroValue 23).run Tryd.prog w = .ok (.agg (arr .u8 zn)) w) := Lib.hid (by intro w; rw [hzn]; exact zero_num w)
  have HLzn : Hid (zn.length = 32) := Lib.hid (by rw [hzn]; rfl)
  have HS0 := Lib.hid (Blk.three w (arr .u8 ks) (arr .u8 us) (arr .u8 zn) 23 23 23)
  clear hzl hzn hks hus hum hum32 hds hclp hles g31 hn2 ha hK hX hU hy2 hk1 hk0 hbk1 hbk0 hk1e hk0e hu t1 p256 hres
  go_enter Tryd.func13, Tryd.ntmps13
  go_upto_region 1 with (first | ((with_reducible refine aS 4 ?_); refine wpList_alloc_row rfl 23 rfl _ (HZzn.out _) ?_))
  (try simp only [World.size_alloc, Act.put, sA, sZ, sS])
  generalize (((w.alloc (.cells (arr .u8 ks) 23)).alloc (.cells (arr .u8 us) 23)).alloc (.cells (arr .u8 zn) 23)) = wb at HS0 ⊢
  go_upto_region 2 with (first | ((with_reducible refine aS 14 ?_); refine wpList_load_part rfl 23 _ rfl (w.heap.size) (0) _ 23 (0, 0) _ (HS0.out.get 0 rfl) rfl .u8 ks (arr_part _ _) Tryd.underlying23 rfl (num_i HKL.out) ?_) | ((with_reducible show Calls _ 24 #[.agg _] _ _); go_at_call 24; refine (HCLP.out _ _ HKS.out).mono ?_; rintro e w2801 ⟨z2801, rfl, h2801, hb2801⟩; have HZ2801 := Lib.hid h2801; have HL2801 := Lib.hid h2801.len; clear h2801; have HB2801 := Lib.hid (HS0.out.kept hb2801); clear hb2801) | ((with_reducible show Calls _ 23 #[.agg _] _ _); go_at_call 23; refine (of4 _ _ HZ2801.out).mono ?_; rintro e w2802 ⟨z2802, rfl, h2802, hb2802⟩; have HZ2802 := Lib.hid h2802; have HL2802 := Lib.hid h2802.len; clear h2802; have HB2802 := Lib.hid (HB2801.out.kept hb2802); clear hb2802; clear HB2801) | ((with_reducible refine aS 5 ?_); refine wpList_alloc_row rfl 53 rfl _ (HZzl.out _) ?_; have HB2803 := Lib.hid (HB2802.out.alloc (arr .u64 zl) 53); generalize w2802.heap.size = g2803 at HB2803 ⊢; generalize w2802.alloc (.cells (arr .u64 zl) 53) = w2803 at HB2803 ⊢; clear HB2802) | ((with_reducible refine aT 5 (x := (Operand.tmp 16)) ?_); refine wpList_store_whole rfl 53 _ _ rfl (g2803) _ _ 53 (HB2803.out.get 3 rfl) rfl rfl (arr_len2 _ _ HL2802.out HLzl.out) (lim_s HL2802.out) (all_arr _ _) ?_; intro w2804 hb2804 hk2804 hz2804; have HB2804 := Lib.hid (HB2803.out.put 3 rfl hk2804 hb2804); clear hb2804 hk2804 hz2804; clear HB2803))
  have q0 := arr_get' (HB2804.out.get 1 rfl) 31 (by rw [HUL.out]; decide)
  have q1 := free_blk (HB2804.out.get 1 rfl) 31
  rw [HG.out] at q0
  have hb1 := HB2804.out.cell 1 rfl 31 (.int .u8 (bits .and .u8 (t : Int) 127))
  have e2 : (arr .u8 us).setIfInBounds 31 (.int .u8 (bits .and .u8 (t : Int) 127)) = arr .u8 um := by rw [HA.out, arr_set, HN2.out]
  have HU1 := Lib.hid (hb1.cast (l' := [(w.heap.size, arr .u8 ks, 23), (w.heap.size + 1, arr .u8 um, 23), (w.heap.size + 1 + 1, arr .u8 zn, 23), (g2803, (arr .u64 z2802), 53)]) (by rw [← e2]; rfl))
  clear hb1 e2
  go_upto_region 3 with fail
  clear q0 q1
  generalize w2804.setCell ⟨w.heap.size + 1, 31, none⟩ (.int .u8 (bits .and .u8 (t : Int) 127)) = wu at HU1 ⊢
  go_upto_region 4 with (first | ((with_reducible refine aS 21 ?_); refine wpList_load_part rfl 23 _ rfl (w.heap.size + 1) (0) _ 23 (0, 0) _ (HU1.out.get 1 rfl) rfl .u8 um (arr_part _ _) Tryd.underlying23 rfl (num_i HUML.out) ?_) | ((with_reducible show Calls _ 23 #[.agg _] _ _); go_at_call 23; refine (of4 _ _ HUM.out).mono ?_; rintro e w2805 ⟨z2805, rfl, h2805, hb2805⟩; have HZ2805 := Lib.hid h2805; have HL2805 := Lib.hid h2805.len; clear h2805; have HB2805 := Lib.hid (HU1.out.kept hb2805); clear hb2805) | ((with_reducible show Calls _ 25 #[.agg _] _ _); go_at_call 25; refine (HLES.out _ _ HZ2805.out).mono ?_; rintro e w2806 ⟨z2806, rfl, h2806, hb2806⟩; have HZ2806 := Lib.hid h2806; have HL2806 := Lib.hid h2806.len; clear h2806; have HB2806 := Lib.hid (HB2805.out.kept hb2806); clear hb2806; clear HB2805) | ((with_reducible refine aS 6 ?_); refine wpList_alloc_row rfl 53 rfl _ (HZzl.out _) ?_; have HB2807 := Lib.hid (HB2806.out.alloc (arr .u64 zl) 53); generalize w2806.heap.size = g2807 at HB2807 ⊢; generalize w2806.alloc (.cells (arr .u64 zl) 53) = w2807 at HB2807 ⊢; clear HB2806) | ((with_reducible refine aT 6 (x := (Operand.tmp 23)) ?_); refine wpList_store_whole rfl 53 _ _ rfl (g2807) _ _ 53 (HB2807.out.get 4 rfl) rfl rfl (arr_len2 _ _ HL2806.out HLzl.out) (lim_s HL2806.out) (all_arr _ _) ?_; intro w2808 hb2808 hk2808 hz2808; have HB2808 := Lib.hid (HB2807.out.put 4 rfl hk2808 hb2808); clear hb2808 hk2808 hz2808; clear HB2807))
  (try simp only [World.size_alloc, Act.put, sA, sZ, sS])
  refine wp_region_sym (T := fun _ => False) (w := w) (sy := [sa .u64 k1, sa .u64 k0, sa .u64 z2806, sa .u64 k1, sn (arr .u64 zl) 53, sn (arr .u64 zl) 53, sn (arr .u64 zl) 53, sn (arr .u64 zl) 53, s0, s0, s0, s0]) (pt := [(8, 9, cel (arr .u64 k1) 53), (9, 10, cel (arr .u64 k0) 53), (10, 11, cel (arr .u64 z2806) 53), (11, 12, cel (arr .u64 k1) 53)]) (by kernel_rfl) (by kernel_rfl) (by kernel_rfl) HB2808.out.holds (fun hW => ?sr4) (fun qr4 xr4 ur4 _ hH => ?er4)
  case sr4 =>
    refine yb hW ?_ _ _ _ (fun u => HBK1.out u)
    refine yb hW ?_ _ _ _ (fun u => HBK0.out u)
    refine yl hW ?_ 4 0 ((arr .u64 z2806)) 53 rowL HL2806.out (arr_part _ _)
    refine yb hW ?_ _ _ _ (fun u => HBK1.out u)
    refine ya hW ?_ HZzl.out
    refine ya hW ?_ HZzl.out
    refine ya hW ?_ HZzl.out
    refine ya hW ?_ HZzl.out
    refine ys hW ?_ 9 (arr .u64 zl) 53 rowL HK1L.out (asz HLzl.out)
    refine ys hW ?_ 10 (arr .u64 zl) 53 rowL HK0L.out (asz HLzl.out)
    refine ys hW ?_ 11 (arr .u64 zl) 53 rowL HL2806.out (asz HLzl.out)
    refine ys hW ?_ 12 (arr .u64 zl) 53 rowL HK1L.out (asz HLzl.out)
    exact yn
  case er4 =>
  have HBr4 := Lib.hid (hH.blk [0, 1, 2, 3, 4, 9, 10, 11, 12] [(w.heap.size, arr .u8 ks, 23), (w.heap.size + 1, arr .u8 um, 23), (w.heap.size + 1 + 1, arr .u8 zn, 23), (g2803, (arr .u64 z2802), 53), (g2807, (arr .u64 z2806), 53), ((qr4 4), arr .u64 k1, 53), ((qr4 5), arr .u64 k0, 53), ((qr4 6), arr .u64 z2806, 53), ((qr4 7), arr .u64 k1, 53)] (by decide) (by kernel_rfl))
  simp only [lay, Sy.at, den', sa, sv, sp, sq, sn, s0, Act.put, sA, sZ, sS, Nat.reduceAdd]
  clear hH HB2808
  (try simp only [Exit.then])
  go_wp2_with fail
  go_loopw [11, 12] (fun v1 v2 wr => ∃ n u : Nat, n ≤ 255 ∧ (u = 0 ∨ u = 1) ∧ v1 = .int .u64 (u : Int) ∧ v2 = .int .i64 (254 - (n : Int)) ∧ ∃ la lb lc ld : List Int, N4 la ((lgo X K n).swap u).a ∧ N4 lb ((lgo X K n).swap u).b ∧ N4 lc ((lgo X K n).swap u).c ∧ N4 ld ((lgo X K n).swap u).d ∧ Blk w wr [(w.heap.size, arr .u8 ks, 23), (w.heap.size + 1, arr .u8 um, 23), (w.heap.size + 1 + 1, arr .u8 zn, 23), (g2803, (arr .u64 z2802), 53), (g2807, (arr .u64 z2806), 53), ((qr4 4), arr .u64 la, 53), ((qr4 5), arr .u64 lb, 53), ((qr4 6), arr .u64 lc, 53), ((qr4 7), arr .u64 ld, 53)]) (fun _ v2 _ => (intOf v2 + 1).toNat)
  case atStart => exact ⟨0, 0, Nat.zero_le _, Or.inl rfl, rfl, rfl, _, _, _, _, HK1.out, HK0.out, HZ2806.out, HK1.out, HBr4.out⟩
  case round =>
  obtain ⟨n, u, hn, hu, rfl, rfl, la, lb, lc, ld, h1, h2, h3, h4, hB⟩ := hrel
  have HAe := Lib.hid h1
  have HBe := Lib.hid h2
  have HCe := Lib.hid h3
  have HDe := Lib.hid h4
  have HAl := Lib.hid h1.len
  have HBl := Lib.hid h2.len
  have HCl := Lib.hid h3.len
  have HDl := Lib.hid h4.len
  have HB := Lib.hid hB
  clear h1 h2 h3 h4 hB HBr4
  by_cases hlt : n < 255
  · obtain ⟨i, hi⟩ : ∃ i : Nat, i + n = 254 := ⟨254 - n, by omega⟩
    have hz : (254 : Int) - (n : Int) = (i : Int) := by omega
    have hi2 : i < 256 := by omega
    obtain ⟨b, hbit⟩ : ∃ b, b = K / 2 ^ i % 2 := ⟨_, rfl⟩
    have hb : b = 0 ∨ b = 1 := by omega
    obtain ⟨c, hcc⟩ : ∃ c, c = (u + b) % 2 := ⟨_, rfl⟩
    have hc : c = 0 ∨ c = 1 := by omega
    have hx := xor_bits u b hu hb
    rw [← hcc] at hx
    obtain ⟨s1, s2, s3, s4⟩ := swap_pick (lgo X K n) u b c hu hb hcc
    have hpn := lgo_swap X K n b (by rw [show 254 - n = i by omega]; exact hbit.symm)
    have hsok := (lgo_ok X K lX n).swap b
    obtain ⟨S, hS⟩ : ∃ S, S = (lgo X K n).swap b := ⟨_, rfl⟩
    rw [← hS] at s1 s2 s3 s4 hpn hsok
    rw [hz]
    have HI := Lib.hid hi
    have HBT := Lib.hid hbit.symm
    have HS1 := Lib.hid s1
    have HS2 := Lib.hid s2
    have HS3 := Lib.hid s3
    have HS4 := Lib.hid s4
    have HPN := Lib.hid hpn
    have HSok := Lib.hid hsok
    have HBb := Lib.hid hb
    clear hz hi hbit hcc s1 s2 s3 s4 hpn hsok hS hb
    have q9 : 0 ≤ (i : Int) := by omega
    go_upto_region 11 with (first | ((with_reducible refine aS 32 ?_); refine wpList_load_part rfl 53 _ rfl (g2803) (0) _ 53 (0, 0) _ (HB.out.get 3 rfl) rfl .u64 z2802 (arr_part _ _) Tryd.underlying53 rfl (lim_i HL2802.out) ?_) | ((with_reducible show Calls _ 26 #[.agg _, _] _ _); go_at_call 26; refine (bit_any _ i _ _ HZ2802.out hi2 HBT.out).mono ?_; rintro e w2809 ⟨rfl, hb2809⟩; have HB2809 := Lib.hid (HB.out.kept hb2809); clear hb2809))
    clear hx
    (try simp only [World.size_alloc, Act.put, sA, sZ, sS])
    obtain ⟨z5001, HZ5001, HL5001, HE5001⟩ := n4_ex (a := (if c = 1 then ((lgo X K n).swap u).c else ((lgo X K n).swap u).a)) (pick_lt ((lgo_ok X K lX n).swap u).a ((lgo_ok X K lX n).swap u).c)
    obtain ⟨z5002, HZ5002, HL5002, HE5002⟩ := n4_ex (a := (if c = 1 then ((lgo X K n).swap u).a else ((lgo X K n).swap u).c)) (pick_lt ((lgo_ok X K lX n).swap u).c ((lgo_ok X K lX n).swap u).a)
    refine wp_region_sym (T := fun _ => False) (w := w) (sy := [sa .u64 la, sa .u64 lc, sv (.int .u64 (c : Int)), sa .u64 z5001, sa .u64 lc, sa .u64 la, sv (.int .u64 (c : Int)), sa .u64 z5002, s0, s0]) (pt := [(8, 5, cel (arr .u64 z5001) 53), (9, 7, cel (arr .u64 z5002) 53)]) (by kernel_rfl) (by kernel_rfl) (by kernel_rfl) HB2809.out.holds (fun hW => ?sr11) (fun qr11 xr11 ur11 _ hH => ?er11)
    case sr11 =>
      refine yl hW ?_ 5 0 (arr .u64 la) 53 rowL HAl.out (arr_part _ _)
      refine yl hW ?_ 7 0 (arr .u64 lc) 53 rowL HCl.out (arr_part _ _)
      refine yp hW ?_
      refine yc hW ?_ (fun _ => pick_any _ _ c _ HAe.out HCe.out hc) HE5001.out
      refine yl hW ?_ 7 0 (arr .u64 lc) 53 rowL HCl.out (arr_part _ _)
      refine yl hW ?_ 5 0 (arr .u64 la) 53 rowL HAl.out (arr_part _ _)
      refine yp hW ?_
      refine yc hW ?_ (fun _ => pick_any _ _ c _ HCe.out HAe.out hc) HE5002.out
      refine ys hW ?_ 5 (arr .u64 la) 53 rowL HL5001.out (asz HAl.out)
      refine ys hW ?_ 7 (arr .u64 lc) 53 rowL HL5002.out (asz HCl.out)
      exact yn
    case er11 =>
    have HBr11 := Lib.hid (hH.blk [0, 1, 2, 3, 4, 5, 6, 7, 8] [(w.heap.size, arr .u8 ks, 23), (w.heap.size + 1, arr .u8 um, 23), (w.heap.size + 1 + 1, arr .u8 zn, 23), (g2803, (arr .u64 z2802), 53), (g2807, (arr .u64 z2806), 53), ((qr4 4), arr .u64 z5001, 53), ((qr4 5), arr .u64 lb, 53), ((qr4 6), arr .u64 z5002, 53), ((qr4 7), arr .u64 ld, 53)] (by decide) (by kernel_rfl))
    simp only [lay, Sy.at, den', sa, sv, sp, sq, sn, s0, Act.put, sA, sZ, sS, Nat.reduceAdd]
    clear hH HB2809
    go_upto_region 12 with fail
    (try simp only [World.size_alloc, Act.put, sA, sZ, sS])
    obtain ⟨z5003, HZ5003, HL5003, HE5003⟩ := n4_ex (a := (if c = 1 then ((lgo X K n).swap u).d else ((lgo X K n).swap u).b)) (pick_lt ((lgo_ok X K lX n).swap u).b ((lgo_ok X K lX n).swap u).d)
    obtain ⟨z5004, HZ5004, HL5004, HE5004⟩ := n4_ex (a := (if c = 1 then ((lgo X K n).swap u).b else ((lgo X K n).swap u).d)) (pick_lt ((lgo_ok X K lX n).swap u).d ((lgo_ok X K lX n).swap u).b)
    refine wp_region_sym (T := fun _ => False) (w := w) (sy := [sa .u64 lb, sa .u64 ld, sv (.int .u64 (c : Int)), sa .u64 z5003, sa .u64 ld, sa .u64 lb, sv (.int .u64 (c : Int)), sa .u64 z5004, s0, s0]) (pt := [(8, 6, cel (arr .u64 z5003) 53), (9, 8, cel (arr .u64 z5004) 53)]) (by kernel_rfl) (by kernel_rfl) (by kernel_rfl) HBr11.out.holds (fun hW => ?sr12) (fun qr12 xr12 ur12 _ hH => ?er12)
    case sr12 =>
      refine yl hW ?_ 6 0 (arr .u64 lb) 53 rowL HBl.out (arr_part _ _)
      refine yl hW ?_ 8 0 (arr .u64 ld) 53 rowL HDl.out (arr_part _ _)
      refine yp hW ?_
      refine yc hW ?_ (fun _ => pick_any _ _ c _ HBe.out HDe.out hc) HE5003.out
      refine yl hW ?_ 8 0 (arr .u64 ld) 53 rowL HDl.out (arr_part _ _)
      refine yl hW ?_ 6 0 (arr .u64 lb) 53 rowL HBl.out (arr_part _ _)
      refine yp hW ?_
      refine yc hW ?_ (fun _ => pick_any _ _ c _ HDe.out HBe.out hc) HE5004.out
      refine ys hW ?_ 6 (arr .u64 lb) 53 rowL HL5003.out (asz HBl.out)
      refine ys hW ?_ 8 (arr .u64 ld) 53 rowL HL5004.out (asz HDl.out)
      exact yn
    case er12 =>
    have HBr12 := Lib.hid (hH.blk [0, 1, 2, 3, 4, 5, 6, 7, 8] [(w.heap.size, arr .u8 ks, 23), (w.heap.size + 1, arr .u8 um, 23), (w.heap.size + 1 + 1, arr .u8 zn, 23), (g2803, (arr .u64 z2802), 53), (g2807, (arr .u64 z2806), 53), ((qr4 4), arr .u64 z5001, 53), ((qr4 5), arr .u64 z5003, 53), ((qr4 6), arr .u64 z5002, 53), ((qr4 7), arr .u64 z5004, 53)] (by decide) (by kernel_rfl))
    simp only [lay, Sy.at, den', sa, sv, sp, sq, sn, s0, Act.put, sA, sZ, sS, Nat.reduceAdd]
    clear hH HBr11
    have HSN7 := Lib.hid (HZ5001.out.cast HS1.out)
    have HSN8 := Lib.hid (HZ5003.out.cast HS2.out)
    have HSN9 := Lib.hid (HZ5002.out.cast HS3.out)
    have HSN10 := Lib.hid (HZ5004.out.cast HS4.out)
    go_upto_region 14 with fail
    (try simp only [World.size_alloc, Act.put, sA, sZ, sS])
    go_wp2_with (first | ((with_reducible refine aS 56 ?_); refine wpList_load_part rfl 53 _ rfl (g2807) (0) _ 53 (0, 0) _ (HBr12.out.get 4 rfl) rfl .u64 z2806 (arr_part _ _) Tryd.underlying53 rfl (lim_i HL2806.out) ?_) | ((with_reducible refine aS 57 ?_); refine wpList_load_part rfl 53 _ rfl ((qr4 4)) (0) _ 53 (0, 0) _ (HBr12.out.get 5 rfl) rfl .u64 z5001 (arr_part _ _) Tryd.underlying53 rfl (lim_i HL5001.out) ?_) | ((with_reducible refine aS 58 ?_); refine wpList_load_part rfl 53 _ rfl ((qr4 5)) (0) _ 53 (0, 0) _ (HBr12.out.get 6 rfl) rfl .u64 z5003 (arr_part _ _) Tryd.underlying53 rfl (lim_i HL5003.out) ?_) | ((with_reducible refine aS 59 ?_); refine wpList_load_part rfl 53 _ rfl ((qr4 6)) (0) _ 53 (0, 0) _ (HBr12.out.get 7 rfl) rfl .u64 z5002 (arr_part _ _) Tryd.underlying53 rfl (lim_i HL5002.out) ?_) | ((with_reducible refine aS 60 ?_); refine wpList_load_part rfl 53 _ rfl ((qr4 7)) (0) _ 53 (0, 0) _ (HBr12.out.get 8 rfl) rfl .u64 z5004 (arr_part _ _) Tryd.underlying53 rfl (lim_i HL5004.out) ?_) | ((with_reducible show Calls _ 28 #[.agg _, .agg _, .agg _, .agg _, .agg _] _ _); go_at_call 28; refine (step_any _ _ _ _ _ _ HZ2806.out HSN7.out HSN8.out HSN9.out HSN10.out HSok.out.a HSok.out.b HSok.out.c HSok.out.d).mono ?_; rintro e w2810 ⟨za2810, zb2810, zc2810, zd2810, rfl, ha2810, hbb2810, hc2810, hd2810, hb2810⟩; have HZa2810 := Lib.hid ha2810; have HZb2810 := Lib.hid hbb2810; have HZc2810 := Lib.hid hc2810; have HZd2810 := Lib.hid hd2810; have HLa2810 := Lib.hid ha2810.len; have HLb2810 := Lib.hid hbb2810.len; have HLc2810 := Lib.hid hc2810.len; have HLd2810 := Lib.hid hd2810.len; clear ha2810 hbb2810 hc2810 hd2810; have HB2810 := Lib.hid (HBr12.out.kept hb2810); clear hb2810) | ((with_reducible refine aT 7 (x := (Operand.tmp 62)) ?_); refine wpList_store_whole rfl 53 _ _ rfl ((qr4 4)) _ _ 53 (HB2810.out.get 5 rfl) rfl rfl (arr_len2 _ _ HLa2810.out HL5001.out) (lim_s HLa2810.out) (all_arr _ _) ?_; intro w2811 hb2811 hk2811 hz2811; have HB2811 := Lib.hid (HB2810.out.put 5 rfl hk2811 hb2811); clear hb2811 hk2811 hz2811; clear HB2810) | ((with_reducible refine aT 8 (x := (Operand.tmp 63)) ?_); refine wpList_store_whole rfl 53 _ _ rfl ((qr4 5)) _ _ 53 (HB2811.out.get 6 rfl) rfl rfl (arr_len2 _ _ HLb2810.out HL5003.out) (lim_s HLb2810.out) (all_arr _ _) ?_; intro w2812 hb2812 hk2812 hz2812; have HB2812 := Lib.hid (HB2811.out.put 6 rfl hk2812 hb2812); clear hb2812 hk2812 hz2812; clear HB2811) | ((with_reducible refine aT 9 (x := (Operand.tmp 64)) ?_); refine wpList_store_whole rfl 53 _ _ rfl ((qr4 6)) _ _ 53 (HB2812.out.get 7 rfl) rfl rfl (arr_len2 _ _ HLc2810.out HL5002.out) (lim_s HLc2810.out) (all_arr _ _) ?_; intro w2813 hb2813 hk2813 hz2813; have HB2813 := Lib.hid (HB2812.out.put 7 rfl hk2813 hb2813); clear hb2813 hk2813 hz2813; clear HB2812) | ((with_reducible refine aT 10 (x := (Operand.tmp 65)) ?_); refine wpList_store_whole rfl 53 _ _ rfl ((qr4 7)) _ _ 53 (HB2813.out.get 8 rfl) rfl rfl (arr_len2 _ _ HLd2810.out HL5004.out) (lim_s HLd2810.out) (all_arr _ _) ?_; intro w2814 hb2814 hk2814 hz2814; have HB2814 := Lib.hid (HB2813.out.put 8 rfl hk2814 hb2814); clear hb2814 hk2814 hz2814; clear HB2813))
    go_roundw
    case rel =>
      have e := HI.out
      exact ⟨n + 1, b, by omega, HBb.out, rfl, by congr 1; omega, _, _, _, _, by rw [HPN.out]; exact HZa2810.out, by rw [HPN.out]; exact HZb2810.out, by rw [HPN.out]; exact HZc2810.out, by rw [HPN.out]; exact HZd2810.out, HB2814.out⟩
    case measure => simp [intOf]
  · obtain rfl : n = 255 := by omega
    have hz : (254 : Int) - ((255 : Nat) : Int) = -1 := by omega
    rw [hz]
    obtain ⟨s1, s2⟩ := swap_end (lgo X K 255) u hu
    have hok := lgo_ok X K lX 255
    have HS1 := Lib.hid s1
    have HS2 := Lib.hid s2
    have HOK := Lib.hid hok
    clear hz s1 s2 hok
    go_upto_region 15 with fail
    (try simp only [World.size_alloc, Act.put, sA, sZ, sS])
    obtain ⟨z5005, HZ5005, HL5005, HE5005⟩ := n4_ex (a := (if u = 1 then ((lgo X K 255).swap u).c else ((lgo X K 255).swap u).a)) (pick_lt ((lgo_ok X K lX 255).swap u).a ((lgo_ok X K lX 255).swap u).c)
    obtain ⟨z5006, HZ5006, HL5006, HE5006⟩ := n4_ex (a := (if u = 1 then ((lgo X K 255).swap u).d else ((lgo X K 255).swap u).b)) (pick_lt ((lgo_ok X K lX 255).swap u).b ((lgo_ok X K lX 255).swap u).d)
    refine wp_region_sym (T := fun _ => False) (w := w) (sy := [sa .u64 la, sa .u64 lc, sv (.int .u64 (u : Int)), sa .u64 z5005, sa .u64 lb, sa .u64 ld, sv (.int .u64 (u : Int)), sa .u64 z5006, s0, s0]) (pt := [(8, 5, cel (arr .u64 z5005) 53), (9, 6, cel (arr .u64 z5006) 53)]) (by kernel_rfl) (by kernel_rfl) (by kernel_rfl) HB.out.holds (fun hW => ?sr15) (fun qr15 xr15 ur15 _ hH => ?er15)
    case sr15 =>
      refine yl hW ?_ 5 0 (arr .u64 la) 53 rowL HAl.out (arr_part _ _)
      refine yl hW ?_ 7 0 (arr .u64 lc) 53 rowL HCl.out (arr_part _ _)
      refine yp hW ?_
      refine yc hW ?_ (fun _ => pick_any _ _ u _ HAe.out HCe.out hu) HE5005.out
      refine yl hW ?_ 6 0 (arr .u64 lb) 53 rowL HBl.out (arr_part _ _)
      refine yl hW ?_ 8 0 (arr .u64 ld) 53 rowL HDl.out (arr_part _ _)
      refine yp hW ?_
      refine yc hW ?_ (fun _ => pick_any _ _ u _ HBe.out HDe.out hu) HE5006.out
      refine ys hW ?_ 5 (arr .u64 la) 53 rowL HL5005.out (asz HAl.out)
      refine ys hW ?_ 6 (arr .u64 lb) 53 rowL HL5006.out (asz HBl.out)
      exact yn
    case er15 =>
    have HBr15 := Lib.hid (hH.blk [0, 1, 2, 3, 4, 5, 6, 7, 8] [(w.heap.size, arr .u8 ks, 23), (w.heap.size + 1, arr .u8 um, 23), (w.heap.size + 1 + 1, arr .u8 zn, 23), (g2803, (arr .u64 z2802), 53), (g2807, (arr .u64 z2806), 53), ((qr4 4), arr .u64 z5005, 53), ((qr4 5), arr .u64 z5006, 53), ((qr4 6), arr .u64 lc, 53), ((qr4 7), arr .u64 ld, 53)] (by decide) (by kernel_rfl))
    simp only [lay, Sy.at, den', sa, sv, sp, sq, sn, s0, Act.put, sA, sZ, sS, Nat.reduceAdd]
    clear hH HB
    have HSN7 := Lib.hid (HZ5005.out.cast HS1.out)
    have HSN8 := Lib.hid (HZ5006.out.cast HS2.out)
    go_upto_region 16 with fail
    (try simp only [World.size_alloc, Act.put, sA, sZ, sS])
    obtain ⟨z5007, HZ5007, HL5007, HE5007⟩ := n4_ex (a := (finv (lgo X K 255).b)) (fpow_lt _ _ _)
    obtain ⟨z5008, HZ5008, HL5008, HE5008⟩ := n4_ex (a := (fmul (lgo X K 255).a (finv (lgo X K 255).b))) (fmul_lt _ _)
    obtain ⟨z5009, HZ5009, HL5009, HE5009⟩ := k32_ex (a := (fmul (lgo X K 255).a (finv (lgo X K 255).b))) (fmul_lt _ _)
    refine wp_region_sym (T := fun _ => False) (w := w) (sy := [sa .u64 z5005, sa .u64 z5006, sa .u64 z5007, sa .u64 z5008, sa .u8 z5009, s0]) (pt := [(5, 2, cel (arr .u8 z5009) 23)]) (by kernel_rfl) (by kernel_rfl) (by kernel_rfl) HBr15.out.holds (fun hW => ?sr16) (fun qr16 xr16 ur16 _ hH => ?er16)
    case sr16 =>
      refine yl hW ?_ 5 0 (arr .u64 z5005) 53 rowL HL5005.out (arr_part _ _)
      refine yl hW ?_ 6 0 (arr .u64 z5006) 53 rowL HL5006.out (arr_part _ _)
      refine yc hW ?_ (fun _ => inverse_any _ _ HSN8.out) HE5007.out
      refine yc hW ?_ (fun _ => times_any _ _ _ HSN7.out HZ5007.out) HE5008.out
      refine yc hW ?_ (fun _ => num4 _ _ HZ5008.out) HE5009.out
      refine ys hW ?_ 2 (arr .u8 zn) 23 rowN HL5009.out (asz HLzn.out)
      exact yn
    case er16 =>
    have HBr16 := Lib.hid (hH.blk [0, 1, 2, 3, 4, 5, 6, 7, 8] [(w.heap.size, arr .u8 ks, 23), (w.heap.size + 1, arr .u8 um, 23), (w.heap.size + 1 + 1, arr .u8 z5009, 23), (g2803, (arr .u64 z2802), 53), (g2807, (arr .u64 z2806), 53), ((qr4 4), arr .u64 z5005, 53), ((qr4 5), arr .u64 z5006, 53), ((qr4 6), arr .u64 lc, 53), ((qr4 7), arr .u64 ld, 53)] (by decide) (by kernel_rfl))
    simp only [lay, Sy.at, den', sa, sv, sp, sq, sn, s0, Act.put, sA, sZ, sS, Nat.reduceAdd]
    clear hH HBr15
    (try simp only [Exit.then])
    go_wp2_with fail
    refine bodyPost_ret (results_cell_row rfl _ _ (w.heap.size + 1 + 1) 23 _ (0, 0) _ rfl (HBr16.out.get 2 rfl) Tryd.underlying23 rfl (num_s HL5009.out)) rfl ?_
    exact ⟨_, rfl, HZ5009.out, HBr16.out.below⟩
end Go.Proofs.YtogebegdgfdijaaDoor.Sl
namespace Go.Proofs.YtogebegdgfdijaaDoor.Sl
open Go.RowKit Lm Fp Cu Rd
theorem k32_nine : K32 [9, 0, 0, 0, 0, 0, 0, 0, 0, 0, 0, 0, 0, 0, 0, 0, 0, 0, 0, 0, 0, 0, 0, 0, 0, 0, 0, 0, 0, 0, 0, 0] 9 := ⟨by decide +kernel, by decide⟩
theorem build_nine (w : World) : (Instr.build 23 #[(0, .int .u8 9)]).run Tryd.prog w = .ok (.agg (arr .u8 [9, 0, 0, 0, 0, 0, 0, 0, 0, 0, 0, 0, 0, 0, 0, 0, 0, 0, 0, 0, 0, 0, 0, 0, 0, 0, 0, 0, 0, 0, 0, 0])) w := by kernel_rfl
theorem x_lt32 (k u : Nat) : x25519 k u < 256 ^ 32 := Nat.lt_trans (x25519_lt k u) (by decide +kernel)
theorem lpublic_any {ks : List Int} (k : Nat) (w : World) (hk : K32 ks k) :
    Calls Tryd.prog 6 #[.agg (arr .u8 ks)] w fun e w' => ∃ zs, e = .returned (.agg (arr .u8 zs)) ∧ K32 zs (x25519 k 9) ∧ Below w.heap.size w w' := by
  obtain ⟨us, hus⟩ : ∃ x : List Int, x = [9, 0, 0, 0, 0, 0, 0, 0, 0, 0, 0, 0, 0, 0, 0, 0, 0, 0, 0, 0, 0, 0, 0, 0, 0, 0, 0, 0, 0, 0, 0, 0] := ⟨_, rfl⟩
  have hu : K32 us 9 := by rw [hus]; exact k32_nine
  have HBU : Hid (∀ w, (Instr.build 23 #[(0, .int .u8 9)]).run Tryd.prog w = .ok (.agg (arr .u8 us)) w) := Lib.hid (by intro w; rw [hus]; exact build_nine w)
  have HU := Lib.hid hu
  have HUL := Lib.hid hu.len
  have HK := Lib.hid hk
  have HKL := Lib.hid hk.len
  obtain ⟨zn, hzn⟩ : ∃ zs : List Int, zs = List.replicate 32 0 := ⟨_, rfl⟩
  have HZzn : Hid (∀ w, (zeroValue 23).run Tryd.prog w = .ok (.agg (arr .u8 zn)) w) := Lib.hid (by intro w; rw [hzn]; exact zero_num w)
  have HLzn : Hid (zn.length = 32) := Lib.hid (by rw [hzn]; rfl)
  have HS0 := Lib.hid (Blk.two w (arr .u8 ks) (arr .u8 zn) 23 23)
  clear hzn hus hu hk
  go_enter Tryd.func6, Tryd.ntmps6
  go_upto_region 1 with (first | ((with_reducible refine aS 2 ?_); refine wpList_alloc_row rfl 23 rfl _ (HZzn.out _) ?_))
  (try simp only [World.size_alloc, Act.put, sA, sZ, sS])
  generalize ((w.alloc (.cells (arr .u8 ks) 23)).alloc (.cells (arr .u8 zn) 23)) = wb at HS0 ⊢
  go_wp2_with (first | ((with_reducible refine aS 3 ?_); refine wpList_load_part rfl 23 _ rfl (w.heap.size) 0 _ 23 (0, 0) _ (HS0.out.get 0 rfl) rfl .u8 ks (arr_part _ _) Tryd.underlying23 rfl (num_i HKL.out) ?_) | ((with_reducible refine aS 4 ?_); refine wpList_build (by rfl) 23 _ rfl #[(0, .int .u8 9)] rfl _ (HBU.out _) ?_) | ((with_reducible show Calls _ 13 _ _ _); go_at_call 13; refine (lmul_run _ _ _ HK.out HU.out).mono ?_; rintro e w6 ⟨z6, rfl, h6, hb6⟩; have HZ6 := Lib.hid h6; have HL6 := Lib.hid h6.len; have HB6 := Lib.hid (HS0.out.kept hb6); clear h6 hb6) | ((with_reducible refine aT 2 ?_); refine wpList_store_whole rfl 23 _ _ rfl (w.heap.size + 1) _ _ 23 (HB6.out.get 1 rfl) rfl rfl (arr_len2 _ _ HL6.out HLzn.out) (num_s HL6.out) (all_arr _ _) ?_; intro w7 hb7 hk7 hz7; have HB7 := Lib.hid (HB6.out.put 1 rfl hk7 hb7); clear hb7 hk7 hz7))
  (try simp only [Exit.then])
  refine bodyPost_ret (results_cell_row rfl _ _ (w.heap.size + 1) 23 _ (0, 0) _ rfl (HB7.out.get 1 rfl) Tryd.underlying23 rfl (num_s HL6.out)) rfl ?_
  exact ⟨_, rfl, HZ6.out, HB7.out.below⟩
theorem lshared_any {ks us : List Int} (k u : Nat) (w : World) (hk : K32 ks k) (hu : K32 us u) :
    Calls Tryd.prog 10 #[.agg (arr .u8 ks), .agg (arr .u8 us)] w fun e w' => ∃ zs, e = .returned (.tuple #[.agg (arr .u8 zs), .int .i64 (if x25519 k u = 0 then 21 else 0)]) ∧ K32 zs (x25519 k u) ∧ Below w.heap.size w w' := by
  have HK := Lib.hid hk
  have HKL := Lib.hid hk.len
  have HU := Lib.hid hu
  have HUL := Lib.hid hu.len
  obtain ⟨zn, hzn⟩ : ∃ zs : List Int, zs = List.replicate 32 0 := ⟨_, rfl⟩
  have HZzn : Hid (∀ w, (zeroValue 23).run Tryd.prog w = .ok (.agg (arr .u8 zn)) w) := Lib.hid (by intro w; rw [hzn]; exact zero_num w)
  have HLzn : Hid (zn.length = 32) := Lib.hid (by rw [hzn]; rfl)
  have HZN0 : Hid (K32 zn 0) := Lib.hid (by rw [hzn]; exact k32_zero)
  have HBN : Hid (∀ w, (Instr.build 23 #[]).run Tryd.prog w = .ok (.agg (arr .u8 zn)) w) := Lib.hid (by intro w; rw [hzn]; exact build_nil w)
  have HS0 := Lib.hid (Blk.three w (arr .u8 ks) (arr .u8 us) (arr .u8 zn) 23 23 23)
  obtain ⟨er, her⟩ : ∃ e : Int, e = (if x25519 k u = 0 then 21 else 0) := ⟨_, rfl⟩
  have HER := Lib.hid her
  rw [← her]
  clear hzn hk hu her
  go_enter Tryd.func10, Tryd.ntmps10
  go_upto_region 1 with (first | ((with_reducible refine aS 4 ?_); refine wpList_alloc_row rfl 23 rfl _ (HZzn.out _) ?_))
  (try simp only [World.size_alloc, Act.put, sA, sZ, sS])
  generalize (((w.alloc (.cells (arr .u8 ks) 23)).alloc (.cells (arr .u8 us) 23)).alloc (.cells (arr .u8 zn) 23)) = wb at HS0 ⊢
  go_upto_region 2 with (first | ((with_reducible refine aS 7 ?_); refine wpList_load_part rfl 23 _ rfl (w.heap.size) 0 _ 23 (0, 0) _ (HS0.out.get 0 rfl) rfl .u8 ks (arr_part _ _) Tryd.underlying23 rfl (num_i HKL.out) ?_) | ((with_reducible refine aS 8 ?_); refine wpList_load_part rfl 23 _ rfl (w.heap.size + 1) 0 _ 23 (0, 0) _ (HS0.out.get 1 rfl) rfl .u8 us (arr_part _ _) Tryd.underlying23 rfl (num_i HUL.out) ?_) | ((with_reducible show Calls _ 13 _ _ _); go_at_call 13; refine (lmul_run _ _ _ HK.out HU.out).mono ?_; rintro e w6 ⟨rs, rfl, h6, hb6⟩; have HRS := Lib.hid h6; have HRL := Lib.hid h6.len; have HB6 := Lib.hid (HS0.out.kept hb6); clear h6 hb6) | ((with_reducible refine aS 6 ?_); refine wpList_alloc_row rfl 23 rfl _ (HZzn.out _) ?_; have HB7 := Lib.hid (HB6.out.alloc (arr .u8 zn) 23); generalize w6.heap.size = gz at HB7 ⊢; generalize w6.alloc (.cells (arr .u8 zn) 23) = w7 at HB7 ⊢) | ((with_reducible refine aT 6 ?_); refine wpList_store_whole rfl 23 _ _ rfl (gz) _ _ 23 (HB7.out.get 3 rfl) rfl rfl (arr_len2 _ _ HRL.out HLzn.out) (num_s HRL.out) (all_arr _ _) ?_; intro w8 hb8 hk8 hz8; have HB8 := Lib.hid (HB7.out.put 3 rfl hk8 hb8); clear hb8 hk8 hz8))
  have hz := HRS.out.inj HZN0.out
  by_cases hx : x25519 k u = 0
  · rw [decide_eq_true hx] at hz
    have HZZ := Lib.hid hz
    have he := HER.out
    rw [if_pos hx] at he
    subst he
    clear hz
    go_wp2_with (first | ((with_reducible refine aS 10 ?_); refine wpList_load_part rfl 23 _ rfl (gz) 0 _ 23 (0, 0) _ (HB8.out.get 3 rfl) rfl .u8 rs (arr_part _ _) Tryd.underlying23 rfl (num_i HRL.out) ?_) | ((with_reducible refine aS 11 ?_); refine wpList_build (by rfl) 23 _ rfl #[] rfl _ (HBN.out _) ?_) | ((with_reducible refine aS 12 ?_); refine wpList_eql_arr (by rfl) 23 _ _ (.tmp 10) (.tmp 11) rfl 32 .u8 .u8 Tryd.underlying23 Tryd.underlying5 (fun w => by kernel_rfl) (by kernel_rfl) rs zn rfl rfl HRL.out HLzn.out true HZZ.out ?_) | ((with_reducible refine aS 13 ?_); refine wpList_build (by rfl) 23 _ rfl #[] rfl _ (HBN.out _) ?_) | ((with_reducible refine aT 4 ?_); refine wpList_store_whole rfl 23 _ _ rfl (w.heap.size + 1 + 1) _ _ 23 (HB8.out.get 2 rfl) rfl rfl (arr_len2 _ _ HLzn.out HLzn.out) (num_s HLzn.out) (all_arr _ _) ?_; intro w9 hb9 hk9 hz9; have HB9 := Lib.hid (HB8.out.put 2 rfl hk9 hb9); clear hb9 hk9 hz9))
    (try simp only [Exit.then])
    refine bodyPost_ret (results_cell_tmp_row rfl _ _ (w.heap.size + 1 + 1) 23 _ (0, 0) _ _ rfl (HB9.out.get 2 rfl) Tryd.underlying23 rfl (num_s HLzn.out) rfl) rfl ?_
    exact ⟨_, rfl, by rw [hx]; exact HZN0.out, HB9.out.below⟩
  · rw [decide_eq_false hx] at hz
    have HZZ := Lib.hid hz
    have he := HER.out
    rw [if_neg hx] at he
    subst he
    clear hz
    go_wp2_with (first | ((with_reducible refine aS 10 ?_); refine wpList_load_part rfl 23 _ rfl (gz) 0 _ 23 (0, 0) _ (HB8.out.get 3 rfl) rfl .u8 rs (arr_part _ _) Tryd.underlying23 rfl (num_i HRL.out) ?_) | ((with_reducible refine aS 11 ?_); refine wpList_build (by rfl) 23 _ rfl #[] rfl _ (HBN.out _) ?_) | ((with_reducible refine aS 12 ?_); refine wpList_eql_arr (by rfl) 23 _ _ (.tmp 10) (.tmp 11) rfl 32 .u8 .u8 Tryd.underlying23 Tryd.underlying5 (fun w => by kernel_rfl) (by kernel_rfl) rs zn rfl rfl HRL.out HLzn.out false HZZ.out ?_) | ((with_reducible refine aS 14 ?_); refine wpList_load_part rfl 23 _ rfl (gz) 0 _ 23 (0, 0) _ (HB8.out.get 3 rfl) rfl .u8 rs (arr_part _ _) Tryd.underlying23 rfl (num_i HRL.out) ?_) | ((with_reducible refine aT 4 ?_); refine wpList_store_whole rfl 23 _ _ rfl (w.heap.size + 1 + 1) _ _ 23 (HB8.out.get 2 rfl) rfl rfl (arr_len2 _ _ HRL.out HLzn.out) (num_s HRL.out) (all_arr _ _) ?_; intro w9 hb9 hk9 hz9; have HB9 := Lib.hid (HB8.out.put 2 rfl hk9 hb9); clear hb9 hk9 hz9))
    (try simp only [Exit.then])
    refine bodyPost_ret (results_cell_tmp_row rfl _ _ (w.heap.size + 1 + 1) 23 _ (0, 0) _ _ rfl (HB9.out.get 2 rfl) Tryd.underlying23 rfl (num_s HRL.out) rfl) rfl ?_
    exact ⟨_, rfl, HRS.out, HB9.out.below⟩
end Go.Proofs.YtogebegdgfdijaaDoor.Sl
