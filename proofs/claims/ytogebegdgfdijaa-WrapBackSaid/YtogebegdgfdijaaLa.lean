/- ladder.Clamp: what it answers. Condition: 32 bytes. ladder.step: what it answers. Condition: numbers below p. ladder.Mul: what it answers. Condition: 32 bytes each. ladder.Public, Shared: what they answer. Condition: 32 bytes each. -/
import Derived.Test.YtogebegdgfdijaaFa
import Derived.Test.YtogebegdgfdijaaRl
import Derived.Test.YtogebegdgfdijaaMa
namespace Go.Proofs.Ytogebegdgfdijaa.Sl
open Go.RowKit Lm Fp Cu Rd

set_option maxRecDepth 100000 in
set_option maxHeartbeats 4000000 in
theorem clamp_run (v : Nat) (w : World) (hv : v < 2 ^ 256) :
    Calls Try.prog 19 #[.agg (arr .u8 (nar (dig 256 32 v)))] w fun e w' => e = .returned (.agg (arr .u8 (nar (dig 256 32 (clamp v))))) ∧ Below w.heap.size w w' := by
  have hcs := clamp_set v hv
  obtain ⟨t1, t2⟩ := top_byte256 v hv
  have l1 := low_byte v
  have g0 : (nar (dig 256 32 v)).getD 0 0 = ((v % 256 : Nat) : Int) := by rw [nar_get, l1]
  have g31 : (nar (dig 256 32 v)).getD 31 0 = ((v / 256 ^ 31 : Nat) : Int) := by rw [nar_get, t1]
  have a0 := and248 (v % 256) (Nat.mod_lt _ (by decide))
  have a1 := or64 (v / 256 ^ 31) t2
  have hfin : ((nar (dig 256 32 v)).set 0 ((v % 256 / 8 * 8 : Nat) : Int)).set 31 ((v / 256 ^ 31 % 64 + 64 : Nat) : Int) = nar (dig 256 32 (clamp v)) := by rw [← nar_set, ← nar_set, hcs]
  obtain ⟨ns, hns⟩ : ∃ x, x = nar (dig 256 32 v) := ⟨_, rfl⟩
  obtain ⟨rs, hrs⟩ : ∃ x, x = nar (dig 256 32 (clamp v)) := ⟨_, rfl⟩
  have HNL : Hid (ns.length = 32) := Lib.hid (by rw [hns, nar_len, dig_len])
  have HRL : Hid (rs.length = 32) := Lib.hid (by rw [hrs, nar_len, dig_len])
  rw [← hns] at g0 g31 hfin ⊢
  rw [← hrs] at hfin
  generalize v / 256 ^ 31 = t at g31 a1 hfin t2
  generalize hx : v % 256 = x at g0 a0 hfin
  have hx2 : x < 256 := by omega
  obtain ⟨zn, hzn⟩ : ∃ zs : List Int, zs = List.replicate 32 0 := ⟨_, rfl⟩
  have HZzn : Hid (∀ w, (zeroValue 23).run Try.prog w = .ok (.agg (arr .u8 zn)) w) := Lib.hid (by intro w; rw [hzn]; exact zero_num w)
  have HLzn : Hid (zn.length = 32) := Lib.hid (by rw [hzn]; rfl)
  have HS0 := Lib.hid (Blk.two w (arr .u8 ns) (arr .u8 zn) 23 23)
  have e2 : ((arr .u8 ns).setIfInBounds 0 (.int .u8 (bits .and .u8 (x : Int) 248))).setIfInBounds 31 (.int .u8 (bits .or .u8 (bits .and .u8 (t : Int) 127) 64)) = arr .u8 rs := by rw [a0, a1, arr_set, arr_set, hfin]
  have HE2 := Lib.hid e2
  have HRS := Lib.hid hrs
  have HG0 := Lib.hid g0
  have HG31 := Lib.hid g31
  clear hzn hns hrs hcs t1 l1 g0 g31 a0 a1 hfin e2 hx
  go_enter Try.func19, Try.ntmps19
  go_upto_region 1 with (first | ((with_reducible show wpList _ _ _ (Oper.mk (some 2) _ _ _ _ _ :: _) _ _); refine wpList_alloc_row rfl 23 rfl _ (HZzn.out _) ?_))
  (try simp only [World.size_alloc, Act.put, List.setIfInBounds_toArray, List.set_cons_zero, List.set_cons_succ])
  generalize ((w.alloc (.cells (arr .u8 ns) 23)).alloc (.cells (arr .u8 zn) 23)) = wb at HS0 ⊢
  have q0 := arr_get' (HS0.out.get 0 rfl) 0 (by rw [HNL.out]; decide)
  have q1 := arr_get' (HS0.out.get 0 rfl) 31 (by rw [HNL.out]; decide)
  have q2 := free_blk (HS0.out.get 0 rfl) 0
  have q3 := free_blk (HS0.out.get 0 rfl) 31
  rw [HG0.out] at q0
  rw [HG31.out] at q1
  have hb1 := (HS0.out.cell 0 rfl 0 (.int .u8 (bits .and .u8 (x : Int) 248))).cell 0 rfl 31 (.int .u8 (bits .or .u8 (bits .and .u8 (t : Int) 127) 64))
  have HS1 := Lib.hid (hb1.cast (l' := [(w.heap.size, arr .u8 rs, 23), (w.heap.size + 1, arr .u8 zn, 23)]) (by rw [← HE2.out]; rfl))
  clear hb1
  go_upto_region 3 with fail
  go_wp2_with (first | ((with_reducible show wpList _ _ _ (Oper.mk (some 12) _ _ _ _ _ :: _) _ _); refine wpList_load_part rfl 23 _ rfl (w.heap.size) 0 _ 23 (0, 0) _ (HS1.out.get 0 rfl) rfl .u8 rs (arr_part _ _) Try.underlying23 rfl (num_i HRL.out) ?_) | ((with_reducible show wpList _ _ _ (Oper.mk none (Op.store _ (Operand.tmp 2) _) _ _ _ _ :: _) _ _); refine wpList_store_whole rfl 23 _ _ rfl (w.heap.size + 1) _ _ 23 (HS1.out.get 1 rfl) rfl rfl (arr_len2 _ _ HRL.out HLzn.out) (num_s HRL.out) (all_arr _ _) ?_; intro w3 hb3 hk3 hz3; have HB3 := Lib.hid (HS1.out.put 1 rfl hk3 hb3); clear hb3 hk3 hz3))
  (try simp only [Exit.then])
  refine bodyPost_ret (results_cell_row rfl _ _ (w.heap.size + 1) 23 _ (0, 0) _ rfl (HB3.out.get 1 rfl) Try.underlying23 rfl (num_s HRL.out)) rfl ?_
  exact ⟨by rw [HRS.out], HB3.out.below⟩
theorem clamp_lt (k : Nat) : clamp k < 2 ^ 255 := by
  unfold clamp
  have := Nat.mod_lt (k / 8 * 8) (show 0 < 2 ^ 254 by decide)
  rw [show (2 : Nat) ^ 255 = 2 ^ 254 + 2 ^ 254 by decide]
  omega
theorem clamp_any {ks : List Int} (k : Nat) (w : World) (h : K32 ks k) : Calls Try.prog 19 #[.agg (arr .u8 ks)] w fun e w' => ∃ zs, e = .returned (.agg (arr .u8 zs)) ∧ K32 zs (clamp k) ∧ Below w.heap.size w w' := by
  obtain ⟨rfl, h1⟩ := h
  refine (clamp_run k w (by rw [show (2 : Nat) ^ 256 = 256 ^ 32 by decide]; exact h1)).mono ?_
  rintro e w' ⟨rfl, hb⟩
  exact ⟨_, rfl, ⟨rfl, Nat.lt_of_lt_of_le (clamp_lt k) (by decide)⟩, hb⟩
end Go.Proofs.Ytogebegdgfdijaa.Sl
namespace Go.Proofs.Ytogebegdgfdijaa.Fp
open Go.RowKit Lm Cu
set_option linter.unusedSimpArgs false

theorem Blk.nine (w : World) (c1 c2 c3 c4 c5 c6 c7 c8 c9 : Array Value) (t : TypeId) : Blk w (((((((((w.alloc (.cells c1 t)).alloc (.cells c2 t)).alloc (.cells c3 t)).alloc (.cells c4 t)).alloc (.cells c5 t)).alloc (.cells c6 t)).alloc (.cells c7 t)).alloc (.cells c8 t)).alloc (.cells c9 t))
    [(w.heap.size, c1, t), (w.heap.size + 1, c2, t), (w.heap.size + 1 + 1, c3, t), (w.heap.size + 1 + 1 + 1, c4, t), (w.heap.size + 1 + 1 + 1 + 1, c5, t), (w.heap.size + 1 + 1 + 1 + 1 + 1, c6, t), (w.heap.size + 1 + 1 + 1 + 1 + 1 + 1, c7, t), (w.heap.size + 1 + 1 + 1 + 1 + 1 + 1 + 1, c8, t), (w.heap.size + 1 + 1 + 1 + 1 + 1 + 1 + 1 + 1, c9, t)] := by
  have h := (((((Blk.four w c1 c2 c3 c4 t t t t).alloc c5 t).alloc c6 t).alloc c7 t).alloc c8 t).alloc c9 t
  simp only [size1, List.cons_append, List.nil_append] at h
  exact h
theorem results_cells4 {P : Program} {fn : Func} {p1 p2 p3 p4 : Tmp} {ty : TypeId} (h : fn.results = #[.cell p1 ty, .cell p2 ty, .cell p3 ty, .cell p4 ty]) (tmps : Array Value) (w : World) (g1 g2 g3 g4 : Nat) (t : TypeId) (c1 c2 c3 c4 : Array Value) (fr : Nat × Nat) (d : TypeDesc)
    (e1 : tmps.getD p1 undef = .pointer (some ⟨g1, 0, none⟩)) (e2 : tmps.getD p2 undef = .pointer (some ⟨g2, 0, none⟩)) (e3 : tmps.getD p3 undef = .pointer (some ⟨g3, 0, none⟩)) (e4 : tmps.getD p4 undef = .pointer (some ⟨g4, 0, none⟩))
    (h1 : w.heap[g1]? = some (.cells c1 t fr)) (h2 : w.heap[g2]? = some (.cells c2 t fr)) (h3 : w.heap[g3]? = some (.cells c3 t fr)) (h4 : w.heap[g4]? = some (.cells c4 t fr))
    (hu : P.underlying ty = some d) (hd : (match d with | .struct _ | .array _ _ => true | _ => false) = true) (hi : ∀ c ∈ [c1, c2, c3, c4], (P.info? ty).map (·.size) = some c.size) :
    (results fn tmps).run P w = .ok (.tuple #[.agg c1, .agg c2, .agg c3, .agg c4]) w := by
  have r1 := run_loadVar_row w g1 t ty c1 fr d h1 hu hd (hi _ (by simp))
  have r2 := run_loadVar_row w g2 t ty c2 fr d h2 hu hd (hi _ (by simp))
  have r3 := run_loadVar_row w g3 t ty c3 fr d h3 hu hd (hi _ (by simp))
  have r4 := run_loadVar_row w g4 t ty c4 fr d h4 hu hd (hi _ (by simp))
  unfold results
  rw [h]
  rw [Array.getD_eq_getD_getElem?] at e1 e2 e3 e4
  simp [e1, e2, e3, e4, asAddr, r1, r2, r3, r4, Result.andThen]

set_option maxRecDepth 100000 in
set_option maxHeartbeats 16000000 in
theorem step_any {xs az bs cs ds : List Int} (x a b c d : Nat) (w : World) (hx : N4 xs x) (ha : N4 az a) (hb : N4 bs b) (hc : N4 cs c) (hd : N4 ds d) (la : a < p) (lb : b < p) (lc : c < p) (ld : d < p) :
    Calls Try.prog 23 #[.agg (arr .u64 xs), .agg (arr .u64 az), .agg (arr .u64 bs), .agg (arr .u64 cs), .agg (arr .u64 ds)] w fun e w' => ∃ z1 z2 z3 z4, e = .returned (.tuple #[.agg (arr .u64 z1), .agg (arr .u64 z2), .agg (arr .u64 z3), .agg (arr .u64 z4)]) ∧ N4 z1 (lstep x ⟨a, b, c, d⟩).a ∧ N4 z2 (lstep x ⟨a, b, c, d⟩).b ∧ N4 z3 (lstep x ⟨a, b, c, d⟩).c ∧ N4 z4 (lstep x ⟨a, b, c, d⟩).d ∧ Below w.heap.size w w' := by
  have hk : N4 [(121665 : Int), 0, 0, 0] 121665 := n4_small 121665 (by decide)
  have hbk := fun w => build_raw 121665 w
  obtain ⟨ks, hks⟩ : ∃ b : List Int, b = [(121665 : Int), 0, 0, 0] := ⟨_, rfl⟩
  rw [← hks] at hk hbk
  have HK := Lib.hid hk
  have HKL := Lib.hid hk.len
  have HBK := Lib.hid hbk
  have HX := Lib.hid hx
  have HLx := Lib.hid hx.len
  have HA := Lib.hid ha
  have HLa := Lib.hid ha.len
  have HB := Lib.hid hb
  have HLb := Lib.hid hb.len
  have HC := Lib.hid hc
  have HLc := Lib.hid hc.len
  have HD := Lib.hid hd
  have HLd := Lib.hid hd.len
  obtain ⟨zl, hzl⟩ : ∃ zs : List Int, zs = List.replicate 4 0 := ⟨_, rfl⟩
  have HZzl : Hid (∀ w, (zeroValue 48).run Try.prog w = .ok (.agg (arr .u64 zl)) w) := Lib.hid (by intro w; rw [hzl]; exact zero_lim w)
  have HLzl : Hid (zl.length = 4) := Lib.hid (by rw [hzl]; rfl)
  have HS0 := Lib.hid (Blk.nine w (arr .u64 xs) (arr .u64 az) (arr .u64 bs) (arr .u64 cs) (arr .u64 ds) (arr .u64 zl) (arr .u64 zl) (arr .u64 zl) (arr .u64 zl) 48)
  clear hzl hx ha hb hc hd hk hbk hks
  go_enter Try.func23, Try.ntmps23
  go_upto_region 1 with (first | ((with_reducible show wpList _ _ _ (Oper.mk (some 10) _ _ _ _ _ :: _) _ _); refine wpList_alloc_row rfl 48 rfl _ (HZzl.out _) ?_) | ((with_reducible show wpList _ _ _ (Oper.mk (some 11) _ _ _ _ _ :: _) _ _); refine wpList_alloc_row rfl 48 rfl _ (HZzl.out _) ?_) | ((with_reducible show wpList _ _ _ (Oper.mk (some 12) _ _ _ _ _ :: _) _ _); refine wpList_alloc_row rfl 48 rfl _ (HZzl.out _) ?_) | ((with_reducible show wpList _ _ _ (Oper.mk (some 13) _ _ _ _ _ :: _) _ _); refine wpList_alloc_row rfl 48 rfl _ (HZzl.out _) ?_))
  (try simp only [World.size_alloc, Act.put, List.setIfInBounds_toArray, List.set_cons_zero, List.set_cons_succ])
  generalize (((((((((w.alloc (.cells (arr .u64 xs) 48)).alloc (.cells (arr .u64 az) 48)).alloc (.cells (arr .u64 bs) 48)).alloc (.cells (arr .u64 cs) 48)).alloc (.cells (arr .u64 ds) 48)).alloc (.cells (arr .u64 zl) 48)).alloc (.cells (arr .u64 zl) 48)).alloc (.cells (arr .u64 zl) 48)).alloc (.cells (arr .u64 zl) 48)) = wb at HS0 ⊢
  obtain ⟨z5001, hz5001⟩ : ∃ z : List Int, z = nar (dig 18446744073709551616 4 (fadd a b)) := ⟨_, rfl⟩
  have HE5001 := Lib.hid hz5001
  have HL5001 : Hid (z5001.length = 4) := Lib.hid (by rw [hz5001]; exact (nar_len _).trans (dig_len _ _ _))
  clear hz5001
  obtain ⟨z5002, hz5002⟩ : ∃ z : List Int, z = nar (dig 18446744073709551616 4 (fsub a b)) := ⟨_, rfl⟩
  have HE5002 := Lib.hid hz5002
  have HL5002 : Hid (z5002.length = 4) := Lib.hid (by rw [hz5002]; exact (nar_len _).trans (dig_len _ _ _))
  clear hz5002
  refine wp_region_lin (fun (fF : Fill) (uF : World) => (∀ v, fF 0 = some v → v = .agg (arr .u64 az) ∧ True) ∧ (∀ v, fF 1 = some v → v = .agg (arr .u64 bs) ∧ True) ∧ (∀ v, fF 2 = some v → v = .agg (arr .u64 z5001) ∧ N4 z5001 (fadd a b)) ∧ (∀ v, fF 3 = some v → v = .agg (arr .u64 az) ∧ True) ∧ (∀ v, fF 4 = some v → v = .agg (arr .u64 bs) ∧ True) ∧ (∀ v, fF 5 = some v → v = .agg (arr .u64 z5002) ∧ N4 z5002 (fsub a b)) ∧ (∀ v, fF 6 = some v → ∃ g : Nat, v = .pointer (some ⟨g, 0, none⟩)) ∧ (∀ v, fF 7 = some v → ∃ g : Nat, v = .pointer (some ⟨g, 0, none⟩)) ∧ Blk w uF ([(w.heap.size, arr .u64 xs, 48), (w.heap.size + 1, arr .u64 az, 48), (w.heap.size + 1 + 1, arr .u64 bs, 48), (w.heap.size + 1 + 1 + 1, arr .u64 cs, 48), (w.heap.size + 1 + 1 + 1 + 1, arr .u64 ds, 48), (w.heap.size + 1 + 1 + 1 + 1 + 1, arr .u64 zl, 48), (w.heap.size + 1 + 1 + 1 + 1 + 1 + 1, arr .u64 zl, 48), (w.heap.size + 1 + 1 + 1 + 1 + 1 + 1 + 1, arr .u64 zl, 48), (w.heap.size + 1 + 1 + 1 + 1 + 1 + 1 + 1 + 1, arr .u64 zl, 48)] ++ (ent (fF 6) ((if (fF 8).isSome = true then arr .u64 z5001 else arr .u64 zl)) 48 ++ (ent (fF 7) ((if (fF 9).isSome = true then arr .u64 z5002 else arr .u64 zl)) 48)))) (by kernel_rfl) (by kernel_rfl) ?zr1 ?sr1 ?er1
  case zr1 => exact ⟨fun _ h => (by cases h), fun _ h => (by cases h), fun _ h => (by cases h), fun _ h => (by cases h), fun _ h => (by cases h), fun _ h => (by cases h), fun _ h => (by cases h), fun _ h => (by cases h), HS0.out.drew⟩
  case sr1 =>
    refine LinAll.cons (fun fF bF uF kF hJF hfF hcF hupF hsF hKF => ?_) ?_
    · obtain ⟨j0, j1, j2, j3, j4, j5, j6, j7, hB⟩ := hJF
      have e6 : bF.eval (.tmp 6) = .pointer (some ⟨w.heap.size + 1, 0, none⟩) := hsF.old' 6 (by kernel_rfl) rfl
      have hB' := hB
      refine step_load_part rfl 48 _ rfl (w.heap.size + 1) (0) (arr .u64 az) 48 (0, 0) _ (hB'.get 1 rfl) e6 .u64 az (arr_part _ _) Try.underlying48 rfl (lim_i HLa.out) ?_
      exact hKF _ _ ⟨fun _ h => ⟨(Option.some.inj h).symm, trivial⟩, j1, j2, j3, j4, j5, j6, j7, hB⟩
    refine LinAll.cons (fun fF bF uF kF hJF hfF hcF hupF hsF hKF => ?_) ?_
    · obtain ⟨j0, j1, j2, j3, j4, j5, j6, j7, hB⟩ := hJF
      have e7 : bF.eval (.tmp 7) = .pointer (some ⟨w.heap.size + 1 + 1, 0, none⟩) := hsF.old' 7 (by kernel_rfl) rfl
      have hB' := hB
      refine step_load_part rfl 48 _ rfl (w.heap.size + 1 + 1) (0) (arr .u64 bs) 48 (0, 0) _ (hB'.get 2 rfl) e7 .u64 bs (arr_part _ _) Try.underlying48 rfl (lim_i HLb.out) ?_
      exact hKF _ _ ⟨j0, fun _ h => ⟨(Option.some.inj h).symm, trivial⟩, j2, j3, j4, j5, j6, j7, hB⟩
    refine LinAll.cons (fun fF bF uF kF hJF hfF hcF hupF hsF hKF => ?_) ?_
    · obtain ⟨j0, j1, j2, j3, j4, j5, j6, j7, hB⟩ := hJF
      obtain ⟨e23, p23⟩ := hsF.at hupF 0 23 (by kernel_rfl) rfl j0
      obtain ⟨e24, p24⟩ := hsF.at hupF 1 24 (by kernel_rfl) rfl j1
      refine lin_call rfl 36 [Operand.tmp 23, Operand.tmp 24] _ [.agg (arr .u64 az), .agg (arr .u64 bs)] rfl (by simp only [List.map_cons, List.map_nil, e23, e24] <;> rfl) (fun _ _ => by kernel_rfl) ?_
      refine Calls.mono (plus_any _ _ _ HA.out HB.out) ?_
      rintro e w1 ⟨y5003_0, rfl, r5003_0, hb⟩
      obtain rfl : y5003_0 = z5001 := r5003_0.1.trans HE5001.out.symm
      exact ⟨_, rfl, hKF _ _ ⟨j0, j1, fun _ h => ⟨(Option.some.inj h).symm, r5003_0⟩, j3, j4, j5, j6, j7, hB.kept hb⟩⟩
    refine LinAll.cons (fun fF bF uF kF hJF hfF hcF hupF hsF hKF => ?_) ?_
    · obtain ⟨j0, j1, j2, j3, j4, j5, j6, j7, hB⟩ := hJF
      have e6 : bF.eval (.tmp 6) = .pointer (some ⟨w.heap.size + 1, 0, none⟩) := hsF.old' 6 (by kernel_rfl) rfl
      have hB' := hB
      refine step_load_part rfl 48 _ rfl (w.heap.size + 1) (0) (arr .u64 az) 48 (0, 0) _ (hB'.get 1 rfl) e6 .u64 az (arr_part _ _) Try.underlying48 rfl (lim_i HLa.out) ?_
      exact hKF _ _ ⟨j0, j1, j2, fun _ h => ⟨(Option.some.inj h).symm, trivial⟩, j4, j5, j6, j7, hB⟩
    refine LinAll.cons (fun fF bF uF kF hJF hfF hcF hupF hsF hKF => ?_) ?_
    · obtain ⟨j0, j1, j2, j3, j4, j5, j6, j7, hB⟩ := hJF
      have e7 : bF.eval (.tmp 7) = .pointer (some ⟨w.heap.size + 1 + 1, 0, none⟩) := hsF.old' 7 (by kernel_rfl) rfl
      have hB' := hB
      refine step_load_part rfl 48 _ rfl (w.heap.size + 1 + 1) (0) (arr .u64 bs) 48 (0, 0) _ (hB'.get 2 rfl) e7 .u64 bs (arr_part _ _) Try.underlying48 rfl (lim_i HLb.out) ?_
      exact hKF _ _ ⟨j0, j1, j2, j3, fun _ h => ⟨(Option.some.inj h).symm, trivial⟩, j5, j6, j7, hB⟩
    refine LinAll.cons (fun fF bF uF kF hJF hfF hcF hupF hsF hKF => ?_) ?_
    · obtain ⟨j0, j1, j2, j3, j4, j5, j6, j7, hB⟩ := hJF
      obtain ⟨e26, p26⟩ := hsF.at hupF 3 26 (by kernel_rfl) rfl j3
      obtain ⟨e27, p27⟩ := hsF.at hupF 4 27 (by kernel_rfl) rfl j4
      refine lin_call rfl 37 [Operand.tmp 26, Operand.tmp 27] _ [.agg (arr .u64 az), .agg (arr .u64 bs)] rfl (by simp only [List.map_cons, List.map_nil, e26, e27] <;> rfl) (fun _ _ => by kernel_rfl) ?_
      refine Calls.mono (minus_any _ _ _ HA.out HB.out la lb) ?_
      rintro e w1 ⟨y5004_0, rfl, r5004_0, hb⟩
      obtain rfl : y5004_0 = z5002 := r5004_0.1.trans HE5002.out.symm
      exact ⟨_, rfl, hKF _ _ ⟨j0, j1, j2, j3, j4, fun _ h => ⟨(Option.some.inj h).symm, r5004_0⟩, j6, j7, hB.kept hb⟩⟩
    refine LinAll.cons (fun fF bF uF kF hJF hfF hcF hupF hsF hKF => ?_) ?_
    · obtain ⟨j0, j1, j2, j3, j4, j5, j6, j7, hB⟩ := hJF
      have n8 := hcF.down 8 6 (by kernel_rfl) hfF
      refine step_alloc_row rfl 48 rfl _ (HZzl.out _) ?_
      have hB1 : Blk w (uF.alloc (.cells (arr .u64 zl) 48)) ([(w.heap.size, arr .u64 xs, 48), (w.heap.size + 1, arr .u64 az, 48), (w.heap.size + 1 + 1, arr .u64 bs, 48), (w.heap.size + 1 + 1 + 1, arr .u64 cs, 48), (w.heap.size + 1 + 1 + 1 + 1, arr .u64 ds, 48), (w.heap.size + 1 + 1 + 1 + 1 + 1, arr .u64 zl, 48), (w.heap.size + 1 + 1 + 1 + 1 + 1 + 1, arr .u64 zl, 48), (w.heap.size + 1 + 1 + 1 + 1 + 1 + 1 + 1, arr .u64 zl, 48), (w.heap.size + 1 + 1 + 1 + 1 + 1 + 1 + 1 + 1, arr .u64 zl, 48)] ++ (ent ((some (.pointer (some ⟨uF.heap.size, 0, none⟩)) : Option Value)) ((if (fF 8).isSome = true then arr .u64 z5001 else arr .u64 zl)) 48 ++ (ent (fF 7) ((if (fF 9).isSome = true then arr .u64 z5002 else arr .u64 zl)) 48))) := hB.ins (a := [(w.heap.size, arr .u64 xs, 48), (w.heap.size + 1, arr .u64 az, 48), (w.heap.size + 1 + 1, arr .u64 bs, 48), (w.heap.size + 1 + 1 + 1, arr .u64 cs, 48), (w.heap.size + 1 + 1 + 1 + 1, arr .u64 ds, 48), (w.heap.size + 1 + 1 + 1 + 1 + 1, arr .u64 zl, 48), (w.heap.size + 1 + 1 + 1 + 1 + 1 + 1, arr .u64 zl, 48), (w.heap.size + 1 + 1 + 1 + 1 + 1 + 1 + 1, arr .u64 zl, 48), (w.heap.size + 1 + 1 + 1 + 1 + 1 + 1 + 1 + 1, arr .u64 zl, 48)]) (b := ent (fF 7) ((if (fF 9).isSome = true then arr .u64 z5002 else arr .u64 zl)) 48) _ _ (by rw [hfF, n8]; simp only [ent_none, List.nil_append, List.append_nil, List.append_assoc, List.cons_append]) (by rw [n8]; simp only [ent_some, List.nil_append, List.append_nil, List.append_assoc, List.cons_append, Option.isSome_none, Bool.false_eq_true, if_false])
      exact hKF _ _ ⟨j0, j1, j2, j3, j4, j5, fun _ h => ⟨_, (Option.some.inj h).symm⟩, j7, hB1⟩
    refine LinAll.cons (fun fF bF uF kF hJF hfF hcF hupF hsF hKF => ?_) ?_
    · obtain ⟨j0, j1, j2, j3, j4, j5, j6, j7, hB⟩ := hJF
      have n9 := hcF.down 9 7 (by kernel_rfl) hfF
      refine step_alloc_row rfl 48 rfl _ (HZzl.out _) ?_
      have hB1 : Blk w (uF.alloc (.cells (arr .u64 zl) 48)) ([(w.heap.size, arr .u64 xs, 48), (w.heap.size + 1, arr .u64 az, 48), (w.heap.size + 1 + 1, arr .u64 bs, 48), (w.heap.size + 1 + 1 + 1, arr .u64 cs, 48), (w.heap.size + 1 + 1 + 1 + 1, arr .u64 ds, 48), (w.heap.size + 1 + 1 + 1 + 1 + 1, arr .u64 zl, 48), (w.heap.size + 1 + 1 + 1 + 1 + 1 + 1, arr .u64 zl, 48), (w.heap.size + 1 + 1 + 1 + 1 + 1 + 1 + 1, arr .u64 zl, 48), (w.heap.size + 1 + 1 + 1 + 1 + 1 + 1 + 1 + 1, arr .u64 zl, 48)] ++ (ent (fF 6) ((if (fF 8).isSome = true then arr .u64 z5001 else arr .u64 zl)) 48 ++ (ent ((some (.pointer (some ⟨uF.heap.size, 0, none⟩)) : Option Value)) ((if (fF 9).isSome = true then arr .u64 z5002 else arr .u64 zl)) 48))) := hB.ins (a := [(w.heap.size, arr .u64 xs, 48), (w.heap.size + 1, arr .u64 az, 48), (w.heap.size + 1 + 1, arr .u64 bs, 48), (w.heap.size + 1 + 1 + 1, arr .u64 cs, 48), (w.heap.size + 1 + 1 + 1 + 1, arr .u64 ds, 48), (w.heap.size + 1 + 1 + 1 + 1 + 1, arr .u64 zl, 48), (w.heap.size + 1 + 1 + 1 + 1 + 1 + 1, arr .u64 zl, 48), (w.heap.size + 1 + 1 + 1 + 1 + 1 + 1 + 1, arr .u64 zl, 48), (w.heap.size + 1 + 1 + 1 + 1 + 1 + 1 + 1 + 1, arr .u64 zl, 48)] ++ ent (fF 6) ((if (fF 8).isSome = true then arr .u64 z5001 else arr .u64 zl)) 48) (b := []) _ _ (by rw [hfF, n9]; simp only [ent_none, List.nil_append, List.append_nil, List.append_assoc, List.cons_append]) (by rw [n9]; simp only [ent_some, List.nil_append, List.append_nil, List.append_assoc, List.cons_append, Option.isSome_none, Bool.false_eq_true, if_false])
      exact hKF _ _ ⟨j0, j1, j2, j3, j4, j5, j6, fun _ h => ⟨_, (Option.some.inj h).symm⟩, hB1⟩
    refine LinAll.cons (fun fF bF uF kF hJF hfF hcF hupF hsF hKF => ?_) ?_
    · obtain ⟨j0, j1, j2, j3, j4, j5, j6, j7, hB⟩ := hJF
      have y6 := hupF 6 (by kernel_rfl)
      obtain ⟨v6, s6⟩ := Option.isSome_iff_exists.1 y6
      obtain ⟨gr1_9, rfl⟩ := j6 _ s6
      have y7 := hupF 7 (by kernel_rfl)
      obtain ⟨v7, s7⟩ := Option.isSome_iff_exists.1 y7
      obtain ⟨gr1_10, rfl⟩ := j7 _ s7
      have e14 := hsF.val 6 14 rfl s6
      obtain ⟨e25, p25⟩ := hsF.at hupF 2 25 (by kernel_rfl) rfl j2
      have y2 := hupF 2 (by kernel_rfl)
      obtain ⟨v2, s2⟩ := Option.isSome_iff_exists.1 y2
      have HZ5001 := Lib.hid (j2 _ s2).2
      have hB' := hB
      rw [s6, s7, hfF] at hB'
      refine step_store_whole rfl 48 (.tmp 14) (.tmp 25) rfl (gr1_9) (arr .u64 zl) _ 48 (hB'.get 9 rfl) e14 e25 (arr_len2 _ _ HL5001.out HLzl.out) (lim_s HL5001.out) (all_arr _ _) ?_
      intro w1 hb1 hk1 hz1
      have hB1 : Blk w w1 ([(w.heap.size, arr .u64 xs, 48), (w.heap.size + 1, arr .u64 az, 48), (w.heap.size + 1 + 1, arr .u64 bs, 48), (w.heap.size + 1 + 1 + 1, arr .u64 cs, 48), (w.heap.size + 1 + 1 + 1 + 1, arr .u64 ds, 48), (w.heap.size + 1 + 1 + 1 + 1 + 1, arr .u64 zl, 48), (w.heap.size + 1 + 1 + 1 + 1 + 1 + 1, arr .u64 zl, 48), (w.heap.size + 1 + 1 + 1 + 1 + 1 + 1 + 1, arr .u64 zl, 48), (w.heap.size + 1 + 1 + 1 + 1 + 1 + 1 + 1 + 1, arr .u64 zl, 48)] ++ (ent (fF 6) ((if ((some undef : Option Value)).isSome = true then arr .u64 z5001 else arr .u64 zl)) 48 ++ (ent (fF 7) ((if (fF 9).isSome = true then arr .u64 z5002 else arr .u64 zl)) 48))) := by rw [s6, s7]; exact hB'.put 9 rfl hk1 hb1
      exact hKF undef w1 ⟨j0, j1, j2, j3, j4, j5, j6, j7, hB1⟩
    refine LinAll.cons (fun fF bF uF kF hJF hfF hcF hupF hsF hKF => ?_) ?_
    · obtain ⟨j0, j1, j2, j3, j4, j5, j6, j7, hB⟩ := hJF
      have y6 := hupF 6 (by kernel_rfl)
      obtain ⟨v6, s6⟩ := Option.isSome_iff_exists.1 y6
      obtain ⟨gr1_9, rfl⟩ := j6 _ s6
      have y7 := hupF 7 (by kernel_rfl)
      obtain ⟨v7, s7⟩ := Option.isSome_iff_exists.1 y7
      obtain ⟨gr1_10, rfl⟩ := j7 _ s7
      have e15 := hsF.val 7 15 rfl s7
      obtain ⟨e28, p28⟩ := hsF.at hupF 5 28 (by kernel_rfl) rfl j5
      have y5 := hupF 5 (by kernel_rfl)
      obtain ⟨v5, s5⟩ := Option.isSome_iff_exists.1 y5
      have HZ5002 := Lib.hid (j5 _ s5).2
      have hB' := hB
      rw [s6, s7, hfF] at hB'
      refine step_store_whole rfl 48 (.tmp 15) (.tmp 28) rfl (gr1_10) (arr .u64 zl) _ 48 (hB'.get 10 rfl) e15 e28 (arr_len2 _ _ HL5002.out HLzl.out) (lim_s HL5002.out) (all_arr _ _) ?_
      intro w1 hb1 hk1 hz1
      have hB1 : Blk w w1 ([(w.heap.size, arr .u64 xs, 48), (w.heap.size + 1, arr .u64 az, 48), (w.heap.size + 1 + 1, arr .u64 bs, 48), (w.heap.size + 1 + 1 + 1, arr .u64 cs, 48), (w.heap.size + 1 + 1 + 1 + 1, arr .u64 ds, 48), (w.heap.size + 1 + 1 + 1 + 1 + 1, arr .u64 zl, 48), (w.heap.size + 1 + 1 + 1 + 1 + 1 + 1, arr .u64 zl, 48), (w.heap.size + 1 + 1 + 1 + 1 + 1 + 1 + 1, arr .u64 zl, 48), (w.heap.size + 1 + 1 + 1 + 1 + 1 + 1 + 1 + 1, arr .u64 zl, 48)] ++ (ent (fF 6) ((if (fF 8).isSome = true then arr .u64 z5001 else arr .u64 zl)) 48 ++ (ent (fF 7) ((if ((some undef : Option Value)).isSome = true then arr .u64 z5002 else arr .u64 zl)) 48))) := by rw [s6, s7]; exact hB'.put 10 rfl hk1 hb1
      exact hKF undef w1 ⟨j0, j1, j2, j3, j4, j5, j6, j7, hB1⟩
    exact LinAll.nil
  case er1 =>
  intro fF ur1 hall hJF
  obtain ⟨j0, j1, j2, j3, j4, j5, j6, j7, hB⟩ := hJF
  obtain ⟨v0, h0⟩ := Option.isSome_iff_exists.1 (hall 0 (by decide))
  obtain ⟨rfl, p0⟩ := j0 _ h0
  obtain ⟨v1, h1⟩ := Option.isSome_iff_exists.1 (hall 1 (by decide))
  obtain ⟨rfl, p1⟩ := j1 _ h1
  obtain ⟨v2, h2⟩ := Option.isSome_iff_exists.1 (hall 2 (by decide))
  obtain ⟨rfl, p2⟩ := j2 _ h2
  obtain ⟨v3, h3⟩ := Option.isSome_iff_exists.1 (hall 3 (by decide))
  obtain ⟨rfl, p3⟩ := j3 _ h3
  obtain ⟨v4, h4⟩ := Option.isSome_iff_exists.1 (hall 4 (by decide))
  obtain ⟨rfl, p4⟩ := j4 _ h4
  obtain ⟨v5, h5⟩ := Option.isSome_iff_exists.1 (hall 5 (by decide))
  obtain ⟨rfl, p5⟩ := j5 _ h5
  obtain ⟨v6, h6⟩ := Option.isSome_iff_exists.1 (hall 6 (by decide))
  obtain ⟨gr1_9, rfl⟩ := j6 _ h6
  obtain ⟨v7, h7⟩ := Option.isSome_iff_exists.1 (hall 7 (by decide))
  obtain ⟨gr1_10, rfl⟩ := j7 _ h7
  obtain ⟨v8, h8⟩ := Option.isSome_iff_exists.1 (hall 8 (by decide))
  obtain ⟨v9, h9⟩ := Option.isSome_iff_exists.1 (hall 9 (by decide))
  rw [h6, h7, h8, h9] at hB
  have HBr1 : Hid (Blk w ur1 [(w.heap.size, arr .u64 xs, 48), (w.heap.size + 1, arr .u64 az, 48), (w.heap.size + 1 + 1, arr .u64 bs, 48), (w.heap.size + 1 + 1 + 1, arr .u64 cs, 48), (w.heap.size + 1 + 1 + 1 + 1, arr .u64 ds, 48), (w.heap.size + 1 + 1 + 1 + 1 + 1, arr .u64 zl, 48), (w.heap.size + 1 + 1 + 1 + 1 + 1 + 1, arr .u64 zl, 48), (w.heap.size + 1 + 1 + 1 + 1 + 1 + 1 + 1, arr .u64 zl, 48), (w.heap.size + 1 + 1 + 1 + 1 + 1 + 1 + 1 + 1, arr .u64 zl, 48), (gr1_9, arr .u64 z5001, 48), (gr1_10, arr .u64 z5002, 48)]) := Lib.hid hB
  have HZ5001 := Lib.hid p2
  have HZ5002 := Lib.hid p5
  simp only [laid, Nat.zero_add, Nat.reduceAdd, h0, h1, h2, h3, h4, h5, h6, h7, h8, h9, Act.put, List.setIfInBounds_toArray, List.set_cons_zero, List.set_cons_succ]
  clear j0 j1 j2 j3 j4 j5 j6 j7 hB h0 h1 h2 h3 h4 h5 h6 h7 h8 h9 hall fF HS0
  clear p0 p1 p2 p3 p4 p5
  (try simp only [Exit.then])
  go_upto_region 2 with fail
  (try simp only [World.size_alloc, Act.put, List.setIfInBounds_toArray, List.set_cons_zero, List.set_cons_succ])
  obtain ⟨z5005, hz5005⟩ : ∃ z : List Int, z = nar (dig 18446744073709551616 4 (fmul (fadd a b) (fadd a b))) := ⟨_, rfl⟩
  have HE5005 := Lib.hid hz5005
  have HL5005 : Hid (z5005.length = 4) := Lib.hid (by rw [hz5005]; exact (nar_len _).trans (dig_len _ _ _))
  clear hz5005
  obtain ⟨z5006, hz5006⟩ : ∃ z : List Int, z = nar (dig 18446744073709551616 4 (fmul (fsub a b) (fsub a b))) := ⟨_, rfl⟩
  have HE5006 := Lib.hid hz5006
  have HL5006 : Hid (z5006.length = 4) := Lib.hid (by rw [hz5006]; exact (nar_len _).trans (dig_len _ _ _))
  clear hz5006
  refine wp_region_lin (fun (fF : Fill) (uF : World) => (∀ v, fF 0 = some v → v = .agg (arr .u64 z5001) ∧ True) ∧ (∀ v, fF 1 = some v → v = .agg (arr .u64 z5001) ∧ True) ∧ (∀ v, fF 2 = some v → v = .agg (arr .u64 z5005) ∧ N4 z5005 (fmul (fadd a b) (fadd a b))) ∧ (∀ v, fF 3 = some v → v = .agg (arr .u64 z5002) ∧ True) ∧ (∀ v, fF 4 = some v → v = .agg (arr .u64 z5002) ∧ True) ∧ (∀ v, fF 5 = some v → v = .agg (arr .u64 z5006) ∧ N4 z5006 (fmul (fsub a b) (fsub a b))) ∧ (∀ v, fF 6 = some v → ∃ g : Nat, v = .pointer (some ⟨g, 0, none⟩)) ∧ (∀ v, fF 7 = some v → ∃ g : Nat, v = .pointer (some ⟨g, 0, none⟩)) ∧ Blk w uF ([(w.heap.size, arr .u64 xs, 48), (w.heap.size + 1, arr .u64 az, 48), (w.heap.size + 1 + 1, arr .u64 bs, 48), (w.heap.size + 1 + 1 + 1, arr .u64 cs, 48), (w.heap.size + 1 + 1 + 1 + 1, arr .u64 ds, 48), (w.heap.size + 1 + 1 + 1 + 1 + 1, arr .u64 zl, 48), (w.heap.size + 1 + 1 + 1 + 1 + 1 + 1, arr .u64 zl, 48), (w.heap.size + 1 + 1 + 1 + 1 + 1 + 1 + 1, arr .u64 zl, 48), (w.heap.size + 1 + 1 + 1 + 1 + 1 + 1 + 1 + 1, arr .u64 zl, 48), (gr1_9, arr .u64 z5001, 48), (gr1_10, arr .u64 z5002, 48)] ++ (ent (fF 6) ((if (fF 8).isSome = true then arr .u64 z5005 else arr .u64 zl)) 48 ++ (ent (fF 7) ((if (fF 9).isSome = true then arr .u64 z5006 else arr .u64 zl)) 48)))) (by kernel_rfl) (by kernel_rfl) ?zr2 ?sr2 ?er2
  case zr2 => exact ⟨fun _ h => (by cases h), fun _ h => (by cases h), fun _ h => (by cases h), fun _ h => (by cases h), fun _ h => (by cases h), fun _ h => (by cases h), fun _ h => (by cases h), fun _ h => (by cases h), HBr1.out.drew⟩
  case sr2 =>
    refine LinAll.cons (fun fF bF uF kF hJF hfF hcF hupF hsF hKF => ?_) ?_
    · obtain ⟨j0, j1, j2, j3, j4, j5, j6, j7, hB⟩ := hJF
      have e14 : bF.eval (.tmp 14) = .pointer (some ⟨gr1_9, 0, none⟩) := hsF.old' 14 (by kernel_rfl) rfl
      have hB' := hB
      refine step_load_part rfl 48 _ rfl (gr1_9) (0) (arr .u64 z5001) 48 (0, 0) _ (hB'.get 9 rfl) e14 .u64 z5001 (arr_part _ _) Try.underlying48 rfl (lim_i HL5001.out) ?_
      exact hKF _ _ ⟨fun _ h => ⟨(Option.some.inj h).symm, trivial⟩, j1, j2, j3, j4, j5, j6, j7, hB⟩
    refine LinAll.cons (fun fF bF uF kF hJF hfF hcF hupF hsF hKF => ?_) ?_
    · obtain ⟨j0, j1, j2, j3, j4, j5, j6, j7, hB⟩ := hJF
      have e14 : bF.eval (.tmp 14) = .pointer (some ⟨gr1_9, 0, none⟩) := hsF.old' 14 (by kernel_rfl) rfl
      have hB' := hB
      refine step_load_part rfl 48 _ rfl (gr1_9) (0) (arr .u64 z5001) 48 (0, 0) _ (hB'.get 9 rfl) e14 .u64 z5001 (arr_part _ _) Try.underlying48 rfl (lim_i HL5001.out) ?_
      exact hKF _ _ ⟨j0, fun _ h => ⟨(Option.some.inj h).symm, trivial⟩, j2, j3, j4, j5, j6, j7, hB⟩
    refine LinAll.cons (fun fF bF uF kF hJF hfF hcF hupF hsF hKF => ?_) ?_
    · obtain ⟨j0, j1, j2, j3, j4, j5, j6, j7, hB⟩ := hJF
      obtain ⟨e29, p29⟩ := hsF.at hupF 0 29 (by kernel_rfl) rfl j0
      obtain ⟨e30, p30⟩ := hsF.at hupF 1 30 (by kernel_rfl) rfl j1
      refine lin_call rfl 24 [Operand.tmp 29, Operand.tmp 30] _ [.agg (arr .u64 z5001), .agg (arr .u64 z5001)] rfl (by simp only [List.map_cons, List.map_nil, e29, e30] <;> rfl) (fun _ _ => by kernel_rfl) ?_
      refine Calls.mono (times_any _ _ _ HZ5001.out HZ5001.out) ?_
      rintro e w1 ⟨y5007_0, rfl, r5007_0, hb⟩
      obtain rfl : y5007_0 = z5005 := r5007_0.1.trans HE5005.out.symm
      exact ⟨_, rfl, hKF _ _ ⟨j0, j1, fun _ h => ⟨(Option.some.inj h).symm, r5007_0⟩, j3, j4, j5, j6, j7, hB.kept hb⟩⟩
    refine LinAll.cons (fun fF bF uF kF hJF hfF hcF hupF hsF hKF => ?_) ?_
    · obtain ⟨j0, j1, j2, j3, j4, j5, j6, j7, hB⟩ := hJF
      have e15 : bF.eval (.tmp 15) = .pointer (some ⟨gr1_10, 0, none⟩) := hsF.old' 15 (by kernel_rfl) rfl
      have hB' := hB
      refine step_load_part rfl 48 _ rfl (gr1_10) (0) (arr .u64 z5002) 48 (0, 0) _ (hB'.get 10 rfl) e15 .u64 z5002 (arr_part _ _) Try.underlying48 rfl (lim_i HL5002.out) ?_
      exact hKF _ _ ⟨j0, j1, j2, fun _ h => ⟨(Option.some.inj h).symm, trivial⟩, j4, j5, j6, j7, hB⟩
    refine LinAll.cons (fun fF bF uF kF hJF hfF hcF hupF hsF hKF => ?_) ?_
    · obtain ⟨j0, j1, j2, j3, j4, j5, j6, j7, hB⟩ := hJF
      have e15 : bF.eval (.tmp 15) = .pointer (some ⟨gr1_10, 0, none⟩) := hsF.old' 15 (by kernel_rfl) rfl
      have hB' := hB
      refine step_load_part rfl 48 _ rfl (gr1_10) (0) (arr .u64 z5002) 48 (0, 0) _ (hB'.get 10 rfl) e15 .u64 z5002 (arr_part _ _) Try.underlying48 rfl (lim_i HL5002.out) ?_
      exact hKF _ _ ⟨j0, j1, j2, j3, fun _ h => ⟨(Option.some.inj h).symm, trivial⟩, j5, j6, j7, hB⟩
    refine LinAll.cons (fun fF bF uF kF hJF hfF hcF hupF hsF hKF => ?_) ?_
    · obtain ⟨j0, j1, j2, j3, j4, j5, j6, j7, hB⟩ := hJF
      obtain ⟨e32, p32⟩ := hsF.at hupF 3 32 (by kernel_rfl) rfl j3
      obtain ⟨e33, p33⟩ := hsF.at hupF 4 33 (by kernel_rfl) rfl j4
      refine lin_call rfl 24 [Operand.tmp 32, Operand.tmp 33] _ [.agg (arr .u64 z5002), .agg (arr .u64 z5002)] rfl (by simp only [List.map_cons, List.map_nil, e32, e33] <;> rfl) (fun _ _ => by kernel_rfl) ?_
      refine Calls.mono (times_any _ _ _ HZ5002.out HZ5002.out) ?_
      rintro e w1 ⟨y5008_0, rfl, r5008_0, hb⟩
      obtain rfl : y5008_0 = z5006 := r5008_0.1.trans HE5006.out.symm
      exact ⟨_, rfl, hKF _ _ ⟨j0, j1, j2, j3, j4, fun _ h => ⟨(Option.some.inj h).symm, r5008_0⟩, j6, j7, hB.kept hb⟩⟩
    refine LinAll.cons (fun fF bF uF kF hJF hfF hcF hupF hsF hKF => ?_) ?_
    · obtain ⟨j0, j1, j2, j3, j4, j5, j6, j7, hB⟩ := hJF
      have n8 := hcF.down 8 6 (by kernel_rfl) hfF
      refine step_alloc_row rfl 48 rfl _ (HZzl.out _) ?_
      have hB1 : Blk w (uF.alloc (.cells (arr .u64 zl) 48)) ([(w.heap.size, arr .u64 xs, 48), (w.heap.size + 1, arr .u64 az, 48), (w.heap.size + 1 + 1, arr .u64 bs, 48), (w.heap.size + 1 + 1 + 1, arr .u64 cs, 48), (w.heap.size + 1 + 1 + 1 + 1, arr .u64 ds, 48), (w.heap.size + 1 + 1 + 1 + 1 + 1, arr .u64 zl, 48), (w.heap.size + 1 + 1 + 1 + 1 + 1 + 1, arr .u64 zl, 48), (w.heap.size + 1 + 1 + 1 + 1 + 1 + 1 + 1, arr .u64 zl, 48), (w.heap.size + 1 + 1 + 1 + 1 + 1 + 1 + 1 + 1, arr .u64 zl, 48), (gr1_9, arr .u64 z5001, 48), (gr1_10, arr .u64 z5002, 48)] ++ (ent ((some (.pointer (some ⟨uF.heap.size, 0, none⟩)) : Option Value)) ((if (fF 8).isSome = true then arr .u64 z5005 else arr .u64 zl)) 48 ++ (ent (fF 7) ((if (fF 9).isSome = true then arr .u64 z5006 else arr .u64 zl)) 48))) := hB.ins (a := [(w.heap.size, arr .u64 xs, 48), (w.heap.size + 1, arr .u64 az, 48), (w.heap.size + 1 + 1, arr .u64 bs, 48), (w.heap.size + 1 + 1 + 1, arr .u64 cs, 48), (w.heap.size + 1 + 1 + 1 + 1, arr .u64 ds, 48), (w.heap.size + 1 + 1 + 1 + 1 + 1, arr .u64 zl, 48), (w.heap.size + 1 + 1 + 1 + 1 + 1 + 1, arr .u64 zl, 48), (w.heap.size + 1 + 1 + 1 + 1 + 1 + 1 + 1, arr .u64 zl, 48), (w.heap.size + 1 + 1 + 1 + 1 + 1 + 1 + 1 + 1, arr .u64 zl, 48), (gr1_9, arr .u64 z5001, 48), (gr1_10, arr .u64 z5002, 48)]) (b := ent (fF 7) ((if (fF 9).isSome = true then arr .u64 z5006 else arr .u64 zl)) 48) _ _ (by rw [hfF, n8]; simp only [ent_none, List.nil_append, List.append_nil, List.append_assoc, List.cons_append]) (by rw [n8]; simp only [ent_some, List.nil_append, List.append_nil, List.append_assoc, List.cons_append, Option.isSome_none, Bool.false_eq_true, if_false])
      exact hKF _ _ ⟨j0, j1, j2, j3, j4, j5, fun _ h => ⟨_, (Option.some.inj h).symm⟩, j7, hB1⟩
    refine LinAll.cons (fun fF bF uF kF hJF hfF hcF hupF hsF hKF => ?_) ?_
    · obtain ⟨j0, j1, j2, j3, j4, j5, j6, j7, hB⟩ := hJF
      have n9 := hcF.down 9 7 (by kernel_rfl) hfF
      refine step_alloc_row rfl 48 rfl _ (HZzl.out _) ?_
      have hB1 : Blk w (uF.alloc (.cells (arr .u64 zl) 48)) ([(w.heap.size, arr .u64 xs, 48), (w.heap.size + 1, arr .u64 az, 48), (w.heap.size + 1 + 1, arr .u64 bs, 48), (w.heap.size + 1 + 1 + 1, arr .u64 cs, 48), (w.heap.size + 1 + 1 + 1 + 1, arr .u64 ds, 48), (w.heap.size + 1 + 1 + 1 + 1 + 1, arr .u64 zl, 48), (w.heap.size + 1 + 1 + 1 + 1 + 1 + 1, arr .u64 zl, 48), (w.heap.size + 1 + 1 + 1 + 1 + 1 + 1 + 1, arr .u64 zl, 48), (w.heap.size + 1 + 1 + 1 + 1 + 1 + 1 + 1 + 1, arr .u64 zl, 48), (gr1_9, arr .u64 z5001, 48), (gr1_10, arr .u64 z5002, 48)] ++ (ent (fF 6) ((if (fF 8).isSome = true then arr .u64 z5005 else arr .u64 zl)) 48 ++ (ent ((some (.pointer (some ⟨uF.heap.size, 0, none⟩)) : Option Value)) ((if (fF 9).isSome = true then arr .u64 z5006 else arr .u64 zl)) 48))) := hB.ins (a := [(w.heap.size, arr .u64 xs, 48), (w.heap.size + 1, arr .u64 az, 48), (w.heap.size + 1 + 1, arr .u64 bs, 48), (w.heap.size + 1 + 1 + 1, arr .u64 cs, 48), (w.heap.size + 1 + 1 + 1 + 1, arr .u64 ds, 48), (w.heap.size + 1 + 1 + 1 + 1 + 1, arr .u64 zl, 48), (w.heap.size + 1 + 1 + 1 + 1 + 1 + 1, arr .u64 zl, 48), (w.heap.size + 1 + 1 + 1 + 1 + 1 + 1 + 1, arr .u64 zl, 48), (w.heap.size + 1 + 1 + 1 + 1 + 1 + 1 + 1 + 1, arr .u64 zl, 48), (gr1_9, arr .u64 z5001, 48), (gr1_10, arr .u64 z5002, 48)] ++ ent (fF 6) ((if (fF 8).isSome = true then arr .u64 z5005 else arr .u64 zl)) 48) (b := []) _ _ (by rw [hfF, n9]; simp only [ent_none, List.nil_append, List.append_nil, List.append_assoc, List.cons_append]) (by rw [n9]; simp only [ent_some, List.nil_append, List.append_nil, List.append_assoc, List.cons_append, Option.isSome_none, Bool.false_eq_true, if_false])
      exact hKF _ _ ⟨j0, j1, j2, j3, j4, j5, j6, fun _ h => ⟨_, (Option.some.inj h).symm⟩, hB1⟩
    refine LinAll.cons (fun fF bF uF kF hJF hfF hcF hupF hsF hKF => ?_) ?_
    · obtain ⟨j0, j1, j2, j3, j4, j5, j6, j7, hB⟩ := hJF
      have y6 := hupF 6 (by kernel_rfl)
      obtain ⟨v6, s6⟩ := Option.isSome_iff_exists.1 y6
      obtain ⟨gr2_11, rfl⟩ := j6 _ s6
      have y7 := hupF 7 (by kernel_rfl)
      obtain ⟨v7, s7⟩ := Option.isSome_iff_exists.1 y7
      obtain ⟨gr2_12, rfl⟩ := j7 _ s7
      have e16 := hsF.val 6 16 rfl s6
      obtain ⟨e31, p31⟩ := hsF.at hupF 2 31 (by kernel_rfl) rfl j2
      have y2 := hupF 2 (by kernel_rfl)
      obtain ⟨v2, s2⟩ := Option.isSome_iff_exists.1 y2
      have HZ5005 := Lib.hid (j2 _ s2).2
      have hB' := hB
      rw [s6, s7, hfF] at hB'
      refine step_store_whole rfl 48 (.tmp 16) (.tmp 31) rfl (gr2_11) (arr .u64 zl) _ 48 (hB'.get 11 rfl) e16 e31 (arr_len2 _ _ HL5005.out HLzl.out) (lim_s HL5005.out) (all_arr _ _) ?_
      intro w1 hb1 hk1 hz1
      have hB1 : Blk w w1 ([(w.heap.size, arr .u64 xs, 48), (w.heap.size + 1, arr .u64 az, 48), (w.heap.size + 1 + 1, arr .u64 bs, 48), (w.heap.size + 1 + 1 + 1, arr .u64 cs, 48), (w.heap.size + 1 + 1 + 1 + 1, arr .u64 ds, 48), (w.heap.size + 1 + 1 + 1 + 1 + 1, arr .u64 zl, 48), (w.heap.size + 1 + 1 + 1 + 1 + 1 + 1, arr .u64 zl, 48), (w.heap.size + 1 + 1 + 1 + 1 + 1 + 1 + 1, arr .u64 zl, 48), (w.heap.size + 1 + 1 + 1 + 1 + 1 + 1 + 1 + 1, arr .u64 zl, 48), (gr1_9, arr .u64 z5001, 48), (gr1_10, arr .u64 z5002, 48)] ++ (ent (fF 6) ((if ((some undef : Option Value)).isSome = true then arr .u64 z5005 else arr .u64 zl)) 48 ++ (ent (fF 7) ((if (fF 9).isSome = true then arr .u64 z5006 else arr .u64 zl)) 48))) := by rw [s6, s7]; exact hB'.put 11 rfl hk1 hb1
      exact hKF undef w1 ⟨j0, j1, j2, j3, j4, j5, j6, j7, hB1⟩
    refine LinAll.cons (fun fF bF uF kF hJF hfF hcF hupF hsF hKF => ?_) ?_
    · obtain ⟨j0, j1, j2, j3, j4, j5, j6, j7, hB⟩ := hJF
      have y6 := hupF 6 (by kernel_rfl)
      obtain ⟨v6, s6⟩ := Option.isSome_iff_exists.1 y6
      obtain ⟨gr2_11, rfl⟩ := j6 _ s6
      have y7 := hupF 7 (by kernel_rfl)
      obtain ⟨v7, s7⟩ := Option.isSome_iff_exists.1 y7
      obtain ⟨gr2_12, rfl⟩ := j7 _ s7
      have e17 := hsF.val 7 17 rfl s7
      obtain ⟨e34, p34⟩ := hsF.at hupF 5 34 (by kernel_rfl) rfl j5
      have y5 := hupF 5 (by kernel_rfl)
      obtain ⟨v5, s5⟩ := Option.isSome_iff_exists.1 y5
      have HZ5006 := Lib.hid (j5 _ s5).2
      have hB' := hB
      rw [s6, s7, hfF] at hB'
      refine step_store_whole rfl 48 (.tmp 17) (.tmp 34) rfl (gr2_12) (arr .u64 zl) _ 48 (hB'.get 12 rfl) e17 e34 (arr_len2 _ _ HL5006.out HLzl.out) (lim_s HL5006.out) (all_arr _ _) ?_
      intro w1 hb1 hk1 hz1
      have hB1 : Blk w w1 ([(w.heap.size, arr .u64 xs, 48), (w.heap.size + 1, arr .u64 az, 48), (w.heap.size + 1 + 1, arr .u64 bs, 48), (w.heap.size + 1 + 1 + 1, arr .u64 cs, 48), (w.heap.size + 1 + 1 + 1 + 1, arr .u64 ds, 48), (w.heap.size + 1 + 1 + 1 + 1 + 1, arr .u64 zl, 48), (w.heap.size + 1 + 1 + 1 + 1 + 1 + 1, arr .u64 zl, 48), (w.heap.size + 1 + 1 + 1 + 1 + 1 + 1 + 1, arr .u64 zl, 48), (w.heap.size + 1 + 1 + 1 + 1 + 1 + 1 + 1 + 1, arr .u64 zl, 48), (gr1_9, arr .u64 z5001, 48), (gr1_10, arr .u64 z5002, 48)] ++ (ent (fF 6) ((if (fF 8).isSome = true then arr .u64 z5005 else arr .u64 zl)) 48 ++ (ent (fF 7) ((if ((some undef : Option Value)).isSome = true then arr .u64 z5006 else arr .u64 zl)) 48))) := by rw [s6, s7]; exact hB'.put 12 rfl hk1 hb1
      exact hKF undef w1 ⟨j0, j1, j2, j3, j4, j5, j6, j7, hB1⟩
    exact LinAll.nil
  case er2 =>
  intro fF ur2 hall hJF
  obtain ⟨j0, j1, j2, j3, j4, j5, j6, j7, hB⟩ := hJF
  obtain ⟨v0, h0⟩ := Option.isSome_iff_exists.1 (hall 0 (by decide))
  obtain ⟨rfl, p0⟩ := j0 _ h0
  obtain ⟨v1, h1⟩ := Option.isSome_iff_exists.1 (hall 1 (by decide))
  obtain ⟨rfl, p1⟩ := j1 _ h1
  obtain ⟨v2, h2⟩ := Option.isSome_iff_exists.1 (hall 2 (by decide))
  obtain ⟨rfl, p2⟩ := j2 _ h2
  obtain ⟨v3, h3⟩ := Option.isSome_iff_exists.1 (hall 3 (by decide))
  obtain ⟨rfl, p3⟩ := j3 _ h3
  obtain ⟨v4, h4⟩ := Option.isSome_iff_exists.1 (hall 4 (by decide))
  obtain ⟨rfl, p4⟩ := j4 _ h4
  obtain ⟨v5, h5⟩ := Option.isSome_iff_exists.1 (hall 5 (by decide))
  obtain ⟨rfl, p5⟩ := j5 _ h5
  obtain ⟨v6, h6⟩ := Option.isSome_iff_exists.1 (hall 6 (by decide))
  obtain ⟨gr2_11, rfl⟩ := j6 _ h6
  obtain ⟨v7, h7⟩ := Option.isSome_iff_exists.1 (hall 7 (by decide))
  obtain ⟨gr2_12, rfl⟩ := j7 _ h7
  obtain ⟨v8, h8⟩ := Option.isSome_iff_exists.1 (hall 8 (by decide))
  obtain ⟨v9, h9⟩ := Option.isSome_iff_exists.1 (hall 9 (by decide))
  rw [h6, h7, h8, h9] at hB
  have HBr2 : Hid (Blk w ur2 [(w.heap.size, arr .u64 xs, 48), (w.heap.size + 1, arr .u64 az, 48), (w.heap.size + 1 + 1, arr .u64 bs, 48), (w.heap.size + 1 + 1 + 1, arr .u64 cs, 48), (w.heap.size + 1 + 1 + 1 + 1, arr .u64 ds, 48), (w.heap.size + 1 + 1 + 1 + 1 + 1, arr .u64 zl, 48), (w.heap.size + 1 + 1 + 1 + 1 + 1 + 1, arr .u64 zl, 48), (w.heap.size + 1 + 1 + 1 + 1 + 1 + 1 + 1, arr .u64 zl, 48), (w.heap.size + 1 + 1 + 1 + 1 + 1 + 1 + 1 + 1, arr .u64 zl, 48), (gr1_9, arr .u64 z5001, 48), (gr1_10, arr .u64 z5002, 48), (gr2_11, arr .u64 z5005, 48), (gr2_12, arr .u64 z5006, 48)]) := Lib.hid hB
  have HZ5005 := Lib.hid p2
  have HZ5006 := Lib.hid p5
  simp only [laid, Nat.zero_add, Nat.reduceAdd, h0, h1, h2, h3, h4, h5, h6, h7, h8, h9, Act.put, List.setIfInBounds_toArray, List.set_cons_zero, List.set_cons_succ]
  clear j0 j1 j2 j3 j4 j5 j6 j7 hB h0 h1 h2 h3 h4 h5 h6 h7 h8 h9 hall fF HBr1
  clear p0 p1 p2 p3 p4 p5
  (try simp only [Exit.then])
  go_upto_region 3 with fail
  (try simp only [World.size_alloc, Act.put, List.setIfInBounds_toArray, List.set_cons_zero, List.set_cons_succ])
  go_upto_region 4 with (first | ((with_reducible show wpList _ _ _ (Oper.mk (some 35) _ _ _ _ _ :: _) _ _); refine wpList_load_part rfl 48 _ rfl (gr2_11) (0) _ 48 (0, 0) _ (HBr2.out.get 11 rfl) rfl .u64 z5005 (arr_part _ _) Try.underlying48 rfl (lim_i HL5005.out) ?_) | ((with_reducible show wpList _ _ _ (Oper.mk (some 36) _ _ _ _ _ :: _) _ _); refine wpList_load_part rfl 48 _ rfl (gr2_12) (0) _ 48 (0, 0) _ (HBr2.out.get 12 rfl) rfl .u64 z5006 (arr_part _ _) Try.underlying48 rfl (lim_i HL5006.out) ?_) | ((with_reducible show Calls _ 37 #[.agg _, .agg _] _ _); go_at_call 37; refine (minus_any _ _ _ HZ5005.out HZ5006.out (fmul_lt _ _) (fmul_lt _ _)).mono ?_; rintro e w2301 ⟨z2301, rfl, h2301, hb2301⟩; have HZ2301 := Lib.hid h2301; have HL2301 := Lib.hid h2301.len; clear h2301; have HB2301 := Lib.hid (HBr2.out.kept hb2301); clear hb2301) | ((with_reducible show wpList _ _ _ (Oper.mk (some 18) _ _ _ _ _ :: _) _ _); refine wpList_alloc_row rfl 48 rfl _ (HZzl.out _) ?_; have HB2302 := Lib.hid (HB2301.out.alloc (arr .u64 zl) 48); generalize w2301.heap.size = g2302 at HB2302 ⊢; generalize w2301.alloc (.cells (arr .u64 zl) 48) = w2302 at HB2302 ⊢; clear HB2301) | ((with_reducible show wpList _ _ _ (Oper.mk none (Op.store _ (Operand.tmp 18) (Operand.tmp 37)) _ _ _ _ :: _) _ _); refine wpList_store_whole rfl 48 _ _ rfl (g2302) _ _ 48 (HB2302.out.get 13 rfl) rfl rfl (arr_len2 _ _ HL2301.out HLzl.out) (lim_s HL2301.out) (all_arr _ _) ?_; intro w2303 hb2303 hk2303 hz2303; have HB2303 := Lib.hid (HB2302.out.put 13 rfl hk2303 hb2303); clear hb2303 hk2303 hz2303; clear HB2302))
  (try simp only [World.size_alloc, Act.put, List.setIfInBounds_toArray, List.set_cons_zero, List.set_cons_succ])
  obtain ⟨z5009, hz5009⟩ : ∃ z : List Int, z = nar (dig 18446744073709551616 4 (fsub c d)) := ⟨_, rfl⟩
  have HE5009 := Lib.hid hz5009
  have HL5009 : Hid (z5009.length = 4) := Lib.hid (by rw [hz5009]; exact (nar_len _).trans (dig_len _ _ _))
  clear hz5009
  obtain ⟨z5010, hz5010⟩ : ∃ z : List Int, z = nar (dig 18446744073709551616 4 (fmul (fsub c d) (fadd a b))) := ⟨_, rfl⟩
  have HE5010 := Lib.hid hz5010
  have HL5010 : Hid (z5010.length = 4) := Lib.hid (by rw [hz5010]; exact (nar_len _).trans (dig_len _ _ _))
  clear hz5010
  refine wp_region_lin (fun (fF : Fill) (uF : World) => (∀ v, fF 0 = some v → v = .agg (arr .u64 cs) ∧ True) ∧ (∀ v, fF 1 = some v → v = .agg (arr .u64 ds) ∧ True) ∧ (∀ v, fF 2 = some v → v = .agg (arr .u64 z5009) ∧ N4 z5009 (fsub c d)) ∧ (∀ v, fF 3 = some v → v = .agg (arr .u64 z5001) ∧ True) ∧ (∀ v, fF 4 = some v → v = .agg (arr .u64 z5010) ∧ N4 z5010 (fmul (fsub c d) (fadd a b))) ∧ (∀ v, fF 5 = some v → ∃ g : Nat, v = .pointer (some ⟨g, 0, none⟩)) ∧ Blk w uF ([(w.heap.size, arr .u64 xs, 48), (w.heap.size + 1, arr .u64 az, 48), (w.heap.size + 1 + 1, arr .u64 bs, 48), (w.heap.size + 1 + 1 + 1, arr .u64 cs, 48), (w.heap.size + 1 + 1 + 1 + 1, arr .u64 ds, 48), (w.heap.size + 1 + 1 + 1 + 1 + 1, arr .u64 zl, 48), (w.heap.size + 1 + 1 + 1 + 1 + 1 + 1, arr .u64 zl, 48), (w.heap.size + 1 + 1 + 1 + 1 + 1 + 1 + 1, arr .u64 zl, 48), (w.heap.size + 1 + 1 + 1 + 1 + 1 + 1 + 1 + 1, arr .u64 zl, 48), (gr1_9, arr .u64 z5001, 48), (gr1_10, arr .u64 z5002, 48), (gr2_11, arr .u64 z5005, 48), (gr2_12, arr .u64 z5006, 48), (g2302, (arr .u64 z2301), 48)] ++ (ent (fF 5) ((if (fF 6).isSome = true then arr .u64 z5010 else arr .u64 zl)) 48))) (by kernel_rfl) (by kernel_rfl) ?zr4 ?sr4 ?er4
  case zr4 => exact ⟨fun _ h => (by cases h), fun _ h => (by cases h), fun _ h => (by cases h), fun _ h => (by cases h), fun _ h => (by cases h), fun _ h => (by cases h), HB2303.out.drew⟩
  case sr4 =>
    refine LinAll.cons (fun fF bF uF kF hJF hfF hcF hupF hsF hKF => ?_) ?_
    · obtain ⟨j0, j1, j2, j3, j4, j5, hB⟩ := hJF
      have e8 : bF.eval (.tmp 8) = .pointer (some ⟨w.heap.size + 1 + 1 + 1, 0, none⟩) := hsF.old' 8 (by kernel_rfl) rfl
      have hB' := hB
      refine step_load_part rfl 48 _ rfl (w.heap.size + 1 + 1 + 1) (0) (arr .u64 cs) 48 (0, 0) _ (hB'.get 3 rfl) e8 .u64 cs (arr_part _ _) Try.underlying48 rfl (lim_i HLc.out) ?_
      exact hKF _ _ ⟨fun _ h => ⟨(Option.some.inj h).symm, trivial⟩, j1, j2, j3, j4, j5, hB⟩
    refine LinAll.cons (fun fF bF uF kF hJF hfF hcF hupF hsF hKF => ?_) ?_
    · obtain ⟨j0, j1, j2, j3, j4, j5, hB⟩ := hJF
      have e9 : bF.eval (.tmp 9) = .pointer (some ⟨w.heap.size + 1 + 1 + 1 + 1, 0, none⟩) := hsF.old' 9 (by kernel_rfl) rfl
      have hB' := hB
      refine step_load_part rfl 48 _ rfl (w.heap.size + 1 + 1 + 1 + 1) (0) (arr .u64 ds) 48 (0, 0) _ (hB'.get 4 rfl) e9 .u64 ds (arr_part _ _) Try.underlying48 rfl (lim_i HLd.out) ?_
      exact hKF _ _ ⟨j0, fun _ h => ⟨(Option.some.inj h).symm, trivial⟩, j2, j3, j4, j5, hB⟩
    refine LinAll.cons (fun fF bF uF kF hJF hfF hcF hupF hsF hKF => ?_) ?_
    · obtain ⟨j0, j1, j2, j3, j4, j5, hB⟩ := hJF
      obtain ⟨e38, p38⟩ := hsF.at hupF 0 38 (by kernel_rfl) rfl j0
      obtain ⟨e39, p39⟩ := hsF.at hupF 1 39 (by kernel_rfl) rfl j1
      refine lin_call rfl 37 [Operand.tmp 38, Operand.tmp 39] _ [.agg (arr .u64 cs), .agg (arr .u64 ds)] rfl (by simp only [List.map_cons, List.map_nil, e38, e39] <;> rfl) (fun _ _ => by kernel_rfl) ?_
      refine Calls.mono (minus_any _ _ _ HC.out HD.out lc ld) ?_
      rintro e w1 ⟨y5011_0, rfl, r5011_0, hb⟩
      obtain rfl : y5011_0 = z5009 := r5011_0.1.trans HE5009.out.symm
      exact ⟨_, rfl, hKF _ _ ⟨j0, j1, fun _ h => ⟨(Option.some.inj h).symm, r5011_0⟩, j3, j4, j5, hB.kept hb⟩⟩
    refine LinAll.cons (fun fF bF uF kF hJF hfF hcF hupF hsF hKF => ?_) ?_
    · obtain ⟨j0, j1, j2, j3, j4, j5, hB⟩ := hJF
      have e14 : bF.eval (.tmp 14) = .pointer (some ⟨gr1_9, 0, none⟩) := hsF.old' 14 (by kernel_rfl) rfl
      have hB' := hB
      refine step_load_part rfl 48 _ rfl (gr1_9) (0) (arr .u64 z5001) 48 (0, 0) _ (hB'.get 9 rfl) e14 .u64 z5001 (arr_part _ _) Try.underlying48 rfl (lim_i HL5001.out) ?_
      exact hKF _ _ ⟨j0, j1, j2, fun _ h => ⟨(Option.some.inj h).symm, trivial⟩, j4, j5, hB⟩
    refine LinAll.cons (fun fF bF uF kF hJF hfF hcF hupF hsF hKF => ?_) ?_
    · obtain ⟨j0, j1, j2, j3, j4, j5, hB⟩ := hJF
      obtain ⟨e40, p40⟩ := hsF.at hupF 2 40 (by kernel_rfl) rfl j2
      obtain ⟨e41, p41⟩ := hsF.at hupF 3 41 (by kernel_rfl) rfl j3
      have y2 := hupF 2 (by kernel_rfl)
      obtain ⟨v2, s2⟩ := Option.isSome_iff_exists.1 y2
      have HZ5009 := Lib.hid (j2 _ s2).2
      refine lin_call rfl 24 [Operand.tmp 40, Operand.tmp 41] _ [.agg (arr .u64 z5009), .agg (arr .u64 z5001)] rfl (by simp only [List.map_cons, List.map_nil, e40, e41] <;> rfl) (fun _ _ => by kernel_rfl) ?_
      refine Calls.mono (times_any _ _ _ HZ5009.out HZ5001.out) ?_
      rintro e w1 ⟨y5012_0, rfl, r5012_0, hb⟩
      obtain rfl : y5012_0 = z5010 := r5012_0.1.trans HE5010.out.symm
      exact ⟨_, rfl, hKF _ _ ⟨j0, j1, j2, j3, fun _ h => ⟨(Option.some.inj h).symm, r5012_0⟩, j5, hB.kept hb⟩⟩
    refine LinAll.cons (fun fF bF uF kF hJF hfF hcF hupF hsF hKF => ?_) ?_
    · obtain ⟨j0, j1, j2, j3, j4, j5, hB⟩ := hJF
      have n6 := hcF.down 6 5 (by kernel_rfl) hfF
      refine step_alloc_row rfl 48 rfl _ (HZzl.out _) ?_
      have hB1 : Blk w (uF.alloc (.cells (arr .u64 zl) 48)) ([(w.heap.size, arr .u64 xs, 48), (w.heap.size + 1, arr .u64 az, 48), (w.heap.size + 1 + 1, arr .u64 bs, 48), (w.heap.size + 1 + 1 + 1, arr .u64 cs, 48), (w.heap.size + 1 + 1 + 1 + 1, arr .u64 ds, 48), (w.heap.size + 1 + 1 + 1 + 1 + 1, arr .u64 zl, 48), (w.heap.size + 1 + 1 + 1 + 1 + 1 + 1, arr .u64 zl, 48), (w.heap.size + 1 + 1 + 1 + 1 + 1 + 1 + 1, arr .u64 zl, 48), (w.heap.size + 1 + 1 + 1 + 1 + 1 + 1 + 1 + 1, arr .u64 zl, 48), (gr1_9, arr .u64 z5001, 48), (gr1_10, arr .u64 z5002, 48), (gr2_11, arr .u64 z5005, 48), (gr2_12, arr .u64 z5006, 48), (g2302, (arr .u64 z2301), 48)] ++ (ent ((some (.pointer (some ⟨uF.heap.size, 0, none⟩)) : Option Value)) ((if (fF 6).isSome = true then arr .u64 z5010 else arr .u64 zl)) 48)) := hB.ins (a := [(w.heap.size, arr .u64 xs, 48), (w.heap.size + 1, arr .u64 az, 48), (w.heap.size + 1 + 1, arr .u64 bs, 48), (w.heap.size + 1 + 1 + 1, arr .u64 cs, 48), (w.heap.size + 1 + 1 + 1 + 1, arr .u64 ds, 48), (w.heap.size + 1 + 1 + 1 + 1 + 1, arr .u64 zl, 48), (w.heap.size + 1 + 1 + 1 + 1 + 1 + 1, arr .u64 zl, 48), (w.heap.size + 1 + 1 + 1 + 1 + 1 + 1 + 1, arr .u64 zl, 48), (w.heap.size + 1 + 1 + 1 + 1 + 1 + 1 + 1 + 1, arr .u64 zl, 48), (gr1_9, arr .u64 z5001, 48), (gr1_10, arr .u64 z5002, 48), (gr2_11, arr .u64 z5005, 48), (gr2_12, arr .u64 z5006, 48), (g2302, (arr .u64 z2301), 48)]) (b := []) _ _ (by rw [hfF, n6]; simp only [ent_none, List.nil_append, List.append_nil, List.append_assoc, List.cons_append]) (by rw [n6]; simp only [ent_some, List.nil_append, List.append_nil, List.append_assoc, List.cons_append, Option.isSome_none, Bool.false_eq_true, if_false])
      exact hKF _ _ ⟨j0, j1, j2, j3, j4, fun _ h => ⟨_, (Option.some.inj h).symm⟩, hB1⟩
    refine LinAll.cons (fun fF bF uF kF hJF hfF hcF hupF hsF hKF => ?_) ?_
    · obtain ⟨j0, j1, j2, j3, j4, j5, hB⟩ := hJF
      have y5 := hupF 5 (by kernel_rfl)
      obtain ⟨v5, s5⟩ := Option.isSome_iff_exists.1 y5
      obtain ⟨gr4_14, rfl⟩ := j5 _ s5
      have e19 := hsF.val 5 19 rfl s5
      obtain ⟨e42, p42⟩ := hsF.at hupF 4 42 (by kernel_rfl) rfl j4
      have y4 := hupF 4 (by kernel_rfl)
      obtain ⟨v4, s4⟩ := Option.isSome_iff_exists.1 y4
      have HZ5010 := Lib.hid (j4 _ s4).2
      have hB' := hB
      rw [s5, hfF] at hB'
      refine step_store_whole rfl 48 (.tmp 19) (.tmp 42) rfl (gr4_14) (arr .u64 zl) _ 48 (hB'.get 14 rfl) e19 e42 (arr_len2 _ _ HL5010.out HLzl.out) (lim_s HL5010.out) (all_arr _ _) ?_
      intro w1 hb1 hk1 hz1
      have hB1 : Blk w w1 ([(w.heap.size, arr .u64 xs, 48), (w.heap.size + 1, arr .u64 az, 48), (w.heap.size + 1 + 1, arr .u64 bs, 48), (w.heap.size + 1 + 1 + 1, arr .u64 cs, 48), (w.heap.size + 1 + 1 + 1 + 1, arr .u64 ds, 48), (w.heap.size + 1 + 1 + 1 + 1 + 1, arr .u64 zl, 48), (w.heap.size + 1 + 1 + 1 + 1 + 1 + 1, arr .u64 zl, 48), (w.heap.size + 1 + 1 + 1 + 1 + 1 + 1 + 1, arr .u64 zl, 48), (w.heap.size + 1 + 1 + 1 + 1 + 1 + 1 + 1 + 1, arr .u64 zl, 48), (gr1_9, arr .u64 z5001, 48), (gr1_10, arr .u64 z5002, 48), (gr2_11, arr .u64 z5005, 48), (gr2_12, arr .u64 z5006, 48), (g2302, (arr .u64 z2301), 48)] ++ (ent (fF 5) ((if ((some undef : Option Value)).isSome = true then arr .u64 z5010 else arr .u64 zl)) 48)) := by rw [s5]; exact hB'.put 14 rfl hk1 hb1
      exact hKF undef w1 ⟨j0, j1, j2, j3, j4, j5, hB1⟩
    exact LinAll.nil
  case er4 =>
  intro fF ur4 hall hJF
  obtain ⟨j0, j1, j2, j3, j4, j5, hB⟩ := hJF
  obtain ⟨v0, h0⟩ := Option.isSome_iff_exists.1 (hall 0 (by decide))
  obtain ⟨rfl, p0⟩ := j0 _ h0
  obtain ⟨v1, h1⟩ := Option.isSome_iff_exists.1 (hall 1 (by decide))
  obtain ⟨rfl, p1⟩ := j1 _ h1
  obtain ⟨v2, h2⟩ := Option.isSome_iff_exists.1 (hall 2 (by decide))
  obtain ⟨rfl, p2⟩ := j2 _ h2
  obtain ⟨v3, h3⟩ := Option.isSome_iff_exists.1 (hall 3 (by decide))
  obtain ⟨rfl, p3⟩ := j3 _ h3
  obtain ⟨v4, h4⟩ := Option.isSome_iff_exists.1 (hall 4 (by decide))
  obtain ⟨rfl, p4⟩ := j4 _ h4
  obtain ⟨v5, h5⟩ := Option.isSome_iff_exists.1 (hall 5 (by decide))
  obtain ⟨gr4_14, rfl⟩ := j5 _ h5
  obtain ⟨v6, h6⟩ := Option.isSome_iff_exists.1 (hall 6 (by decide))
  rw [h5, h6] at hB
  have HBr4 : Hid (Blk w ur4 [(w.heap.size, arr .u64 xs, 48), (w.heap.size + 1, arr .u64 az, 48), (w.heap.size + 1 + 1, arr .u64 bs, 48), (w.heap.size + 1 + 1 + 1, arr .u64 cs, 48), (w.heap.size + 1 + 1 + 1 + 1, arr .u64 ds, 48), (w.heap.size + 1 + 1 + 1 + 1 + 1, arr .u64 zl, 48), (w.heap.size + 1 + 1 + 1 + 1 + 1 + 1, arr .u64 zl, 48), (w.heap.size + 1 + 1 + 1 + 1 + 1 + 1 + 1, arr .u64 zl, 48), (w.heap.size + 1 + 1 + 1 + 1 + 1 + 1 + 1 + 1, arr .u64 zl, 48), (gr1_9, arr .u64 z5001, 48), (gr1_10, arr .u64 z5002, 48), (gr2_11, arr .u64 z5005, 48), (gr2_12, arr .u64 z5006, 48), (g2302, (arr .u64 z2301), 48), (gr4_14, arr .u64 z5010, 48)]) := Lib.hid hB
  have HZ5009 := Lib.hid p2
  have HZ5010 := Lib.hid p4
  simp only [laid, Nat.zero_add, Nat.reduceAdd, h0, h1, h2, h3, h4, h5, h6, Act.put, List.setIfInBounds_toArray, List.set_cons_zero, List.set_cons_succ]
  clear j0 j1 j2 j3 j4 j5 hB h0 h1 h2 h3 h4 h5 h6 hall fF HB2303
  clear p0 p1 p2 p3 p4
  (try simp only [Exit.then])
  go_upto_region 5 with fail
  (try simp only [World.size_alloc, Act.put, List.setIfInBounds_toArray, List.set_cons_zero, List.set_cons_succ])
  obtain ⟨z5013, hz5013⟩ : ∃ z : List Int, z = nar (dig 18446744073709551616 4 (fadd c d)) := ⟨_, rfl⟩
  have HE5013 := Lib.hid hz5013
  have HL5013 : Hid (z5013.length = 4) := Lib.hid (by rw [hz5013]; exact (nar_len _).trans (dig_len _ _ _))
  clear hz5013
  obtain ⟨z5014, hz5014⟩ : ∃ z : List Int, z = nar (dig 18446744073709551616 4 (fmul (fadd c d) (fsub a b))) := ⟨_, rfl⟩
  have HE5014 := Lib.hid hz5014
  have HL5014 : Hid (z5014.length = 4) := Lib.hid (by rw [hz5014]; exact (nar_len _).trans (dig_len _ _ _))
  clear hz5014
  refine wp_region_lin (fun (fF : Fill) (uF : World) => (∀ v, fF 0 = some v → v = .agg (arr .u64 cs) ∧ True) ∧ (∀ v, fF 1 = some v → v = .agg (arr .u64 ds) ∧ True) ∧ (∀ v, fF 2 = some v → v = .agg (arr .u64 z5013) ∧ N4 z5013 (fadd c d)) ∧ (∀ v, fF 3 = some v → v = .agg (arr .u64 z5002) ∧ True) ∧ (∀ v, fF 4 = some v → v = .agg (arr .u64 z5014) ∧ N4 z5014 (fmul (fadd c d) (fsub a b))) ∧ (∀ v, fF 5 = some v → ∃ g : Nat, v = .pointer (some ⟨g, 0, none⟩)) ∧ Blk w uF ([(w.heap.size, arr .u64 xs, 48), (w.heap.size + 1, arr .u64 az, 48), (w.heap.size + 1 + 1, arr .u64 bs, 48), (w.heap.size + 1 + 1 + 1, arr .u64 cs, 48), (w.heap.size + 1 + 1 + 1 + 1, arr .u64 ds, 48), (w.heap.size + 1 + 1 + 1 + 1 + 1, arr .u64 zl, 48), (w.heap.size + 1 + 1 + 1 + 1 + 1 + 1, arr .u64 zl, 48), (w.heap.size + 1 + 1 + 1 + 1 + 1 + 1 + 1, arr .u64 zl, 48), (w.heap.size + 1 + 1 + 1 + 1 + 1 + 1 + 1 + 1, arr .u64 zl, 48), (gr1_9, arr .u64 z5001, 48), (gr1_10, arr .u64 z5002, 48), (gr2_11, arr .u64 z5005, 48), (gr2_12, arr .u64 z5006, 48), (g2302, (arr .u64 z2301), 48), (gr4_14, arr .u64 z5010, 48)] ++ (ent (fF 5) ((if (fF 6).isSome = true then arr .u64 z5014 else arr .u64 zl)) 48))) (by kernel_rfl) (by kernel_rfl) ?zr5 ?sr5 ?er5
  case zr5 => exact ⟨fun _ h => (by cases h), fun _ h => (by cases h), fun _ h => (by cases h), fun _ h => (by cases h), fun _ h => (by cases h), fun _ h => (by cases h), HBr4.out.drew⟩
  case sr5 =>
    refine LinAll.cons (fun fF bF uF kF hJF hfF hcF hupF hsF hKF => ?_) ?_
    · obtain ⟨j0, j1, j2, j3, j4, j5, hB⟩ := hJF
      have e8 : bF.eval (.tmp 8) = .pointer (some ⟨w.heap.size + 1 + 1 + 1, 0, none⟩) := hsF.old' 8 (by kernel_rfl) rfl
      have hB' := hB
      refine step_load_part rfl 48 _ rfl (w.heap.size + 1 + 1 + 1) (0) (arr .u64 cs) 48 (0, 0) _ (hB'.get 3 rfl) e8 .u64 cs (arr_part _ _) Try.underlying48 rfl (lim_i HLc.out) ?_
      exact hKF _ _ ⟨fun _ h => ⟨(Option.some.inj h).symm, trivial⟩, j1, j2, j3, j4, j5, hB⟩
    refine LinAll.cons (fun fF bF uF kF hJF hfF hcF hupF hsF hKF => ?_) ?_
    · obtain ⟨j0, j1, j2, j3, j4, j5, hB⟩ := hJF
      have e9 : bF.eval (.tmp 9) = .pointer (some ⟨w.heap.size + 1 + 1 + 1 + 1, 0, none⟩) := hsF.old' 9 (by kernel_rfl) rfl
      have hB' := hB
      refine step_load_part rfl 48 _ rfl (w.heap.size + 1 + 1 + 1 + 1) (0) (arr .u64 ds) 48 (0, 0) _ (hB'.get 4 rfl) e9 .u64 ds (arr_part _ _) Try.underlying48 rfl (lim_i HLd.out) ?_
      exact hKF _ _ ⟨j0, fun _ h => ⟨(Option.some.inj h).symm, trivial⟩, j2, j3, j4, j5, hB⟩
    refine LinAll.cons (fun fF bF uF kF hJF hfF hcF hupF hsF hKF => ?_) ?_
    · obtain ⟨j0, j1, j2, j3, j4, j5, hB⟩ := hJF
      obtain ⟨e43, p43⟩ := hsF.at hupF 0 43 (by kernel_rfl) rfl j0
      obtain ⟨e44, p44⟩ := hsF.at hupF 1 44 (by kernel_rfl) rfl j1
      refine lin_call rfl 36 [Operand.tmp 43, Operand.tmp 44] _ [.agg (arr .u64 cs), .agg (arr .u64 ds)] rfl (by simp only [List.map_cons, List.map_nil, e43, e44] <;> rfl) (fun _ _ => by kernel_rfl) ?_
      refine Calls.mono (plus_any _ _ _ HC.out HD.out) ?_
      rintro e w1 ⟨y5015_0, rfl, r5015_0, hb⟩
      obtain rfl : y5015_0 = z5013 := r5015_0.1.trans HE5013.out.symm
      exact ⟨_, rfl, hKF _ _ ⟨j0, j1, fun _ h => ⟨(Option.some.inj h).symm, r5015_0⟩, j3, j4, j5, hB.kept hb⟩⟩
    refine LinAll.cons (fun fF bF uF kF hJF hfF hcF hupF hsF hKF => ?_) ?_
    · obtain ⟨j0, j1, j2, j3, j4, j5, hB⟩ := hJF
      have e15 : bF.eval (.tmp 15) = .pointer (some ⟨gr1_10, 0, none⟩) := hsF.old' 15 (by kernel_rfl) rfl
      have hB' := hB
      refine step_load_part rfl 48 _ rfl (gr1_10) (0) (arr .u64 z5002) 48 (0, 0) _ (hB'.get 10 rfl) e15 .u64 z5002 (arr_part _ _) Try.underlying48 rfl (lim_i HL5002.out) ?_
      exact hKF _ _ ⟨j0, j1, j2, fun _ h => ⟨(Option.some.inj h).symm, trivial⟩, j4, j5, hB⟩
    refine LinAll.cons (fun fF bF uF kF hJF hfF hcF hupF hsF hKF => ?_) ?_
    · obtain ⟨j0, j1, j2, j3, j4, j5, hB⟩ := hJF
      obtain ⟨e45, p45⟩ := hsF.at hupF 2 45 (by kernel_rfl) rfl j2
      obtain ⟨e46, p46⟩ := hsF.at hupF 3 46 (by kernel_rfl) rfl j3
      have y2 := hupF 2 (by kernel_rfl)
      obtain ⟨v2, s2⟩ := Option.isSome_iff_exists.1 y2
      have HZ5013 := Lib.hid (j2 _ s2).2
      refine lin_call rfl 24 [Operand.tmp 45, Operand.tmp 46] _ [.agg (arr .u64 z5013), .agg (arr .u64 z5002)] rfl (by simp only [List.map_cons, List.map_nil, e45, e46] <;> rfl) (fun _ _ => by kernel_rfl) ?_
      refine Calls.mono (times_any _ _ _ HZ5013.out HZ5002.out) ?_
      rintro e w1 ⟨y5016_0, rfl, r5016_0, hb⟩
      obtain rfl : y5016_0 = z5014 := r5016_0.1.trans HE5014.out.symm
      exact ⟨_, rfl, hKF _ _ ⟨j0, j1, j2, j3, fun _ h => ⟨(Option.some.inj h).symm, r5016_0⟩, j5, hB.kept hb⟩⟩
    refine LinAll.cons (fun fF bF uF kF hJF hfF hcF hupF hsF hKF => ?_) ?_
    · obtain ⟨j0, j1, j2, j3, j4, j5, hB⟩ := hJF
      have n6 := hcF.down 6 5 (by kernel_rfl) hfF
      refine step_alloc_row rfl 48 rfl _ (HZzl.out _) ?_
      have hB1 : Blk w (uF.alloc (.cells (arr .u64 zl) 48)) ([(w.heap.size, arr .u64 xs, 48), (w.heap.size + 1, arr .u64 az, 48), (w.heap.size + 1 + 1, arr .u64 bs, 48), (w.heap.size + 1 + 1 + 1, arr .u64 cs, 48), (w.heap.size + 1 + 1 + 1 + 1, arr .u64 ds, 48), (w.heap.size + 1 + 1 + 1 + 1 + 1, arr .u64 zl, 48), (w.heap.size + 1 + 1 + 1 + 1 + 1 + 1, arr .u64 zl, 48), (w.heap.size + 1 + 1 + 1 + 1 + 1 + 1 + 1, arr .u64 zl, 48), (w.heap.size + 1 + 1 + 1 + 1 + 1 + 1 + 1 + 1, arr .u64 zl, 48), (gr1_9, arr .u64 z5001, 48), (gr1_10, arr .u64 z5002, 48), (gr2_11, arr .u64 z5005, 48), (gr2_12, arr .u64 z5006, 48), (g2302, (arr .u64 z2301), 48), (gr4_14, arr .u64 z5010, 48)] ++ (ent ((some (.pointer (some ⟨uF.heap.size, 0, none⟩)) : Option Value)) ((if (fF 6).isSome = true then arr .u64 z5014 else arr .u64 zl)) 48)) := hB.ins (a := [(w.heap.size, arr .u64 xs, 48), (w.heap.size + 1, arr .u64 az, 48), (w.heap.size + 1 + 1, arr .u64 bs, 48), (w.heap.size + 1 + 1 + 1, arr .u64 cs, 48), (w.heap.size + 1 + 1 + 1 + 1, arr .u64 ds, 48), (w.heap.size + 1 + 1 + 1 + 1 + 1, arr .u64 zl, 48), (w.heap.size + 1 + 1 + 1 + 1 + 1 + 1, arr .u64 zl, 48), (w.heap.size + 1 + 1 + 1 + 1 + 1 + 1 + 1, arr .u64 zl, 48), (w.heap.size + 1 + 1 + 1 + 1 + 1 + 1 + 1 + 1, arr .u64 zl, 48), (gr1_9, arr .u64 z5001, 48), (gr1_10, arr .u64 z5002, 48), (gr2_11, arr .u64 z5005, 48), (gr2_12, arr .u64 z5006, 48), (g2302, (arr .u64 z2301), 48), (gr4_14, arr .u64 z5010, 48)]) (b := []) _ _ (by rw [hfF, n6]; simp only [ent_none, List.nil_append, List.append_nil, List.append_assoc, List.cons_append]) (by rw [n6]; simp only [ent_some, List.nil_append, List.append_nil, List.append_assoc, List.cons_append, Option.isSome_none, Bool.false_eq_true, if_false])
      exact hKF _ _ ⟨j0, j1, j2, j3, j4, fun _ h => ⟨_, (Option.some.inj h).symm⟩, hB1⟩
    refine LinAll.cons (fun fF bF uF kF hJF hfF hcF hupF hsF hKF => ?_) ?_
    · obtain ⟨j0, j1, j2, j3, j4, j5, hB⟩ := hJF
      have y5 := hupF 5 (by kernel_rfl)
      obtain ⟨v5, s5⟩ := Option.isSome_iff_exists.1 y5
      obtain ⟨gr5_15, rfl⟩ := j5 _ s5
      have e20 := hsF.val 5 20 rfl s5
      obtain ⟨e47, p47⟩ := hsF.at hupF 4 47 (by kernel_rfl) rfl j4
      have y4 := hupF 4 (by kernel_rfl)
      obtain ⟨v4, s4⟩ := Option.isSome_iff_exists.1 y4
      have HZ5014 := Lib.hid (j4 _ s4).2
      have hB' := hB
      rw [s5, hfF] at hB'
      refine step_store_whole rfl 48 (.tmp 20) (.tmp 47) rfl (gr5_15) (arr .u64 zl) _ 48 (hB'.get 15 rfl) e20 e47 (arr_len2 _ _ HL5014.out HLzl.out) (lim_s HL5014.out) (all_arr _ _) ?_
      intro w1 hb1 hk1 hz1
      have hB1 : Blk w w1 ([(w.heap.size, arr .u64 xs, 48), (w.heap.size + 1, arr .u64 az, 48), (w.heap.size + 1 + 1, arr .u64 bs, 48), (w.heap.size + 1 + 1 + 1, arr .u64 cs, 48), (w.heap.size + 1 + 1 + 1 + 1, arr .u64 ds, 48), (w.heap.size + 1 + 1 + 1 + 1 + 1, arr .u64 zl, 48), (w.heap.size + 1 + 1 + 1 + 1 + 1 + 1, arr .u64 zl, 48), (w.heap.size + 1 + 1 + 1 + 1 + 1 + 1 + 1, arr .u64 zl, 48), (w.heap.size + 1 + 1 + 1 + 1 + 1 + 1 + 1 + 1, arr .u64 zl, 48), (gr1_9, arr .u64 z5001, 48), (gr1_10, arr .u64 z5002, 48), (gr2_11, arr .u64 z5005, 48), (gr2_12, arr .u64 z5006, 48), (g2302, (arr .u64 z2301), 48), (gr4_14, arr .u64 z5010, 48)] ++ (ent (fF 5) ((if ((some undef : Option Value)).isSome = true then arr .u64 z5014 else arr .u64 zl)) 48)) := by rw [s5]; exact hB'.put 15 rfl hk1 hb1
      exact hKF undef w1 ⟨j0, j1, j2, j3, j4, j5, hB1⟩
    exact LinAll.nil
  case er5 =>
  intro fF ur5 hall hJF
  obtain ⟨j0, j1, j2, j3, j4, j5, hB⟩ := hJF
  obtain ⟨v0, h0⟩ := Option.isSome_iff_exists.1 (hall 0 (by decide))
  obtain ⟨rfl, p0⟩ := j0 _ h0
  obtain ⟨v1, h1⟩ := Option.isSome_iff_exists.1 (hall 1 (by decide))
  obtain ⟨rfl, p1⟩ := j1 _ h1
  obtain ⟨v2, h2⟩ := Option.isSome_iff_exists.1 (hall 2 (by decide))
  obtain ⟨rfl, p2⟩ := j2 _ h2
  obtain ⟨v3, h3⟩ := Option.isSome_iff_exists.1 (hall 3 (by decide))
  obtain ⟨rfl, p3⟩ := j3 _ h3
  obtain ⟨v4, h4⟩ := Option.isSome_iff_exists.1 (hall 4 (by decide))
  obtain ⟨rfl, p4⟩ := j4 _ h4
  obtain ⟨v5, h5⟩ := Option.isSome_iff_exists.1 (hall 5 (by decide))
  obtain ⟨gr5_15, rfl⟩ := j5 _ h5
  obtain ⟨v6, h6⟩ := Option.isSome_iff_exists.1 (hall 6 (by decide))
  rw [h5, h6] at hB
  have HBr5 : Hid (Blk w ur5 [(w.heap.size, arr .u64 xs, 48), (w.heap.size + 1, arr .u64 az, 48), (w.heap.size + 1 + 1, arr .u64 bs, 48), (w.heap.size + 1 + 1 + 1, arr .u64 cs, 48), (w.heap.size + 1 + 1 + 1 + 1, arr .u64 ds, 48), (w.heap.size + 1 + 1 + 1 + 1 + 1, arr .u64 zl, 48), (w.heap.size + 1 + 1 + 1 + 1 + 1 + 1, arr .u64 zl, 48), (w.heap.size + 1 + 1 + 1 + 1 + 1 + 1 + 1, arr .u64 zl, 48), (w.heap.size + 1 + 1 + 1 + 1 + 1 + 1 + 1 + 1, arr .u64 zl, 48), (gr1_9, arr .u64 z5001, 48), (gr1_10, arr .u64 z5002, 48), (gr2_11, arr .u64 z5005, 48), (gr2_12, arr .u64 z5006, 48), (g2302, (arr .u64 z2301), 48), (gr4_14, arr .u64 z5010, 48), (gr5_15, arr .u64 z5014, 48)]) := Lib.hid hB
  have HZ5013 := Lib.hid p2
  have HZ5014 := Lib.hid p4
  simp only [laid, Nat.zero_add, Nat.reduceAdd, h0, h1, h2, h3, h4, h5, h6, Act.put, List.setIfInBounds_toArray, List.set_cons_zero, List.set_cons_succ]
  clear j0 j1 j2 j3 j4 j5 hB h0 h1 h2 h3 h4 h5 h6 hall fF HBr4
  clear p0 p1 p2 p3 p4
  (try simp only [Exit.then])
  go_upto_region 6 with fail
  (try simp only [World.size_alloc, Act.put, List.setIfInBounds_toArray, List.set_cons_zero, List.set_cons_succ])
  obtain ⟨z5017, hz5017⟩ : ∃ z : List Int, z = nar (dig 18446744073709551616 4 (fadd (fmul (fsub c d) (fadd a b)) (fmul (fadd c d) (fsub a b)))) := ⟨_, rfl⟩
  have HE5017 := Lib.hid hz5017
  have HL5017 : Hid (z5017.length = 4) := Lib.hid (by rw [hz5017]; exact (nar_len _).trans (dig_len _ _ _))
  clear hz5017
  obtain ⟨z5018, hz5018⟩ : ∃ z : List Int, z = nar (dig 18446744073709551616 4 (fsub (fmul (fsub c d) (fadd a b)) (fmul (fadd c d) (fsub a b)))) := ⟨_, rfl⟩
  have HE5018 := Lib.hid hz5018
  have HL5018 : Hid (z5018.length = 4) := Lib.hid (by rw [hz5018]; exact (nar_len _).trans (dig_len _ _ _))
  clear hz5018
  refine wp_region_lin (fun (fF : Fill) (uF : World) => (∀ v, fF 0 = some v → v = .agg (arr .u64 z5010) ∧ True) ∧ (∀ v, fF 1 = some v → v = .agg (arr .u64 z5014) ∧ True) ∧ (∀ v, fF 2 = some v → v = .agg (arr .u64 z5017) ∧ N4 z5017 (fadd (fmul (fsub c d) (fadd a b)) (fmul (fadd c d) (fsub a b)))) ∧ (∀ v, fF 3 = some v → v = .agg (arr .u64 z5010) ∧ True) ∧ (∀ v, fF 4 = some v → v = .agg (arr .u64 z5014) ∧ True) ∧ (∀ v, fF 5 = some v → v = .agg (arr .u64 z5018) ∧ N4 z5018 (fsub (fmul (fsub c d) (fadd a b)) (fmul (fadd c d) (fsub a b)))) ∧ (∀ v, fF 6 = some v → ∃ g : Nat, v = .pointer (some ⟨g, 0, none⟩)) ∧ (∀ v, fF 7 = some v → ∃ g : Nat, v = .pointer (some ⟨g, 0, none⟩)) ∧ Blk w uF ([(w.heap.size, arr .u64 xs, 48), (w.heap.size + 1, arr .u64 az, 48), (w.heap.size + 1 + 1, arr .u64 bs, 48), (w.heap.size + 1 + 1 + 1, arr .u64 cs, 48), (w.heap.size + 1 + 1 + 1 + 1, arr .u64 ds, 48), (w.heap.size + 1 + 1 + 1 + 1 + 1, arr .u64 zl, 48), (w.heap.size + 1 + 1 + 1 + 1 + 1 + 1, arr .u64 zl, 48), (w.heap.size + 1 + 1 + 1 + 1 + 1 + 1 + 1, arr .u64 zl, 48), (w.heap.size + 1 + 1 + 1 + 1 + 1 + 1 + 1 + 1, arr .u64 zl, 48), (gr1_9, arr .u64 z5001, 48), (gr1_10, arr .u64 z5002, 48), (gr2_11, arr .u64 z5005, 48), (gr2_12, arr .u64 z5006, 48), (g2302, (arr .u64 z2301), 48), (gr4_14, arr .u64 z5010, 48), (gr5_15, arr .u64 z5014, 48)] ++ (ent (fF 6) ((if (fF 8).isSome = true then arr .u64 z5017 else arr .u64 zl)) 48 ++ (ent (fF 7) ((if (fF 9).isSome = true then arr .u64 z5018 else arr .u64 zl)) 48)))) (by kernel_rfl) (by kernel_rfl) ?zr6 ?sr6 ?er6
  case zr6 => exact ⟨fun _ h => (by cases h), fun _ h => (by cases h), fun _ h => (by cases h), fun _ h => (by cases h), fun _ h => (by cases h), fun _ h => (by cases h), fun _ h => (by cases h), fun _ h => (by cases h), HBr5.out.drew⟩
  case sr6 =>
    refine LinAll.cons (fun fF bF uF kF hJF hfF hcF hupF hsF hKF => ?_) ?_
    · obtain ⟨j0, j1, j2, j3, j4, j5, j6, j7, hB⟩ := hJF
      have e19 : bF.eval (.tmp 19) = .pointer (some ⟨gr4_14, 0, none⟩) := hsF.old' 19 (by kernel_rfl) rfl
      have hB' := hB
      refine step_load_part rfl 48 _ rfl (gr4_14) (0) (arr .u64 z5010) 48 (0, 0) _ (hB'.get 14 rfl) e19 .u64 z5010 (arr_part _ _) Try.underlying48 rfl (lim_i HL5010.out) ?_
      exact hKF _ _ ⟨fun _ h => ⟨(Option.some.inj h).symm, trivial⟩, j1, j2, j3, j4, j5, j6, j7, hB⟩
    refine LinAll.cons (fun fF bF uF kF hJF hfF hcF hupF hsF hKF => ?_) ?_
    · obtain ⟨j0, j1, j2, j3, j4, j5, j6, j7, hB⟩ := hJF
      have e20 : bF.eval (.tmp 20) = .pointer (some ⟨gr5_15, 0, none⟩) := hsF.old' 20 (by kernel_rfl) rfl
      have hB' := hB
      refine step_load_part rfl 48 _ rfl (gr5_15) (0) (arr .u64 z5014) 48 (0, 0) _ (hB'.get 15 rfl) e20 .u64 z5014 (arr_part _ _) Try.underlying48 rfl (lim_i HL5014.out) ?_
      exact hKF _ _ ⟨j0, fun _ h => ⟨(Option.some.inj h).symm, trivial⟩, j2, j3, j4, j5, j6, j7, hB⟩
    refine LinAll.cons (fun fF bF uF kF hJF hfF hcF hupF hsF hKF => ?_) ?_
    · obtain ⟨j0, j1, j2, j3, j4, j5, j6, j7, hB⟩ := hJF
      obtain ⟨e48, p48⟩ := hsF.at hupF 0 48 (by kernel_rfl) rfl j0
      obtain ⟨e49, p49⟩ := hsF.at hupF 1 49 (by kernel_rfl) rfl j1
      refine lin_call rfl 36 [Operand.tmp 48, Operand.tmp 49] _ [.agg (arr .u64 z5010), .agg (arr .u64 z5014)] rfl (by simp only [List.map_cons, List.map_nil, e48, e49] <;> rfl) (fun _ _ => by kernel_rfl) ?_
      refine Calls.mono (plus_any _ _ _ HZ5010.out HZ5014.out) ?_
      rintro e w1 ⟨y5019_0, rfl, r5019_0, hb⟩
      obtain rfl : y5019_0 = z5017 := r5019_0.1.trans HE5017.out.symm
      exact ⟨_, rfl, hKF _ _ ⟨j0, j1, fun _ h => ⟨(Option.some.inj h).symm, r5019_0⟩, j3, j4, j5, j6, j7, hB.kept hb⟩⟩
    refine LinAll.cons (fun fF bF uF kF hJF hfF hcF hupF hsF hKF => ?_) ?_
    · obtain ⟨j0, j1, j2, j3, j4, j5, j6, j7, hB⟩ := hJF
      have e19 : bF.eval (.tmp 19) = .pointer (some ⟨gr4_14, 0, none⟩) := hsF.old' 19 (by kernel_rfl) rfl
      have hB' := hB
      refine step_load_part rfl 48 _ rfl (gr4_14) (0) (arr .u64 z5010) 48 (0, 0) _ (hB'.get 14 rfl) e19 .u64 z5010 (arr_part _ _) Try.underlying48 rfl (lim_i HL5010.out) ?_
      exact hKF _ _ ⟨j0, j1, j2, fun _ h => ⟨(Option.some.inj h).symm, trivial⟩, j4, j5, j6, j7, hB⟩
    refine LinAll.cons (fun fF bF uF kF hJF hfF hcF hupF hsF hKF => ?_) ?_
    · obtain ⟨j0, j1, j2, j3, j4, j5, j6, j7, hB⟩ := hJF
      have e20 : bF.eval (.tmp 20) = .pointer (some ⟨gr5_15, 0, none⟩) := hsF.old' 20 (by kernel_rfl) rfl
      have hB' := hB
      refine step_load_part rfl 48 _ rfl (gr5_15) (0) (arr .u64 z5014) 48 (0, 0) _ (hB'.get 15 rfl) e20 .u64 z5014 (arr_part _ _) Try.underlying48 rfl (lim_i HL5014.out) ?_
      exact hKF _ _ ⟨j0, j1, j2, j3, fun _ h => ⟨(Option.some.inj h).symm, trivial⟩, j5, j6, j7, hB⟩
    refine LinAll.cons (fun fF bF uF kF hJF hfF hcF hupF hsF hKF => ?_) ?_
    · obtain ⟨j0, j1, j2, j3, j4, j5, j6, j7, hB⟩ := hJF
      obtain ⟨e51, p51⟩ := hsF.at hupF 3 51 (by kernel_rfl) rfl j3
      obtain ⟨e52, p52⟩ := hsF.at hupF 4 52 (by kernel_rfl) rfl j4
      refine lin_call rfl 37 [Operand.tmp 51, Operand.tmp 52] _ [.agg (arr .u64 z5010), .agg (arr .u64 z5014)] rfl (by simp only [List.map_cons, List.map_nil, e51, e52] <;> rfl) (fun _ _ => by kernel_rfl) ?_
      refine Calls.mono (minus_any _ _ _ HZ5010.out HZ5014.out (fmul_lt _ _) (fmul_lt _ _)) ?_
      rintro e w1 ⟨y5020_0, rfl, r5020_0, hb⟩
      obtain rfl : y5020_0 = z5018 := r5020_0.1.trans HE5018.out.symm
      exact ⟨_, rfl, hKF _ _ ⟨j0, j1, j2, j3, j4, fun _ h => ⟨(Option.some.inj h).symm, r5020_0⟩, j6, j7, hB.kept hb⟩⟩
    refine LinAll.cons (fun fF bF uF kF hJF hfF hcF hupF hsF hKF => ?_) ?_
    · obtain ⟨j0, j1, j2, j3, j4, j5, j6, j7, hB⟩ := hJF
      have n8 := hcF.down 8 6 (by kernel_rfl) hfF
      refine step_alloc_row rfl 48 rfl _ (HZzl.out _) ?_
      have hB1 : Blk w (uF.alloc (.cells (arr .u64 zl) 48)) ([(w.heap.size, arr .u64 xs, 48), (w.heap.size + 1, arr .u64 az, 48), (w.heap.size + 1 + 1, arr .u64 bs, 48), (w.heap.size + 1 + 1 + 1, arr .u64 cs, 48), (w.heap.size + 1 + 1 + 1 + 1, arr .u64 ds, 48), (w.heap.size + 1 + 1 + 1 + 1 + 1, arr .u64 zl, 48), (w.heap.size + 1 + 1 + 1 + 1 + 1 + 1, arr .u64 zl, 48), (w.heap.size + 1 + 1 + 1 + 1 + 1 + 1 + 1, arr .u64 zl, 48), (w.heap.size + 1 + 1 + 1 + 1 + 1 + 1 + 1 + 1, arr .u64 zl, 48), (gr1_9, arr .u64 z5001, 48), (gr1_10, arr .u64 z5002, 48), (gr2_11, arr .u64 z5005, 48), (gr2_12, arr .u64 z5006, 48), (g2302, (arr .u64 z2301), 48), (gr4_14, arr .u64 z5010, 48), (gr5_15, arr .u64 z5014, 48)] ++ (ent ((some (.pointer (some ⟨uF.heap.size, 0, none⟩)) : Option Value)) ((if (fF 8).isSome = true then arr .u64 z5017 else arr .u64 zl)) 48 ++ (ent (fF 7) ((if (fF 9).isSome = true then arr .u64 z5018 else arr .u64 zl)) 48))) := hB.ins (a := [(w.heap.size, arr .u64 xs, 48), (w.heap.size + 1, arr .u64 az, 48), (w.heap.size + 1 + 1, arr .u64 bs, 48), (w.heap.size + 1 + 1 + 1, arr .u64 cs, 48), (w.heap.size + 1 + 1 + 1 + 1, arr .u64 ds, 48), (w.heap.size + 1 + 1 + 1 + 1 + 1, arr .u64 zl, 48), (w.heap.size + 1 + 1 + 1 + 1 + 1 + 1, arr .u64 zl, 48), (w.heap.size + 1 + 1 + 1 + 1 + 1 + 1 + 1, arr .u64 zl, 48), (w.heap.size + 1 + 1 + 1 + 1 + 1 + 1 + 1 + 1, arr .u64 zl, 48), (gr1_9, arr .u64 z5001, 48), (gr1_10, arr .u64 z5002, 48), (gr2_11, arr .u64 z5005, 48), (gr2_12, arr .u64 z5006, 48), (g2302, (arr .u64 z2301), 48), (gr4_14, arr .u64 z5010, 48), (gr5_15, arr .u64 z5014, 48)]) (b := ent (fF 7) ((if (fF 9).isSome = true then arr .u64 z5018 else arr .u64 zl)) 48) _ _ (by rw [hfF, n8]; simp only [ent_none, List.nil_append, List.append_nil, List.append_assoc, List.cons_append]) (by rw [n8]; simp only [ent_some, List.nil_append, List.append_nil, List.append_assoc, List.cons_append, Option.isSome_none, Bool.false_eq_true, if_false])
      exact hKF _ _ ⟨j0, j1, j2, j3, j4, j5, fun _ h => ⟨_, (Option.some.inj h).symm⟩, j7, hB1⟩
    refine LinAll.cons (fun fF bF uF kF hJF hfF hcF hupF hsF hKF => ?_) ?_
    · obtain ⟨j0, j1, j2, j3, j4, j5, j6, j7, hB⟩ := hJF
      have n9 := hcF.down 9 7 (by kernel_rfl) hfF
      refine step_alloc_row rfl 48 rfl _ (HZzl.out _) ?_
      have hB1 : Blk w (uF.alloc (.cells (arr .u64 zl) 48)) ([(w.heap.size, arr .u64 xs, 48), (w.heap.size + 1, arr .u64 az, 48), (w.heap.size + 1 + 1, arr .u64 bs, 48), (w.heap.size + 1 + 1 + 1, arr .u64 cs, 48), (w.heap.size + 1 + 1 + 1 + 1, arr .u64 ds, 48), (w.heap.size + 1 + 1 + 1 + 1 + 1, arr .u64 zl, 48), (w.heap.size + 1 + 1 + 1 + 1 + 1 + 1, arr .u64 zl, 48), (w.heap.size + 1 + 1 + 1 + 1 + 1 + 1 + 1, arr .u64 zl, 48), (w.heap.size + 1 + 1 + 1 + 1 + 1 + 1 + 1 + 1, arr .u64 zl, 48), (gr1_9, arr .u64 z5001, 48), (gr1_10, arr .u64 z5002, 48), (gr2_11, arr .u64 z5005, 48), (gr2_12, arr .u64 z5006, 48), (g2302, (arr .u64 z2301), 48), (gr4_14, arr .u64 z5010, 48), (gr5_15, arr .u64 z5014, 48)] ++ (ent (fF 6) ((if (fF 8).isSome = true then arr .u64 z5017 else arr .u64 zl)) 48 ++ (ent ((some (.pointer (some ⟨uF.heap.size, 0, none⟩)) : Option Value)) ((if (fF 9).isSome = true then arr .u64 z5018 else arr .u64 zl)) 48))) := hB.ins (a := [(w.heap.size, arr .u64 xs, 48), (w.heap.size + 1, arr .u64 az, 48), (w.heap.size + 1 + 1, arr .u64 bs, 48), (w.heap.size + 1 + 1 + 1, arr .u64 cs, 48), (w.heap.size + 1 + 1 + 1 + 1, arr .u64 ds, 48), (w.heap.size + 1 + 1 + 1 + 1 + 1, arr .u64 zl, 48), (w.heap.size + 1 + 1 + 1 + 1 + 1 + 1, arr .u64 zl, 48), (w.heap.size + 1 + 1 + 1 + 1 + 1 + 1 + 1, arr .u64 zl, 48), (w.heap.size + 1 + 1 + 1 + 1 + 1 + 1 + 1 + 1, arr .u64 zl, 48), (gr1_9, arr .u64 z5001, 48), (gr1_10, arr .u64 z5002, 48), (gr2_11, arr .u64 z5005, 48), (gr2_12, arr .u64 z5006, 48), (g2302, (arr .u64 z2301), 48), (gr4_14, arr .u64 z5010, 48), (gr5_15, arr .u64 z5014, 48)] ++ ent (fF 6) ((if (fF 8).isSome = true then arr .u64 z5017 else arr .u64 zl)) 48) (b := []) _ _ (by rw [hfF, n9]; simp only [ent_none, List.nil_append, List.append_nil, List.append_assoc, List.cons_append]) (by rw [n9]; simp only [ent_some, List.nil_append, List.append_nil, List.append_assoc, List.cons_append, Option.isSome_none, Bool.false_eq_true, if_false])
      exact hKF _ _ ⟨j0, j1, j2, j3, j4, j5, j6, fun _ h => ⟨_, (Option.some.inj h).symm⟩, hB1⟩
    refine LinAll.cons (fun fF bF uF kF hJF hfF hcF hupF hsF hKF => ?_) ?_
    · obtain ⟨j0, j1, j2, j3, j4, j5, j6, j7, hB⟩ := hJF
      have y6 := hupF 6 (by kernel_rfl)
      obtain ⟨v6, s6⟩ := Option.isSome_iff_exists.1 y6
      obtain ⟨gr6_16, rfl⟩ := j6 _ s6
      have y7 := hupF 7 (by kernel_rfl)
      obtain ⟨v7, s7⟩ := Option.isSome_iff_exists.1 y7
      obtain ⟨gr6_17, rfl⟩ := j7 _ s7
      have e21 := hsF.val 6 21 rfl s6
      obtain ⟨e50, p50⟩ := hsF.at hupF 2 50 (by kernel_rfl) rfl j2
      have y2 := hupF 2 (by kernel_rfl)
      obtain ⟨v2, s2⟩ := Option.isSome_iff_exists.1 y2
      have HZ5017 := Lib.hid (j2 _ s2).2
      have hB' := hB
      rw [s6, s7, hfF] at hB'
      refine step_store_whole rfl 48 (.tmp 21) (.tmp 50) rfl (gr6_16) (arr .u64 zl) _ 48 (hB'.get 16 rfl) e21 e50 (arr_len2 _ _ HL5017.out HLzl.out) (lim_s HL5017.out) (all_arr _ _) ?_
      intro w1 hb1 hk1 hz1
      have hB1 : Blk w w1 ([(w.heap.size, arr .u64 xs, 48), (w.heap.size + 1, arr .u64 az, 48), (w.heap.size + 1 + 1, arr .u64 bs, 48), (w.heap.size + 1 + 1 + 1, arr .u64 cs, 48), (w.heap.size + 1 + 1 + 1 + 1, arr .u64 ds, 48), (w.heap.size + 1 + 1 + 1 + 1 + 1, arr .u64 zl, 48), (w.heap.size + 1 + 1 + 1 + 1 + 1 + 1, arr .u64 zl, 48), (w.heap.size + 1 + 1 + 1 + 1 + 1 + 1 + 1, arr .u64 zl, 48), (w.heap.size + 1 + 1 + 1 + 1 + 1 + 1 + 1 + 1, arr .u64 zl, 48), (gr1_9, arr .u64 z5001, 48), (gr1_10, arr .u64 z5002, 48), (gr2_11, arr .u64 z5005, 48), (gr2_12, arr .u64 z5006, 48), (g2302, (arr .u64 z2301), 48), (gr4_14, arr .u64 z5010, 48), (gr5_15, arr .u64 z5014, 48)] ++ (ent (fF 6) ((if ((some undef : Option Value)).isSome = true then arr .u64 z5017 else arr .u64 zl)) 48 ++ (ent (fF 7) ((if (fF 9).isSome = true then arr .u64 z5018 else arr .u64 zl)) 48))) := by rw [s6, s7]; exact hB'.put 16 rfl hk1 hb1
      exact hKF undef w1 ⟨j0, j1, j2, j3, j4, j5, j6, j7, hB1⟩
    refine LinAll.cons (fun fF bF uF kF hJF hfF hcF hupF hsF hKF => ?_) ?_
    · obtain ⟨j0, j1, j2, j3, j4, j5, j6, j7, hB⟩ := hJF
      have y6 := hupF 6 (by kernel_rfl)
      obtain ⟨v6, s6⟩ := Option.isSome_iff_exists.1 y6
      obtain ⟨gr6_16, rfl⟩ := j6 _ s6
      have y7 := hupF 7 (by kernel_rfl)
      obtain ⟨v7, s7⟩ := Option.isSome_iff_exists.1 y7
      obtain ⟨gr6_17, rfl⟩ := j7 _ s7
      have e22 := hsF.val 7 22 rfl s7
      obtain ⟨e53, p53⟩ := hsF.at hupF 5 53 (by kernel_rfl) rfl j5
      have y5 := hupF 5 (by kernel_rfl)
      obtain ⟨v5, s5⟩ := Option.isSome_iff_exists.1 y5
      have HZ5018 := Lib.hid (j5 _ s5).2
      have hB' := hB
      rw [s6, s7, hfF] at hB'
      refine step_store_whole rfl 48 (.tmp 22) (.tmp 53) rfl (gr6_17) (arr .u64 zl) _ 48 (hB'.get 17 rfl) e22 e53 (arr_len2 _ _ HL5018.out HLzl.out) (lim_s HL5018.out) (all_arr _ _) ?_
      intro w1 hb1 hk1 hz1
      have hB1 : Blk w w1 ([(w.heap.size, arr .u64 xs, 48), (w.heap.size + 1, arr .u64 az, 48), (w.heap.size + 1 + 1, arr .u64 bs, 48), (w.heap.size + 1 + 1 + 1, arr .u64 cs, 48), (w.heap.size + 1 + 1 + 1 + 1, arr .u64 ds, 48), (w.heap.size + 1 + 1 + 1 + 1 + 1, arr .u64 zl, 48), (w.heap.size + 1 + 1 + 1 + 1 + 1 + 1, arr .u64 zl, 48), (w.heap.size + 1 + 1 + 1 + 1 + 1 + 1 + 1, arr .u64 zl, 48), (w.heap.size + 1 + 1 + 1 + 1 + 1 + 1 + 1 + 1, arr .u64 zl, 48), (gr1_9, arr .u64 z5001, 48), (gr1_10, arr .u64 z5002, 48), (gr2_11, arr .u64 z5005, 48), (gr2_12, arr .u64 z5006, 48), (g2302, (arr .u64 z2301), 48), (gr4_14, arr .u64 z5010, 48), (gr5_15, arr .u64 z5014, 48)] ++ (ent (fF 6) ((if (fF 8).isSome = true then arr .u64 z5017 else arr .u64 zl)) 48 ++ (ent (fF 7) ((if ((some undef : Option Value)).isSome = true then arr .u64 z5018 else arr .u64 zl)) 48))) := by rw [s6, s7]; exact hB'.put 17 rfl hk1 hb1
      exact hKF undef w1 ⟨j0, j1, j2, j3, j4, j5, j6, j7, hB1⟩
    exact LinAll.nil
  case er6 =>
  intro fF ur6 hall hJF
  obtain ⟨j0, j1, j2, j3, j4, j5, j6, j7, hB⟩ := hJF
  obtain ⟨v0, h0⟩ := Option.isSome_iff_exists.1 (hall 0 (by decide))
  obtain ⟨rfl, p0⟩ := j0 _ h0
  obtain ⟨v1, h1⟩ := Option.isSome_iff_exists.1 (hall 1 (by decide))
  obtain ⟨rfl, p1⟩ := j1 _ h1
  obtain ⟨v2, h2⟩ := Option.isSome_iff_exists.1 (hall 2 (by decide))
  obtain ⟨rfl, p2⟩ := j2 _ h2
  obtain ⟨v3, h3⟩ := Option.isSome_iff_exists.1 (hall 3 (by decide))
  obtain ⟨rfl, p3⟩ := j3 _ h3
  obtain ⟨v4, h4⟩ := Option.isSome_iff_exists.1 (hall 4 (by decide))
  obtain ⟨rfl, p4⟩ := j4 _ h4
  obtain ⟨v5, h5⟩ := Option.isSome_iff_exists.1 (hall 5 (by decide))
  obtain ⟨rfl, p5⟩ := j5 _ h5
  obtain ⟨v6, h6⟩ := Option.isSome_iff_exists.1 (hall 6 (by decide))
  obtain ⟨gr6_16, rfl⟩ := j6 _ h6
  obtain ⟨v7, h7⟩ := Option.isSome_iff_exists.1 (hall 7 (by decide))
  obtain ⟨gr6_17, rfl⟩ := j7 _ h7
  obtain ⟨v8, h8⟩ := Option.isSome_iff_exists.1 (hall 8 (by decide))
  obtain ⟨v9, h9⟩ := Option.isSome_iff_exists.1 (hall 9 (by decide))
  rw [h6, h7, h8, h9] at hB
  have HBr6 : Hid (Blk w ur6 [(w.heap.size, arr .u64 xs, 48), (w.heap.size + 1, arr .u64 az, 48), (w.heap.size + 1 + 1, arr .u64 bs, 48), (w.heap.size + 1 + 1 + 1, arr .u64 cs, 48), (w.heap.size + 1 + 1 + 1 + 1, arr .u64 ds, 48), (w.heap.size + 1 + 1 + 1 + 1 + 1, arr .u64 zl, 48), (w.heap.size + 1 + 1 + 1 + 1 + 1 + 1, arr .u64 zl, 48), (w.heap.size + 1 + 1 + 1 + 1 + 1 + 1 + 1, arr .u64 zl, 48), (w.heap.size + 1 + 1 + 1 + 1 + 1 + 1 + 1 + 1, arr .u64 zl, 48), (gr1_9, arr .u64 z5001, 48), (gr1_10, arr .u64 z5002, 48), (gr2_11, arr .u64 z5005, 48), (gr2_12, arr .u64 z5006, 48), (g2302, (arr .u64 z2301), 48), (gr4_14, arr .u64 z5010, 48), (gr5_15, arr .u64 z5014, 48), (gr6_16, arr .u64 z5017, 48), (gr6_17, arr .u64 z5018, 48)]) := Lib.hid hB
  have HZ5017 := Lib.hid p2
  have HZ5018 := Lib.hid p5
  simp only [laid, Nat.zero_add, Nat.reduceAdd, h0, h1, h2, h3, h4, h5, h6, h7, h8, h9, Act.put, List.setIfInBounds_toArray, List.set_cons_zero, List.set_cons_succ]
  clear j0 j1 j2 j3 j4 j5 j6 j7 hB h0 h1 h2 h3 h4 h5 h6 h7 h8 h9 hall fF HBr5
  clear p0 p1 p2 p3 p4 p5
  (try simp only [Exit.then])
  go_upto_region 7 with fail
  (try simp only [World.size_alloc, Act.put, List.setIfInBounds_toArray, List.set_cons_zero, List.set_cons_succ])
  obtain ⟨z5021, hz5021⟩ : ∃ z : List Int, z = nar (dig 18446744073709551616 4 (fmul (fmul (fadd a b) (fadd a b)) (fmul (fsub a b) (fsub a b)))) := ⟨_, rfl⟩
  have HE5021 := Lib.hid hz5021
  have HL5021 : Hid (z5021.length = 4) := Lib.hid (by rw [hz5021]; exact (nar_len _).trans (dig_len _ _ _))
  clear hz5021
  obtain ⟨z5022, hz5022⟩ : ∃ z : List Int, z = nar (dig 18446744073709551616 4 (fmul 121665 (fsub (fmul (fadd a b) (fadd a b)) (fmul (fsub a b) (fsub a b))))) := ⟨_, rfl⟩
  have HE5022 := Lib.hid hz5022
  have HL5022 : Hid (z5022.length = 4) := Lib.hid (by rw [hz5022]; exact (nar_len _).trans (dig_len _ _ _))
  clear hz5022
  obtain ⟨z5023, hz5023⟩ : ∃ z : List Int, z = nar (dig 18446744073709551616 4 (fadd (fmul (fadd a b) (fadd a b)) (fmul 121665 (fsub (fmul (fadd a b) (fadd a b)) (fmul (fsub a b) (fsub a b)))))) := ⟨_, rfl⟩
  have HE5023 := Lib.hid hz5023
  have HL5023 : Hid (z5023.length = 4) := Lib.hid (by rw [hz5023]; exact (nar_len _).trans (dig_len _ _ _))
  clear hz5023
  obtain ⟨z5024, hz5024⟩ : ∃ z : List Int, z = nar (dig 18446744073709551616 4 (fmul (fsub (fmul (fadd a b) (fadd a b)) (fmul (fsub a b) (fsub a b))) (fadd (fmul (fadd a b) (fadd a b)) (fmul 121665 (fsub (fmul (fadd a b) (fadd a b)) (fmul (fsub a b) (fsub a b))))))) := ⟨_, rfl⟩
  have HE5024 := Lib.hid hz5024
  have HL5024 : Hid (z5024.length = 4) := Lib.hid (by rw [hz5024]; exact (nar_len _).trans (dig_len _ _ _))
  clear hz5024
  obtain ⟨z5025, hz5025⟩ : ∃ z : List Int, z = nar (dig 18446744073709551616 4 (fmul (fadd (fmul (fsub c d) (fadd a b)) (fmul (fadd c d) (fsub a b))) (fadd (fmul (fsub c d) (fadd a b)) (fmul (fadd c d) (fsub a b))))) := ⟨_, rfl⟩
  have HE5025 := Lib.hid hz5025
  have HL5025 : Hid (z5025.length = 4) := Lib.hid (by rw [hz5025]; exact (nar_len _).trans (dig_len _ _ _))
  clear hz5025
  obtain ⟨z5026, hz5026⟩ : ∃ z : List Int, z = nar (dig 18446744073709551616 4 (fmul (fsub (fmul (fsub c d) (fadd a b)) (fmul (fadd c d) (fsub a b))) (fsub (fmul (fsub c d) (fadd a b)) (fmul (fadd c d) (fsub a b))))) := ⟨_, rfl⟩
  have HE5026 := Lib.hid hz5026
  have HL5026 : Hid (z5026.length = 4) := Lib.hid (by rw [hz5026]; exact (nar_len _).trans (dig_len _ _ _))
  clear hz5026
  obtain ⟨z5027, hz5027⟩ : ∃ z : List Int, z = nar (dig 18446744073709551616 4 (fmul x (fmul (fsub (fmul (fsub c d) (fadd a b)) (fmul (fadd c d) (fsub a b))) (fsub (fmul (fsub c d) (fadd a b)) (fmul (fadd c d) (fsub a b)))))) := ⟨_, rfl⟩
  have HE5027 := Lib.hid hz5027
  have HL5027 : Hid (z5027.length = 4) := Lib.hid (by rw [hz5027]; exact (nar_len _).trans (dig_len _ _ _))
  clear hz5027
  refine wp_region_lin (fun (fF : Fill) (uF : World) => (∀ v, fF 0 = some v → v = .agg (arr .u64 z5005) ∧ True) ∧ (∀ v, fF 1 = some v → v = .agg (arr .u64 z5006) ∧ True) ∧ (∀ v, fF 2 = some v → v = .agg (arr .u64 z5021) ∧ N4 z5021 (fmul (fmul (fadd a b) (fadd a b)) (fmul (fsub a b) (fsub a b)))) ∧ (∀ v, fF 3 = some v → v = .agg (arr .u64 z2301) ∧ True) ∧ (∀ v, fF 4 = some v → v = .agg (arr .u64 z5005) ∧ True) ∧ (∀ v, fF 5 = some v → v = .agg (arr .u64 ks) ∧ True) ∧ (∀ v, fF 6 = some v → v = .agg (arr .u64 z2301) ∧ True) ∧ (∀ v, fF 7 = some v → v = .agg (arr .u64 z5022) ∧ N4 z5022 (fmul 121665 (fsub (fmul (fadd a b) (fadd a b)) (fmul (fsub a b) (fsub a b))))) ∧ (∀ v, fF 8 = some v → v = .agg (arr .u64 z5023) ∧ N4 z5023 (fadd (fmul (fadd a b) (fadd a b)) (fmul 121665 (fsub (fmul (fadd a b) (fadd a b)) (fmul (fsub a b) (fsub a b)))))) ∧ (∀ v, fF 9 = some v → v = .agg (arr .u64 z5024) ∧ N4 z5024 (fmul (fsub (fmul (fadd a b) (fadd a b)) (fmul (fsub a b) (fsub a b))) (fadd (fmul (fadd a b) (fadd a b)) (fmul 121665 (fsub (fmul (fadd a b) (fadd a b)) (fmul (fsub a b) (fsub a b))))))) ∧ (∀ v, fF 10 = some v → v = .agg (arr .u64 z5017) ∧ True) ∧ (∀ v, fF 11 = some v → v = .agg (arr .u64 z5017) ∧ True) ∧ (∀ v, fF 12 = some v → v = .agg (arr .u64 z5025) ∧ N4 z5025 (fmul (fadd (fmul (fsub c d) (fadd a b)) (fmul (fadd c d) (fsub a b))) (fadd (fmul (fsub c d) (fadd a b)) (fmul (fadd c d) (fsub a b))))) ∧ (∀ v, fF 13 = some v → v = .agg (arr .u64 xs) ∧ True) ∧ (∀ v, fF 14 = some v → v = .agg (arr .u64 z5018) ∧ True) ∧ (∀ v, fF 15 = some v → v = .agg (arr .u64 z5018) ∧ True) ∧ (∀ v, fF 16 = some v → v = .agg (arr .u64 z5026) ∧ N4 z5026 (fmul (fsub (fmul (fsub c d) (fadd a b)) (fmul (fadd c d) (fsub a b))) (fsub (fmul (fsub c d) (fadd a b)) (fmul (fadd c d) (fsub a b))))) ∧ (∀ v, fF 17 = some v → v = .agg (arr .u64 z5027) ∧ N4 z5027 (fmul x (fmul (fsub (fmul (fsub c d) (fadd a b)) (fmul (fadd c d) (fsub a b))) (fsub (fmul (fsub c d) (fadd a b)) (fmul (fadd c d) (fsub a b)))))) ∧ Blk w uF ([(w.heap.size, arr .u64 xs, 48), (w.heap.size + 1, arr .u64 az, 48), (w.heap.size + 1 + 1, arr .u64 bs, 48), (w.heap.size + 1 + 1 + 1, arr .u64 cs, 48), (w.heap.size + 1 + 1 + 1 + 1, arr .u64 ds, 48), (w.heap.size + 1 + 1 + 1 + 1 + 1, (if (fF 18).isSome = true then arr .u64 z5021 else arr .u64 zl), 48), (w.heap.size + 1 + 1 + 1 + 1 + 1 + 1, (if (fF 19).isSome = true then arr .u64 z5024 else arr .u64 zl), 48), (w.heap.size + 1 + 1 + 1 + 1 + 1 + 1 + 1, (if (fF 20).isSome = true then arr .u64 z5025 else arr .u64 zl), 48), (w.heap.size + 1 + 1 + 1 + 1 + 1 + 1 + 1 + 1, (if (fF 21).isSome = true then arr .u64 z5027 else arr .u64 zl), 48), (gr1_9, arr .u64 z5001, 48), (gr1_10, arr .u64 z5002, 48), (gr2_11, arr .u64 z5005, 48), (gr2_12, arr .u64 z5006, 48), (g2302, (arr .u64 z2301), 48), (gr4_14, arr .u64 z5010, 48), (gr5_15, arr .u64 z5014, 48), (gr6_16, arr .u64 z5017, 48), (gr6_17, arr .u64 z5018, 48)])) (by kernel_rfl) (by kernel_rfl) ?zr7 ?sr7 ?er7
  case zr7 => exact ⟨fun _ h => (by cases h), fun _ h => (by cases h), fun _ h => (by cases h), fun _ h => (by cases h), fun _ h => (by cases h), fun _ h => (by cases h), fun _ h => (by cases h), fun _ h => (by cases h), fun _ h => (by cases h), fun _ h => (by cases h), fun _ h => (by cases h), fun _ h => (by cases h), fun _ h => (by cases h), fun _ h => (by cases h), fun _ h => (by cases h), fun _ h => (by cases h), fun _ h => (by cases h), fun _ h => (by cases h), HBr6.out.drew⟩
  case sr7 =>
    refine LinAll.cons (fun fF bF uF kF hJF hfF hcF hupF hsF hKF => ?_) ?_
    · obtain ⟨j0, j1, j2, j3, j4, j5, j6, j7, j8, j9, j10, j11, j12, j13, j14, j15, j16, j17, hB⟩ := hJF
      have e16 : bF.eval (.tmp 16) = .pointer (some ⟨gr2_11, 0, none⟩) := hsF.old' 16 (by kernel_rfl) rfl
      have hB' := hB
      refine step_load_part rfl 48 _ rfl (gr2_11) (0) (arr .u64 z5005) 48 (0, 0) _ (hB'.get 11 rfl) e16 .u64 z5005 (arr_part _ _) Try.underlying48 rfl (lim_i HL5005.out) ?_
      exact hKF _ _ ⟨fun _ h => ⟨(Option.some.inj h).symm, trivial⟩, j1, j2, j3, j4, j5, j6, j7, j8, j9, j10, j11, j12, j13, j14, j15, j16, j17, hB⟩
    refine LinAll.cons (fun fF bF uF kF hJF hfF hcF hupF hsF hKF => ?_) ?_
    · obtain ⟨j0, j1, j2, j3, j4, j5, j6, j7, j8, j9, j10, j11, j12, j13, j14, j15, j16, j17, hB⟩ := hJF
      have e17 : bF.eval (.tmp 17) = .pointer (some ⟨gr2_12, 0, none⟩) := hsF.old' 17 (by kernel_rfl) rfl
      have hB' := hB
      refine step_load_part rfl 48 _ rfl (gr2_12) (0) (arr .u64 z5006) 48 (0, 0) _ (hB'.get 12 rfl) e17 .u64 z5006 (arr_part _ _) Try.underlying48 rfl (lim_i HL5006.out) ?_
      exact hKF _ _ ⟨j0, fun _ h => ⟨(Option.some.inj h).symm, trivial⟩, j2, j3, j4, j5, j6, j7, j8, j9, j10, j11, j12, j13, j14, j15, j16, j17, hB⟩
    refine LinAll.cons (fun fF bF uF kF hJF hfF hcF hupF hsF hKF => ?_) ?_
    · obtain ⟨j0, j1, j2, j3, j4, j5, j6, j7, j8, j9, j10, j11, j12, j13, j14, j15, j16, j17, hB⟩ := hJF
      obtain ⟨e54, p54⟩ := hsF.at hupF 0 54 (by kernel_rfl) rfl j0
      obtain ⟨e55, p55⟩ := hsF.at hupF 1 55 (by kernel_rfl) rfl j1
      refine lin_call rfl 24 [Operand.tmp 54, Operand.tmp 55] _ [.agg (arr .u64 z5005), .agg (arr .u64 z5006)] rfl (by simp only [List.map_cons, List.map_nil, e54, e55] <;> rfl) (fun _ _ => by kernel_rfl) ?_
      refine Calls.mono (times_any _ _ _ HZ5005.out HZ5006.out) ?_
      rintro e w1 ⟨y5028_0, rfl, r5028_0, hb⟩
      obtain rfl : y5028_0 = z5021 := r5028_0.1.trans HE5021.out.symm
      exact ⟨_, rfl, hKF _ _ ⟨j0, j1, fun _ h => ⟨(Option.some.inj h).symm, r5028_0⟩, j3, j4, j5, j6, j7, j8, j9, j10, j11, j12, j13, j14, j15, j16, j17, hB.kept hb⟩⟩
    refine LinAll.cons (fun fF bF uF kF hJF hfF hcF hupF hsF hKF => ?_) ?_
    · obtain ⟨j0, j1, j2, j3, j4, j5, j6, j7, j8, j9, j10, j11, j12, j13, j14, j15, j16, j17, hB⟩ := hJF
      have e18 : bF.eval (.tmp 18) = .pointer (some ⟨g2302, 0, none⟩) := hsF.old' 18 (by kernel_rfl) rfl
      have hB' := hB
      refine step_load_part rfl 48 _ rfl (g2302) (0) ((arr .u64 z2301)) 48 (0, 0) _ (hB'.get 13 rfl) e18 .u64 z2301 (arr_part _ _) Try.underlying48 rfl (lim_i HL2301.out) ?_
      exact hKF _ _ ⟨j0, j1, j2, fun _ h => ⟨(Option.some.inj h).symm, trivial⟩, j4, j5, j6, j7, j8, j9, j10, j11, j12, j13, j14, j15, j16, j17, hB⟩
    refine LinAll.cons (fun fF bF uF kF hJF hfF hcF hupF hsF hKF => ?_) ?_
    · obtain ⟨j0, j1, j2, j3, j4, j5, j6, j7, j8, j9, j10, j11, j12, j13, j14, j15, j16, j17, hB⟩ := hJF
      have e16 : bF.eval (.tmp 16) = .pointer (some ⟨gr2_11, 0, none⟩) := hsF.old' 16 (by kernel_rfl) rfl
      have hB' := hB
      refine step_load_part rfl 48 _ rfl (gr2_11) (0) (arr .u64 z5005) 48 (0, 0) _ (hB'.get 11 rfl) e16 .u64 z5005 (arr_part _ _) Try.underlying48 rfl (lim_i HL5005.out) ?_
      exact hKF _ _ ⟨j0, j1, j2, j3, fun _ h => ⟨(Option.some.inj h).symm, trivial⟩, j5, j6, j7, j8, j9, j10, j11, j12, j13, j14, j15, j16, j17, hB⟩
    refine LinAll.cons (fun fF bF uF kF hJF hfF hcF hupF hsF hKF => ?_) ?_
    · obtain ⟨j0, j1, j2, j3, j4, j5, j6, j7, j8, j9, j10, j11, j12, j13, j14, j15, j16, j17, hB⟩ := hJF
      exact lin_pure rfl (.agg (arr .u64 ks)) (exec_build_l 48 _ rfl #[(0, .int .u64 121665)] (by simp only [List.map_cons, List.map_nil] <;> rfl) _ (HBK.out _)) (hKF _ _ ⟨j0, j1, j2, j3, j4, fun _ h => ⟨(Option.some.inj h).symm, trivial⟩, j6, j7, j8, j9, j10, j11, j12, j13, j14, j15, j16, j17, hB⟩)
    refine LinAll.cons (fun fF bF uF kF hJF hfF hcF hupF hsF hKF => ?_) ?_
    · obtain ⟨j0, j1, j2, j3, j4, j5, j6, j7, j8, j9, j10, j11, j12, j13, j14, j15, j16, j17, hB⟩ := hJF
      have e18 : bF.eval (.tmp 18) = .pointer (some ⟨g2302, 0, none⟩) := hsF.old' 18 (by kernel_rfl) rfl
      have hB' := hB
      refine step_load_part rfl 48 _ rfl (g2302) (0) ((arr .u64 z2301)) 48 (0, 0) _ (hB'.get 13 rfl) e18 .u64 z2301 (arr_part _ _) Try.underlying48 rfl (lim_i HL2301.out) ?_
      exact hKF _ _ ⟨j0, j1, j2, j3, j4, j5, fun _ h => ⟨(Option.some.inj h).symm, trivial⟩, j7, j8, j9, j10, j11, j12, j13, j14, j15, j16, j17, hB⟩
    refine LinAll.cons (fun fF bF uF kF hJF hfF hcF hupF hsF hKF => ?_) ?_
    · obtain ⟨j0, j1, j2, j3, j4, j5, j6, j7, j8, j9, j10, j11, j12, j13, j14, j15, j16, j17, hB⟩ := hJF
      obtain ⟨e59, p59⟩ := hsF.at hupF 5 59 (by kernel_rfl) rfl j5
      obtain ⟨e60, p60⟩ := hsF.at hupF 6 60 (by kernel_rfl) rfl j6
      refine lin_call rfl 24 [Operand.tmp 59, Operand.tmp 60] _ [.agg (arr .u64 ks), .agg (arr .u64 z2301)] rfl (by simp only [List.map_cons, List.map_nil, e59, e60] <;> rfl) (fun _ _ => by kernel_rfl) ?_
      refine Calls.mono (times_any _ _ _ HK.out HZ2301.out) ?_
      rintro e w1 ⟨y5029_0, rfl, r5029_0, hb⟩
      obtain rfl : y5029_0 = z5022 := r5029_0.1.trans HE5022.out.symm
      exact ⟨_, rfl, hKF _ _ ⟨j0, j1, j2, j3, j4, j5, j6, fun _ h => ⟨(Option.some.inj h).symm, r5029_0⟩, j8, j9, j10, j11, j12, j13, j14, j15, j16, j17, hB.kept hb⟩⟩
    refine LinAll.cons (fun fF bF uF kF hJF hfF hcF hupF hsF hKF => ?_) ?_
    · obtain ⟨j0, j1, j2, j3, j4, j5, j6, j7, j8, j9, j10, j11, j12, j13, j14, j15, j16, j17, hB⟩ := hJF
      obtain ⟨e58, p58⟩ := hsF.at hupF 4 58 (by kernel_rfl) rfl j4
      obtain ⟨e61, p61⟩ := hsF.at hupF 7 61 (by kernel_rfl) rfl j7
      have y7 := hupF 7 (by kernel_rfl)
      obtain ⟨v7, s7⟩ := Option.isSome_iff_exists.1 y7
      have HZ5022 := Lib.hid (j7 _ s7).2
      refine lin_call rfl 36 [Operand.tmp 58, Operand.tmp 61] _ [.agg (arr .u64 z5005), .agg (arr .u64 z5022)] rfl (by simp only [List.map_cons, List.map_nil, e58, e61] <;> rfl) (fun _ _ => by kernel_rfl) ?_
      refine Calls.mono (plus_any _ _ _ HZ5005.out HZ5022.out) ?_
      rintro e w1 ⟨y5030_0, rfl, r5030_0, hb⟩
      obtain rfl : y5030_0 = z5023 := r5030_0.1.trans HE5023.out.symm
      exact ⟨_, rfl, hKF _ _ ⟨j0, j1, j2, j3, j4, j5, j6, j7, fun _ h => ⟨(Option.some.inj h).symm, r5030_0⟩, j9, j10, j11, j12, j13, j14, j15, j16, j17, hB.kept hb⟩⟩
    refine LinAll.cons (fun fF bF uF kF hJF hfF hcF hupF hsF hKF => ?_) ?_
    · obtain ⟨j0, j1, j2, j3, j4, j5, j6, j7, j8, j9, j10, j11, j12, j13, j14, j15, j16, j17, hB⟩ := hJF
      obtain ⟨e57, p57⟩ := hsF.at hupF 3 57 (by kernel_rfl) rfl j3
      obtain ⟨e62, p62⟩ := hsF.at hupF 8 62 (by kernel_rfl) rfl j8
      have y8 := hupF 8 (by kernel_rfl)
      obtain ⟨v8, s8⟩ := Option.isSome_iff_exists.1 y8
      have HZ5023 := Lib.hid (j8 _ s8).2
      refine lin_call rfl 24 [Operand.tmp 57, Operand.tmp 62] _ [.agg (arr .u64 z2301), .agg (arr .u64 z5023)] rfl (by simp only [List.map_cons, List.map_nil, e57, e62] <;> rfl) (fun _ _ => by kernel_rfl) ?_
      refine Calls.mono (times_any _ _ _ HZ2301.out HZ5023.out) ?_
      rintro e w1 ⟨y5031_0, rfl, r5031_0, hb⟩
      obtain rfl : y5031_0 = z5024 := r5031_0.1.trans HE5024.out.symm
      exact ⟨_, rfl, hKF _ _ ⟨j0, j1, j2, j3, j4, j5, j6, j7, j8, fun _ h => ⟨(Option.some.inj h).symm, r5031_0⟩, j10, j11, j12, j13, j14, j15, j16, j17, hB.kept hb⟩⟩
    refine LinAll.cons (fun fF bF uF kF hJF hfF hcF hupF hsF hKF => ?_) ?_
    · obtain ⟨j0, j1, j2, j3, j4, j5, j6, j7, j8, j9, j10, j11, j12, j13, j14, j15, j16, j17, hB⟩ := hJF
      have e21 : bF.eval (.tmp 21) = .pointer (some ⟨gr6_16, 0, none⟩) := hsF.old' 21 (by kernel_rfl) rfl
      have hB' := hB
      refine step_load_part rfl 48 _ rfl (gr6_16) (0) (arr .u64 z5017) 48 (0, 0) _ (hB'.get 16 rfl) e21 .u64 z5017 (arr_part _ _) Try.underlying48 rfl (lim_i HL5017.out) ?_
      exact hKF _ _ ⟨j0, j1, j2, j3, j4, j5, j6, j7, j8, j9, fun _ h => ⟨(Option.some.inj h).symm, trivial⟩, j11, j12, j13, j14, j15, j16, j17, hB⟩
    refine LinAll.cons (fun fF bF uF kF hJF hfF hcF hupF hsF hKF => ?_) ?_
    · obtain ⟨j0, j1, j2, j3, j4, j5, j6, j7, j8, j9, j10, j11, j12, j13, j14, j15, j16, j17, hB⟩ := hJF
      have e21 : bF.eval (.tmp 21) = .pointer (some ⟨gr6_16, 0, none⟩) := hsF.old' 21 (by kernel_rfl) rfl
      have hB' := hB
      refine step_load_part rfl 48 _ rfl (gr6_16) (0) (arr .u64 z5017) 48 (0, 0) _ (hB'.get 16 rfl) e21 .u64 z5017 (arr_part _ _) Try.underlying48 rfl (lim_i HL5017.out) ?_
      exact hKF _ _ ⟨j0, j1, j2, j3, j4, j5, j6, j7, j8, j9, j10, fun _ h => ⟨(Option.some.inj h).symm, trivial⟩, j12, j13, j14, j15, j16, j17, hB⟩
    refine LinAll.cons (fun fF bF uF kF hJF hfF hcF hupF hsF hKF => ?_) ?_
    · obtain ⟨j0, j1, j2, j3, j4, j5, j6, j7, j8, j9, j10, j11, j12, j13, j14, j15, j16, j17, hB⟩ := hJF
      obtain ⟨e64, p64⟩ := hsF.at hupF 10 64 (by kernel_rfl) rfl j10
      obtain ⟨e65, p65⟩ := hsF.at hupF 11 65 (by kernel_rfl) rfl j11
      refine lin_call rfl 24 [Operand.tmp 64, Operand.tmp 65] _ [.agg (arr .u64 z5017), .agg (arr .u64 z5017)] rfl (by simp only [List.map_cons, List.map_nil, e64, e65] <;> rfl) (fun _ _ => by kernel_rfl) ?_
      refine Calls.mono (times_any _ _ _ HZ5017.out HZ5017.out) ?_
      rintro e w1 ⟨y5032_0, rfl, r5032_0, hb⟩
      obtain rfl : y5032_0 = z5025 := r5032_0.1.trans HE5025.out.symm
      exact ⟨_, rfl, hKF _ _ ⟨j0, j1, j2, j3, j4, j5, j6, j7, j8, j9, j10, j11, fun _ h => ⟨(Option.some.inj h).symm, r5032_0⟩, j13, j14, j15, j16, j17, hB.kept hb⟩⟩
    refine LinAll.cons (fun fF bF uF kF hJF hfF hcF hupF hsF hKF => ?_) ?_
    · obtain ⟨j0, j1, j2, j3, j4, j5, j6, j7, j8, j9, j10, j11, j12, j13, j14, j15, j16, j17, hB⟩ := hJF
      have e5 : bF.eval (.tmp 5) = .pointer (some ⟨w.heap.size, 0, none⟩) := hsF.old' 5 (by kernel_rfl) rfl
      have hB' := hB
      refine step_load_part rfl 48 _ rfl (w.heap.size) (0) (arr .u64 xs) 48 (0, 0) _ (hB'.get 0 rfl) e5 .u64 xs (arr_part _ _) Try.underlying48 rfl (lim_i HLx.out) ?_
      exact hKF _ _ ⟨j0, j1, j2, j3, j4, j5, j6, j7, j8, j9, j10, j11, j12, fun _ h => ⟨(Option.some.inj h).symm, trivial⟩, j14, j15, j16, j17, hB⟩
    refine LinAll.cons (fun fF bF uF kF hJF hfF hcF hupF hsF hKF => ?_) ?_
    · obtain ⟨j0, j1, j2, j3, j4, j5, j6, j7, j8, j9, j10, j11, j12, j13, j14, j15, j16, j17, hB⟩ := hJF
      have e22 : bF.eval (.tmp 22) = .pointer (some ⟨gr6_17, 0, none⟩) := hsF.old' 22 (by kernel_rfl) rfl
      have hB' := hB
      refine step_load_part rfl 48 _ rfl (gr6_17) (0) (arr .u64 z5018) 48 (0, 0) _ (hB'.get 17 rfl) e22 .u64 z5018 (arr_part _ _) Try.underlying48 rfl (lim_i HL5018.out) ?_
      exact hKF _ _ ⟨j0, j1, j2, j3, j4, j5, j6, j7, j8, j9, j10, j11, j12, j13, fun _ h => ⟨(Option.some.inj h).symm, trivial⟩, j15, j16, j17, hB⟩
    refine LinAll.cons (fun fF bF uF kF hJF hfF hcF hupF hsF hKF => ?_) ?_
    · obtain ⟨j0, j1, j2, j3, j4, j5, j6, j7, j8, j9, j10, j11, j12, j13, j14, j15, j16, j17, hB⟩ := hJF
      have e22 : bF.eval (.tmp 22) = .pointer (some ⟨gr6_17, 0, none⟩) := hsF.old' 22 (by kernel_rfl) rfl
      have hB' := hB
      refine step_load_part rfl 48 _ rfl (gr6_17) (0) (arr .u64 z5018) 48 (0, 0) _ (hB'.get 17 rfl) e22 .u64 z5018 (arr_part _ _) Try.underlying48 rfl (lim_i HL5018.out) ?_
      exact hKF _ _ ⟨j0, j1, j2, j3, j4, j5, j6, j7, j8, j9, j10, j11, j12, j13, j14, fun _ h => ⟨(Option.some.inj h).symm, trivial⟩, j16, j17, hB⟩
    refine LinAll.cons (fun fF bF uF kF hJF hfF hcF hupF hsF hKF => ?_) ?_
    · obtain ⟨j0, j1, j2, j3, j4, j5, j6, j7, j8, j9, j10, j11, j12, j13, j14, j15, j16, j17, hB⟩ := hJF
      obtain ⟨e68, p68⟩ := hsF.at hupF 14 68 (by kernel_rfl) rfl j14
      obtain ⟨e69, p69⟩ := hsF.at hupF 15 69 (by kernel_rfl) rfl j15
      refine lin_call rfl 24 [Operand.tmp 68, Operand.tmp 69] _ [.agg (arr .u64 z5018), .agg (arr .u64 z5018)] rfl (by simp only [List.map_cons, List.map_nil, e68, e69] <;> rfl) (fun _ _ => by kernel_rfl) ?_
      refine Calls.mono (times_any _ _ _ HZ5018.out HZ5018.out) ?_
      rintro e w1 ⟨y5033_0, rfl, r5033_0, hb⟩
      obtain rfl : y5033_0 = z5026 := r5033_0.1.trans HE5026.out.symm
      exact ⟨_, rfl, hKF _ _ ⟨j0, j1, j2, j3, j4, j5, j6, j7, j8, j9, j10, j11, j12, j13, j14, j15, fun _ h => ⟨(Option.some.inj h).symm, r5033_0⟩, j17, hB.kept hb⟩⟩
    refine LinAll.cons (fun fF bF uF kF hJF hfF hcF hupF hsF hKF => ?_) ?_
    · obtain ⟨j0, j1, j2, j3, j4, j5, j6, j7, j8, j9, j10, j11, j12, j13, j14, j15, j16, j17, hB⟩ := hJF
      obtain ⟨e67, p67⟩ := hsF.at hupF 13 67 (by kernel_rfl) rfl j13
      obtain ⟨e70, p70⟩ := hsF.at hupF 16 70 (by kernel_rfl) rfl j16
      have y16 := hupF 16 (by kernel_rfl)
      obtain ⟨v16, s16⟩ := Option.isSome_iff_exists.1 y16
      have HZ5026 := Lib.hid (j16 _ s16).2
      refine lin_call rfl 24 [Operand.tmp 67, Operand.tmp 70] _ [.agg (arr .u64 xs), .agg (arr .u64 z5026)] rfl (by simp only [List.map_cons, List.map_nil, e67, e70] <;> rfl) (fun _ _ => by kernel_rfl) ?_
      refine Calls.mono (times_any _ _ _ HX.out HZ5026.out) ?_
      rintro e w1 ⟨y5034_0, rfl, r5034_0, hb⟩
      obtain rfl : y5034_0 = z5027 := r5034_0.1.trans HE5027.out.symm
      exact ⟨_, rfl, hKF _ _ ⟨j0, j1, j2, j3, j4, j5, j6, j7, j8, j9, j10, j11, j12, j13, j14, j15, j16, fun _ h => ⟨(Option.some.inj h).symm, r5034_0⟩, hB.kept hb⟩⟩
    refine LinAll.cons (fun fF bF uF kF hJF hfF hcF hupF hsF hKF => ?_) ?_
    · obtain ⟨j0, j1, j2, j3, j4, j5, j6, j7, j8, j9, j10, j11, j12, j13, j14, j15, j16, j17, hB⟩ := hJF
      have e10 : bF.eval (.tmp 10) = .pointer (some ⟨w.heap.size + 1 + 1 + 1 + 1 + 1, 0, none⟩) := hsF.old' 10 (by kernel_rfl) rfl
      obtain ⟨e56, p56⟩ := hsF.at hupF 2 56 (by kernel_rfl) rfl j2
      have y2 := hupF 2 (by kernel_rfl)
      obtain ⟨v2, s2⟩ := Option.isSome_iff_exists.1 y2
      have HZ5021 := Lib.hid (j2 _ s2).2
      have hB' := hB
      rw [hfF] at hB'
      refine step_store_whole rfl 48 (.tmp 10) (.tmp 56) rfl (w.heap.size + 1 + 1 + 1 + 1 + 1) (arr .u64 zl) _ 48 (hB'.get 5 rfl) e10 e56 (arr_len2 _ _ HL5021.out HLzl.out) (lim_s HL5021.out) (all_arr _ _) ?_
      intro w1 hb1 hk1 hz1
      have hB1 : Blk w w1 ([(w.heap.size, arr .u64 xs, 48), (w.heap.size + 1, arr .u64 az, 48), (w.heap.size + 1 + 1, arr .u64 bs, 48), (w.heap.size + 1 + 1 + 1, arr .u64 cs, 48), (w.heap.size + 1 + 1 + 1 + 1, arr .u64 ds, 48), (w.heap.size + 1 + 1 + 1 + 1 + 1, (if ((some undef : Option Value)).isSome = true then arr .u64 z5021 else arr .u64 zl), 48), (w.heap.size + 1 + 1 + 1 + 1 + 1 + 1, (if (fF 19).isSome = true then arr .u64 z5024 else arr .u64 zl), 48), (w.heap.size + 1 + 1 + 1 + 1 + 1 + 1 + 1, (if (fF 20).isSome = true then arr .u64 z5025 else arr .u64 zl), 48), (w.heap.size + 1 + 1 + 1 + 1 + 1 + 1 + 1 + 1, (if (fF 21).isSome = true then arr .u64 z5027 else arr .u64 zl), 48), (gr1_9, arr .u64 z5001, 48), (gr1_10, arr .u64 z5002, 48), (gr2_11, arr .u64 z5005, 48), (gr2_12, arr .u64 z5006, 48), (g2302, (arr .u64 z2301), 48), (gr4_14, arr .u64 z5010, 48), (gr5_15, arr .u64 z5014, 48), (gr6_16, arr .u64 z5017, 48), (gr6_17, arr .u64 z5018, 48)]) := hB'.put 5 rfl hk1 hb1
      exact hKF undef w1 ⟨j0, j1, j2, j3, j4, j5, j6, j7, j8, j9, j10, j11, j12, j13, j14, j15, j16, j17, hB1⟩
    refine LinAll.cons (fun fF bF uF kF hJF hfF hcF hupF hsF hKF => ?_) ?_
    · obtain ⟨j0, j1, j2, j3, j4, j5, j6, j7, j8, j9, j10, j11, j12, j13, j14, j15, j16, j17, hB⟩ := hJF
      have e11 : bF.eval (.tmp 11) = .pointer (some ⟨w.heap.size + 1 + 1 + 1 + 1 + 1 + 1, 0, none⟩) := hsF.old' 11 (by kernel_rfl) rfl
      obtain ⟨e63, p63⟩ := hsF.at hupF 9 63 (by kernel_rfl) rfl j9
      have y9 := hupF 9 (by kernel_rfl)
      obtain ⟨v9, s9⟩ := Option.isSome_iff_exists.1 y9
      have HZ5024 := Lib.hid (j9 _ s9).2
      have hB' := hB
      rw [hfF] at hB'
      refine step_store_whole rfl 48 (.tmp 11) (.tmp 63) rfl (w.heap.size + 1 + 1 + 1 + 1 + 1 + 1) (arr .u64 zl) _ 48 (hB'.get 6 rfl) e11 e63 (arr_len2 _ _ HL5024.out HLzl.out) (lim_s HL5024.out) (all_arr _ _) ?_
      intro w1 hb1 hk1 hz1
      have hB1 : Blk w w1 ([(w.heap.size, arr .u64 xs, 48), (w.heap.size + 1, arr .u64 az, 48), (w.heap.size + 1 + 1, arr .u64 bs, 48), (w.heap.size + 1 + 1 + 1, arr .u64 cs, 48), (w.heap.size + 1 + 1 + 1 + 1, arr .u64 ds, 48), (w.heap.size + 1 + 1 + 1 + 1 + 1, (if (fF 18).isSome = true then arr .u64 z5021 else arr .u64 zl), 48), (w.heap.size + 1 + 1 + 1 + 1 + 1 + 1, (if ((some undef : Option Value)).isSome = true then arr .u64 z5024 else arr .u64 zl), 48), (w.heap.size + 1 + 1 + 1 + 1 + 1 + 1 + 1, (if (fF 20).isSome = true then arr .u64 z5025 else arr .u64 zl), 48), (w.heap.size + 1 + 1 + 1 + 1 + 1 + 1 + 1 + 1, (if (fF 21).isSome = true then arr .u64 z5027 else arr .u64 zl), 48), (gr1_9, arr .u64 z5001, 48), (gr1_10, arr .u64 z5002, 48), (gr2_11, arr .u64 z5005, 48), (gr2_12, arr .u64 z5006, 48), (g2302, (arr .u64 z2301), 48), (gr4_14, arr .u64 z5010, 48), (gr5_15, arr .u64 z5014, 48), (gr6_16, arr .u64 z5017, 48), (gr6_17, arr .u64 z5018, 48)]) := hB'.put 6 rfl hk1 hb1
      exact hKF undef w1 ⟨j0, j1, j2, j3, j4, j5, j6, j7, j8, j9, j10, j11, j12, j13, j14, j15, j16, j17, hB1⟩
    refine LinAll.cons (fun fF bF uF kF hJF hfF hcF hupF hsF hKF => ?_) ?_
    · obtain ⟨j0, j1, j2, j3, j4, j5, j6, j7, j8, j9, j10, j11, j12, j13, j14, j15, j16, j17, hB⟩ := hJF
      have e12 : bF.eval (.tmp 12) = .pointer (some ⟨w.heap.size + 1 + 1 + 1 + 1 + 1 + 1 + 1, 0, none⟩) := hsF.old' 12 (by kernel_rfl) rfl
      obtain ⟨e66, p66⟩ := hsF.at hupF 12 66 (by kernel_rfl) rfl j12
      have y12 := hupF 12 (by kernel_rfl)
      obtain ⟨v12, s12⟩ := Option.isSome_iff_exists.1 y12
      have HZ5025 := Lib.hid (j12 _ s12).2
      have hB' := hB
      rw [hfF] at hB'
      refine step_store_whole rfl 48 (.tmp 12) (.tmp 66) rfl (w.heap.size + 1 + 1 + 1 + 1 + 1 + 1 + 1) (arr .u64 zl) _ 48 (hB'.get 7 rfl) e12 e66 (arr_len2 _ _ HL5025.out HLzl.out) (lim_s HL5025.out) (all_arr _ _) ?_
      intro w1 hb1 hk1 hz1
      have hB1 : Blk w w1 ([(w.heap.size, arr .u64 xs, 48), (w.heap.size + 1, arr .u64 az, 48), (w.heap.size + 1 + 1, arr .u64 bs, 48), (w.heap.size + 1 + 1 + 1, arr .u64 cs, 48), (w.heap.size + 1 + 1 + 1 + 1, arr .u64 ds, 48), (w.heap.size + 1 + 1 + 1 + 1 + 1, (if (fF 18).isSome = true then arr .u64 z5021 else arr .u64 zl), 48), (w.heap.size + 1 + 1 + 1 + 1 + 1 + 1, (if (fF 19).isSome = true then arr .u64 z5024 else arr .u64 zl), 48), (w.heap.size + 1 + 1 + 1 + 1 + 1 + 1 + 1, (if ((some undef : Option Value)).isSome = true then arr .u64 z5025 else arr .u64 zl), 48), (w.heap.size + 1 + 1 + 1 + 1 + 1 + 1 + 1 + 1, (if (fF 21).isSome = true then arr .u64 z5027 else arr .u64 zl), 48), (gr1_9, arr .u64 z5001, 48), (gr1_10, arr .u64 z5002, 48), (gr2_11, arr .u64 z5005, 48), (gr2_12, arr .u64 z5006, 48), (g2302, (arr .u64 z2301), 48), (gr4_14, arr .u64 z5010, 48), (gr5_15, arr .u64 z5014, 48), (gr6_16, arr .u64 z5017, 48), (gr6_17, arr .u64 z5018, 48)]) := hB'.put 7 rfl hk1 hb1
      exact hKF undef w1 ⟨j0, j1, j2, j3, j4, j5, j6, j7, j8, j9, j10, j11, j12, j13, j14, j15, j16, j17, hB1⟩
    refine LinAll.cons (fun fF bF uF kF hJF hfF hcF hupF hsF hKF => ?_) ?_
    · obtain ⟨j0, j1, j2, j3, j4, j5, j6, j7, j8, j9, j10, j11, j12, j13, j14, j15, j16, j17, hB⟩ := hJF
      have e13 : bF.eval (.tmp 13) = .pointer (some ⟨w.heap.size + 1 + 1 + 1 + 1 + 1 + 1 + 1 + 1, 0, none⟩) := hsF.old' 13 (by kernel_rfl) rfl
      obtain ⟨e71, p71⟩ := hsF.at hupF 17 71 (by kernel_rfl) rfl j17
      have y17 := hupF 17 (by kernel_rfl)
      obtain ⟨v17, s17⟩ := Option.isSome_iff_exists.1 y17
      have HZ5027 := Lib.hid (j17 _ s17).2
      have hB' := hB
      rw [hfF] at hB'
      refine step_store_whole rfl 48 (.tmp 13) (.tmp 71) rfl (w.heap.size + 1 + 1 + 1 + 1 + 1 + 1 + 1 + 1) (arr .u64 zl) _ 48 (hB'.get 8 rfl) e13 e71 (arr_len2 _ _ HL5027.out HLzl.out) (lim_s HL5027.out) (all_arr _ _) ?_
      intro w1 hb1 hk1 hz1
      have hB1 : Blk w w1 ([(w.heap.size, arr .u64 xs, 48), (w.heap.size + 1, arr .u64 az, 48), (w.heap.size + 1 + 1, arr .u64 bs, 48), (w.heap.size + 1 + 1 + 1, arr .u64 cs, 48), (w.heap.size + 1 + 1 + 1 + 1, arr .u64 ds, 48), (w.heap.size + 1 + 1 + 1 + 1 + 1, (if (fF 18).isSome = true then arr .u64 z5021 else arr .u64 zl), 48), (w.heap.size + 1 + 1 + 1 + 1 + 1 + 1, (if (fF 19).isSome = true then arr .u64 z5024 else arr .u64 zl), 48), (w.heap.size + 1 + 1 + 1 + 1 + 1 + 1 + 1, (if (fF 20).isSome = true then arr .u64 z5025 else arr .u64 zl), 48), (w.heap.size + 1 + 1 + 1 + 1 + 1 + 1 + 1 + 1, (if ((some undef : Option Value)).isSome = true then arr .u64 z5027 else arr .u64 zl), 48), (gr1_9, arr .u64 z5001, 48), (gr1_10, arr .u64 z5002, 48), (gr2_11, arr .u64 z5005, 48), (gr2_12, arr .u64 z5006, 48), (g2302, (arr .u64 z2301), 48), (gr4_14, arr .u64 z5010, 48), (gr5_15, arr .u64 z5014, 48), (gr6_16, arr .u64 z5017, 48), (gr6_17, arr .u64 z5018, 48)]) := hB'.put 8 rfl hk1 hb1
      exact hKF undef w1 ⟨j0, j1, j2, j3, j4, j5, j6, j7, j8, j9, j10, j11, j12, j13, j14, j15, j16, j17, hB1⟩
    exact LinAll.nil
  case er7 =>
  intro fF ur7 hall hJF
  obtain ⟨j0, j1, j2, j3, j4, j5, j6, j7, j8, j9, j10, j11, j12, j13, j14, j15, j16, j17, hB⟩ := hJF
  obtain ⟨v0, h0⟩ := Option.isSome_iff_exists.1 (hall 0 (by decide))
  obtain ⟨rfl, p0⟩ := j0 _ h0
  obtain ⟨v1, h1⟩ := Option.isSome_iff_exists.1 (hall 1 (by decide))
  obtain ⟨rfl, p1⟩ := j1 _ h1
  obtain ⟨v2, h2⟩ := Option.isSome_iff_exists.1 (hall 2 (by decide))
  obtain ⟨rfl, p2⟩ := j2 _ h2
  obtain ⟨v3, h3⟩ := Option.isSome_iff_exists.1 (hall 3 (by decide))
  obtain ⟨rfl, p3⟩ := j3 _ h3
  obtain ⟨v4, h4⟩ := Option.isSome_iff_exists.1 (hall 4 (by decide))
  obtain ⟨rfl, p4⟩ := j4 _ h4
  obtain ⟨v5, h5⟩ := Option.isSome_iff_exists.1 (hall 5 (by decide))
  obtain ⟨rfl, p5⟩ := j5 _ h5
  obtain ⟨v6, h6⟩ := Option.isSome_iff_exists.1 (hall 6 (by decide))
  obtain ⟨rfl, p6⟩ := j6 _ h6
  obtain ⟨v7, h7⟩ := Option.isSome_iff_exists.1 (hall 7 (by decide))
  obtain ⟨rfl, p7⟩ := j7 _ h7
  obtain ⟨v8, h8⟩ := Option.isSome_iff_exists.1 (hall 8 (by decide))
  obtain ⟨rfl, p8⟩ := j8 _ h8
  obtain ⟨v9, h9⟩ := Option.isSome_iff_exists.1 (hall 9 (by decide))
  obtain ⟨rfl, p9⟩ := j9 _ h9
  obtain ⟨v10, h10⟩ := Option.isSome_iff_exists.1 (hall 10 (by decide))
  obtain ⟨rfl, p10⟩ := j10 _ h10
  obtain ⟨v11, h11⟩ := Option.isSome_iff_exists.1 (hall 11 (by decide))
  obtain ⟨rfl, p11⟩ := j11 _ h11
  obtain ⟨v12, h12⟩ := Option.isSome_iff_exists.1 (hall 12 (by decide))
  obtain ⟨rfl, p12⟩ := j12 _ h12
  obtain ⟨v13, h13⟩ := Option.isSome_iff_exists.1 (hall 13 (by decide))
  obtain ⟨rfl, p13⟩ := j13 _ h13
  obtain ⟨v14, h14⟩ := Option.isSome_iff_exists.1 (hall 14 (by decide))
  obtain ⟨rfl, p14⟩ := j14 _ h14
  obtain ⟨v15, h15⟩ := Option.isSome_iff_exists.1 (hall 15 (by decide))
  obtain ⟨rfl, p15⟩ := j15 _ h15
  obtain ⟨v16, h16⟩ := Option.isSome_iff_exists.1 (hall 16 (by decide))
  obtain ⟨rfl, p16⟩ := j16 _ h16
  obtain ⟨v17, h17⟩ := Option.isSome_iff_exists.1 (hall 17 (by decide))
  obtain ⟨rfl, p17⟩ := j17 _ h17
  obtain ⟨v18, h18⟩ := Option.isSome_iff_exists.1 (hall 18 (by decide))
  obtain ⟨v19, h19⟩ := Option.isSome_iff_exists.1 (hall 19 (by decide))
  obtain ⟨v20, h20⟩ := Option.isSome_iff_exists.1 (hall 20 (by decide))
  obtain ⟨v21, h21⟩ := Option.isSome_iff_exists.1 (hall 21 (by decide))
  rw [h18, h19, h20, h21] at hB
  have HBr7 : Hid (Blk w ur7 [(w.heap.size, arr .u64 xs, 48), (w.heap.size + 1, arr .u64 az, 48), (w.heap.size + 1 + 1, arr .u64 bs, 48), (w.heap.size + 1 + 1 + 1, arr .u64 cs, 48), (w.heap.size + 1 + 1 + 1 + 1, arr .u64 ds, 48), (w.heap.size + 1 + 1 + 1 + 1 + 1, arr .u64 z5021, 48), (w.heap.size + 1 + 1 + 1 + 1 + 1 + 1, arr .u64 z5024, 48), (w.heap.size + 1 + 1 + 1 + 1 + 1 + 1 + 1, arr .u64 z5025, 48), (w.heap.size + 1 + 1 + 1 + 1 + 1 + 1 + 1 + 1, arr .u64 z5027, 48), (gr1_9, arr .u64 z5001, 48), (gr1_10, arr .u64 z5002, 48), (gr2_11, arr .u64 z5005, 48), (gr2_12, arr .u64 z5006, 48), (g2302, (arr .u64 z2301), 48), (gr4_14, arr .u64 z5010, 48), (gr5_15, arr .u64 z5014, 48), (gr6_16, arr .u64 z5017, 48), (gr6_17, arr .u64 z5018, 48)]) := Lib.hid hB
  have HZ5021 := Lib.hid p2
  have HZ5022 := Lib.hid p7
  have HZ5023 := Lib.hid p8
  have HZ5024 := Lib.hid p9
  have HZ5025 := Lib.hid p12
  have HZ5026 := Lib.hid p16
  have HZ5027 := Lib.hid p17
  simp only [laid, Nat.zero_add, Nat.reduceAdd, h0, h1, h2, h3, h4, h5, h6, h7, h8, h9, h10, h11, h12, h13, h14, h15, h16, h17, h18, h19, h20, h21, Act.put, List.setIfInBounds_toArray, List.set_cons_zero, List.set_cons_succ]
  clear j0 j1 j2 j3 j4 j5 j6 j7 j8 j9 j10 j11 j12 j13 j14 j15 j16 j17 hB h0 h1 h2 h3 h4 h5 h6 h7 h8 h9 h10 h11 h12 h13 h14 h15 h16 h17 h18 h19 h20 h21 hall fF HBr6
  clear p0 p1 p2 p3 p4 p5 p6 p7 p8 p9 p10 p11 p12 p13 p14 p15 p16 p17
  (try simp only [Exit.then])
  (try simp only [Exit.then])
  go_wp2_with fail
  refine bodyPost_ret (results_cells4 rfl _ _ (w.heap.size + 1 + 1 + 1 + 1 + 1) (w.heap.size + 1 + 1 + 1 + 1 + 1 + 1) (w.heap.size + 1 + 1 + 1 + 1 + 1 + 1 + 1) (w.heap.size + 1 + 1 + 1 + 1 + 1 + 1 + 1 + 1) 48 _ _ _ _ (0, 0) _ rfl rfl rfl rfl (HBr7.out.get 5 rfl) (HBr7.out.get 6 rfl) (HBr7.out.get 7 rfl) (HBr7.out.get 8 rfl) Try.underlying48 rfl (by intro c hc; simp only [List.mem_cons, List.not_mem_nil, or_false] at hc; rcases hc with rfl | rfl | rfl | rfl; exact lim_s HL5021.out; exact lim_s HL5024.out; exact lim_s HL5025.out; exact lim_s HL5027.out)) rfl ?_
  exact ⟨_, _, _, _, rfl, HZ5021.out, HZ5024.out, HZ5025.out, HZ5027.out, HBr7.out.below⟩
end Go.Proofs.Ytogebegdgfdijaa.Fp
namespace Go.Proofs.Ytogebegdgfdijaa.Sl
open Go.RowKit Lm Fp Cu Rd
set_option linter.unusedSimpArgs false

theorem swap_swap (s : La) (b : Nat) : (s.swap b).swap b = s := by
  unfold La.swap
  split <;> rfl
theorem swap_pick (s : La) (u b c : Nat) (hu : u = 0 ∨ u = 1) (hb : b = 0 ∨ b = 1) (hc : c = (u + b) % 2) :
    (if c = 1 then (s.swap u).c else (s.swap u).a) = (s.swap b).a ∧ (if c = 1 then (s.swap u).d else (s.swap u).b) = (s.swap b).b ∧
    (if c = 1 then (s.swap u).a else (s.swap u).c) = (s.swap b).c ∧ (if c = 1 then (s.swap u).b else (s.swap u).d) = (s.swap b).d := by
  rcases hu with rfl | rfl <;> rcases hb with rfl | rfl <;> subst hc <;> exact ⟨rfl, rfl, rfl, rfl⟩
theorem swap_end (s : La) (u : Nat) (hu : u = 0 ∨ u = 1) : (if u = 1 then (s.swap u).c else (s.swap u).a) = s.a ∧ (if u = 1 then (s.swap u).d else (s.swap u).b) = s.b := by
  rcases hu with rfl | rfl <;> exact ⟨rfl, rfl⟩
structure LOk (s : La) : Prop where
  a : s.a < p
  b : s.b < p
  c : s.c < p
  d : s.d < p
theorem LOk.swap {s : La} (h : LOk s) (b : Nat) : LOk (s.swap b) := by
  unfold La.swap
  split
  · exact ⟨h.c, h.d, h.a, h.b⟩
  · exact h
theorem step_ok (x : Nat) (s : La) : LOk (lstep x s) := ⟨fmul_lt _ _, fmul_lt _ _, fmul_lt _ _, fmul_lt _ _⟩
theorem lgo_ok (x k : Nat) (hx : x < p) : ∀ n, LOk (lgo x k n)
  | 0 => ⟨one_lt, p_pos, hx, one_lt⟩
  | _ + 1 => (step_ok _ _).swap _
theorem lgo_swap (x k n b : Nat) (hb : k / 2 ^ (254 - n) % 2 = b) : (lgo x k (n + 1)).swap b = lstep x ((lgo x k n).swap b) := by
  rw [show lgo x k (n + 1) = (lstep x ((lgo x k n).swap (k / 2 ^ (254 - n) % 2))).swap (k / 2 ^ (254 - n) % 2) from rfl, hb, swap_swap]
theorem xor_bits (u b : Nat) (hu : u = 0 ∨ u = 1) (hb : b = 0 ∨ b = 1) : bits .xor .u64 (u : Int) (b : Int) = (((u + b) % 2 : Nat) : Int) := by
  rcases hu with rfl | rfl <;> rcases hb with rfl | rfl <;> decide

set_option maxRecDepth 100000 in
set_option maxHeartbeats 32000000 in
theorem lmul_run {ks us : List Int} (k u : Nat) (w : World) (hks : K32 ks k) (hus : K32 us u) :
    Calls Try.prog 12 #[.agg (arr .u8 ks), .agg (arr .u8 us)] w fun e w' => ∃ zs, e = .returned (.agg (arr .u8 zs)) ∧ K32 zs (x25519 k u) ∧ Below w.heap.size w w' := by
  have p256 : (256 : Nat) ^ 32 = 2 ^ 256 := by decide
  have hu := hus.2
  rw [p256] at hu
  obtain ⟨t1, t2⟩ := top_byte256 u hu
  have hds := dec_set u hu
  have hy2 : u % 2 ^ 255 < 2 ^ 255 := Nat.mod_lt _ (by decide)
  have g31 : us.getD 31 0 = ((u / 256 ^ 31 : Nat) : Int) := by rw [hus.1, nar_get, t1]
  have hn2 : us.set 31 ((u / 256 ^ 31 % 128 : Nat) : Int) = nar (dig 256 32 (u % 2 ^ 255)) := by rw [hus.1, ← nar_set, hds]
  have ha := sand127 (u / 256 ^ 31) t2
  generalize u / 256 ^ 31 = t at g31 hn2 ha t2
  obtain ⟨K, hK⟩ : ∃ K, K = clamp k := ⟨_, rfl⟩
  obtain ⟨X, hX⟩ : ∃ X, X = u % 2 ^ 255 % p := ⟨_, rfl⟩
  have lX : X < p := by rw [hX]; exact Nat.mod_lt _ p_pos
  have hres : x25519 k u = fmul (lgo X K 255).a (finv (lgo X K 255).b) := by rw [hK, hX]; rfl
  rw [hres]
  have hclp := fun (ks : List Int) (w : World) (h : K32 ks k) => clamp_any k w h
  rw [← hK] at hclp
  have hles := fun (xs : List Int) (w : World) (h : N4 xs (u % 2 ^ 255)) => lessen_any (u % 2 ^ 255) w h
  rw [← hX] at hles
  obtain ⟨um, hum⟩ : ∃ x, x = nar (dig 256 32 (u % 2 ^ 255)) := ⟨_, rfl⟩
  have hum32 : K32 um (u % 2 ^ 255) := ⟨hum, Nat.lt_of_lt_of_le hy2 (by decide)⟩
  rw [← hum] at hn2
  obtain ⟨U, hU⟩ : ∃ U, U = u % 2 ^ 255 := ⟨_, rfl⟩
  rw [← hU] at hum32 hles
  have HUM := Lib.hid hum32
  have HUML := Lib.hid hum32.len
  have HCLP := Lib.hid hclp
  have HLES := Lib.hid hles
  have HKS := Lib.hid hks
  have HKL := Lib.hid hks.len
  have HUL := Lib.hid hus.len
  have HG := Lib.hid g31
  have HN2 := Lib.hid hn2
  have HA := Lib.hid ha
  have hk1 : N4 [(1 : Int), 0, 0, 0] 1 := n4_small 1 (by decide)
  have hk0 : N4 [(0 : Int), 0, 0, 0] 0 := n4_small 0 (by decide)
  have hbk1 := fun w => build_raw 1 w
  have hbk0 := fun w => build_no w
  obtain ⟨k1, hk1e⟩ : ∃ b : List Int, b = [(1 : Int), 0, 0, 0] := ⟨_, rfl⟩
  obtain ⟨k0, hk0e⟩ : ∃ b : List Int, b = [(0 : Int), 0, 0, 0] := ⟨_, rfl⟩
  rw [← hk1e] at hk1 hbk1
  rw [← hk0e] at hk0 hbk0
  have HK1 := Lib.hid hk1
  have HK0 := Lib.hid hk0
  have HK1L := Lib.hid hk1.len
  have HK0L := Lib.hid hk0.len
  have HBK1 := Lib.hid hbk1
  have HBK0 := Lib.hid hbk0
  obtain ⟨zl, hzl⟩ : ∃ zs : List Int, zs = List.replicate 4 0 := ⟨_, rfl⟩
  have HZzl : Hid (∀ w, (zeroValue 48).run Try.prog w = .ok (.agg (arr .u64 zl)) w) := Lib.hid (by intro w; rw [hzl]; exact zero_lim w)
  have HLzl : Hid (zl.length = 4) := Lib.hid (by rw [hzl]; rfl)
  obtain ⟨zn, hzn⟩ : ∃ zs : List Int, zs = List.replicate 32 0 := ⟨_, rfl⟩
  have HZzn : Hid (∀ w, (zeroValue 23).run Try.prog w = .ok (.agg (arr .u8 zn)) w) := Lib.hid (by intro w; rw [hzn]; exact zero_num w)
  have HLzn : Hid (zn.length = 32) := Lib.hid (by rw [hzn]; rfl)
  have HS0 := Lib.hid (Blk.three w (arr .u8 ks) (arr .u8 us) (arr .u8 zn) 23 23 23)
  clear hzl hzn hks hus hum hum32 hds hclp hles g31 hn2 ha hK hX hU hy2 hk1 hk0 hbk1 hbk0 hk1e hk0e hu t1 p256 hres
  go_enter Try.func12, Try.ntmps12
  go_upto_region 1 with (first | ((with_reducible show wpList _ _ _ (Oper.mk (some 4) _ _ _ _ _ :: _) _ _); refine wpList_alloc_row rfl 23 rfl _ (HZzn.out _) ?_))
  (try simp only [World.size_alloc, Act.put, List.setIfInBounds_toArray, List.set_cons_zero, List.set_cons_succ])
  generalize (((w.alloc (.cells (arr .u8 ks) 23)).alloc (.cells (arr .u8 us) 23)).alloc (.cells (arr .u8 zn) 23)) = wb at HS0 ⊢
  go_upto_region 2 with (first | ((with_reducible show wpList _ _ _ (Oper.mk (some 14) _ _ _ _ _ :: _) _ _); refine wpList_load_part rfl 23 _ rfl (w.heap.size) (0) _ 23 (0, 0) _ (HS0.out.get 0 rfl) rfl .u8 ks (arr_part _ _) Try.underlying23 rfl (num_i HKL.out) ?_) | ((with_reducible show Calls _ 19 #[.agg _] _ _); go_at_call 19; refine (HCLP.out _ _ HKS.out).mono ?_; rintro e w2801 ⟨z2801, rfl, h2801, hb2801⟩; have HZ2801 := Lib.hid h2801; have HL2801 := Lib.hid h2801.len; clear h2801; have HB2801 := Lib.hid (HS0.out.kept hb2801); clear hb2801) | ((with_reducible show Calls _ 18 #[.agg _] _ _); go_at_call 18; refine (of4 _ _ HZ2801.out).mono ?_; rintro e w2802 ⟨z2802, rfl, h2802, hb2802⟩; have HZ2802 := Lib.hid h2802; have HL2802 := Lib.hid h2802.len; clear h2802; have HB2802 := Lib.hid (HB2801.out.kept hb2802); clear hb2802; clear HB2801) | ((with_reducible show wpList _ _ _ (Oper.mk (some 5) _ _ _ _ _ :: _) _ _); refine wpList_alloc_row rfl 48 rfl _ (HZzl.out _) ?_; have HB2803 := Lib.hid (HB2802.out.alloc (arr .u64 zl) 48); generalize w2802.heap.size = g2803 at HB2803 ⊢; generalize w2802.alloc (.cells (arr .u64 zl) 48) = w2803 at HB2803 ⊢; clear HB2802) | ((with_reducible show wpList _ _ _ (Oper.mk none (Op.store _ (Operand.tmp 5) (Operand.tmp 16)) _ _ _ _ :: _) _ _); refine wpList_store_whole rfl 48 _ _ rfl (g2803) _ _ 48 (HB2803.out.get 3 rfl) rfl rfl (arr_len2 _ _ HL2802.out HLzl.out) (lim_s HL2802.out) (all_arr _ _) ?_; intro w2804 hb2804 hk2804 hz2804; have HB2804 := Lib.hid (HB2803.out.put 3 rfl hk2804 hb2804); clear hb2804 hk2804 hz2804; clear HB2803))
  have q0 := arr_get' (HB2804.out.get 1 rfl) 31 (by rw [HUL.out]; decide)
  have q1 := free_blk (HB2804.out.get 1 rfl) 31
  rw [HG.out] at q0
  have hb1 := HB2804.out.cell 1 rfl 31 (.int .u8 (bits .and .u8 (t : Int) 127))
  have e2 : (arr .u8 us).setIfInBounds 31 (.int .u8 (bits .and .u8 (t : Int) 127)) = arr .u8 um := by rw [HA.out, arr_set, HN2.out]
  have HU1 := Lib.hid (hb1.cast (l' := [(w.heap.size, arr .u8 ks, 23), (w.heap.size + 1, arr .u8 um, 23), (w.heap.size + 1 + 1, arr .u8 zn, 23), (g2803, (arr .u64 z2802), 48)]) (by rw [← e2]; rfl))
  clear hb1 e2
  go_upto_region 3 with fail
  clear q0 q1
  generalize w2804.setCell ⟨w.heap.size + 1, 31, none⟩ (.int .u8 (bits .and .u8 (t : Int) 127)) = wu at HU1 ⊢
  go_upto_region 4 with (first | ((with_reducible show wpList _ _ _ (Oper.mk (some 21) _ _ _ _ _ :: _) _ _); refine wpList_load_part rfl 23 _ rfl (w.heap.size + 1) (0) _ 23 (0, 0) _ (HU1.out.get 1 rfl) rfl .u8 um (arr_part _ _) Try.underlying23 rfl (num_i HUML.out) ?_) | ((with_reducible show Calls _ 18 #[.agg _] _ _); go_at_call 18; refine (of4 _ _ HUM.out).mono ?_; rintro e w2805 ⟨z2805, rfl, h2805, hb2805⟩; have HZ2805 := Lib.hid h2805; have HL2805 := Lib.hid h2805.len; clear h2805; have HB2805 := Lib.hid (HU1.out.kept hb2805); clear hb2805) | ((with_reducible show Calls _ 20 #[.agg _] _ _); go_at_call 20; refine (HLES.out _ _ HZ2805.out).mono ?_; rintro e w2806 ⟨z2806, rfl, h2806, hb2806⟩; have HZ2806 := Lib.hid h2806; have HL2806 := Lib.hid h2806.len; clear h2806; have HB2806 := Lib.hid (HB2805.out.kept hb2806); clear hb2806; clear HB2805) | ((with_reducible show wpList _ _ _ (Oper.mk (some 6) _ _ _ _ _ :: _) _ _); refine wpList_alloc_row rfl 48 rfl _ (HZzl.out _) ?_; have HB2807 := Lib.hid (HB2806.out.alloc (arr .u64 zl) 48); generalize w2806.heap.size = g2807 at HB2807 ⊢; generalize w2806.alloc (.cells (arr .u64 zl) 48) = w2807 at HB2807 ⊢; clear HB2806) | ((with_reducible show wpList _ _ _ (Oper.mk none (Op.store _ (Operand.tmp 6) (Operand.tmp 23)) _ _ _ _ :: _) _ _); refine wpList_store_whole rfl 48 _ _ rfl (g2807) _ _ 48 (HB2807.out.get 4 rfl) rfl rfl (arr_len2 _ _ HL2806.out HLzl.out) (lim_s HL2806.out) (all_arr _ _) ?_; intro w2808 hb2808 hk2808 hz2808; have HB2808 := Lib.hid (HB2807.out.put 4 rfl hk2808 hb2808); clear hb2808 hk2808 hz2808; clear HB2807))
  (try simp only [World.size_alloc, Act.put, List.setIfInBounds_toArray, List.set_cons_zero, List.set_cons_succ])
  refine wp_region_lin (fun (fF : Fill) (uF : World) => (∀ v, fF 0 = some v → v = .agg (arr .u64 k1) ∧ True) ∧ (∀ v, fF 1 = some v → v = .agg (arr .u64 k0) ∧ True) ∧ (∀ v, fF 2 = some v → v = .agg (arr .u64 z2806) ∧ True) ∧ (∀ v, fF 3 = some v → v = .agg (arr .u64 k1) ∧ True) ∧ (∀ v, fF 4 = some v → ∃ g : Nat, v = .pointer (some ⟨g, 0, none⟩)) ∧ (∀ v, fF 5 = some v → ∃ g : Nat, v = .pointer (some ⟨g, 0, none⟩)) ∧ (∀ v, fF 6 = some v → ∃ g : Nat, v = .pointer (some ⟨g, 0, none⟩)) ∧ (∀ v, fF 7 = some v → ∃ g : Nat, v = .pointer (some ⟨g, 0, none⟩)) ∧ Blk w uF ([(w.heap.size, arr .u8 ks, 23), (w.heap.size + 1, arr .u8 um, 23), (w.heap.size + 1 + 1, arr .u8 zn, 23), (g2803, (arr .u64 z2802), 48), (g2807, (arr .u64 z2806), 48)] ++ (ent (fF 4) ((if (fF 8).isSome = true then arr .u64 k1 else arr .u64 zl)) 48 ++ (ent (fF 5) ((if (fF 9).isSome = true then arr .u64 k0 else arr .u64 zl)) 48 ++ (ent (fF 6) ((if (fF 10).isSome = true then arr .u64 z2806 else arr .u64 zl)) 48 ++ (ent (fF 7) ((if (fF 11).isSome = true then arr .u64 k1 else arr .u64 zl)) 48)))))) (by kernel_rfl) (by kernel_rfl) ?zr4 ?sr4 ?er4
  case zr4 => exact ⟨fun _ h => (by cases h), fun _ h => (by cases h), fun _ h => (by cases h), fun _ h => (by cases h), fun _ h => (by cases h), fun _ h => (by cases h), fun _ h => (by cases h), fun _ h => (by cases h), HB2808.out.drew⟩
  case sr4 =>
    refine LinAll.cons (fun fF bF uF kF hJF hfF hcF hupF hsF hKF => ?_) ?_
    · obtain ⟨j0, j1, j2, j3, j4, j5, j6, j7, hB⟩ := hJF
      exact lin_pure rfl (.agg (arr .u64 k1)) (exec_build_l 48 _ rfl #[(0, .int .u64 1)] (by simp only [List.map_cons, List.map_nil] <;> rfl) _ (HBK1.out _)) (hKF _ _ ⟨fun _ h => ⟨(Option.some.inj h).symm, trivial⟩, j1, j2, j3, j4, j5, j6, j7, hB⟩)
    refine LinAll.cons (fun fF bF uF kF hJF hfF hcF hupF hsF hKF => ?_) ?_
    · obtain ⟨j0, j1, j2, j3, j4, j5, j6, j7, hB⟩ := hJF
      exact lin_pure rfl (.agg (arr .u64 k0)) (exec_build_l 48 _ rfl #[] (by simp only [List.map_cons, List.map_nil] <;> rfl) _ (HBK0.out _)) (hKF _ _ ⟨j0, fun _ h => ⟨(Option.some.inj h).symm, trivial⟩, j2, j3, j4, j5, j6, j7, hB⟩)
    refine LinAll.cons (fun fF bF uF kF hJF hfF hcF hupF hsF hKF => ?_) ?_
    · obtain ⟨j0, j1, j2, j3, j4, j5, j6, j7, hB⟩ := hJF
      have e6 : bF.eval (.tmp 6) = .pointer (some ⟨g2807, 0, none⟩) := hsF.old' 6 (by kernel_rfl) rfl
      have hB' := hB
      refine step_load_part rfl 48 _ rfl (g2807) (0) ((arr .u64 z2806)) 48 (0, 0) _ (hB'.get 4 rfl) e6 .u64 z2806 (arr_part _ _) Try.underlying48 rfl (lim_i HL2806.out) ?_
      exact hKF _ _ ⟨j0, j1, fun _ h => ⟨(Option.some.inj h).symm, trivial⟩, j3, j4, j5, j6, j7, hB⟩
    refine LinAll.cons (fun fF bF uF kF hJF hfF hcF hupF hsF hKF => ?_) ?_
    · obtain ⟨j0, j1, j2, j3, j4, j5, j6, j7, hB⟩ := hJF
      exact lin_pure rfl (.agg (arr .u64 k1)) (exec_build_l 48 _ rfl #[(0, .int .u64 1)] (by simp only [List.map_cons, List.map_nil] <;> rfl) _ (HBK1.out _)) (hKF _ _ ⟨j0, j1, j2, fun _ h => ⟨(Option.some.inj h).symm, trivial⟩, j4, j5, j6, j7, hB⟩)
    refine LinAll.cons (fun fF bF uF kF hJF hfF hcF hupF hsF hKF => ?_) ?_
    · obtain ⟨j0, j1, j2, j3, j4, j5, j6, j7, hB⟩ := hJF
      have n8 := hcF.down 8 4 (by kernel_rfl) hfF
      refine step_alloc_row rfl 48 rfl _ (HZzl.out _) ?_
      have hB1 : Blk w (uF.alloc (.cells (arr .u64 zl) 48)) ([(w.heap.size, arr .u8 ks, 23), (w.heap.size + 1, arr .u8 um, 23), (w.heap.size + 1 + 1, arr .u8 zn, 23), (g2803, (arr .u64 z2802), 48), (g2807, (arr .u64 z2806), 48)] ++ (ent ((some (.pointer (some ⟨uF.heap.size, 0, none⟩)) : Option Value)) ((if (fF 8).isSome = true then arr .u64 k1 else arr .u64 zl)) 48 ++ (ent (fF 5) ((if (fF 9).isSome = true then arr .u64 k0 else arr .u64 zl)) 48 ++ (ent (fF 6) ((if (fF 10).isSome = true then arr .u64 z2806 else arr .u64 zl)) 48 ++ (ent (fF 7) ((if (fF 11).isSome = true then arr .u64 k1 else arr .u64 zl)) 48))))) := hB.ins (a := [(w.heap.size, arr .u8 ks, 23), (w.heap.size + 1, arr .u8 um, 23), (w.heap.size + 1 + 1, arr .u8 zn, 23), (g2803, (arr .u64 z2802), 48), (g2807, (arr .u64 z2806), 48)]) (b := ent (fF 5) ((if (fF 9).isSome = true then arr .u64 k0 else arr .u64 zl)) 48 ++ (ent (fF 6) ((if (fF 10).isSome = true then arr .u64 z2806 else arr .u64 zl)) 48 ++ (ent (fF 7) ((if (fF 11).isSome = true then arr .u64 k1 else arr .u64 zl)) 48))) _ _ (by rw [hfF, n8]; simp only [ent_none, List.nil_append, List.append_nil, List.append_assoc, List.cons_append]) (by rw [n8]; simp only [ent_some, List.nil_append, List.append_nil, List.append_assoc, List.cons_append, Option.isSome_none, Bool.false_eq_true, if_false])
      exact hKF _ _ ⟨j0, j1, j2, j3, fun _ h => ⟨_, (Option.some.inj h).symm⟩, j5, j6, j7, hB1⟩
    refine LinAll.cons (fun fF bF uF kF hJF hfF hcF hupF hsF hKF => ?_) ?_
    · obtain ⟨j0, j1, j2, j3, j4, j5, j6, j7, hB⟩ := hJF
      have n9 := hcF.down 9 5 (by kernel_rfl) hfF
      refine step_alloc_row rfl 48 rfl _ (HZzl.out _) ?_
      have hB1 : Blk w (uF.alloc (.cells (arr .u64 zl) 48)) ([(w.heap.size, arr .u8 ks, 23), (w.heap.size + 1, arr .u8 um, 23), (w.heap.size + 1 + 1, arr .u8 zn, 23), (g2803, (arr .u64 z2802), 48), (g2807, (arr .u64 z2806), 48)] ++ (ent (fF 4) ((if (fF 8).isSome = true then arr .u64 k1 else arr .u64 zl)) 48 ++ (ent ((some (.pointer (some ⟨uF.heap.size, 0, none⟩)) : Option Value)) ((if (fF 9).isSome = true then arr .u64 k0 else arr .u64 zl)) 48 ++ (ent (fF 6) ((if (fF 10).isSome = true then arr .u64 z2806 else arr .u64 zl)) 48 ++ (ent (fF 7) ((if (fF 11).isSome = true then arr .u64 k1 else arr .u64 zl)) 48))))) := hB.ins (a := [(w.heap.size, arr .u8 ks, 23), (w.heap.size + 1, arr .u8 um, 23), (w.heap.size + 1 + 1, arr .u8 zn, 23), (g2803, (arr .u64 z2802), 48), (g2807, (arr .u64 z2806), 48)] ++ ent (fF 4) ((if (fF 8).isSome = true then arr .u64 k1 else arr .u64 zl)) 48) (b := ent (fF 6) ((if (fF 10).isSome = true then arr .u64 z2806 else arr .u64 zl)) 48 ++ (ent (fF 7) ((if (fF 11).isSome = true then arr .u64 k1 else arr .u64 zl)) 48)) _ _ (by rw [hfF, n9]; simp only [ent_none, List.nil_append, List.append_nil, List.append_assoc, List.cons_append]) (by rw [n9]; simp only [ent_some, List.nil_append, List.append_nil, List.append_assoc, List.cons_append, Option.isSome_none, Bool.false_eq_true, if_false])
      exact hKF _ _ ⟨j0, j1, j2, j3, j4, fun _ h => ⟨_, (Option.some.inj h).symm⟩, j6, j7, hB1⟩
    refine LinAll.cons (fun fF bF uF kF hJF hfF hcF hupF hsF hKF => ?_) ?_
    · obtain ⟨j0, j1, j2, j3, j4, j5, j6, j7, hB⟩ := hJF
      have n10 := hcF.down 10 6 (by kernel_rfl) hfF
      refine step_alloc_row rfl 48 rfl _ (HZzl.out _) ?_
      have hB1 : Blk w (uF.alloc (.cells (arr .u64 zl) 48)) ([(w.heap.size, arr .u8 ks, 23), (w.heap.size + 1, arr .u8 um, 23), (w.heap.size + 1 + 1, arr .u8 zn, 23), (g2803, (arr .u64 z2802), 48), (g2807, (arr .u64 z2806), 48)] ++ (ent (fF 4) ((if (fF 8).isSome = true then arr .u64 k1 else arr .u64 zl)) 48 ++ (ent (fF 5) ((if (fF 9).isSome = true then arr .u64 k0 else arr .u64 zl)) 48 ++ (ent ((some (.pointer (some ⟨uF.heap.size, 0, none⟩)) : Option Value)) ((if (fF 10).isSome = true then arr .u64 z2806 else arr .u64 zl)) 48 ++ (ent (fF 7) ((if (fF 11).isSome = true then arr .u64 k1 else arr .u64 zl)) 48))))) := hB.ins (a := [(w.heap.size, arr .u8 ks, 23), (w.heap.size + 1, arr .u8 um, 23), (w.heap.size + 1 + 1, arr .u8 zn, 23), (g2803, (arr .u64 z2802), 48), (g2807, (arr .u64 z2806), 48)] ++ ent (fF 4) ((if (fF 8).isSome = true then arr .u64 k1 else arr .u64 zl)) 48 ++ ent (fF 5) ((if (fF 9).isSome = true then arr .u64 k0 else arr .u64 zl)) 48) (b := ent (fF 7) ((if (fF 11).isSome = true then arr .u64 k1 else arr .u64 zl)) 48) _ _ (by rw [hfF, n10]; simp only [ent_none, List.nil_append, List.append_nil, List.append_assoc, List.cons_append]) (by rw [n10]; simp only [ent_some, List.nil_append, List.append_nil, List.append_assoc, List.cons_append, Option.isSome_none, Bool.false_eq_true, if_false])
      exact hKF _ _ ⟨j0, j1, j2, j3, j4, j5, fun _ h => ⟨_, (Option.some.inj h).symm⟩, j7, hB1⟩
    refine LinAll.cons (fun fF bF uF kF hJF hfF hcF hupF hsF hKF => ?_) ?_
    · obtain ⟨j0, j1, j2, j3, j4, j5, j6, j7, hB⟩ := hJF
      have n11 := hcF.down 11 7 (by kernel_rfl) hfF
      refine step_alloc_row rfl 48 rfl _ (HZzl.out _) ?_
      have hB1 : Blk w (uF.alloc (.cells (arr .u64 zl) 48)) ([(w.heap.size, arr .u8 ks, 23), (w.heap.size + 1, arr .u8 um, 23), (w.heap.size + 1 + 1, arr .u8 zn, 23), (g2803, (arr .u64 z2802), 48), (g2807, (arr .u64 z2806), 48)] ++ (ent (fF 4) ((if (fF 8).isSome = true then arr .u64 k1 else arr .u64 zl)) 48 ++ (ent (fF 5) ((if (fF 9).isSome = true then arr .u64 k0 else arr .u64 zl)) 48 ++ (ent (fF 6) ((if (fF 10).isSome = true then arr .u64 z2806 else arr .u64 zl)) 48 ++ (ent ((some (.pointer (some ⟨uF.heap.size, 0, none⟩)) : Option Value)) ((if (fF 11).isSome = true then arr .u64 k1 else arr .u64 zl)) 48))))) := hB.ins (a := [(w.heap.size, arr .u8 ks, 23), (w.heap.size + 1, arr .u8 um, 23), (w.heap.size + 1 + 1, arr .u8 zn, 23), (g2803, (arr .u64 z2802), 48), (g2807, (arr .u64 z2806), 48)] ++ ent (fF 4) ((if (fF 8).isSome = true then arr .u64 k1 else arr .u64 zl)) 48 ++ ent (fF 5) ((if (fF 9).isSome = true then arr .u64 k0 else arr .u64 zl)) 48 ++ ent (fF 6) ((if (fF 10).isSome = true then arr .u64 z2806 else arr .u64 zl)) 48) (b := []) _ _ (by rw [hfF, n11]; simp only [ent_none, List.nil_append, List.append_nil, List.append_assoc, List.cons_append]) (by rw [n11]; simp only [ent_some, List.nil_append, List.append_nil, List.append_assoc, List.cons_append, Option.isSome_none, Bool.false_eq_true, if_false])
      exact hKF _ _ ⟨j0, j1, j2, j3, j4, j5, j6, fun _ h => ⟨_, (Option.some.inj h).symm⟩, hB1⟩
    refine LinAll.cons (fun fF bF uF kF hJF hfF hcF hupF hsF hKF => ?_) ?_
    · obtain ⟨j0, j1, j2, j3, j4, j5, j6, j7, hB⟩ := hJF
      have y4 := hupF 4 (by kernel_rfl)
      obtain ⟨v4, s4⟩ := Option.isSome_iff_exists.1 y4
      obtain ⟨gr4_5, rfl⟩ := j4 _ s4
      have y5 := hupF 5 (by kernel_rfl)
      obtain ⟨v5, s5⟩ := Option.isSome_iff_exists.1 y5
      obtain ⟨gr4_6, rfl⟩ := j5 _ s5
      have y6 := hupF 6 (by kernel_rfl)
      obtain ⟨v6, s6⟩ := Option.isSome_iff_exists.1 y6
      obtain ⟨gr4_7, rfl⟩ := j6 _ s6
      have y7 := hupF 7 (by kernel_rfl)
      obtain ⟨v7, s7⟩ := Option.isSome_iff_exists.1 y7
      obtain ⟨gr4_8, rfl⟩ := j7 _ s7
      have e7 := hsF.val 4 7 rfl s4
      obtain ⟨e24, p24⟩ := hsF.at hupF 0 24 (by kernel_rfl) rfl j0
      have hB' := hB
      rw [s4, s5, s6, s7, hfF] at hB'
      refine step_store_whole rfl 48 (.tmp 7) (.tmp 24) rfl (gr4_5) (arr .u64 zl) _ 48 (hB'.get 5 rfl) e7 e24 (arr_len2 _ _ HK1L.out HLzl.out) (lim_s HK1L.out) (all_arr _ _) ?_
      intro w1 hb1 hk1 hz1
      have hB1 : Blk w w1 ([(w.heap.size, arr .u8 ks, 23), (w.heap.size + 1, arr .u8 um, 23), (w.heap.size + 1 + 1, arr .u8 zn, 23), (g2803, (arr .u64 z2802), 48), (g2807, (arr .u64 z2806), 48)] ++ (ent (fF 4) ((if ((some undef : Option Value)).isSome = true then arr .u64 k1 else arr .u64 zl)) 48 ++ (ent (fF 5) ((if (fF 9).isSome = true then arr .u64 k0 else arr .u64 zl)) 48 ++ (ent (fF 6) ((if (fF 10).isSome = true then arr .u64 z2806 else arr .u64 zl)) 48 ++ (ent (fF 7) ((if (fF 11).isSome = true then arr .u64 k1 else arr .u64 zl)) 48))))) := by rw [s4, s5, s6, s7]; exact hB'.put 5 rfl hk1 hb1
      exact hKF undef w1 ⟨j0, j1, j2, j3, j4, j5, j6, j7, hB1⟩
    refine LinAll.cons (fun fF bF uF kF hJF hfF hcF hupF hsF hKF => ?_) ?_
    · obtain ⟨j0, j1, j2, j3, j4, j5, j6, j7, hB⟩ := hJF
      have y4 := hupF 4 (by kernel_rfl)
      obtain ⟨v4, s4⟩ := Option.isSome_iff_exists.1 y4
      obtain ⟨gr4_5, rfl⟩ := j4 _ s4
      have y5 := hupF 5 (by kernel_rfl)
      obtain ⟨v5, s5⟩ := Option.isSome_iff_exists.1 y5
      obtain ⟨gr4_6, rfl⟩ := j5 _ s5
      have y6 := hupF 6 (by kernel_rfl)
      obtain ⟨v6, s6⟩ := Option.isSome_iff_exists.1 y6
      obtain ⟨gr4_7, rfl⟩ := j6 _ s6
      have y7 := hupF 7 (by kernel_rfl)
      obtain ⟨v7, s7⟩ := Option.isSome_iff_exists.1 y7
      obtain ⟨gr4_8, rfl⟩ := j7 _ s7
      have e8 := hsF.val 5 8 rfl s5
      obtain ⟨e25, p25⟩ := hsF.at hupF 1 25 (by kernel_rfl) rfl j1
      have hB' := hB
      rw [s4, s5, s6, s7, hfF] at hB'
      refine step_store_whole rfl 48 (.tmp 8) (.tmp 25) rfl (gr4_6) (arr .u64 zl) _ 48 (hB'.get 6 rfl) e8 e25 (arr_len2 _ _ HK0L.out HLzl.out) (lim_s HK0L.out) (all_arr _ _) ?_
      intro w1 hb1 hk1 hz1
      have hB1 : Blk w w1 ([(w.heap.size, arr .u8 ks, 23), (w.heap.size + 1, arr .u8 um, 23), (w.heap.size + 1 + 1, arr .u8 zn, 23), (g2803, (arr .u64 z2802), 48), (g2807, (arr .u64 z2806), 48)] ++ (ent (fF 4) ((if (fF 8).isSome = true then arr .u64 k1 else arr .u64 zl)) 48 ++ (ent (fF 5) ((if ((some undef : Option Value)).isSome = true then arr .u64 k0 else arr .u64 zl)) 48 ++ (ent (fF 6) ((if (fF 10).isSome = true then arr .u64 z2806 else arr .u64 zl)) 48 ++ (ent (fF 7) ((if (fF 11).isSome = true then arr .u64 k1 else arr .u64 zl)) 48))))) := by rw [s4, s5, s6, s7]; exact hB'.put 6 rfl hk1 hb1
      exact hKF undef w1 ⟨j0, j1, j2, j3, j4, j5, j6, j7, hB1⟩
    refine LinAll.cons (fun fF bF uF kF hJF hfF hcF hupF hsF hKF => ?_) ?_
    · obtain ⟨j0, j1, j2, j3, j4, j5, j6, j7, hB⟩ := hJF
      have y4 := hupF 4 (by kernel_rfl)
      obtain ⟨v4, s4⟩ := Option.isSome_iff_exists.1 y4
      obtain ⟨gr4_5, rfl⟩ := j4 _ s4
      have y5 := hupF 5 (by kernel_rfl)
      obtain ⟨v5, s5⟩ := Option.isSome_iff_exists.1 y5
      obtain ⟨gr4_6, rfl⟩ := j5 _ s5
      have y6 := hupF 6 (by kernel_rfl)
      obtain ⟨v6, s6⟩ := Option.isSome_iff_exists.1 y6
      obtain ⟨gr4_7, rfl⟩ := j6 _ s6
      have y7 := hupF 7 (by kernel_rfl)
      obtain ⟨v7, s7⟩ := Option.isSome_iff_exists.1 y7
      obtain ⟨gr4_8, rfl⟩ := j7 _ s7
      have e9 := hsF.val 6 9 rfl s6
      obtain ⟨e26, p26⟩ := hsF.at hupF 2 26 (by kernel_rfl) rfl j2
      have hB' := hB
      rw [s4, s5, s6, s7, hfF] at hB'
      refine step_store_whole rfl 48 (.tmp 9) (.tmp 26) rfl (gr4_7) (arr .u64 zl) _ 48 (hB'.get 7 rfl) e9 e26 (arr_len2 _ _ HL2806.out HLzl.out) (lim_s HL2806.out) (all_arr _ _) ?_
      intro w1 hb1 hk1 hz1
      have hB1 : Blk w w1 ([(w.heap.size, arr .u8 ks, 23), (w.heap.size + 1, arr .u8 um, 23), (w.heap.size + 1 + 1, arr .u8 zn, 23), (g2803, (arr .u64 z2802), 48), (g2807, (arr .u64 z2806), 48)] ++ (ent (fF 4) ((if (fF 8).isSome = true then arr .u64 k1 else arr .u64 zl)) 48 ++ (ent (fF 5) ((if (fF 9).isSome = true then arr .u64 k0 else arr .u64 zl)) 48 ++ (ent (fF 6) ((if ((some undef : Option Value)).isSome = true then arr .u64 z2806 else arr .u64 zl)) 48 ++ (ent (fF 7) ((if (fF 11).isSome = true then arr .u64 k1 else arr .u64 zl)) 48))))) := by rw [s4, s5, s6, s7]; exact hB'.put 7 rfl hk1 hb1
      exact hKF undef w1 ⟨j0, j1, j2, j3, j4, j5, j6, j7, hB1⟩
    refine LinAll.cons (fun fF bF uF kF hJF hfF hcF hupF hsF hKF => ?_) ?_
    · obtain ⟨j0, j1, j2, j3, j4, j5, j6, j7, hB⟩ := hJF
      have y4 := hupF 4 (by kernel_rfl)
      obtain ⟨v4, s4⟩ := Option.isSome_iff_exists.1 y4
      obtain ⟨gr4_5, rfl⟩ := j4 _ s4
      have y5 := hupF 5 (by kernel_rfl)
      obtain ⟨v5, s5⟩ := Option.isSome_iff_exists.1 y5
      obtain ⟨gr4_6, rfl⟩ := j5 _ s5
      have y6 := hupF 6 (by kernel_rfl)
      obtain ⟨v6, s6⟩ := Option.isSome_iff_exists.1 y6
      obtain ⟨gr4_7, rfl⟩ := j6 _ s6
      have y7 := hupF 7 (by kernel_rfl)
      obtain ⟨v7, s7⟩ := Option.isSome_iff_exists.1 y7
      obtain ⟨gr4_8, rfl⟩ := j7 _ s7
      have e10 := hsF.val 7 10 rfl s7
      obtain ⟨e27, p27⟩ := hsF.at hupF 3 27 (by kernel_rfl) rfl j3
      have hB' := hB
      rw [s4, s5, s6, s7, hfF] at hB'
      refine step_store_whole rfl 48 (.tmp 10) (.tmp 27) rfl (gr4_8) (arr .u64 zl) _ 48 (hB'.get 8 rfl) e10 e27 (arr_len2 _ _ HK1L.out HLzl.out) (lim_s HK1L.out) (all_arr _ _) ?_
      intro w1 hb1 hk1 hz1
      have hB1 : Blk w w1 ([(w.heap.size, arr .u8 ks, 23), (w.heap.size + 1, arr .u8 um, 23), (w.heap.size + 1 + 1, arr .u8 zn, 23), (g2803, (arr .u64 z2802), 48), (g2807, (arr .u64 z2806), 48)] ++ (ent (fF 4) ((if (fF 8).isSome = true then arr .u64 k1 else arr .u64 zl)) 48 ++ (ent (fF 5) ((if (fF 9).isSome = true then arr .u64 k0 else arr .u64 zl)) 48 ++ (ent (fF 6) ((if (fF 10).isSome = true then arr .u64 z2806 else arr .u64 zl)) 48 ++ (ent (fF 7) ((if ((some undef : Option Value)).isSome = true then arr .u64 k1 else arr .u64 zl)) 48))))) := by rw [s4, s5, s6, s7]; exact hB'.put 8 rfl hk1 hb1
      exact hKF undef w1 ⟨j0, j1, j2, j3, j4, j5, j6, j7, hB1⟩
    exact LinAll.nil
  case er4 =>
  intro fF ur4 hall hJF
  obtain ⟨j0, j1, j2, j3, j4, j5, j6, j7, hB⟩ := hJF
  obtain ⟨v0, h0⟩ := Option.isSome_iff_exists.1 (hall 0 (by decide))
  obtain ⟨rfl, p0⟩ := j0 _ h0
  obtain ⟨v1, h1⟩ := Option.isSome_iff_exists.1 (hall 1 (by decide))
  obtain ⟨rfl, p1⟩ := j1 _ h1
  obtain ⟨v2, h2⟩ := Option.isSome_iff_exists.1 (hall 2 (by decide))
  obtain ⟨rfl, p2⟩ := j2 _ h2
  obtain ⟨v3, h3⟩ := Option.isSome_iff_exists.1 (hall 3 (by decide))
  obtain ⟨rfl, p3⟩ := j3 _ h3
  obtain ⟨v4, h4⟩ := Option.isSome_iff_exists.1 (hall 4 (by decide))
  obtain ⟨gr4_5, rfl⟩ := j4 _ h4
  obtain ⟨v5, h5⟩ := Option.isSome_iff_exists.1 (hall 5 (by decide))
  obtain ⟨gr4_6, rfl⟩ := j5 _ h5
  obtain ⟨v6, h6⟩ := Option.isSome_iff_exists.1 (hall 6 (by decide))
  obtain ⟨gr4_7, rfl⟩ := j6 _ h6
  obtain ⟨v7, h7⟩ := Option.isSome_iff_exists.1 (hall 7 (by decide))
  obtain ⟨gr4_8, rfl⟩ := j7 _ h7
  obtain ⟨v8, h8⟩ := Option.isSome_iff_exists.1 (hall 8 (by decide))
  obtain ⟨v9, h9⟩ := Option.isSome_iff_exists.1 (hall 9 (by decide))
  obtain ⟨v10, h10⟩ := Option.isSome_iff_exists.1 (hall 10 (by decide))
  obtain ⟨v11, h11⟩ := Option.isSome_iff_exists.1 (hall 11 (by decide))
  rw [h4, h5, h6, h7, h8, h9, h10, h11] at hB
  have HBr4 : Hid (Blk w ur4 [(w.heap.size, arr .u8 ks, 23), (w.heap.size + 1, arr .u8 um, 23), (w.heap.size + 1 + 1, arr .u8 zn, 23), (g2803, (arr .u64 z2802), 48), (g2807, (arr .u64 z2806), 48), (gr4_5, arr .u64 k1, 48), (gr4_6, arr .u64 k0, 48), (gr4_7, arr .u64 z2806, 48), (gr4_8, arr .u64 k1, 48)]) := Lib.hid hB
  simp only [laid, Nat.zero_add, Nat.reduceAdd, h0, h1, h2, h3, h4, h5, h6, h7, h8, h9, h10, h11, Act.put, List.setIfInBounds_toArray, List.set_cons_zero, List.set_cons_succ]
  clear j0 j1 j2 j3 j4 j5 j6 j7 hB h0 h1 h2 h3 h4 h5 h6 h7 h8 h9 h10 h11 hall fF HB2808
  clear p0 p1 p2 p3
  (try simp only [Exit.then])
  go_wp2_with fail
  go_loopw [11, 12] (fun v1 v2 wr => ∃ n u : Nat, n ≤ 255 ∧ (u = 0 ∨ u = 1) ∧ v1 = .int .u64 (u : Int) ∧ v2 = .int .i64 (254 - (n : Int)) ∧ ∃ la lb lc ld : List Int, N4 la ((lgo X K n).swap u).a ∧ N4 lb ((lgo X K n).swap u).b ∧ N4 lc ((lgo X K n).swap u).c ∧ N4 ld ((lgo X K n).swap u).d ∧ Blk w wr [(w.heap.size, arr .u8 ks, 23), (w.heap.size + 1, arr .u8 um, 23), (w.heap.size + 1 + 1, arr .u8 zn, 23), (g2803, (arr .u64 z2802), 48), (g2807, (arr .u64 z2806), 48), (gr4_5, arr .u64 la, 48), (gr4_6, arr .u64 lb, 48), (gr4_7, arr .u64 lc, 48), (gr4_8, arr .u64 ld, 48)]) (fun _ v2 _ => (intOf v2 + 1).toNat)
  case atStart => exact ⟨0, 0, Nat.zero_le _, Or.inl rfl, rfl, rfl, _, _, _, _, HK1.out, HK0.out, HZ2806.out, HK1.out, HBr4.out⟩
  case round =>
  obtain ⟨n, u, hn, hu, rfl, rfl, la, lb, lc, ld, h1, h2, h3, h4, hB⟩ := hrel
  have HAe := Lib.hid h1
  have HBe := Lib.hid h2
  have HCe := Lib.hid h3
  have HDe := Lib.hid h4
  have HAl := Lib.hid h1.len
  have HBl := Lib.hid h2.len
  have HCl := Lib.hid h3.len
  have HDl := Lib.hid h4.len
  have HB := Lib.hid hB
  clear h1 h2 h3 h4 hB HBr4
  by_cases hlt : n < 255
  · obtain ⟨i, hi⟩ : ∃ i : Nat, i + n = 254 := ⟨254 - n, by omega⟩
    have hz : (254 : Int) - (n : Int) = (i : Int) := by omega
    have hi2 : i < 256 := by omega
    obtain ⟨b, hbit⟩ : ∃ b, b = K / 2 ^ i % 2 := ⟨_, rfl⟩
    have hb : b = 0 ∨ b = 1 := by omega
    obtain ⟨c, hcc⟩ : ∃ c, c = (u + b) % 2 := ⟨_, rfl⟩
    have hc : c = 0 ∨ c = 1 := by omega
    have hx := xor_bits u b hu hb
    rw [← hcc] at hx
    obtain ⟨s1, s2, s3, s4⟩ := swap_pick (lgo X K n) u b c hu hb hcc
    have hpn := lgo_swap X K n b (by rw [show 254 - n = i by omega]; exact hbit.symm)
    have hsok := (lgo_ok X K lX n).swap b
    obtain ⟨S, hS⟩ : ∃ S, S = (lgo X K n).swap b := ⟨_, rfl⟩
    rw [← hS] at s1 s2 s3 s4 hpn hsok
    rw [hz]
    have HI := Lib.hid hi
    have HBT := Lib.hid hbit.symm
    have HS1 := Lib.hid s1
    have HS2 := Lib.hid s2
    have HS3 := Lib.hid s3
    have HS4 := Lib.hid s4
    have HPN := Lib.hid hpn
    have HSok := Lib.hid hsok
    have HBb := Lib.hid hb
    clear hz hi hbit hcc s1 s2 s3 s4 hpn hsok hS hb
    have q9 : 0 ≤ (i : Int) := by omega
    go_upto_region 11 with (first | ((with_reducible show wpList _ _ _ (Oper.mk (some 32) _ _ _ _ _ :: _) _ _); refine wpList_load_part rfl 48 _ rfl (g2803) (0) _ 48 (0, 0) _ (HB.out.get 3 rfl) rfl .u64 z2802 (arr_part _ _) Try.underlying48 rfl (lim_i HL2802.out) ?_) | ((with_reducible show Calls _ 21 #[.agg _, _] _ _); go_at_call 21; refine (bit_any _ i _ _ HZ2802.out hi2 HBT.out).mono ?_; rintro e w2809 ⟨rfl, hb2809⟩; have HB2809 := Lib.hid (HB.out.kept hb2809); clear hb2809))
    clear hx
    (try simp only [World.size_alloc, Act.put, List.setIfInBounds_toArray, List.set_cons_zero, List.set_cons_succ])
    obtain ⟨z5001, hz5001⟩ : ∃ z : List Int, z = nar (dig 18446744073709551616 4 (if c = 1 then ((lgo X K n).swap u).c else ((lgo X K n).swap u).a)) := ⟨_, rfl⟩
    have HE5001 := Lib.hid hz5001
    have HL5001 : Hid (z5001.length = 4) := Lib.hid (by rw [hz5001]; exact (nar_len _).trans (dig_len _ _ _))
    clear hz5001
    obtain ⟨z5002, hz5002⟩ : ∃ z : List Int, z = nar (dig 18446744073709551616 4 (if c = 1 then ((lgo X K n).swap u).a else ((lgo X K n).swap u).c)) := ⟨_, rfl⟩
    have HE5002 := Lib.hid hz5002
    have HL5002 : Hid (z5002.length = 4) := Lib.hid (by rw [hz5002]; exact (nar_len _).trans (dig_len _ _ _))
    clear hz5002
    refine wp_region_lin (fun (fF : Fill) (uF : World) => (∀ v, fF 0 = some v → v = .agg (arr .u64 la) ∧ True) ∧ (∀ v, fF 1 = some v → v = .agg (arr .u64 lc) ∧ True) ∧ (∀ v, fF 2 = some v → v = .int .u64 (c : Int) ∧ True) ∧ (∀ v, fF 3 = some v → v = .agg (arr .u64 z5001) ∧ N4 z5001 (if c = 1 then ((lgo X K n).swap u).c else ((lgo X K n).swap u).a)) ∧ (∀ v, fF 4 = some v → v = .agg (arr .u64 lc) ∧ True) ∧ (∀ v, fF 5 = some v → v = .agg (arr .u64 la) ∧ True) ∧ (∀ v, fF 6 = some v → v = .int .u64 (c : Int) ∧ True) ∧ (∀ v, fF 7 = some v → v = .agg (arr .u64 z5002) ∧ N4 z5002 (if c = 1 then ((lgo X K n).swap u).a else ((lgo X K n).swap u).c)) ∧ Blk w uF ([(w.heap.size, arr .u8 ks, 23), (w.heap.size + 1, arr .u8 um, 23), (w.heap.size + 1 + 1, arr .u8 zn, 23), (g2803, (arr .u64 z2802), 48), (g2807, (arr .u64 z2806), 48), (gr4_5, (if (fF 8).isSome = true then arr .u64 z5001 else arr .u64 la), 48), (gr4_6, arr .u64 lb, 48), (gr4_7, (if (fF 9).isSome = true then arr .u64 z5002 else arr .u64 lc), 48), (gr4_8, arr .u64 ld, 48)])) (by kernel_rfl) (by kernel_rfl) ?zr11 ?sr11 ?er11
    case zr11 => exact ⟨fun _ h => (by cases h), fun _ h => (by cases h), fun _ h => (by cases h), fun _ h => (by cases h), fun _ h => (by cases h), fun _ h => (by cases h), fun _ h => (by cases h), fun _ h => (by cases h), HB2809.out.drew⟩
    case sr11 =>
      refine LinAll.cons (fun fF bF uF kF hJF hfF hcF hupF hsF hKF => ?_) ?_
      · obtain ⟨j0, j1, j2, j3, j4, j5, j6, j7, hB⟩ := hJF
        have e7 : bF.eval (.tmp 7) = .pointer (some ⟨gr4_5, 0, none⟩) := hsF.old' 7 (by kernel_rfl) rfl
        have n8 := hcF.down 8 0 (by kernel_rfl) hfF
        have hB' := hB
        rw [n8] at hB'
        refine step_load_part rfl 48 _ rfl (gr4_5) (0) (arr .u64 la) 48 (0, 0) _ (hB'.get 5 rfl) e7 .u64 la (arr_part _ _) Try.underlying48 rfl (lim_i HAl.out) ?_
        exact hKF _ _ ⟨fun _ h => ⟨(Option.some.inj h).symm, trivial⟩, j1, j2, j3, j4, j5, j6, j7, hB⟩
      refine LinAll.cons (fun fF bF uF kF hJF hfF hcF hupF hsF hKF => ?_) ?_
      · obtain ⟨j0, j1, j2, j3, j4, j5, j6, j7, hB⟩ := hJF
        have e9 : bF.eval (.tmp 9) = .pointer (some ⟨gr4_7, 0, none⟩) := hsF.old' 9 (by kernel_rfl) rfl
        have n9 := hcF.down 9 1 (by kernel_rfl) hfF
        have hB' := hB
        rw [n9] at hB'
        refine step_load_part rfl 48 _ rfl (gr4_7) (0) (arr .u64 lc) 48 (0, 0) _ (hB'.get 7 rfl) e9 .u64 lc (arr_part _ _) Try.underlying48 rfl (lim_i HCl.out) ?_
        exact hKF _ _ ⟨j0, fun _ h => ⟨(Option.some.inj h).symm, trivial⟩, j2, j3, j4, j5, j6, j7, hB⟩
      refine LinAll.cons (fun fF bF uF kF hJF hfF hcF hupF hsF hKF => ?_) ?_
      · obtain ⟨j0, j1, j2, j3, j4, j5, j6, j7, hB⟩ := hJF
        have e11 : bF.eval (.tmp 11) = .int .u64 (c : Int) := hsF.old' 11 (by kernel_rfl) rfl
        exact lin_pure rfl (.int .u64 (c : Int)) (by simp only [execOp, e11] <;> first | rfl | kernel_rfl | (go_simp; done)) (hKF _ _ ⟨j0, j1, fun _ h => ⟨(Option.some.inj h).symm, trivial⟩, j3, j4, j5, j6, j7, hB⟩)
      refine LinAll.cons (fun fF bF uF kF hJF hfF hcF hupF hsF hKF => ?_) ?_
      · obtain ⟨j0, j1, j2, j3, j4, j5, j6, j7, hB⟩ := hJF
        obtain ⟨e38, p38⟩ := hsF.at hupF 0 38 (by kernel_rfl) rfl j0
        obtain ⟨e39, p39⟩ := hsF.at hupF 1 39 (by kernel_rfl) rfl j1
        obtain ⟨e40, p40⟩ := hsF.at hupF 2 40 (by kernel_rfl) rfl j2
        refine lin_call rfl 22 [Operand.tmp 38, Operand.tmp 39, Operand.tmp 40] _ [.agg (arr .u64 la), .agg (arr .u64 lc), .int .u64 (c : Int)] rfl (by simp only [List.map_cons, List.map_nil, e38, e39, e40] <;> rfl) (fun _ _ => by kernel_rfl) ?_
        refine Calls.mono (pick_any _ _ c _ HAe.out HCe.out hc) ?_
        rintro e w1 ⟨y5003_0, rfl, r5003_0, hb⟩
        obtain rfl : y5003_0 = z5001 := r5003_0.1.trans HE5001.out.symm
        exact ⟨_, rfl, hKF _ _ ⟨j0, j1, j2, fun _ h => ⟨(Option.some.inj h).symm, r5003_0⟩, j4, j5, j6, j7, hB.kept hb⟩⟩
      refine LinAll.cons (fun fF bF uF kF hJF hfF hcF hupF hsF hKF => ?_) ?_
      · obtain ⟨j0, j1, j2, j3, j4, j5, j6, j7, hB⟩ := hJF
        have e9 : bF.eval (.tmp 9) = .pointer (some ⟨gr4_7, 0, none⟩) := hsF.old' 9 (by kernel_rfl) rfl
        have n9 := hcF.down 9 4 (by kernel_rfl) hfF
        have hB' := hB
        rw [n9] at hB'
        refine step_load_part rfl 48 _ rfl (gr4_7) (0) (arr .u64 lc) 48 (0, 0) _ (hB'.get 7 rfl) e9 .u64 lc (arr_part _ _) Try.underlying48 rfl (lim_i HCl.out) ?_
        exact hKF _ _ ⟨j0, j1, j2, j3, fun _ h => ⟨(Option.some.inj h).symm, trivial⟩, j5, j6, j7, hB⟩
      refine LinAll.cons (fun fF bF uF kF hJF hfF hcF hupF hsF hKF => ?_) ?_
      · obtain ⟨j0, j1, j2, j3, j4, j5, j6, j7, hB⟩ := hJF
        have e7 : bF.eval (.tmp 7) = .pointer (some ⟨gr4_5, 0, none⟩) := hsF.old' 7 (by kernel_rfl) rfl
        have n8 := hcF.down 8 5 (by kernel_rfl) hfF
        have hB' := hB
        rw [n8] at hB'
        refine step_load_part rfl 48 _ rfl (gr4_5) (0) (arr .u64 la) 48 (0, 0) _ (hB'.get 5 rfl) e7 .u64 la (arr_part _ _) Try.underlying48 rfl (lim_i HAl.out) ?_
        exact hKF _ _ ⟨j0, j1, j2, j3, j4, fun _ h => ⟨(Option.some.inj h).symm, trivial⟩, j6, j7, hB⟩
      refine LinAll.cons (fun fF bF uF kF hJF hfF hcF hupF hsF hKF => ?_) ?_
      · obtain ⟨j0, j1, j2, j3, j4, j5, j6, j7, hB⟩ := hJF
        have e11 : bF.eval (.tmp 11) = .int .u64 (c : Int) := hsF.old' 11 (by kernel_rfl) rfl
        exact lin_pure rfl (.int .u64 (c : Int)) (by simp only [execOp, e11] <;> first | rfl | kernel_rfl | (go_simp; done)) (hKF _ _ ⟨j0, j1, j2, j3, j4, j5, fun _ h => ⟨(Option.some.inj h).symm, trivial⟩, j7, hB⟩)
      refine LinAll.cons (fun fF bF uF kF hJF hfF hcF hupF hsF hKF => ?_) ?_
      · obtain ⟨j0, j1, j2, j3, j4, j5, j6, j7, hB⟩ := hJF
        obtain ⟨e42, p42⟩ := hsF.at hupF 4 42 (by kernel_rfl) rfl j4
        obtain ⟨e43, p43⟩ := hsF.at hupF 5 43 (by kernel_rfl) rfl j5
        obtain ⟨e44, p44⟩ := hsF.at hupF 6 44 (by kernel_rfl) rfl j6
        refine lin_call rfl 22 [Operand.tmp 42, Operand.tmp 43, Operand.tmp 44] _ [.agg (arr .u64 lc), .agg (arr .u64 la), .int .u64 (c : Int)] rfl (by simp only [List.map_cons, List.map_nil, e42, e43, e44] <;> rfl) (fun _ _ => by kernel_rfl) ?_
        refine Calls.mono (pick_any _ _ c _ HCe.out HAe.out hc) ?_
        rintro e w1 ⟨y5004_0, rfl, r5004_0, hb⟩
        obtain rfl : y5004_0 = z5002 := r5004_0.1.trans HE5002.out.symm
        exact ⟨_, rfl, hKF _ _ ⟨j0, j1, j2, j3, j4, j5, j6, fun _ h => ⟨(Option.some.inj h).symm, r5004_0⟩, hB.kept hb⟩⟩
      refine LinAll.cons (fun fF bF uF kF hJF hfF hcF hupF hsF hKF => ?_) ?_
      · obtain ⟨j0, j1, j2, j3, j4, j5, j6, j7, hB⟩ := hJF
        have e7 : bF.eval (.tmp 7) = .pointer (some ⟨gr4_5, 0, none⟩) := hsF.old' 7 (by kernel_rfl) rfl
        obtain ⟨e41, p41⟩ := hsF.at hupF 3 41 (by kernel_rfl) rfl j3
        have y3 := hupF 3 (by kernel_rfl)
        obtain ⟨v3, s3⟩ := Option.isSome_iff_exists.1 y3
        have HZ5001 := Lib.hid (j3 _ s3).2
        have hB' := hB
        rw [hfF] at hB'
        refine step_store_whole rfl 48 (.tmp 7) (.tmp 41) rfl (gr4_5) (arr .u64 la) _ 48 (hB'.get 5 rfl) e7 e41 (arr_len2 _ _ HL5001.out HAl.out) (lim_s HL5001.out) (all_arr _ _) ?_
        intro w1 hb1 hk1 hz1
        have hB1 : Blk w w1 ([(w.heap.size, arr .u8 ks, 23), (w.heap.size + 1, arr .u8 um, 23), (w.heap.size + 1 + 1, arr .u8 zn, 23), (g2803, (arr .u64 z2802), 48), (g2807, (arr .u64 z2806), 48), (gr4_5, (if ((some undef : Option Value)).isSome = true then arr .u64 z5001 else arr .u64 la), 48), (gr4_6, arr .u64 lb, 48), (gr4_7, (if (fF 9).isSome = true then arr .u64 z5002 else arr .u64 lc), 48), (gr4_8, arr .u64 ld, 48)]) := hB'.put 5 rfl hk1 hb1
        exact hKF undef w1 ⟨j0, j1, j2, j3, j4, j5, j6, j7, hB1⟩
      refine LinAll.cons (fun fF bF uF kF hJF hfF hcF hupF hsF hKF => ?_) ?_
      · obtain ⟨j0, j1, j2, j3, j4, j5, j6, j7, hB⟩ := hJF
        have e9 : bF.eval (.tmp 9) = .pointer (some ⟨gr4_7, 0, none⟩) := hsF.old' 9 (by kernel_rfl) rfl
        obtain ⟨e45, p45⟩ := hsF.at hupF 7 45 (by kernel_rfl) rfl j7
        have y7 := hupF 7 (by kernel_rfl)
        obtain ⟨v7, s7⟩ := Option.isSome_iff_exists.1 y7
        have HZ5002 := Lib.hid (j7 _ s7).2
        have hB' := hB
        rw [hfF] at hB'
        refine step_store_whole rfl 48 (.tmp 9) (.tmp 45) rfl (gr4_7) (arr .u64 lc) _ 48 (hB'.get 7 rfl) e9 e45 (arr_len2 _ _ HL5002.out HCl.out) (lim_s HL5002.out) (all_arr _ _) ?_
        intro w1 hb1 hk1 hz1
        have hB1 : Blk w w1 ([(w.heap.size, arr .u8 ks, 23), (w.heap.size + 1, arr .u8 um, 23), (w.heap.size + 1 + 1, arr .u8 zn, 23), (g2803, (arr .u64 z2802), 48), (g2807, (arr .u64 z2806), 48), (gr4_5, (if (fF 8).isSome = true then arr .u64 z5001 else arr .u64 la), 48), (gr4_6, arr .u64 lb, 48), (gr4_7, (if ((some undef : Option Value)).isSome = true then arr .u64 z5002 else arr .u64 lc), 48), (gr4_8, arr .u64 ld, 48)]) := hB'.put 7 rfl hk1 hb1
        exact hKF undef w1 ⟨j0, j1, j2, j3, j4, j5, j6, j7, hB1⟩
      exact LinAll.nil
    case er11 =>
    intro fF ur11 hall hJF
    obtain ⟨j0, j1, j2, j3, j4, j5, j6, j7, hB⟩ := hJF
    obtain ⟨v0, h0⟩ := Option.isSome_iff_exists.1 (hall 0 (by decide))
    obtain ⟨rfl, p0⟩ := j0 _ h0
    obtain ⟨v1, h1⟩ := Option.isSome_iff_exists.1 (hall 1 (by decide))
    obtain ⟨rfl, p1⟩ := j1 _ h1
    obtain ⟨v2, h2⟩ := Option.isSome_iff_exists.1 (hall 2 (by decide))
    obtain ⟨rfl, p2⟩ := j2 _ h2
    obtain ⟨v3, h3⟩ := Option.isSome_iff_exists.1 (hall 3 (by decide))
    obtain ⟨rfl, p3⟩ := j3 _ h3
    obtain ⟨v4, h4⟩ := Option.isSome_iff_exists.1 (hall 4 (by decide))
    obtain ⟨rfl, p4⟩ := j4 _ h4
    obtain ⟨v5, h5⟩ := Option.isSome_iff_exists.1 (hall 5 (by decide))
    obtain ⟨rfl, p5⟩ := j5 _ h5
    obtain ⟨v6, h6⟩ := Option.isSome_iff_exists.1 (hall 6 (by decide))
    obtain ⟨rfl, p6⟩ := j6 _ h6
    obtain ⟨v7, h7⟩ := Option.isSome_iff_exists.1 (hall 7 (by decide))
    obtain ⟨rfl, p7⟩ := j7 _ h7
    obtain ⟨v8, h8⟩ := Option.isSome_iff_exists.1 (hall 8 (by decide))
    obtain ⟨v9, h9⟩ := Option.isSome_iff_exists.1 (hall 9 (by decide))
    rw [h8, h9] at hB
    have HBr11 : Hid (Blk w ur11 [(w.heap.size, arr .u8 ks, 23), (w.heap.size + 1, arr .u8 um, 23), (w.heap.size + 1 + 1, arr .u8 zn, 23), (g2803, (arr .u64 z2802), 48), (g2807, (arr .u64 z2806), 48), (gr4_5, arr .u64 z5001, 48), (gr4_6, arr .u64 lb, 48), (gr4_7, arr .u64 z5002, 48), (gr4_8, arr .u64 ld, 48)]) := Lib.hid hB
    have HZ5001 := Lib.hid p3
    have HZ5002 := Lib.hid p7
    simp only [laid, Nat.zero_add, Nat.reduceAdd, h0, h1, h2, h3, h4, h5, h6, h7, h8, h9, Act.put, List.setIfInBounds_toArray, List.set_cons_zero, List.set_cons_succ]
    clear j0 j1 j2 j3 j4 j5 j6 j7 hB h0 h1 h2 h3 h4 h5 h6 h7 h8 h9 hall fF HB2809
    clear p0 p1 p2 p3 p4 p5 p6 p7
    go_upto_region 12 with fail
    (try simp only [World.size_alloc, Act.put, List.setIfInBounds_toArray, List.set_cons_zero, List.set_cons_succ])
    obtain ⟨z5005, hz5005⟩ : ∃ z : List Int, z = nar (dig 18446744073709551616 4 (if c = 1 then ((lgo X K n).swap u).d else ((lgo X K n).swap u).b)) := ⟨_, rfl⟩
    have HE5005 := Lib.hid hz5005
    have HL5005 : Hid (z5005.length = 4) := Lib.hid (by rw [hz5005]; exact (nar_len _).trans (dig_len _ _ _))
    clear hz5005
    obtain ⟨z5006, hz5006⟩ : ∃ z : List Int, z = nar (dig 18446744073709551616 4 (if c = 1 then ((lgo X K n).swap u).b else ((lgo X K n).swap u).d)) := ⟨_, rfl⟩
    have HE5006 := Lib.hid hz5006
    have HL5006 : Hid (z5006.length = 4) := Lib.hid (by rw [hz5006]; exact (nar_len _).trans (dig_len _ _ _))
    clear hz5006
    refine wp_region_lin (fun (fF : Fill) (uF : World) => (∀ v, fF 0 = some v → v = .agg (arr .u64 lb) ∧ True) ∧ (∀ v, fF 1 = some v → v = .agg (arr .u64 ld) ∧ True) ∧ (∀ v, fF 2 = some v → v = .int .u64 (c : Int) ∧ True) ∧ (∀ v, fF 3 = some v → v = .agg (arr .u64 z5005) ∧ N4 z5005 (if c = 1 then ((lgo X K n).swap u).d else ((lgo X K n).swap u).b)) ∧ (∀ v, fF 4 = some v → v = .agg (arr .u64 ld) ∧ True) ∧ (∀ v, fF 5 = some v → v = .agg (arr .u64 lb) ∧ True) ∧ (∀ v, fF 6 = some v → v = .int .u64 (c : Int) ∧ True) ∧ (∀ v, fF 7 = some v → v = .agg (arr .u64 z5006) ∧ N4 z5006 (if c = 1 then ((lgo X K n).swap u).b else ((lgo X K n).swap u).d)) ∧ Blk w uF ([(w.heap.size, arr .u8 ks, 23), (w.heap.size + 1, arr .u8 um, 23), (w.heap.size + 1 + 1, arr .u8 zn, 23), (g2803, (arr .u64 z2802), 48), (g2807, (arr .u64 z2806), 48), (gr4_5, arr .u64 z5001, 48), (gr4_6, (if (fF 8).isSome = true then arr .u64 z5005 else arr .u64 lb), 48), (gr4_7, arr .u64 z5002, 48), (gr4_8, (if (fF 9).isSome = true then arr .u64 z5006 else arr .u64 ld), 48)])) (by kernel_rfl) (by kernel_rfl) ?zr12 ?sr12 ?er12
    case zr12 => exact ⟨fun _ h => (by cases h), fun _ h => (by cases h), fun _ h => (by cases h), fun _ h => (by cases h), fun _ h => (by cases h), fun _ h => (by cases h), fun _ h => (by cases h), fun _ h => (by cases h), HBr11.out.drew⟩
    case sr12 =>
      refine LinAll.cons (fun fF bF uF kF hJF hfF hcF hupF hsF hKF => ?_) ?_
      · obtain ⟨j0, j1, j2, j3, j4, j5, j6, j7, hB⟩ := hJF
        have e8 : bF.eval (.tmp 8) = .pointer (some ⟨gr4_6, 0, none⟩) := hsF.old' 8 (by kernel_rfl) rfl
        have n8 := hcF.down 8 0 (by kernel_rfl) hfF
        have hB' := hB
        rw [n8] at hB'
        refine step_load_part rfl 48 _ rfl (gr4_6) (0) (arr .u64 lb) 48 (0, 0) _ (hB'.get 6 rfl) e8 .u64 lb (arr_part _ _) Try.underlying48 rfl (lim_i HBl.out) ?_
        exact hKF _ _ ⟨fun _ h => ⟨(Option.some.inj h).symm, trivial⟩, j1, j2, j3, j4, j5, j6, j7, hB⟩
      refine LinAll.cons (fun fF bF uF kF hJF hfF hcF hupF hsF hKF => ?_) ?_
      · obtain ⟨j0, j1, j2, j3, j4, j5, j6, j7, hB⟩ := hJF
        have e10 : bF.eval (.tmp 10) = .pointer (some ⟨gr4_8, 0, none⟩) := hsF.old' 10 (by kernel_rfl) rfl
        have n9 := hcF.down 9 1 (by kernel_rfl) hfF
        have hB' := hB
        rw [n9] at hB'
        refine step_load_part rfl 48 _ rfl (gr4_8) (0) (arr .u64 ld) 48 (0, 0) _ (hB'.get 8 rfl) e10 .u64 ld (arr_part _ _) Try.underlying48 rfl (lim_i HDl.out) ?_
        exact hKF _ _ ⟨j0, fun _ h => ⟨(Option.some.inj h).symm, trivial⟩, j2, j3, j4, j5, j6, j7, hB⟩
      refine LinAll.cons (fun fF bF uF kF hJF hfF hcF hupF hsF hKF => ?_) ?_
      · obtain ⟨j0, j1, j2, j3, j4, j5, j6, j7, hB⟩ := hJF
        have e11 : bF.eval (.tmp 11) = .int .u64 (c : Int) := hsF.old' 11 (by kernel_rfl) rfl
        exact lin_pure rfl (.int .u64 (c : Int)) (by simp only [execOp, e11] <;> first | rfl | kernel_rfl | (go_simp; done)) (hKF _ _ ⟨j0, j1, fun _ h => ⟨(Option.some.inj h).symm, trivial⟩, j3, j4, j5, j6, j7, hB⟩)
      refine LinAll.cons (fun fF bF uF kF hJF hfF hcF hupF hsF hKF => ?_) ?_
      · obtain ⟨j0, j1, j2, j3, j4, j5, j6, j7, hB⟩ := hJF
        obtain ⟨e46, p46⟩ := hsF.at hupF 0 46 (by kernel_rfl) rfl j0
        obtain ⟨e47, p47⟩ := hsF.at hupF 1 47 (by kernel_rfl) rfl j1
        obtain ⟨e48, p48⟩ := hsF.at hupF 2 48 (by kernel_rfl) rfl j2
        refine lin_call rfl 22 [Operand.tmp 46, Operand.tmp 47, Operand.tmp 48] _ [.agg (arr .u64 lb), .agg (arr .u64 ld), .int .u64 (c : Int)] rfl (by simp only [List.map_cons, List.map_nil, e46, e47, e48] <;> rfl) (fun _ _ => by kernel_rfl) ?_
        refine Calls.mono (pick_any _ _ c _ HBe.out HDe.out hc) ?_
        rintro e w1 ⟨y5007_0, rfl, r5007_0, hb⟩
        obtain rfl : y5007_0 = z5005 := r5007_0.1.trans HE5005.out.symm
        exact ⟨_, rfl, hKF _ _ ⟨j0, j1, j2, fun _ h => ⟨(Option.some.inj h).symm, r5007_0⟩, j4, j5, j6, j7, hB.kept hb⟩⟩
      refine LinAll.cons (fun fF bF uF kF hJF hfF hcF hupF hsF hKF => ?_) ?_
      · obtain ⟨j0, j1, j2, j3, j4, j5, j6, j7, hB⟩ := hJF
        have e10 : bF.eval (.tmp 10) = .pointer (some ⟨gr4_8, 0, none⟩) := hsF.old' 10 (by kernel_rfl) rfl
        have n9 := hcF.down 9 4 (by kernel_rfl) hfF
        have hB' := hB
        rw [n9] at hB'
        refine step_load_part rfl 48 _ rfl (gr4_8) (0) (arr .u64 ld) 48 (0, 0) _ (hB'.get 8 rfl) e10 .u64 ld (arr_part _ _) Try.underlying48 rfl (lim_i HDl.out) ?_
        exact hKF _ _ ⟨j0, j1, j2, j3, fun _ h => ⟨(Option.some.inj h).symm, trivial⟩, j5, j6, j7, hB⟩
      refine LinAll.cons (fun fF bF uF kF hJF hfF hcF hupF hsF hKF => ?_) ?_
      · obtain ⟨j0, j1, j2, j3, j4, j5, j6, j7, hB⟩ := hJF
        have e8 : bF.eval (.tmp 8) = .pointer (some ⟨gr4_6, 0, none⟩) := hsF.old' 8 (by kernel_rfl) rfl
        have n8 := hcF.down 8 5 (by kernel_rfl) hfF
        have hB' := hB
        rw [n8] at hB'
        refine step_load_part rfl 48 _ rfl (gr4_6) (0) (arr .u64 lb) 48 (0, 0) _ (hB'.get 6 rfl) e8 .u64 lb (arr_part _ _) Try.underlying48 rfl (lim_i HBl.out) ?_
        exact hKF _ _ ⟨j0, j1, j2, j3, j4, fun _ h => ⟨(Option.some.inj h).symm, trivial⟩, j6, j7, hB⟩
      refine LinAll.cons (fun fF bF uF kF hJF hfF hcF hupF hsF hKF => ?_) ?_
      · obtain ⟨j0, j1, j2, j3, j4, j5, j6, j7, hB⟩ := hJF
        have e11 : bF.eval (.tmp 11) = .int .u64 (c : Int) := hsF.old' 11 (by kernel_rfl) rfl
        exact lin_pure rfl (.int .u64 (c : Int)) (by simp only [execOp, e11] <;> first | rfl | kernel_rfl | (go_simp; done)) (hKF _ _ ⟨j0, j1, j2, j3, j4, j5, fun _ h => ⟨(Option.some.inj h).symm, trivial⟩, j7, hB⟩)
      refine LinAll.cons (fun fF bF uF kF hJF hfF hcF hupF hsF hKF => ?_) ?_
      · obtain ⟨j0, j1, j2, j3, j4, j5, j6, j7, hB⟩ := hJF
        obtain ⟨e50, p50⟩ := hsF.at hupF 4 50 (by kernel_rfl) rfl j4
        obtain ⟨e51, p51⟩ := hsF.at hupF 5 51 (by kernel_rfl) rfl j5
        obtain ⟨e52, p52⟩ := hsF.at hupF 6 52 (by kernel_rfl) rfl j6
        refine lin_call rfl 22 [Operand.tmp 50, Operand.tmp 51, Operand.tmp 52] _ [.agg (arr .u64 ld), .agg (arr .u64 lb), .int .u64 (c : Int)] rfl (by simp only [List.map_cons, List.map_nil, e50, e51, e52] <;> rfl) (fun _ _ => by kernel_rfl) ?_
        refine Calls.mono (pick_any _ _ c _ HDe.out HBe.out hc) ?_
        rintro e w1 ⟨y5008_0, rfl, r5008_0, hb⟩
        obtain rfl : y5008_0 = z5006 := r5008_0.1.trans HE5006.out.symm
        exact ⟨_, rfl, hKF _ _ ⟨j0, j1, j2, j3, j4, j5, j6, fun _ h => ⟨(Option.some.inj h).symm, r5008_0⟩, hB.kept hb⟩⟩
      refine LinAll.cons (fun fF bF uF kF hJF hfF hcF hupF hsF hKF => ?_) ?_
      · obtain ⟨j0, j1, j2, j3, j4, j5, j6, j7, hB⟩ := hJF
        have e8 : bF.eval (.tmp 8) = .pointer (some ⟨gr4_6, 0, none⟩) := hsF.old' 8 (by kernel_rfl) rfl
        obtain ⟨e49, p49⟩ := hsF.at hupF 3 49 (by kernel_rfl) rfl j3
        have y3 := hupF 3 (by kernel_rfl)
        obtain ⟨v3, s3⟩ := Option.isSome_iff_exists.1 y3
        have HZ5005 := Lib.hid (j3 _ s3).2
        have hB' := hB
        rw [hfF] at hB'
        refine step_store_whole rfl 48 (.tmp 8) (.tmp 49) rfl (gr4_6) (arr .u64 lb) _ 48 (hB'.get 6 rfl) e8 e49 (arr_len2 _ _ HL5005.out HBl.out) (lim_s HL5005.out) (all_arr _ _) ?_
        intro w1 hb1 hk1 hz1
        have hB1 : Blk w w1 ([(w.heap.size, arr .u8 ks, 23), (w.heap.size + 1, arr .u8 um, 23), (w.heap.size + 1 + 1, arr .u8 zn, 23), (g2803, (arr .u64 z2802), 48), (g2807, (arr .u64 z2806), 48), (gr4_5, arr .u64 z5001, 48), (gr4_6, (if ((some undef : Option Value)).isSome = true then arr .u64 z5005 else arr .u64 lb), 48), (gr4_7, arr .u64 z5002, 48), (gr4_8, (if (fF 9).isSome = true then arr .u64 z5006 else arr .u64 ld), 48)]) := hB'.put 6 rfl hk1 hb1
        exact hKF undef w1 ⟨j0, j1, j2, j3, j4, j5, j6, j7, hB1⟩
      refine LinAll.cons (fun fF bF uF kF hJF hfF hcF hupF hsF hKF => ?_) ?_
      · obtain ⟨j0, j1, j2, j3, j4, j5, j6, j7, hB⟩ := hJF
        have e10 : bF.eval (.tmp 10) = .pointer (some ⟨gr4_8, 0, none⟩) := hsF.old' 10 (by kernel_rfl) rfl
        obtain ⟨e53, p53⟩ := hsF.at hupF 7 53 (by kernel_rfl) rfl j7
        have y7 := hupF 7 (by kernel_rfl)
        obtain ⟨v7, s7⟩ := Option.isSome_iff_exists.1 y7
        have HZ5006 := Lib.hid (j7 _ s7).2
        have hB' := hB
        rw [hfF] at hB'
        refine step_store_whole rfl 48 (.tmp 10) (.tmp 53) rfl (gr4_8) (arr .u64 ld) _ 48 (hB'.get 8 rfl) e10 e53 (arr_len2 _ _ HL5006.out HDl.out) (lim_s HL5006.out) (all_arr _ _) ?_
        intro w1 hb1 hk1 hz1
        have hB1 : Blk w w1 ([(w.heap.size, arr .u8 ks, 23), (w.heap.size + 1, arr .u8 um, 23), (w.heap.size + 1 + 1, arr .u8 zn, 23), (g2803, (arr .u64 z2802), 48), (g2807, (arr .u64 z2806), 48), (gr4_5, arr .u64 z5001, 48), (gr4_6, (if (fF 8).isSome = true then arr .u64 z5005 else arr .u64 lb), 48), (gr4_7, arr .u64 z5002, 48), (gr4_8, (if ((some undef : Option Value)).isSome = true then arr .u64 z5006 else arr .u64 ld), 48)]) := hB'.put 8 rfl hk1 hb1
        exact hKF undef w1 ⟨j0, j1, j2, j3, j4, j5, j6, j7, hB1⟩
      exact LinAll.nil
    case er12 =>
    intro fF ur12 hall hJF
    obtain ⟨j0, j1, j2, j3, j4, j5, j6, j7, hB⟩ := hJF
    obtain ⟨v0, h0⟩ := Option.isSome_iff_exists.1 (hall 0 (by decide))
    obtain ⟨rfl, p0⟩ := j0 _ h0
    obtain ⟨v1, h1⟩ := Option.isSome_iff_exists.1 (hall 1 (by decide))
    obtain ⟨rfl, p1⟩ := j1 _ h1
    obtain ⟨v2, h2⟩ := Option.isSome_iff_exists.1 (hall 2 (by decide))
    obtain ⟨rfl, p2⟩ := j2 _ h2
    obtain ⟨v3, h3⟩ := Option.isSome_iff_exists.1 (hall 3 (by decide))
    obtain ⟨rfl, p3⟩ := j3 _ h3
    obtain ⟨v4, h4⟩ := Option.isSome_iff_exists.1 (hall 4 (by decide))
    obtain ⟨rfl, p4⟩ := j4 _ h4
    obtain ⟨v5, h5⟩ := Option.isSome_iff_exists.1 (hall 5 (by decide))
    obtain ⟨rfl, p5⟩ := j5 _ h5
    obtain ⟨v6, h6⟩ := Option.isSome_iff_exists.1 (hall 6 (by decide))
    obtain ⟨rfl, p6⟩ := j6 _ h6
    obtain ⟨v7, h7⟩ := Option.isSome_iff_exists.1 (hall 7 (by decide))
    obtain ⟨rfl, p7⟩ := j7 _ h7
    obtain ⟨v8, h8⟩ := Option.isSome_iff_exists.1 (hall 8 (by decide))
    obtain ⟨v9, h9⟩ := Option.isSome_iff_exists.1 (hall 9 (by decide))
    rw [h8, h9] at hB
    have HBr12 : Hid (Blk w ur12 [(w.heap.size, arr .u8 ks, 23), (w.heap.size + 1, arr .u8 um, 23), (w.heap.size + 1 + 1, arr .u8 zn, 23), (g2803, (arr .u64 z2802), 48), (g2807, (arr .u64 z2806), 48), (gr4_5, arr .u64 z5001, 48), (gr4_6, arr .u64 z5005, 48), (gr4_7, arr .u64 z5002, 48), (gr4_8, arr .u64 z5006, 48)]) := Lib.hid hB
    have HZ5005 := Lib.hid p3
    have HZ5006 := Lib.hid p7
    simp only [laid, Nat.zero_add, Nat.reduceAdd, h0, h1, h2, h3, h4, h5, h6, h7, h8, h9, Act.put, List.setIfInBounds_toArray, List.set_cons_zero, List.set_cons_succ]
    clear j0 j1 j2 j3 j4 j5 j6 j7 hB h0 h1 h2 h3 h4 h5 h6 h7 h8 h9 hall fF HBr11
    clear p0 p1 p2 p3 p4 p5 p6 p7
    have HSN7 := Lib.hid (HZ5001.out.cast HS1.out)
    have HSN8 := Lib.hid (HZ5005.out.cast HS2.out)
    have HSN9 := Lib.hid (HZ5002.out.cast HS3.out)
    have HSN10 := Lib.hid (HZ5006.out.cast HS4.out)
    go_upto_region 14 with fail
    (try simp only [World.size_alloc, Act.put, List.setIfInBounds_toArray, List.set_cons_zero, List.set_cons_succ])
    go_wp2_with (first | ((with_reducible show wpList _ _ _ (Oper.mk (some 56) _ _ _ _ _ :: _) _ _); refine wpList_load_part rfl 48 _ rfl (g2807) (0) _ 48 (0, 0) _ (HBr12.out.get 4 rfl) rfl .u64 z2806 (arr_part _ _) Try.underlying48 rfl (lim_i HL2806.out) ?_) | ((with_reducible show wpList _ _ _ (Oper.mk (some 57) _ _ _ _ _ :: _) _ _); refine wpList_load_part rfl 48 _ rfl (gr4_5) (0) _ 48 (0, 0) _ (HBr12.out.get 5 rfl) rfl .u64 z5001 (arr_part _ _) Try.underlying48 rfl (lim_i HL5001.out) ?_) | ((with_reducible show wpList _ _ _ (Oper.mk (some 58) _ _ _ _ _ :: _) _ _); refine wpList_load_part rfl 48 _ rfl (gr4_6) (0) _ 48 (0, 0) _ (HBr12.out.get 6 rfl) rfl .u64 z5005 (arr_part _ _) Try.underlying48 rfl (lim_i HL5005.out) ?_) | ((with_reducible show wpList _ _ _ (Oper.mk (some 59) _ _ _ _ _ :: _) _ _); refine wpList_load_part rfl 48 _ rfl (gr4_7) (0) _ 48 (0, 0) _ (HBr12.out.get 7 rfl) rfl .u64 z5002 (arr_part _ _) Try.underlying48 rfl (lim_i HL5002.out) ?_) | ((with_reducible show wpList _ _ _ (Oper.mk (some 60) _ _ _ _ _ :: _) _ _); refine wpList_load_part rfl 48 _ rfl (gr4_8) (0) _ 48 (0, 0) _ (HBr12.out.get 8 rfl) rfl .u64 z5006 (arr_part _ _) Try.underlying48 rfl (lim_i HL5006.out) ?_) | ((with_reducible show Calls _ 23 #[.agg _, .agg _, .agg _, .agg _, .agg _] _ _); go_at_call 23; refine (step_any _ _ _ _ _ _ HZ2806.out HSN7.out HSN8.out HSN9.out HSN10.out HSok.out.a HSok.out.b HSok.out.c HSok.out.d).mono ?_; rintro e w2810 ⟨za2810, zb2810, zc2810, zd2810, rfl, ha2810, hbb2810, hc2810, hd2810, hb2810⟩; have HZa2810 := Lib.hid ha2810; have HZb2810 := Lib.hid hbb2810; have HZc2810 := Lib.hid hc2810; have HZd2810 := Lib.hid hd2810; have HLa2810 := Lib.hid ha2810.len; have HLb2810 := Lib.hid hbb2810.len; have HLc2810 := Lib.hid hc2810.len; have HLd2810 := Lib.hid hd2810.len; clear ha2810 hbb2810 hc2810 hd2810; have HB2810 := Lib.hid (HBr12.out.kept hb2810); clear hb2810) | ((with_reducible show wpList _ _ _ (Oper.mk none (Op.store _ (Operand.tmp 7) (Operand.tmp 62)) _ _ _ _ :: _) _ _); refine wpList_store_whole rfl 48 _ _ rfl (gr4_5) _ _ 48 (HB2810.out.get 5 rfl) rfl rfl (arr_len2 _ _ HLa2810.out HL5001.out) (lim_s HLa2810.out) (all_arr _ _) ?_; intro w2811 hb2811 hk2811 hz2811; have HB2811 := Lib.hid (HB2810.out.put 5 rfl hk2811 hb2811); clear hb2811 hk2811 hz2811; clear HB2810) | ((with_reducible show wpList _ _ _ (Oper.mk none (Op.store _ (Operand.tmp 8) (Operand.tmp 63)) _ _ _ _ :: _) _ _); refine wpList_store_whole rfl 48 _ _ rfl (gr4_6) _ _ 48 (HB2811.out.get 6 rfl) rfl rfl (arr_len2 _ _ HLb2810.out HL5005.out) (lim_s HLb2810.out) (all_arr _ _) ?_; intro w2812 hb2812 hk2812 hz2812; have HB2812 := Lib.hid (HB2811.out.put 6 rfl hk2812 hb2812); clear hb2812 hk2812 hz2812; clear HB2811) | ((with_reducible show wpList _ _ _ (Oper.mk none (Op.store _ (Operand.tmp 9) (Operand.tmp 64)) _ _ _ _ :: _) _ _); refine wpList_store_whole rfl 48 _ _ rfl (gr4_7) _ _ 48 (HB2812.out.get 7 rfl) rfl rfl (arr_len2 _ _ HLc2810.out HL5002.out) (lim_s HLc2810.out) (all_arr _ _) ?_; intro w2813 hb2813 hk2813 hz2813; have HB2813 := Lib.hid (HB2812.out.put 7 rfl hk2813 hb2813); clear hb2813 hk2813 hz2813; clear HB2812) | ((with_reducible show wpList _ _ _ (Oper.mk none (Op.store _ (Operand.tmp 10) (Operand.tmp 65)) _ _ _ _ :: _) _ _); refine wpList_store_whole rfl 48 _ _ rfl (gr4_8) _ _ 48 (HB2813.out.get 8 rfl) rfl rfl (arr_len2 _ _ HLd2810.out HL5006.out) (lim_s HLd2810.out) (all_arr _ _) ?_; intro w2814 hb2814 hk2814 hz2814; have HB2814 := Lib.hid (HB2813.out.put 8 rfl hk2814 hb2814); clear hb2814 hk2814 hz2814; clear HB2813))
    go_roundw
    case rel =>
      have e := HI.out
      exact ⟨n + 1, b, by omega, HBb.out, rfl, by congr 1; omega, _, _, _, _, by rw [HPN.out]; exact HZa2810.out, by rw [HPN.out]; exact HZb2810.out, by rw [HPN.out]; exact HZc2810.out, by rw [HPN.out]; exact HZd2810.out, HB2814.out⟩
    case measure => simp [intOf]
  · obtain rfl : n = 255 := by omega
    have hz : (254 : Int) - ((255 : Nat) : Int) = -1 := by omega
    rw [hz]
    obtain ⟨s1, s2⟩ := swap_end (lgo X K 255) u hu
    have hok := lgo_ok X K lX 255
    have HS1 := Lib.hid s1
    have HS2 := Lib.hid s2
    have HOK := Lib.hid hok
    clear hz s1 s2 hok
    go_upto_region 15 with fail
    (try simp only [World.size_alloc, Act.put, List.setIfInBounds_toArray, List.set_cons_zero, List.set_cons_succ])
    obtain ⟨z5009, hz5009⟩ : ∃ z : List Int, z = nar (dig 18446744073709551616 4 (if u = 1 then ((lgo X K 255).swap u).c else ((lgo X K 255).swap u).a)) := ⟨_, rfl⟩
    have HE5009 := Lib.hid hz5009
    have HL5009 : Hid (z5009.length = 4) := Lib.hid (by rw [hz5009]; exact (nar_len _).trans (dig_len _ _ _))
    clear hz5009
    obtain ⟨z5010, hz5010⟩ : ∃ z : List Int, z = nar (dig 18446744073709551616 4 (if u = 1 then ((lgo X K 255).swap u).d else ((lgo X K 255).swap u).b)) := ⟨_, rfl⟩
    have HE5010 := Lib.hid hz5010
    have HL5010 : Hid (z5010.length = 4) := Lib.hid (by rw [hz5010]; exact (nar_len _).trans (dig_len _ _ _))
    clear hz5010
    refine wp_region_lin (fun (fF : Fill) (uF : World) => (∀ v, fF 0 = some v → v = .agg (arr .u64 la) ∧ True) ∧ (∀ v, fF 1 = some v → v = .agg (arr .u64 lc) ∧ True) ∧ (∀ v, fF 2 = some v → v = .int .u64 (u : Int) ∧ True) ∧ (∀ v, fF 3 = some v → v = .agg (arr .u64 z5009) ∧ N4 z5009 (if u = 1 then ((lgo X K 255).swap u).c else ((lgo X K 255).swap u).a)) ∧ (∀ v, fF 4 = some v → v = .agg (arr .u64 lb) ∧ True) ∧ (∀ v, fF 5 = some v → v = .agg (arr .u64 ld) ∧ True) ∧ (∀ v, fF 6 = some v → v = .int .u64 (u : Int) ∧ True) ∧ (∀ v, fF 7 = some v → v = .agg (arr .u64 z5010) ∧ N4 z5010 (if u = 1 then ((lgo X K 255).swap u).d else ((lgo X K 255).swap u).b)) ∧ Blk w uF ([(w.heap.size, arr .u8 ks, 23), (w.heap.size + 1, arr .u8 um, 23), (w.heap.size + 1 + 1, arr .u8 zn, 23), (g2803, (arr .u64 z2802), 48), (g2807, (arr .u64 z2806), 48), (gr4_5, (if (fF 8).isSome = true then arr .u64 z5009 else arr .u64 la), 48), (gr4_6, (if (fF 9).isSome = true then arr .u64 z5010 else arr .u64 lb), 48), (gr4_7, arr .u64 lc, 48), (gr4_8, arr .u64 ld, 48)])) (by kernel_rfl) (by kernel_rfl) ?zr15 ?sr15 ?er15
    case zr15 => exact ⟨fun _ h => (by cases h), fun _ h => (by cases h), fun _ h => (by cases h), fun _ h => (by cases h), fun _ h => (by cases h), fun _ h => (by cases h), fun _ h => (by cases h), fun _ h => (by cases h), HB.out.drew⟩
    case sr15 =>
      refine LinAll.cons (fun fF bF uF kF hJF hfF hcF hupF hsF hKF => ?_) ?_
      · obtain ⟨j0, j1, j2, j3, j4, j5, j6, j7, hB⟩ := hJF
        have e7 : bF.eval (.tmp 7) = .pointer (some ⟨gr4_5, 0, none⟩) := hsF.old' 7 (by kernel_rfl) rfl
        have n8 := hcF.down 8 0 (by kernel_rfl) hfF
        have hB' := hB
        rw [n8] at hB'
        refine step_load_part rfl 48 _ rfl (gr4_5) (0) (arr .u64 la) 48 (0, 0) _ (hB'.get 5 rfl) e7 .u64 la (arr_part _ _) Try.underlying48 rfl (lim_i HAl.out) ?_
        exact hKF _ _ ⟨fun _ h => ⟨(Option.some.inj h).symm, trivial⟩, j1, j2, j3, j4, j5, j6, j7, hB⟩
      refine LinAll.cons (fun fF bF uF kF hJF hfF hcF hupF hsF hKF => ?_) ?_
      · obtain ⟨j0, j1, j2, j3, j4, j5, j6, j7, hB⟩ := hJF
        have e9 : bF.eval (.tmp 9) = .pointer (some ⟨gr4_7, 0, none⟩) := hsF.old' 9 (by kernel_rfl) rfl
        have hB' := hB
        refine step_load_part rfl 48 _ rfl (gr4_7) (0) (arr .u64 lc) 48 (0, 0) _ (hB'.get 7 rfl) e9 .u64 lc (arr_part _ _) Try.underlying48 rfl (lim_i HCl.out) ?_
        exact hKF _ _ ⟨j0, fun _ h => ⟨(Option.some.inj h).symm, trivial⟩, j2, j3, j4, j5, j6, j7, hB⟩
      refine LinAll.cons (fun fF bF uF kF hJF hfF hcF hupF hsF hKF => ?_) ?_
      · obtain ⟨j0, j1, j2, j3, j4, j5, j6, j7, hB⟩ := hJF
        have e11 : bF.eval (.tmp 11) = .int .u64 (u : Int) := hsF.old' 11 (by kernel_rfl) rfl
        exact lin_pure rfl (.int .u64 (u : Int)) (by simp only [execOp, e11] <;> first | rfl | kernel_rfl | (go_simp; done)) (hKF _ _ ⟨j0, j1, fun _ h => ⟨(Option.some.inj h).symm, trivial⟩, j3, j4, j5, j6, j7, hB⟩)
      refine LinAll.cons (fun fF bF uF kF hJF hfF hcF hupF hsF hKF => ?_) ?_
      · obtain ⟨j0, j1, j2, j3, j4, j5, j6, j7, hB⟩ := hJF
        obtain ⟨e66, p66⟩ := hsF.at hupF 0 66 (by kernel_rfl) rfl j0
        obtain ⟨e67, p67⟩ := hsF.at hupF 1 67 (by kernel_rfl) rfl j1
        obtain ⟨e68, p68⟩ := hsF.at hupF 2 68 (by kernel_rfl) rfl j2
        refine lin_call rfl 22 [Operand.tmp 66, Operand.tmp 67, Operand.tmp 68] _ [.agg (arr .u64 la), .agg (arr .u64 lc), .int .u64 (u : Int)] rfl (by simp only [List.map_cons, List.map_nil, e66, e67, e68] <;> rfl) (fun _ _ => by kernel_rfl) ?_
        refine Calls.mono (pick_any _ _ u _ HAe.out HCe.out hu) ?_
        rintro e w1 ⟨y5011_0, rfl, r5011_0, hb⟩
        obtain rfl : y5011_0 = z5009 := r5011_0.1.trans HE5009.out.symm
        exact ⟨_, rfl, hKF _ _ ⟨j0, j1, j2, fun _ h => ⟨(Option.some.inj h).symm, r5011_0⟩, j4, j5, j6, j7, hB.kept hb⟩⟩
      refine LinAll.cons (fun fF bF uF kF hJF hfF hcF hupF hsF hKF => ?_) ?_
      · obtain ⟨j0, j1, j2, j3, j4, j5, j6, j7, hB⟩ := hJF
        have e8 : bF.eval (.tmp 8) = .pointer (some ⟨gr4_6, 0, none⟩) := hsF.old' 8 (by kernel_rfl) rfl
        have n9 := hcF.down 9 4 (by kernel_rfl) hfF
        have hB' := hB
        rw [n9] at hB'
        refine step_load_part rfl 48 _ rfl (gr4_6) (0) (arr .u64 lb) 48 (0, 0) _ (hB'.get 6 rfl) e8 .u64 lb (arr_part _ _) Try.underlying48 rfl (lim_i HBl.out) ?_
        exact hKF _ _ ⟨j0, j1, j2, j3, fun _ h => ⟨(Option.some.inj h).symm, trivial⟩, j5, j6, j7, hB⟩
      refine LinAll.cons (fun fF bF uF kF hJF hfF hcF hupF hsF hKF => ?_) ?_
      · obtain ⟨j0, j1, j2, j3, j4, j5, j6, j7, hB⟩ := hJF
        have e10 : bF.eval (.tmp 10) = .pointer (some ⟨gr4_8, 0, none⟩) := hsF.old' 10 (by kernel_rfl) rfl
        have hB' := hB
        refine step_load_part rfl 48 _ rfl (gr4_8) (0) (arr .u64 ld) 48 (0, 0) _ (hB'.get 8 rfl) e10 .u64 ld (arr_part _ _) Try.underlying48 rfl (lim_i HDl.out) ?_
        exact hKF _ _ ⟨j0, j1, j2, j3, j4, fun _ h => ⟨(Option.some.inj h).symm, trivial⟩, j6, j7, hB⟩
      refine LinAll.cons (fun fF bF uF kF hJF hfF hcF hupF hsF hKF => ?_) ?_
      · obtain ⟨j0, j1, j2, j3, j4, j5, j6, j7, hB⟩ := hJF
        have e11 : bF.eval (.tmp 11) = .int .u64 (u : Int) := hsF.old' 11 (by kernel_rfl) rfl
        exact lin_pure rfl (.int .u64 (u : Int)) (by simp only [execOp, e11] <;> first | rfl | kernel_rfl | (go_simp; done)) (hKF _ _ ⟨j0, j1, j2, j3, j4, j5, fun _ h => ⟨(Option.some.inj h).symm, trivial⟩, j7, hB⟩)
      refine LinAll.cons (fun fF bF uF kF hJF hfF hcF hupF hsF hKF => ?_) ?_
      · obtain ⟨j0, j1, j2, j3, j4, j5, j6, j7, hB⟩ := hJF
        obtain ⟨e70, p70⟩ := hsF.at hupF 4 70 (by kernel_rfl) rfl j4
        obtain ⟨e71, p71⟩ := hsF.at hupF 5 71 (by kernel_rfl) rfl j5
        obtain ⟨e72, p72⟩ := hsF.at hupF 6 72 (by kernel_rfl) rfl j6
        refine lin_call rfl 22 [Operand.tmp 70, Operand.tmp 71, Operand.tmp 72] _ [.agg (arr .u64 lb), .agg (arr .u64 ld), .int .u64 (u : Int)] rfl (by simp only [List.map_cons, List.map_nil, e70, e71, e72] <;> rfl) (fun _ _ => by kernel_rfl) ?_
        refine Calls.mono (pick_any _ _ u _ HBe.out HDe.out hu) ?_
        rintro e w1 ⟨y5012_0, rfl, r5012_0, hb⟩
        obtain rfl : y5012_0 = z5010 := r5012_0.1.trans HE5010.out.symm
        exact ⟨_, rfl, hKF _ _ ⟨j0, j1, j2, j3, j4, j5, j6, fun _ h => ⟨(Option.some.inj h).symm, r5012_0⟩, hB.kept hb⟩⟩
      refine LinAll.cons (fun fF bF uF kF hJF hfF hcF hupF hsF hKF => ?_) ?_
      · obtain ⟨j0, j1, j2, j3, j4, j5, j6, j7, hB⟩ := hJF
        have e7 : bF.eval (.tmp 7) = .pointer (some ⟨gr4_5, 0, none⟩) := hsF.old' 7 (by kernel_rfl) rfl
        obtain ⟨e69, p69⟩ := hsF.at hupF 3 69 (by kernel_rfl) rfl j3
        have y3 := hupF 3 (by kernel_rfl)
        obtain ⟨v3, s3⟩ := Option.isSome_iff_exists.1 y3
        have HZ5009 := Lib.hid (j3 _ s3).2
        have hB' := hB
        rw [hfF] at hB'
        refine step_store_whole rfl 48 (.tmp 7) (.tmp 69) rfl (gr4_5) (arr .u64 la) _ 48 (hB'.get 5 rfl) e7 e69 (arr_len2 _ _ HL5009.out HAl.out) (lim_s HL5009.out) (all_arr _ _) ?_
        intro w1 hb1 hk1 hz1
        have hB1 : Blk w w1 ([(w.heap.size, arr .u8 ks, 23), (w.heap.size + 1, arr .u8 um, 23), (w.heap.size + 1 + 1, arr .u8 zn, 23), (g2803, (arr .u64 z2802), 48), (g2807, (arr .u64 z2806), 48), (gr4_5, (if ((some undef : Option Value)).isSome = true then arr .u64 z5009 else arr .u64 la), 48), (gr4_6, (if (fF 9).isSome = true then arr .u64 z5010 else arr .u64 lb), 48), (gr4_7, arr .u64 lc, 48), (gr4_8, arr .u64 ld, 48)]) := hB'.put 5 rfl hk1 hb1
        exact hKF undef w1 ⟨j0, j1, j2, j3, j4, j5, j6, j7, hB1⟩
      refine LinAll.cons (fun fF bF uF kF hJF hfF hcF hupF hsF hKF => ?_) ?_
      · obtain ⟨j0, j1, j2, j3, j4, j5, j6, j7, hB⟩ := hJF
        have e8 : bF.eval (.tmp 8) = .pointer (some ⟨gr4_6, 0, none⟩) := hsF.old' 8 (by kernel_rfl) rfl
        obtain ⟨e73, p73⟩ := hsF.at hupF 7 73 (by kernel_rfl) rfl j7
        have y7 := hupF 7 (by kernel_rfl)
        obtain ⟨v7, s7⟩ := Option.isSome_iff_exists.1 y7
        have HZ5010 := Lib.hid (j7 _ s7).2
        have hB' := hB
        rw [hfF] at hB'
        refine step_store_whole rfl 48 (.tmp 8) (.tmp 73) rfl (gr4_6) (arr .u64 lb) _ 48 (hB'.get 6 rfl) e8 e73 (arr_len2 _ _ HL5010.out HBl.out) (lim_s HL5010.out) (all_arr _ _) ?_
        intro w1 hb1 hk1 hz1
        have hB1 : Blk w w1 ([(w.heap.size, arr .u8 ks, 23), (w.heap.size + 1, arr .u8 um, 23), (w.heap.size + 1 + 1, arr .u8 zn, 23), (g2803, (arr .u64 z2802), 48), (g2807, (arr .u64 z2806), 48), (gr4_5, (if (fF 8).isSome = true then arr .u64 z5009 else arr .u64 la), 48), (gr4_6, (if ((some undef : Option Value)).isSome = true then arr .u64 z5010 else arr .u64 lb), 48), (gr4_7, arr .u64 lc, 48), (gr4_8, arr .u64 ld, 48)]) := hB'.put 6 rfl hk1 hb1
        exact hKF undef w1 ⟨j0, j1, j2, j3, j4, j5, j6, j7, hB1⟩
      exact LinAll.nil
    case er15 =>
    intro fF ur15 hall hJF
    obtain ⟨j0, j1, j2, j3, j4, j5, j6, j7, hB⟩ := hJF
    obtain ⟨v0, h0⟩ := Option.isSome_iff_exists.1 (hall 0 (by decide))
    obtain ⟨rfl, p0⟩ := j0 _ h0
    obtain ⟨v1, h1⟩ := Option.isSome_iff_exists.1 (hall 1 (by decide))
    obtain ⟨rfl, p1⟩ := j1 _ h1
    obtain ⟨v2, h2⟩ := Option.isSome_iff_exists.1 (hall 2 (by decide))
    obtain ⟨rfl, p2⟩ := j2 _ h2
    obtain ⟨v3, h3⟩ := Option.isSome_iff_exists.1 (hall 3 (by decide))
    obtain ⟨rfl, p3⟩ := j3 _ h3
    obtain ⟨v4, h4⟩ := Option.isSome_iff_exists.1 (hall 4 (by decide))
    obtain ⟨rfl, p4⟩ := j4 _ h4
    obtain ⟨v5, h5⟩ := Option.isSome_iff_exists.1 (hall 5 (by decide))
    obtain ⟨rfl, p5⟩ := j5 _ h5
    obtain ⟨v6, h6⟩ := Option.isSome_iff_exists.1 (hall 6 (by decide))
    obtain ⟨rfl, p6⟩ := j6 _ h6
    obtain ⟨v7, h7⟩ := Option.isSome_iff_exists.1 (hall 7 (by decide))
    obtain ⟨rfl, p7⟩ := j7 _ h7
    obtain ⟨v8, h8⟩ := Option.isSome_iff_exists.1 (hall 8 (by decide))
    obtain ⟨v9, h9⟩ := Option.isSome_iff_exists.1 (hall 9 (by decide))
    rw [h8, h9] at hB
    have HBr15 : Hid (Blk w ur15 [(w.heap.size, arr .u8 ks, 23), (w.heap.size + 1, arr .u8 um, 23), (w.heap.size + 1 + 1, arr .u8 zn, 23), (g2803, (arr .u64 z2802), 48), (g2807, (arr .u64 z2806), 48), (gr4_5, arr .u64 z5009, 48), (gr4_6, arr .u64 z5010, 48), (gr4_7, arr .u64 lc, 48), (gr4_8, arr .u64 ld, 48)]) := Lib.hid hB
    have HZ5009 := Lib.hid p3
    have HZ5010 := Lib.hid p7
    simp only [laid, Nat.zero_add, Nat.reduceAdd, h0, h1, h2, h3, h4, h5, h6, h7, h8, h9, Act.put, List.setIfInBounds_toArray, List.set_cons_zero, List.set_cons_succ]
    clear j0 j1 j2 j3 j4 j5 j6 j7 hB h0 h1 h2 h3 h4 h5 h6 h7 h8 h9 hall fF HB
    clear p0 p1 p2 p3 p4 p5 p6 p7
    have HSN7 := Lib.hid (HZ5009.out.cast HS1.out)
    have HSN8 := Lib.hid (HZ5010.out.cast HS2.out)
    go_upto_region 16 with fail
    (try simp only [World.size_alloc, Act.put, List.setIfInBounds_toArray, List.set_cons_zero, List.set_cons_succ])
    obtain ⟨z5013, hz5013⟩ : ∃ z : List Int, z = nar (dig 18446744073709551616 4 (finv (lgo X K 255).b)) := ⟨_, rfl⟩
    have HE5013 := Lib.hid hz5013
    have HL5013 : Hid (z5013.length = 4) := Lib.hid (by rw [hz5013]; exact (nar_len _).trans (dig_len _ _ _))
    clear hz5013
    obtain ⟨z5014, hz5014⟩ : ∃ z : List Int, z = nar (dig 18446744073709551616 4 (fmul (lgo X K 255).a (finv (lgo X K 255).b))) := ⟨_, rfl⟩
    have HE5014 := Lib.hid hz5014
    have HL5014 : Hid (z5014.length = 4) := Lib.hid (by rw [hz5014]; exact (nar_len _).trans (dig_len _ _ _))
    clear hz5014
    obtain ⟨z5015, hz5015⟩ : ∃ z : List Int, z = nar (dig 256 32 (fmul (lgo X K 255).a (finv (lgo X K 255).b))) := ⟨_, rfl⟩
    have HE5015 := Lib.hid hz5015
    have HL5015 : Hid (z5015.length = 32) := Lib.hid (by rw [hz5015]; exact (nar_len _).trans (dig_len _ _ _))
    clear hz5015
    refine wp_region_lin (fun (fF : Fill) (uF : World) => (∀ v, fF 0 = some v → v = .agg (arr .u64 z5009) ∧ True) ∧ (∀ v, fF 1 = some v → v = .agg (arr .u64 z5010) ∧ True) ∧ (∀ v, fF 2 = some v → v = .agg (arr .u64 z5013) ∧ N4 z5013 (finv (lgo X K 255).b)) ∧ (∀ v, fF 3 = some v → v = .agg (arr .u64 z5014) ∧ N4 z5014 (fmul (lgo X K 255).a (finv (lgo X K 255).b))) ∧ (∀ v, fF 4 = some v → v = .agg (arr .u8 z5015) ∧ K32 z5015 (fmul (lgo X K 255).a (finv (lgo X K 255).b))) ∧ Blk w uF ([(w.heap.size, arr .u8 ks, 23), (w.heap.size + 1, arr .u8 um, 23), (w.heap.size + 1 + 1, (if (fF 5).isSome = true then arr .u8 z5015 else arr .u8 zn), 23), (g2803, (arr .u64 z2802), 48), (g2807, (arr .u64 z2806), 48), (gr4_5, arr .u64 z5009, 48), (gr4_6, arr .u64 z5010, 48), (gr4_7, arr .u64 lc, 48), (gr4_8, arr .u64 ld, 48)])) (by kernel_rfl) (by kernel_rfl) ?zr16 ?sr16 ?er16
    case zr16 => exact ⟨fun _ h => (by cases h), fun _ h => (by cases h), fun _ h => (by cases h), fun _ h => (by cases h), fun _ h => (by cases h), HBr15.out.drew⟩
    case sr16 =>
      refine LinAll.cons (fun fF bF uF kF hJF hfF hcF hupF hsF hKF => ?_) ?_
      · obtain ⟨j0, j1, j2, j3, j4, hB⟩ := hJF
        have e7 : bF.eval (.tmp 7) = .pointer (some ⟨gr4_5, 0, none⟩) := hsF.old' 7 (by kernel_rfl) rfl
        have hB' := hB
        refine step_load_part rfl 48 _ rfl (gr4_5) (0) (arr .u64 z5009) 48 (0, 0) _ (hB'.get 5 rfl) e7 .u64 z5009 (arr_part _ _) Try.underlying48 rfl (lim_i HL5009.out) ?_
        exact hKF _ _ ⟨fun _ h => ⟨(Option.some.inj h).symm, trivial⟩, j1, j2, j3, j4, hB⟩
      refine LinAll.cons (fun fF bF uF kF hJF hfF hcF hupF hsF hKF => ?_) ?_
      · obtain ⟨j0, j1, j2, j3, j4, hB⟩ := hJF
        have e8 : bF.eval (.tmp 8) = .pointer (some ⟨gr4_6, 0, none⟩) := hsF.old' 8 (by kernel_rfl) rfl
        have hB' := hB
        refine step_load_part rfl 48 _ rfl (gr4_6) (0) (arr .u64 z5010) 48 (0, 0) _ (hB'.get 6 rfl) e8 .u64 z5010 (arr_part _ _) Try.underlying48 rfl (lim_i HL5010.out) ?_
        exact hKF _ _ ⟨j0, fun _ h => ⟨(Option.some.inj h).symm, trivial⟩, j2, j3, j4, hB⟩
      refine LinAll.cons (fun fF bF uF kF hJF hfF hcF hupF hsF hKF => ?_) ?_
      · obtain ⟨j0, j1, j2, j3, j4, hB⟩ := hJF
        obtain ⟨e75, p75⟩ := hsF.at hupF 1 75 (by kernel_rfl) rfl j1
        refine lin_call rfl 25 [Operand.tmp 75] _ [.agg (arr .u64 z5010)] rfl (by simp only [List.map_cons, List.map_nil, e75] <;> rfl) (fun _ _ => by kernel_rfl) ?_
        refine Calls.mono (inverse_any _ _ HSN8.out) ?_
        rintro e w1 ⟨y5016_0, rfl, r5016_0, hb⟩
        obtain rfl : y5016_0 = z5013 := r5016_0.1.trans HE5013.out.symm
        exact ⟨_, rfl, hKF _ _ ⟨j0, j1, fun _ h => ⟨(Option.some.inj h).symm, r5016_0⟩, j3, j4, hB.kept hb⟩⟩
      refine LinAll.cons (fun fF bF uF kF hJF hfF hcF hupF hsF hKF => ?_) ?_
      · obtain ⟨j0, j1, j2, j3, j4, hB⟩ := hJF
        obtain ⟨e74, p74⟩ := hsF.at hupF 0 74 (by kernel_rfl) rfl j0
        obtain ⟨e76, p76⟩ := hsF.at hupF 2 76 (by kernel_rfl) rfl j2
        have y2 := hupF 2 (by kernel_rfl)
        obtain ⟨v2, s2⟩ := Option.isSome_iff_exists.1 y2
        have HZ5013 := Lib.hid (j2 _ s2).2
        refine lin_call rfl 24 [Operand.tmp 74, Operand.tmp 76] _ [.agg (arr .u64 z5009), .agg (arr .u64 z5013)] rfl (by simp only [List.map_cons, List.map_nil, e74, e76] <;> rfl) (fun _ _ => by kernel_rfl) ?_
        refine Calls.mono (times_any _ _ _ HSN7.out HZ5013.out) ?_
        rintro e w1 ⟨y5017_0, rfl, r5017_0, hb⟩
        obtain rfl : y5017_0 = z5014 := r5017_0.1.trans HE5014.out.symm
        exact ⟨_, rfl, hKF _ _ ⟨j0, j1, j2, fun _ h => ⟨(Option.some.inj h).symm, r5017_0⟩, j4, hB.kept hb⟩⟩
      refine LinAll.cons (fun fF bF uF kF hJF hfF hcF hupF hsF hKF => ?_) ?_
      · obtain ⟨j0, j1, j2, j3, j4, hB⟩ := hJF
        obtain ⟨e77, p77⟩ := hsF.at hupF 3 77 (by kernel_rfl) rfl j3
        have y3 := hupF 3 (by kernel_rfl)
        obtain ⟨v3, s3⟩ := Option.isSome_iff_exists.1 y3
        have HZ5014 := Lib.hid (j3 _ s3).2
        refine lin_call rfl 26 [Operand.tmp 77] _ [.agg (arr .u64 z5014)] rfl (by simp only [List.map_cons, List.map_nil, e77] <;> rfl) (fun _ _ => by kernel_rfl) ?_
        refine Calls.mono (num4 _ _ HZ5014.out) ?_
        rintro e w1 ⟨y5018_0, rfl, r5018_0, hb⟩
        obtain rfl : y5018_0 = z5015 := r5018_0.1.trans HE5015.out.symm
        exact ⟨_, rfl, hKF _ _ ⟨j0, j1, j2, j3, fun _ h => ⟨(Option.some.inj h).symm, r5018_0⟩, hB.kept hb⟩⟩
      refine LinAll.cons (fun fF bF uF kF hJF hfF hcF hupF hsF hKF => ?_) ?_
      · obtain ⟨j0, j1, j2, j3, j4, hB⟩ := hJF
        have e4 : bF.eval (.tmp 4) = .pointer (some ⟨w.heap.size + 1 + 1, 0, none⟩) := hsF.old' 4 (by kernel_rfl) rfl
        obtain ⟨e78, p78⟩ := hsF.at hupF 4 78 (by kernel_rfl) rfl j4
        have y4 := hupF 4 (by kernel_rfl)
        obtain ⟨v4, s4⟩ := Option.isSome_iff_exists.1 y4
        have HZ5015 := Lib.hid (j4 _ s4).2
        have hB' := hB
        rw [hfF] at hB'
        refine step_store_whole rfl 23 (.tmp 4) (.tmp 78) rfl (w.heap.size + 1 + 1) (arr .u8 zn) _ 23 (hB'.get 2 rfl) e4 e78 (arr_len2 _ _ HL5015.out HLzn.out) (num_s HL5015.out) (all_arr _ _) ?_
        intro w1 hb1 hk1 hz1
        have hB1 : Blk w w1 ([(w.heap.size, arr .u8 ks, 23), (w.heap.size + 1, arr .u8 um, 23), (w.heap.size + 1 + 1, (if ((some undef : Option Value)).isSome = true then arr .u8 z5015 else arr .u8 zn), 23), (g2803, (arr .u64 z2802), 48), (g2807, (arr .u64 z2806), 48), (gr4_5, arr .u64 z5009, 48), (gr4_6, arr .u64 z5010, 48), (gr4_7, arr .u64 lc, 48), (gr4_8, arr .u64 ld, 48)]) := hB'.put 2 rfl hk1 hb1
        exact hKF undef w1 ⟨j0, j1, j2, j3, j4, hB1⟩
      exact LinAll.nil
    case er16 =>
    intro fF ur16 hall hJF
    obtain ⟨j0, j1, j2, j3, j4, hB⟩ := hJF
    obtain ⟨v0, h0⟩ := Option.isSome_iff_exists.1 (hall 0 (by decide))
    obtain ⟨rfl, p0⟩ := j0 _ h0
    obtain ⟨v1, h1⟩ := Option.isSome_iff_exists.1 (hall 1 (by decide))
    obtain ⟨rfl, p1⟩ := j1 _ h1
    obtain ⟨v2, h2⟩ := Option.isSome_iff_exists.1 (hall 2 (by decide))
    obtain ⟨rfl, p2⟩ := j2 _ h2
    obtain ⟨v3, h3⟩ := Option.isSome_iff_exists.1 (hall 3 (by decide))
    obtain ⟨rfl, p3⟩ := j3 _ h3
    obtain ⟨v4, h4⟩ := Option.isSome_iff_exists.1 (hall 4 (by decide))
    obtain ⟨rfl, p4⟩ := j4 _ h4
    obtain ⟨v5, h5⟩ := Option.isSome_iff_exists.1 (hall 5 (by decide))
    rw [h5] at hB
    have HBr16 : Hid (Blk w ur16 [(w.heap.size, arr .u8 ks, 23), (w.heap.size + 1, arr .u8 um, 23), (w.heap.size + 1 + 1, arr .u8 z5015, 23), (g2803, (arr .u64 z2802), 48), (g2807, (arr .u64 z2806), 48), (gr4_5, arr .u64 z5009, 48), (gr4_6, arr .u64 z5010, 48), (gr4_7, arr .u64 lc, 48), (gr4_8, arr .u64 ld, 48)]) := Lib.hid hB
    have HZ5013 := Lib.hid p2
    have HZ5014 := Lib.hid p3
    have HZ5015 := Lib.hid p4
    simp only [laid, Nat.zero_add, Nat.reduceAdd, h0, h1, h2, h3, h4, h5, Act.put, List.setIfInBounds_toArray, List.set_cons_zero, List.set_cons_succ]
    clear j0 j1 j2 j3 j4 hB h0 h1 h2 h3 h4 h5 hall fF HBr15
    clear p0 p1 p2 p3 p4
    (try simp only [Exit.then])
    go_wp2_with fail
    refine bodyPost_ret (results_cell_row rfl _ _ (w.heap.size + 1 + 1) 23 _ (0, 0) _ rfl (HBr16.out.get 2 rfl) Try.underlying23 rfl (num_s HL5015.out)) rfl ?_
    exact ⟨_, rfl, HZ5015.out, HBr16.out.below⟩
end Go.Proofs.Ytogebegdgfdijaa.Sl
namespace Go.Proofs.Ytogebegdgfdijaa.Sl
open Go.RowKit Lm Fp Cu Rd

theorem k32_nine : K32 [9, 0, 0, 0, 0, 0, 0, 0, 0, 0, 0, 0, 0, 0, 0, 0, 0, 0, 0, 0, 0, 0, 0, 0, 0, 0, 0, 0, 0, 0, 0, 0] 9 := ⟨by decide +kernel, by decide⟩
theorem build_nine (w : World) : (Instr.build 23 #[(0, .int .u8 9)]).run Try.prog w = .ok (.agg (arr .u8 [9, 0, 0, 0, 0, 0, 0, 0, 0, 0, 0, 0, 0, 0, 0, 0, 0, 0, 0, 0, 0, 0, 0, 0, 0, 0, 0, 0, 0, 0, 0, 0])) w := by kernel_rfl
theorem x_lt32 (k u : Nat) : x25519 k u < 256 ^ 32 := Nat.lt_trans (x25519_lt k u) (by decide +kernel)

set_option maxRecDepth 100000 in
set_option maxHeartbeats 4000000 in
theorem lpublic_any {ks : List Int} (k : Nat) (w : World) (hk : K32 ks k) :
    Calls Try.prog 6 #[.agg (arr .u8 ks)] w fun e w' => ∃ zs, e = .returned (.agg (arr .u8 zs)) ∧ K32 zs (x25519 k 9) ∧ Below w.heap.size w w' := by
  obtain ⟨us, hus⟩ : ∃ x : List Int, x = [9, 0, 0, 0, 0, 0, 0, 0, 0, 0, 0, 0, 0, 0, 0, 0, 0, 0, 0, 0, 0, 0, 0, 0, 0, 0, 0, 0, 0, 0, 0, 0] := ⟨_, rfl⟩
  have hu : K32 us 9 := by rw [hus]; exact k32_nine
  have HBU : Hid (∀ w, (Instr.build 23 #[(0, .int .u8 9)]).run Try.prog w = .ok (.agg (arr .u8 us)) w) := Lib.hid (by intro w; rw [hus]; exact build_nine w)
  have HU := Lib.hid hu
  have HUL := Lib.hid hu.len
  have HK := Lib.hid hk
  have HKL := Lib.hid hk.len
  obtain ⟨zn, hzn⟩ : ∃ zs : List Int, zs = List.replicate 32 0 := ⟨_, rfl⟩
  have HZzn : Hid (∀ w, (zeroValue 23).run Try.prog w = .ok (.agg (arr .u8 zn)) w) := Lib.hid (by intro w; rw [hzn]; exact zero_num w)
  have HLzn : Hid (zn.length = 32) := Lib.hid (by rw [hzn]; rfl)
  have HS0 := Lib.hid (Blk.two w (arr .u8 ks) (arr .u8 zn) 23 23)
  clear hzn hus hu hk
  go_enter Try.func6, Try.ntmps6
  go_upto_region 1 with (first | ((with_reducible show wpList _ _ _ (Oper.mk (some 2) _ _ _ _ _ :: _) _ _); refine wpList_alloc_row rfl 23 rfl _ (HZzn.out _) ?_))
  (try simp only [World.size_alloc, Act.put, List.setIfInBounds_toArray, List.set_cons_zero, List.set_cons_succ])
  generalize ((w.alloc (.cells (arr .u8 ks) 23)).alloc (.cells (arr .u8 zn) 23)) = wb at HS0 ⊢
  go_wp2_with (first | ((with_reducible show wpList _ _ _ (Oper.mk (some 3) _ _ _ _ _ :: _) _ _); refine wpList_load_part rfl 23 _ rfl (w.heap.size) 0 _ 23 (0, 0) _ (HS0.out.get 0 rfl) rfl .u8 ks (arr_part _ _) Try.underlying23 rfl (num_i HKL.out) ?_) | ((with_reducible show wpList _ _ _ (Oper.mk (some 4) _ _ _ _ _ :: _) _ _); refine wpList_build (by rfl) 23 _ rfl #[(0, .int .u8 9)] rfl _ (HBU.out _) ?_) | ((with_reducible show Calls _ 12 _ _ _); go_at_call 12; refine (lmul_run _ _ _ HK.out HU.out).mono ?_; rintro e w6 ⟨z6, rfl, h6, hb6⟩; have HZ6 := Lib.hid h6; have HL6 := Lib.hid h6.len; have HB6 := Lib.hid (HS0.out.kept hb6); clear h6 hb6) | ((with_reducible show wpList _ _ _ (Oper.mk none (Op.store _ (Operand.tmp 2) _) _ _ _ _ :: _) _ _); refine wpList_store_whole rfl 23 _ _ rfl (w.heap.size + 1) _ _ 23 (HB6.out.get 1 rfl) rfl rfl (arr_len2 _ _ HL6.out HLzn.out) (num_s HL6.out) (all_arr _ _) ?_; intro w7 hb7 hk7 hz7; have HB7 := Lib.hid (HB6.out.put 1 rfl hk7 hb7); clear hb7 hk7 hz7))
  (try simp only [Exit.then])
  refine bodyPost_ret (results_cell_row rfl _ _ (w.heap.size + 1) 23 _ (0, 0) _ rfl (HB7.out.get 1 rfl) Try.underlying23 rfl (num_s HL6.out)) rfl ?_
  exact ⟨_, rfl, HZ6.out, HB7.out.below⟩

set_option maxRecDepth 100000 in
set_option maxHeartbeats 4000000 in
theorem lshared_any {ks us : List Int} (k u : Nat) (w : World) (hk : K32 ks k) (hu : K32 us u) :
    Calls Try.prog 9 #[.agg (arr .u8 ks), .agg (arr .u8 us)] w fun e w' => ∃ zs, e = .returned (.tuple #[.agg (arr .u8 zs), .int .i64 (if x25519 k u = 0 then 21 else 0)]) ∧ K32 zs (x25519 k u) ∧ Below w.heap.size w w' := by
  have HK := Lib.hid hk
  have HKL := Lib.hid hk.len
  have HU := Lib.hid hu
  have HUL := Lib.hid hu.len
  obtain ⟨zn, hzn⟩ : ∃ zs : List Int, zs = List.replicate 32 0 := ⟨_, rfl⟩
  have HZzn : Hid (∀ w, (zeroValue 23).run Try.prog w = .ok (.agg (arr .u8 zn)) w) := Lib.hid (by intro w; rw [hzn]; exact zero_num w)
  have HLzn : Hid (zn.length = 32) := Lib.hid (by rw [hzn]; rfl)
  have HZN0 : Hid (K32 zn 0) := Lib.hid (by rw [hzn]; exact k32_zero)
  have HBN : Hid (∀ w, (Instr.build 23 #[]).run Try.prog w = .ok (.agg (arr .u8 zn)) w) := Lib.hid (by intro w; rw [hzn]; exact build_nil w)
  have HS0 := Lib.hid (Blk.three w (arr .u8 ks) (arr .u8 us) (arr .u8 zn) 23 23 23)
  obtain ⟨er, her⟩ : ∃ e : Int, e = (if x25519 k u = 0 then 21 else 0) := ⟨_, rfl⟩
  have HER := Lib.hid her
  rw [← her]
  clear hzn hk hu her
  go_enter Try.func9, Try.ntmps9
  go_upto_region 1 with (first | ((with_reducible show wpList _ _ _ (Oper.mk (some 4) _ _ _ _ _ :: _) _ _); refine wpList_alloc_row rfl 23 rfl _ (HZzn.out _) ?_))
  (try simp only [World.size_alloc, Act.put, List.setIfInBounds_toArray, List.set_cons_zero, List.set_cons_succ])
  generalize (((w.alloc (.cells (arr .u8 ks) 23)).alloc (.cells (arr .u8 us) 23)).alloc (.cells (arr .u8 zn) 23)) = wb at HS0 ⊢
  go_upto_region 2 with (first | ((with_reducible show wpList _ _ _ (Oper.mk (some 7) _ _ _ _ _ :: _) _ _); refine wpList_load_part rfl 23 _ rfl (w.heap.size) 0 _ 23 (0, 0) _ (HS0.out.get 0 rfl) rfl .u8 ks (arr_part _ _) Try.underlying23 rfl (num_i HKL.out) ?_) | ((with_reducible show wpList _ _ _ (Oper.mk (some 8) _ _ _ _ _ :: _) _ _); refine wpList_load_part rfl 23 _ rfl (w.heap.size + 1) 0 _ 23 (0, 0) _ (HS0.out.get 1 rfl) rfl .u8 us (arr_part _ _) Try.underlying23 rfl (num_i HUL.out) ?_) | ((with_reducible show Calls _ 12 _ _ _); go_at_call 12; refine (lmul_run _ _ _ HK.out HU.out).mono ?_; rintro e w6 ⟨rs, rfl, h6, hb6⟩; have HRS := Lib.hid h6; have HRL := Lib.hid h6.len; have HB6 := Lib.hid (HS0.out.kept hb6); clear h6 hb6) | ((with_reducible show wpList _ _ _ (Oper.mk (some 6) _ _ _ _ _ :: _) _ _); refine wpList_alloc_row rfl 23 rfl _ (HZzn.out _) ?_; have HB7 := Lib.hid (HB6.out.alloc (arr .u8 zn) 23); generalize w6.heap.size = gz at HB7 ⊢; generalize w6.alloc (.cells (arr .u8 zn) 23) = w7 at HB7 ⊢) | ((with_reducible show wpList _ _ _ (Oper.mk none (Op.store _ (Operand.tmp 6) _) _ _ _ _ :: _) _ _); refine wpList_store_whole rfl 23 _ _ rfl (gz) _ _ 23 (HB7.out.get 3 rfl) rfl rfl (arr_len2 _ _ HRL.out HLzn.out) (num_s HRL.out) (all_arr _ _) ?_; intro w8 hb8 hk8 hz8; have HB8 := Lib.hid (HB7.out.put 3 rfl hk8 hb8); clear hb8 hk8 hz8))
  have hz := HRS.out.inj HZN0.out
  by_cases hx : x25519 k u = 0
  · rw [decide_eq_true hx] at hz
    have HZZ := Lib.hid hz
    have he := HER.out
    rw [if_pos hx] at he
    subst he
    clear hz
    go_wp2_with (first | ((with_reducible show wpList _ _ _ (Oper.mk (some 10) _ _ _ _ _ :: _) _ _); refine wpList_load_part rfl 23 _ rfl (gz) 0 _ 23 (0, 0) _ (HB8.out.get 3 rfl) rfl .u8 rs (arr_part _ _) Try.underlying23 rfl (num_i HRL.out) ?_) | ((with_reducible show wpList _ _ _ (Oper.mk (some 11) _ _ _ _ _ :: _) _ _); refine wpList_build (by rfl) 23 _ rfl #[] rfl _ (HBN.out _) ?_) | ((with_reducible show wpList _ _ _ (Oper.mk (some 12) _ _ _ _ _ :: _) _ _); refine wpList_eql_arr (by rfl) 23 _ _ (.tmp 10) (.tmp 11) rfl 32 .u8 .u8 Try.underlying23 Try.underlying5 (fun w => by kernel_rfl) (by kernel_rfl) rs zn rfl rfl HRL.out HLzn.out true HZZ.out ?_) | ((with_reducible show wpList _ _ _ (Oper.mk (some 13) _ _ _ _ _ :: _) _ _); refine wpList_build (by rfl) 23 _ rfl #[] rfl _ (HBN.out _) ?_) | ((with_reducible show wpList _ _ _ (Oper.mk none (Op.store _ (Operand.tmp 4) _) _ _ _ _ :: _) _ _); refine wpList_store_whole rfl 23 _ _ rfl (w.heap.size + 1 + 1) _ _ 23 (HB8.out.get 2 rfl) rfl rfl (arr_len2 _ _ HLzn.out HLzn.out) (num_s HLzn.out) (all_arr _ _) ?_; intro w9 hb9 hk9 hz9; have HB9 := Lib.hid (HB8.out.put 2 rfl hk9 hb9); clear hb9 hk9 hz9))
    (try simp only [Exit.then])
    refine bodyPost_ret (results_cell_tmp_row rfl _ _ (w.heap.size + 1 + 1) 23 _ (0, 0) _ _ rfl (HB9.out.get 2 rfl) Try.underlying23 rfl (num_s HLzn.out) rfl) rfl ?_
    exact ⟨_, rfl, by rw [hx]; exact HZN0.out, HB9.out.below⟩
  · rw [decide_eq_false hx] at hz
    have HZZ := Lib.hid hz
    have he := HER.out
    rw [if_neg hx] at he
    subst he
    clear hz
    go_wp2_with (first | ((with_reducible show wpList _ _ _ (Oper.mk (some 10) _ _ _ _ _ :: _) _ _); refine wpList_load_part rfl 23 _ rfl (gz) 0 _ 23 (0, 0) _ (HB8.out.get 3 rfl) rfl .u8 rs (arr_part _ _) Try.underlying23 rfl (num_i HRL.out) ?_) | ((with_reducible show wpList _ _ _ (Oper.mk (some 11) _ _ _ _ _ :: _) _ _); refine wpList_build (by rfl) 23 _ rfl #[] rfl _ (HBN.out _) ?_) | ((with_reducible show wpList _ _ _ (Oper.mk (some 12) _ _ _ _ _ :: _) _ _); refine wpList_eql_arr (by rfl) 23 _ _ (.tmp 10) (.tmp 11) rfl 32 .u8 .u8 Try.underlying23 Try.underlying5 (fun w => by kernel_rfl) (by kernel_rfl) rs zn rfl rfl HRL.out HLzn.out false HZZ.out ?_) | ((with_reducible show wpList _ _ _ (Oper.mk (some 14) _ _ _ _ _ :: _) _ _); refine wpList_load_part rfl 23 _ rfl (gz) 0 _ 23 (0, 0) _ (HB8.out.get 3 rfl) rfl .u8 rs (arr_part _ _) Try.underlying23 rfl (num_i HRL.out) ?_) | ((with_reducible show wpList _ _ _ (Oper.mk none (Op.store _ (Operand.tmp 4) _) _ _ _ _ :: _) _ _); refine wpList_store_whole rfl 23 _ _ rfl (w.heap.size + 1 + 1) _ _ 23 (HB8.out.get 2 rfl) rfl rfl (arr_len2 _ _ HRL.out HLzn.out) (num_s HRL.out) (all_arr _ _) ?_; intro w9 hb9 hk9 hz9; have HB9 := Lib.hid (HB8.out.put 2 rfl hk9 hb9); clear hb9 hk9 hz9))
    (try simp only [Exit.then])
    refine bodyPost_ret (results_cell_tmp_row rfl _ _ (w.heap.size + 1 + 1) 23 _ (0, 0) _ _ rfl (HB9.out.get 2 rfl) Try.underlying23 rfl (num_s HRL.out) rfl) rfl ?_
    exact ⟨_, rfl, HRS.out, HB9.out.below⟩
end Go.Proofs.Ytogebegdgfdijaa.Sl
