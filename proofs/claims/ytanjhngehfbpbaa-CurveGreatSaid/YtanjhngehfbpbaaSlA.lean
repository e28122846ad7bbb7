/- scalar.order, reduce: what they answer. Condition: at most eight limbs. -/
import Derived.Test.YtanjhngehfbpbaaFdE
import Derived.Test.YtanjhngehfbpbaaScP
namespace Go.Proofs.Ytanjhngehfbpbaa.Sl
open Go.RowKit Lm Fp Sc

theorem q_lt4 : q < 18446744073709551616 ^ 4 := by decide +kernel
theorem ev_lt (P : Nat) (h : P < q) : 2 * P + 1 < 18446744073709551616 ^ 4 := by
  have := q_lt
  omega
set_option maxRecDepth 100000 in
set_option maxHeartbeats 2000000 in
theorem order_any (w : World) : Calls Try.prog 50 #[] w fun e w' => ∃ zs, e = .returned (.agg (arr .u64 zs)) ∧ N4 zs q ∧ Below w.heap.size w w' := by
  have hn := n4_of q q_lt4
  obtain ⟨ps, hps⟩ : ∃ x, x = nar (dig 18446744073709551616 4 q) := ⟨_, rfl⟩
  rw [← hps] at hn
  have HBL : Hid (∀ w, (Instr.build 49 #[(0, .int .u64 6346243789798364141), (1, .int .u64 1503914060200516822), (2, .int .u64 0), (3, .int .u64 1152921504606846976)]).run Try.prog w = .ok (.agg (arr .u64 ps)) w) := Lib.hid (fun w => by rw [hps]; kernel_rfl)
  have HPL := Lib.hid hn.len
  have HN := Lib.hid hn
  obtain ⟨zl, hzl⟩ : ∃ zs : List Int, zs = List.replicate 4 0 := ⟨_, rfl⟩
  have HZzl : Hid (∀ w, (zeroValue 49).run Try.prog w = .ok (.agg (arr .u64 zl)) w) := Lib.hid (by intro w; rw [hzl]; exact zero_lim w)
  have HLzl : Hid (zl.length = 4) := Lib.hid (by rw [hzl]; rfl)
  have HS0 := Lib.hid (Blk.one w (arr .u64 zl) 49)
  clear hzl hps hn
  go_enter Try.func50, Try.ntmps50
  go_wp2_with (first | ((with_reducible show wpList _ _ _ (Oper.mk (some 0) _ _ _ _ _ :: _) _ _); refine wpList_alloc_row rfl 49 rfl _ (HZzl.out _) ?_) | ((with_reducible show wpList _ _ _ (Oper.mk (some 1) _ _ _ _ _ :: _) _ _); refine wpList_build (by rfl) 49 _ rfl #[(0, .int .u64 6346243789798364141), (1, .int .u64 1503914060200516822), (2, .int .u64 0), (3, .int .u64 1152921504606846976)] rfl _ (HBL.out _) ?_) | ((with_reducible show wpList _ _ _ (Oper.mk none (Op.store _ (Operand.tmp 0) _) _ _ _ _ :: _) _ _); refine wpList_store_whole rfl 49 _ _ rfl (w.heap.size) _ _ 49 (HS0.out.get 0 rfl) rfl rfl (arr_len2 _ _ HPL.out HLzl.out) (lim_s HPL.out) (all_arr _ _) ?_; intro w1 hb1 hk1 hz1; have HB1 := Lib.hid (HS0.out.put 0 rfl hk1 hb1); clear hb1 hk1 hz1))
  (try simp only [Exit.then])
  refine bodyPost_ret (results_cell_row rfl _ _ (w.heap.size) 49 _ (0, 0) _ rfl (HB1.out.get 0 rfl) Try.underlying49 rfl (lim_s HPL.out)) rfl ?_
  exact ⟨_, rfl, HN.out, HB1.out.below⟩

theorem or_bit (d b : Nat) (hd : 2 * d < 18446744073709551616) (hb : b ≤ 1) : bits .or .u64 ((2 * d : Nat) : Int) (b : Int) = ((2 * d + b : Nat) : Int) := by
  have h1 : (BitVec.ofInt 64 ((2 * d : Nat) : Int)).toNat = 2 * d := by rw [BitVec.ofInt_natCast, BitVec.toNat_ofNat]; exact Nat.mod_eq_of_lt hd
  have h2 : (BitVec.ofInt 64 (b : Int)).toNat = b := by rw [BitVec.ofInt_natCast, BitVec.toNat_ofNat]; exact Nat.mod_eq_of_lt (by omega)
  have e : 2 * d ||| b = 2 * d + b := (Nat.two_pow_add_eq_or_of_lt (i := 1) (b := b) (by omega) d).symm
  show IntKind.u64.wrap ((BitVec.ofInt 64 ((2 * d : Nat) : Int) ||| BitVec.ofInt 64 (b : Int)).toNat : Int) = _
  rw [BitVec.toNat_or, h1, h2, e, IntKind.wrap_u64]
  omega
theorem set_low (P b : Nat) (hb : b ≤ 1) : (nar (dig 18446744073709551616 4 (2 * P))).set 0 ((2 * P % 18446744073709551616 + b : Nat) : Int) = nar (dig 18446744073709551616 4 (2 * P + b)) := by
  have e1 : (2 * P + b) % 18446744073709551616 = 2 * P % 18446744073709551616 + b := by omega
  have e2 : (2 * P + b) / 18446744073709551616 = 2 * P / 18446744073709551616 := by omega
  simp only [dig, e1, e2]
  rfl
theorem limb_bit' (ls : List Nat) (V k : Nat) (hb : ∀ x ∈ ls, x < 18446744073709551616) (hV : val 18446744073709551616 ls = V) (hk : k / 64 < ls.length) : bits .and .u64 ((ls.getD (k / 64) 0 : Nat) / 2 ^ (k % 64) : Int) 1 = ((V / 2 ^ k % 2 : Nat) : Int) := by
  have hg : ls.getD (k / 64) 0 = V / 18446744073709551616 ^ (k / 64) % 18446744073709551616 := by
    exact (congrArg (fun l => l.getD (k / 64) 0) (dig_eq 18446744073709551616 (by decide) ls.length _ ls rfl hb hV)).trans (dig_get _ _ _ _ hk)
  have e1 : ((ls.getD (k / 64) 0 : Nat) : Int) / 2 ^ (k % 64) = ((V / 18446744073709551616 ^ (k / 64) % 18446744073709551616 / 2 ^ (k % 64) : Nat) : Int) := by
    rw [hg, Int.natCast_ediv, Int.natCast_pow]; rfl
  rw [e1, and1w _ (Nat.lt_of_le_of_lt (Nat.div_le_self _ _) (Nat.mod_lt _ (by decide))), bit_limb]
theorem sub_q (N P b : Nat) (hN : N = 2 * P + b) (hP : P < q) (hb : b ≤ 1) (h : ¬ N < q) : (N + 18446744073709551616 ^ 4 - q) % 18446744073709551616 ^ 4 = N - q := by
  have := q_lt
  rw [show N + 18446744073709551616 ^ 4 - q = N - q + 18446744073709551616 ^ 4 by omega, Nat.add_mod_right, Nat.mod_eq_of_lt (by omega)]

set_option maxRecDepth 100000 in
set_option maxHeartbeats 8000000 in
theorem red_any (g n cp V : Nat) (ls : List Nat) (w : World) (hl : ls.length = n) (h8 : n ≤ 8) (hb : ∀ x ∈ ls, x < 18446744073709551616) (hV : val 18446744073709551616 ls = V) (hc : ∀ i, i < n → w.cell? ⟨g, i, none⟩ = some (.int .u64 ((ls.getD i 0 : Nat) : Int))) :
    Calls Try.prog 42 #[.slice (some ⟨g, 0, none⟩) n cp] w fun e w' => ∃ zs, e = .returned (.agg (arr .u64 zs)) ∧ N4 zs (V % q) ∧ Below w.heap.size w w' := by
  have hVl : V < 2 ^ (64 * n) := by
    have := val_lt 18446744073709551616 ls hb
    rw [hV, hl, show (18446744073709551616 : Nat) = 2 ^ 64 from rfl, ← Nat.pow_mul] at this
    exact this
  have HV0 := Lib.hid (upq_top V (64 * n) hVl)
  have HVE := Lib.hid (upq_zero V)
  have HCL := Lib.hid hc
  have HLB := Lib.hid (fun k (hk : k / 64 < n) => limb_bit' ls V k hb hV (by rw [hl]; exact hk))
  have HLT := Lib.hid (fun k => lt_getD hb (show 0 < 18446744073709551616 by decide) k)
  have HQ := Lib.hid order_any
  obtain ⟨zl, hzl⟩ : ∃ zs : List Int, zs = List.replicate 4 0 := ⟨_, rfl⟩
  have HZzl : Hid (∀ w, (zeroValue 49).run Try.prog w = .ok (.agg (arr .u64 zl)) w) := Lib.hid (by intro w; rw [hzl]; exact zero_lim w)
  have HLzl : Hid (zl.length = 4) := Lib.hid (by rw [hzl]; rfl)
  have hz0 : N4 zl 0 := by rw [hzl]; exact n4_small 0 (by decide)
  have HZ0 := Lib.hid hz0
  have HS0 := Lib.hid (Blk.two w (arr .u64 zl) (arr .u64 zl) 49 49)
  clear hzl hz0 hVl hc hb hV hl
  go_enter Try.func42, Try.ntmps42
  go_wp2_with (first | ((with_reducible show wpList _ _ _ (Oper.mk (some 2) _ _ _ _ _ :: _) _ _); refine wpList_alloc_row rfl 49 rfl _ (HZzl.out _) ?_) | ((with_reducible show wpList _ _ _ (Oper.mk (some 3) _ _ _ _ _ :: _) _ _); refine wpList_alloc_row rfl 49 rfl _ (HZzl.out _) ?_))
  go_loopw [4] (fun v wr => ∃ m : Nat, m ≤ 64 * n ∧ v = .int .i64 ((n : Int) * 64 - 1 - (m : Int)) ∧ ∃ cs : List Int, N4 cs (upq V (64 * n - m)) ∧ Blk w wr [(w.heap.size, arr .u64 zl, 49), (w.heap.size + 1, arr .u64 cs, 49)]) (fun v _ => (intOf v + 1).toNat)
  case atStart => exact ⟨0, Nat.zero_le _, by congr 1; omega, _, by rw [Nat.sub_zero, HV0.out]; exact HZ0.out, HS0.out⟩
  clear HS0
  case round =>
  obtain ⟨m, hm, rfl, cs, hcs, hB⟩ := hrel
  by_cases hlt : m < 64 * n
  · obtain ⟨i, hi⟩ : ∃ i : Nat, i + m + 1 = 64 * n := ⟨64 * n - 1 - m, by omega⟩
    have hz : (n : Int) * 64 - 1 - (m : Int) = (i : Int) := by omega
    have hi2 : i / 64 < n := by omega
    have q0 := below_cell hB.below (HCL.out (i / 64) hi2)
    have hbit := HLB.out i hi2
    have hyl := HLT.out (i / 64)
    obtain ⟨y, hy⟩ : ∃ y, y = ls.getD (i / 64) 0 := ⟨_, rfl⟩
    rw [← hy] at q0 hbit hyl
    have HYE := Lib.hid hy
    clear hy
    rw [show 64 * n - m = i + 1 by omega] at hcs
    rw [hz]
    have hps := fun N => upq_step V i N
    have hpl := upq_lt V (i + 1)
    generalize upq V (i + 1) = P at hcs hps hpl
    have hbl : V / 2 ^ i % 2 ≤ 1 := by omega
    generalize V / 2 ^ i % 2 = b at hbit hps hbl
    have h2p : 2 * P < 18446744073709551616 ^ 4 := by have := ev_lt P hpl; omega
    have HDB : Hid ((P + P) % 18446744073709551616 ^ 4 = 2 * P) := Lib.hid (by rw [← Nat.two_mul, Nat.mod_eq_of_lt h2p])
    have HCS := Lib.hid hcs
    have HCSL := Lib.hid hcs.len
    have HB := Lib.hid hB
    have HI := Lib.hid hi
    have HPS := Lib.hid hps
    have HPL := Lib.hid hpl
    have HBL := Lib.hid hbl
    have HBT := Lib.hid hbit
    have HY := Lib.hid hyl
    have q9 : 0 ≤ (i : Int) := by omega
    clear hB hz hi hps hpl hcs h2p hbl hbit hyl
    go_upto_region 5 with fail
    go_upto_region 6 with (first | ((with_reducible show wpList _ _ _ (Oper.mk (some 16) _ _ _ _ _ :: _) _ _); refine wpList_load_part rfl 49 _ rfl (w.heap.size + 1) (0) _ 49 (0, 0) _ (HB.out.get 1 rfl) rfl .u64 cs (arr_part _ _) Try.underlying49 rfl (lim_i HCSL.out) ?_) | ((with_reducible show wpList _ _ _ (Oper.mk (some 17) _ _ _ _ _ :: _) _ _); refine wpList_load_part rfl 49 _ rfl (w.heap.size + 1) (0) _ 49 (0, 0) _ (HB.out.get 1 rfl) rfl .u64 cs (arr_part _ _) Try.underlying49 rfl (lim_i HCSL.out) ?_) | ((with_reducible show Calls _ 41 #[.agg _, .agg _] _ _); go_at_call 41; refine (ladd4 _ _ _ HCS.out HCS.out).mono ?_; rintro e w1301 ⟨z1301, rfl, h1301, hb1301⟩; have HZ1301 := Lib.hid h1301; have HL1301 := Lib.hid h1301.len; clear h1301; have HB1301 := Lib.hid (HB.out.kept hb1301); clear hb1301) | ((with_reducible show wpList _ _ _ (Oper.mk none (Op.store _ (Operand.tmp 3) (Operand.tmp 19)) _ _ _ _ :: _) _ _); refine wpList_store_whole rfl 49 _ _ rfl (w.heap.size + 1) _ _ 49 (HB1301.out.get 1 rfl) rfl rfl (arr_len2 _ _ HL1301.out HCSL.out) (lim_s HL1301.out) (all_arr _ _) ?_; intro w1302 hb1302 hk1302 hz1302; have HB1302 := Lib.hid (HB1301.out.put 1 rfl hk1302 hb1302); clear hb1302 hk1302 hz1302; clear HB1301))
    have hn5 := (HZ1301.out.cast HDB.out)
    have e5 := hn5.1
    have q1 := below_cell HB1302.out.below (HCL.out (i / 64) hi2)
    rw [← HYE.out] at q1
    clear q0
    have q2 := arr_get' (HB1302.out.get 1 rfl) 0 (by rw [HL1301.out]; decide)
    have q3 := free_blk (HB1302.out.get 1 rfl) 0
    have hd0 : z1301.getD 0 0 = ((2 * (P % 9223372036854775808) : Nat) : Int) := by rw [e5, nar_get, dig_get _ _ _ _ (by decide), Nat.pow_zero, Nat.div_one]; omega
    rw [hd0] at q2
    have hor := or_bit (P % 9223372036854775808) b (by omega) HBL.out
    have hsl := set_low P b HBL.out
    rw [← e5, show 2 * P % 18446744073709551616 = 2 * (P % 9223372036854775808) by omega] at hsl
    have hb1 := HB1302.out.cell 1 rfl 0 (.int .u64 (bits .or .u64 ((2 * (P % 9223372036854775808) : Nat) : Int) (b : Int)))
    have e2 : (arr .u64 z1301).setIfInBounds 0 (.int .u64 (bits .or .u64 ((2 * (P % 9223372036854775808) : Nat) : Int) (b : Int))) = arr .u64 (nar (dig 18446744073709551616 4 (2 * P + b))) := by rw [arr_set, hor, hsl]
    obtain ⟨ns, hns⟩ : ∃ x, x = nar (dig 18446744073709551616 4 (2 * P + b)) := ⟨_, rfl⟩
    rw [← hns] at e2
    have HNS : Hid (N4 ns (2 * P + b)) := Lib.hid ⟨hns, by have := ev_lt P HPL.out; have := HBL.out; omega⟩
    have HNSL := Lib.hid HNS.out.len
    have HB6 := Lib.hid ((hb1.cast (l' := [(w.heap.size, arr .u64 zl, 49), (w.heap.size + 1, arr .u64 ns, 49)]) (by rw [← e2]; rfl)).drew)
    have hbit := HBT.out
    generalize 2 * (P % 9223372036854775808) = d at q2 hb1 HB6
    obtain ⟨N, hN⟩ : ∃ N, N = 2 * P + b := ⟨_, rfl⟩
    rw [← hN] at HNS
    have HNE := Lib.hid hN
    clear hN
    clear hb1 e2 hns hsl hor hd0 e5 hn5 HB1302
    (try simp only [Act.put])
    go_region
    (try simp only [Act.put])
    generalize World.drew _ = w6 at HB6 ⊢
    go_upto_region 7 with fail
    have hpn := HPS.out N HNE.out
    have HPN := Lib.hid hpn
    clear hpn q1 q2 q3 hbit HPS HBT HY HB
    go_cut [5, 6] (fun u5 u6 wx => ∃ gg xx, u5 = .pointer (some ⟨gg, 0, none⟩) ∧ u6 = .int .u64 ((brw N q : Nat) : Int) ∧ N4 xx ((N + 18446744073709551616 ^ 4 - q) % 18446744073709551616 ^ 4) ∧ Blk w wx [(w.heap.size, arr .u64 zl, 49), (w.heap.size + 1, arr .u64 ns, 49), (gg, arr .u64 xx, 49)])
    case first =>
      have HK0 := Lib.hid ((Kept.refl (fun _ => False) w6).drew)
      have HBd := Lib.hid (HB6.out.drew)
      refine wp_region_held_drew (S := (fun w' => Kept (fun _ => False) w6 w')) (by kernel_rfl) (HK0.out) (fun hHeld => ?_)
      generalize w6.drew = wd at HK0 HBd hHeld ⊢
      refine' wpAnyH_take (i := 0) (oi := ({ dst := some 35, op := Op.load 49 (Operand.tmp 3), type := 49, pos := "scalar.go:25", after := #[], guard := none } : Oper)) (v := _) rfl (by kernel_rfl) (by kernel_rfl) (by kernel_rfl) (fun _ _ _ h => h) (yieldsIf_load_mid (by rfl) _ _ rfl _ _ rfl (ns.map (Value.int .u64)) _ ?hS1303 Try.underlying49 rfl (by rw [List.length_map]; exact lim_i HNSL.out)) (by assumption) ?rest1303
      case hS1303 => (intro w hSw; (try dsimp only at hSw); exact range_part (hSw.blk (HB6.out.get 1 rfl) (fun e => e.elim)) 0 _ (by rw [List.length_map]; exact arr_part _ _))
      (try simp only [Act.put, List.setIfInBounds_toArray, List.set_cons_zero, List.set_cons_succ])
      refine wpAnyH_ready (rs := [1, 6]) (by kernel_rfl) (by simp) ?_
      refine AllReadyH.cons (o := ({ dst := some 36, op := Op.call { callee := Callee.value (Operand.func 50), args := #[], argTypes := #[] }, type := 49, pos := "scalar.go:25", after := #[], guard := none } : Oper)) rfl (fun K hK => ?_) ?_
      · go_simp
        go_at_call 50
        refine (HQ.out _).mono ?_
        rintro e w1304 ⟨z1304, rfl, h1304, hb1304⟩
        have HZ1304 := Lib.hid h1304
        have HL1304 := Lib.hid h1304.len
        clear h1304
        have HB1304 := Lib.hid (HBd.out.kept hb1304)
        have HK1304 := Lib.hid (HK0.out.trans (Kept.of_below hb1304))
        clear hb1304
        (try dsimp only)
        clear HBd
        clear HK0
        clear hHeld
        refine hK.out _ _ (HK1304.out) (fun hHeld => ?_)
        clear hK K
        (try simp only [Act.put, List.setIfInBounds_toArray, List.set_cons_zero, List.set_cons_succ])
        refine wpAnyH_ready (rs := [2, 6]) (by kernel_rfl) (by simp) ?_
        refine AllReadyH.cons (o := ({ dst := some 37, op := Op.call { callee := Callee.value (Operand.func 64), args := #[Operand.tmp 35, Operand.tmp 36], argTypes := #[49, 49] }, type := 70, pos := "scalar.go:25", after := #[{ on := 0, ground := Ground.data }, { on := 1, ground := Ground.data }, { on := 1, ground := Ground.chain }], guard := none } : Oper)) rfl (fun K hK => ?_) ?_
        · go_simp
          go_at_call 64
          refine (lsub4 _ _ _ HNS.out HZ1304.out).mono ?_
          rintro e w1305 ⟨z1305, rfl, h1305, hb1305⟩
          have HZ1305 := Lib.hid h1305
          have HL1305 := Lib.hid h1305.len
          clear h1305
          have HB1305 := Lib.hid (HB1304.out.kept hb1305)
          have HK1305 := Lib.hid (HK1304.out.trans (Kept.of_below hb1305))
          clear hb1305
          (try dsimp only)
          clear HB1304
          clear HK1304
          clear hHeld
          refine hK.out _ _ (HK1305.out) (fun hHeld => ?_)
          clear hK K
          (try simp only [Act.put, List.setIfInBounds_toArray, List.set_cons_zero, List.set_cons_succ])
          refine wpAnyH_take (i := 3) (oi := ({ dst := some 34, op := Op.move (Operand.tmp 37), type := 70, pos := "scalar.go:25", after := #[{ on := 2, ground := Ground.data }], guard := none } : Oper)) (v := ?v1306) rfl (by kernel_rfl) (by kernel_rfl) (by kernel_rfl) (fun _ _ _ h => h) (Or.inl ⟨by rfl, ?hy1306⟩) (by assumption) ?rest1306
          case hy1306 => (intro w hSw; (try dsimp only at hSw); go_simp; try (with_reducible rfl))
          (try simp only [Act.put, List.setIfInBounds_toArray, List.set_cons_zero, List.set_cons_succ])
          refine wpAnyH_take (i := 4) (oi := ({ dst := some 38, op := Op.extract (Operand.tmp 34) 0, type := 49, pos := "scalar.go:25", after := #[{ on := 3, ground := Ground.data }], guard := none } : Oper)) (v := ?v1307) rfl (by kernel_rfl) (by kernel_rfl) (by kernel_rfl) (fun _ _ _ h => h) (Or.inl ⟨by rfl, ?hy1307⟩) (by assumption) ?rest1307
          case hy1307 => (intro w hSw; (try dsimp only at hSw); go_simp; try (with_reducible rfl))
          (try simp only [Act.put, List.setIfInBounds_toArray, List.set_cons_zero, List.set_cons_succ])
          refine wpAnyH_take (i := 5) (oi := ({ dst := some 39, op := Op.extract (Operand.tmp 34) 1, type := 47, pos := "scalar.go:25", after := #[{ on := 3, ground := Ground.data }, { on := 7, ground := Ground.gcOnly Departure.lateStores }], guard := none } : Oper)) (v := ?v1308) rfl (by kernel_rfl) (by kernel_rfl) (by kernel_rfl) (fun _ _ _ h => h) (Or.inl ⟨by rfl, ?hy1308⟩) (by assumption) ?rest1308
          case hy1308 => (intro w hSw; (try dsimp only at hSw); go_simp; try (with_reducible rfl))
          (try simp only [Act.put, List.setIfInBounds_toArray, List.set_cons_zero, List.set_cons_succ])
          refine wpAnyH_ready (rs := [6]) (by kernel_rfl) (by simp) ?_
          refine AllReadyH.cons (o := ({ dst := some 5, op := Op.alloc 49, type := 0, pos := "scalar.go:25", after := #[], guard := none } : Oper)) rfl (fun K hK => ?_) AllReadyH.nil
          refine step_alloc_row rfl 49 rfl _ (HZzl.out _) ?_
          have HB1309 := Lib.hid (HB1305.out.alloc (arr .u64 zl) 49)
          have HK1309 := Lib.hid (HK1305.out.alloc (.cells (arr .u64 zl) 49))
          have HN1309 := Lib.hid (show w6.heap.size ≤ (w1305).heap.size from HK1305.out.size)
          generalize (w1305).heap.size = g1309 at HB1309 HN1309 ⊢
          generalize (w1305).alloc (.cells (arr .u64 zl) 49) = w1309 at HB1309 HK1309 ⊢
          clear HB1305
          clear HK1305
          clear hHeld
          refine hK.out _ _ (HK1309.out) (fun hHeld => ?_)
          clear hK K
          (try simp only [Act.put, List.setIfInBounds_toArray, List.set_cons_zero, List.set_cons_succ])
          refine wpAnyH_ready (rs := [7]) (by kernel_rfl) (by simp) ?_
          refine AllReadyH.cons (o := ({ dst := none, op := Op.store 49 (Operand.tmp 5) (Operand.tmp 38), type := 0, pos := "scalar.go:25", after := #[{ on := 6, ground := Ground.data }, { on := 4, ground := Ground.data }, { on := 2, ground := Ground.chain }, { on := 0, ground := Ground.phase }, { on := 1, ground := Ground.phase }, { on := 2, ground := Ground.phase }, { on := 3, ground := Ground.phase }, { on := 4, ground := Ground.phase }, { on := 5, ground := Ground.textOnly Departure.lateStores }, { on := 6, ground := Ground.phase }], guard := none } : Oper)) rfl (fun K hK => ?_) AllReadyH.nil
          refine step_store_whole rfl 49 (.tmp 5) (.tmp 38) rfl (g1309) _ _ _ (HB1309.out.get 2 rfl) rfl rfl (arr_len2 _ _ HL1305.out HLzl.out) (lim_s HL1305.out) (all_arr _ _) ?_
          intro w1310 hb1310 hk1310 hz1310
          have HB1310 := Lib.hid (HB1309.out.put 2 rfl hk1310 hb1310)
          have HK1310 := Lib.hid (HK1309.out.trans_new hk1310 (fun i hi e => absurd hi (by rw [e]; exact Nat.not_lt.2 HN1309.out)))
          clear hb1310 hk1310 hz1310
          clear HB1309
          clear HK1309
          clear hHeld
          refine hK.out _ _ (HK1310.out) (fun hHeld => ?_)
          clear hK K
          (try simp only [Act.put])
          refine wpAnyH_take (i := 8) (oi := ({ dst := some 6, op := Op.assign (Operand.tmp 39), type := 47, pos := "scalar.go:25", after := #[{ on := 5, ground := Ground.data }, { on := 7, ground := Ground.chain }, { on := 0, ground := Ground.phase }, { on := 1, ground := Ground.phase }, { on := 2, ground := Ground.phase }, { on := 3, ground := Ground.phase }, { on := 4, ground := Ground.phase }, { on := 5, ground := Ground.phase }, { on := 6, ground := Ground.phase }, { on := 7, ground := Ground.phase }], guard := none } : Oper)) (v := ?v1311) rfl (by kernel_rfl) (by kernel_rfl) (by kernel_rfl) (fun _ _ _ h => h) (Or.inl ⟨by rfl, ?hy1311⟩) (by assumption) ?rest1311
          case hy1311 => (intro w hSw; (try dsimp only at hSw); go_simp; try (with_reducible rfl))
          (try simp only [Act.put, List.setIfInBounds_toArray, List.set_cons_zero, List.set_cons_succ])
          refine wpAnyH_done (by kernel_rfl) ?_ _
          go_wp2_with fail
          go_meet
          exact ⟨_, _, rfl, rfl, HZ1305.out, HB1310.out⟩
        refine AllReadyH.cons (o := ({ dst := some 5, op := Op.alloc 49, type := 0, pos := "scalar.go:25", after := #[], guard := none } : Oper)) rfl (fun K hK => ?_) ?_
        · refine step_alloc_row rfl 49 rfl _ (HZzl.out _) ?_
          have HB1312 := Lib.hid (HB1304.out.alloc (arr .u64 zl) 49)
          have HK1312 := Lib.hid (HK1304.out.alloc (.cells (arr .u64 zl) 49))
          have HN1312 := Lib.hid (show w6.heap.size ≤ (w1304).heap.size from HK1304.out.size)
          generalize (w1304).heap.size = g1312 at HB1312 HN1312 ⊢
          generalize (w1304).alloc (.cells (arr .u64 zl) 49) = w1312 at HB1312 HK1312 ⊢
          clear HB1304
          clear HK1304
          clear hHeld
          refine hK.out _ _ (HK1312.out) (fun hHeld => ?_)
          clear hK K
          (try simp only [Act.put, List.setIfInBounds_toArray, List.set_cons_zero, List.set_cons_succ])
          refine wpAnyH_ready (rs := [2]) (by kernel_rfl) (by simp) ?_
          refine AllReadyH.cons (o := ({ dst := some 37, op := Op.call { callee := Callee.value (Operand.func 64), args := #[Operand.tmp 35, Operand.tmp 36], argTypes := #[49, 49] }, type := 70, pos := "scalar.go:25", after := #[{ on := 0, ground := Ground.data }, { on := 1, ground := Ground.data }, { on := 1, ground := Ground.chain }], guard := none } : Oper)) rfl (fun K hK => ?_) AllReadyH.nil
          go_simp
          go_at_call 64
          refine (lsub4 _ _ _ HNS.out HZ1304.out).mono ?_
          rintro e w1313 ⟨z1313, rfl, h1313, hb1313⟩
          have HZ1313 := Lib.hid h1313
          have HL1313 := Lib.hid h1313.len
          clear h1313
          have HB1313 := Lib.hid (HB1312.out.kept hb1313)
          have HK1313 := Lib.hid (HK1312.out.trans (Kept.of_below hb1313))
          clear hb1313
          (try dsimp only)
          clear HB1312
          clear HK1312
          clear hHeld
          refine hK.out _ _ (HK1313.out) (fun hHeld => ?_)
          clear hK K
          (try simp only [Act.put, List.setIfInBounds_toArray, List.set_cons_zero, List.set_cons_succ])
          refine wpAnyH_take (i := 3) (oi := ({ dst := some 34, op := Op.move (Operand.tmp 37), type := 70, pos := "scalar.go:25", after := #[{ on := 2, ground := Ground.data }], guard := none } : Oper)) (v := ?v1314) rfl (by kernel_rfl) (by kernel_rfl) (by kernel_rfl) (fun _ _ _ h => h) (Or.inl ⟨by rfl, ?hy1314⟩) (by assumption) ?rest1314
          case hy1314 => (intro w hSw; (try dsimp only at hSw); go_simp; try (with_reducible rfl))
          (try simp only [Act.put, List.setIfInBounds_toArray, List.set_cons_zero, List.set_cons_succ])
          refine wpAnyH_take (i := 4) (oi := ({ dst := some 38, op := Op.extract (Operand.tmp 34) 0, type := 49, pos := "scalar.go:25", after := #[{ on := 3, ground := Ground.data }], guard := none } : Oper)) (v := ?v1315) rfl (by kernel_rfl) (by kernel_rfl) (by kernel_rfl) (fun _ _ _ h => h) (Or.inl ⟨by rfl, ?hy1315⟩) (by assumption) ?rest1315
          case hy1315 => (intro w hSw; (try dsimp only at hSw); go_simp; try (with_reducible rfl))
          (try simp only [Act.put, List.setIfInBounds_toArray, List.set_cons_zero, List.set_cons_succ])
          refine wpAnyH_take (i := 5) (oi := ({ dst := some 39, op := Op.extract (Operand.tmp 34) 1, type := 47, pos := "scalar.go:25", after := #[{ on := 3, ground := Ground.data }, { on := 7, ground := Ground.gcOnly Departure.lateStores }], guard := none } : Oper)) (v := ?v1316) rfl (by kernel_rfl) (by kernel_rfl) (by kernel_rfl) (fun _ _ _ h => h) (Or.inl ⟨by rfl, ?hy1316⟩) (by assumption) ?rest1316
          case hy1316 => (intro w hSw; (try dsimp only at hSw); go_simp; try (with_reducible rfl))
          (try simp only [Act.put, List.setIfInBounds_toArray, List.set_cons_zero, List.set_cons_succ])
          refine wpAnyH_ready (rs := [7]) (by kernel_rfl) (by simp) ?_
          refine AllReadyH.cons (o := ({ dst := none, op := Op.store 49 (Operand.tmp 5) (Operand.tmp 38), type := 0, pos := "scalar.go:25", after := #[{ on := 6, ground := Ground.data }, { on := 4, ground := Ground.data }, { on := 2, ground := Ground.chain }, { on := 0, ground := Ground.phase }, { on := 1, ground := Ground.phase }, { on := 2, ground := Ground.phase }, { on := 3, ground := Ground.phase }, { on := 4, ground := Ground.phase }, { on := 5, ground := Ground.textOnly Departure.lateStores }, { on := 6, ground := Ground.phase }], guard := none } : Oper)) rfl (fun K hK => ?_) AllReadyH.nil
          refine step_store_whole rfl 49 (.tmp 5) (.tmp 38) rfl (g1312) _ _ _ (HB1313.out.get 2 rfl) rfl rfl (arr_len2 _ _ HL1313.out HLzl.out) (lim_s HL1313.out) (all_arr _ _) ?_
          intro w1317 hb1317 hk1317 hz1317
          have HB1317 := Lib.hid (HB1313.out.put 2 rfl hk1317 hb1317)
          have HK1317 := Lib.hid (HK1313.out.trans_new hk1317 (fun i hi e => absurd hi (by rw [e]; exact Nat.not_lt.2 HN1312.out)))
          clear hb1317 hk1317 hz1317
          clear HB1313
          clear HK1313
          clear hHeld
          refine hK.out _ _ (HK1317.out) (fun hHeld => ?_)
          clear hK K
          (try simp only [Act.put])
          refine wpAnyH_take (i := 8) (oi := ({ dst := some 6, op := Op.assign (Operand.tmp 39), type := 47, pos := "scalar.go:25", after := #[{ on := 5, ground := Ground.data }, { on := 7, ground := Ground.chain }, { on := 0, ground := Ground.phase }, { on := 1, ground := Ground.phase }, { on := 2, ground := Ground.phase }, { on := 3, ground := Ground.phase }, { on := 4, ground := Ground.phase }, { on := 5, ground := Ground.phase }, { on := 6, ground := Ground.phase }, { on := 7, ground := Ground.phase }], guard := none } : Oper)) (v := ?v1318) rfl (by kernel_rfl) (by kernel_rfl) (by kernel_rfl) (fun _ _ _ h => h) (Or.inl ⟨by rfl, ?hy1318⟩) (by assumption) ?rest1318
          case hy1318 => (intro w hSw; (try dsimp only at hSw); go_simp; try (with_reducible rfl))
          (try simp only [Act.put, List.setIfInBounds_toArray, List.set_cons_zero, List.set_cons_succ])
          refine wpAnyH_done (by kernel_rfl) ?_ _
          go_wp2_with fail
          go_meet
          exact ⟨_, _, rfl, rfl, HZ1313.out, HB1317.out⟩
        exact AllReadyH.nil
      refine AllReadyH.cons (o := ({ dst := some 5, op := Op.alloc 49, type := 0, pos := "scalar.go:25", after := #[], guard := none } : Oper)) rfl (fun K hK => ?_) ?_
      · refine step_alloc_row rfl 49 rfl _ (HZzl.out _) ?_
        have HB1319 := Lib.hid (HBd.out.alloc (arr .u64 zl) 49)
        have HK1319 := Lib.hid (HK0.out.alloc (.cells (arr .u64 zl) 49))
        have HN1319 := Lib.hid (show w6.heap.size ≤ (wd).heap.size from HK0.out.size)
        generalize (wd).heap.size = g1319 at HB1319 HN1319 ⊢
        generalize (wd).alloc (.cells (arr .u64 zl) 49) = w1319 at HB1319 HK1319 ⊢
        clear HBd
        clear HK0
        clear hHeld
        refine hK.out _ _ (HK1319.out) (fun hHeld => ?_)
        clear hK K
        (try simp only [Act.put, List.setIfInBounds_toArray, List.set_cons_zero, List.set_cons_succ])
        refine wpAnyH_ready (rs := [1]) (by kernel_rfl) (by simp) ?_
        refine AllReadyH.cons (o := ({ dst := some 36, op := Op.call { callee := Callee.value (Operand.func 50), args := #[], argTypes := #[] }, type := 49, pos := "scalar.go:25", after := #[], guard := none } : Oper)) rfl (fun K hK => ?_) AllReadyH.nil
        go_simp
        go_at_call 50
        refine (HQ.out _).mono ?_
        rintro e w1320 ⟨z1320, rfl, h1320, hb1320⟩
        have HZ1320 := Lib.hid h1320
        have HL1320 := Lib.hid h1320.len
        clear h1320
        have HB1320 := Lib.hid (HB1319.out.kept hb1320)
        have HK1320 := Lib.hid (HK1319.out.trans (Kept.of_below hb1320))
        clear hb1320
        (try dsimp only)
        clear HB1319
        clear HK1319
        clear hHeld
        refine hK.out _ _ (HK1320.out) (fun hHeld => ?_)
        clear hK K
        (try simp only [Act.put, List.setIfInBounds_toArray, List.set_cons_zero, List.set_cons_succ])
        refine wpAnyH_ready (rs := [2]) (by kernel_rfl) (by simp) ?_
        refine AllReadyH.cons (o := ({ dst := some 37, op := Op.call { callee := Callee.value (Operand.func 64), args := #[Operand.tmp 35, Operand.tmp 36], argTypes := #[49, 49] }, type := 70, pos := "scalar.go:25", after := #[{ on := 0, ground := Ground.data }, { on := 1, ground := Ground.data }, { on := 1, ground := Ground.chain }], guard := none } : Oper)) rfl (fun K hK => ?_) AllReadyH.nil
        go_simp
        go_at_call 64
        refine (lsub4 _ _ _ HNS.out HZ1320.out).mono ?_
        rintro e w1321 ⟨z1321, rfl, h1321, hb1321⟩
        have HZ1321 := Lib.hid h1321
        have HL1321 := Lib.hid h1321.len
        clear h1321
        have HB1321 := Lib.hid (HB1320.out.kept hb1321)
        have HK1321 := Lib.hid (HK1320.out.trans (Kept.of_below hb1321))
        clear hb1321
        (try dsimp only)
        clear HB1320
        clear HK1320
        clear hHeld
        refine hK.out _ _ (HK1321.out) (fun hHeld => ?_)
        clear hK K
        (try simp only [Act.put, List.setIfInBounds_toArray, List.set_cons_zero, List.set_cons_succ])
        refine wpAnyH_take (i := 3) (oi := ({ dst := some 34, op := Op.move (Operand.tmp 37), type := 70, pos := "scalar.go:25", after := #[{ on := 2, ground := Ground.data }], guard := none } : Oper)) (v := ?v1322) rfl (by kernel_rfl) (by kernel_rfl) (by kernel_rfl) (fun _ _ _ h => h) (Or.inl ⟨by rfl, ?hy1322⟩) (by assumption) ?rest1322
        case hy1322 => (intro w hSw; (try dsimp only at hSw); go_simp; try (with_reducible rfl))
        (try simp only [Act.put, List.setIfInBounds_toArray, List.set_cons_zero, List.set_cons_succ])
        refine wpAnyH_take (i := 4) (oi := ({ dst := some 38, op := Op.extract (Operand.tmp 34) 0, type := 49, pos := "scalar.go:25", after := #[{ on := 3, ground := Ground.data }], guard := none } : Oper)) (v := ?v1323) rfl (by kernel_rfl) (by kernel_rfl) (by kernel_rfl) (fun _ _ _ h => h) (Or.inl ⟨by rfl, ?hy1323⟩) (by assumption) ?rest1323
        case hy1323 => (intro w hSw; (try dsimp only at hSw); go_simp; try (with_reducible rfl))
        (try simp only [Act.put, List.setIfInBounds_toArray, List.set_cons_zero, List.set_cons_succ])
        refine wpAnyH_take (i := 5) (oi := ({ dst := some 39, op := Op.extract (Operand.tmp 34) 1, type := 47, pos := "scalar.go:25", after := #[{ on := 3, ground := Ground.data }, { on := 7, ground := Ground.gcOnly Departure.lateStores }], guard := none } : Oper)) (v := ?v1324) rfl (by kernel_rfl) (by kernel_rfl) (by kernel_rfl) (fun _ _ _ h => h) (Or.inl ⟨by rfl, ?hy1324⟩) (by assumption) ?rest1324
        case hy1324 => (intro w hSw; (try dsimp only at hSw); go_simp; try (with_reducible rfl))
        (try simp only [Act.put, List.setIfInBounds_toArray, List.set_cons_zero, List.set_cons_succ])
        refine wpAnyH_ready (rs := [7]) (by kernel_rfl) (by simp) ?_
        refine AllReadyH.cons (o := ({ dst := none, op := Op.store 49 (Operand.tmp 5) (Operand.tmp 38), type := 0, pos := "scalar.go:25", after := #[{ on := 6, ground := Ground.data }, { on := 4, ground := Ground.data }, { on := 2, ground := Ground.chain }, { on := 0, ground := Ground.phase }, { on := 1, ground := Ground.phase }, { on := 2, ground := Ground.phase }, { on := 3, ground := Ground.phase }, { on := 4, ground := Ground.phase }, { on := 5, ground := Ground.textOnly Departure.lateStores }, { on := 6, ground := Ground.phase }], guard := none } : Oper)) rfl (fun K hK => ?_) AllReadyH.nil
        refine step_store_whole rfl 49 (.tmp 5) (.tmp 38) rfl (g1319) _ _ _ (HB1321.out.get 2 rfl) rfl rfl (arr_len2 _ _ HL1321.out HLzl.out) (lim_s HL1321.out) (all_arr _ _) ?_
        intro w1325 hb1325 hk1325 hz1325
        have HB1325 := Lib.hid (HB1321.out.put 2 rfl hk1325 hb1325)
        have HK1325 := Lib.hid (HK1321.out.trans_new hk1325 (fun i hi e => absurd hi (by rw [e]; exact Nat.not_lt.2 HN1319.out)))
        clear hb1325 hk1325 hz1325
        clear HB1321
        clear HK1321
        clear hHeld
        refine hK.out _ _ (HK1325.out) (fun hHeld => ?_)
        clear hK K
        (try simp only [Act.put])
        refine wpAnyH_take (i := 8) (oi := ({ dst := some 6, op := Op.assign (Operand.tmp 39), type := 47, pos := "scalar.go:25", after := #[{ on := 5, ground := Ground.data }, { on := 7, ground := Ground.chain }, { on := 0, ground := Ground.phase }, { on := 1, ground := Ground.phase }, { on := 2, ground := Ground.phase }, { on := 3, ground := Ground.phase }, { on := 4, ground := Ground.phase }, { on := 5, ground := Ground.phase }, { on := 6, ground := Ground.phase }, { on := 7, ground := Ground.phase }], guard := none } : Oper)) (v := ?v1326) rfl (by kernel_rfl) (by kernel_rfl) (by kernel_rfl) (fun _ _ _ h => h) (Or.inl ⟨by rfl, ?hy1326⟩) (by assumption) ?rest1326
        case hy1326 => (intro w hSw; (try dsimp only at hSw); go_simp; try (with_reducible rfl))
        (try simp only [Act.put, List.setIfInBounds_toArray, List.set_cons_zero, List.set_cons_succ])
        refine wpAnyH_done (by kernel_rfl) ?_ _
        go_wp2_with fail
        go_meet
        exact ⟨_, _, rfl, rfl, HZ1321.out, HB1325.out⟩
      exact AllReadyH.nil
    case rest =>
    obtain ⟨wy, rfl⟩ : ∃ x : World, x = wc := ⟨_, rfl⟩
    obtain ⟨gd, ds, rfl, rfl, h1, hb1⟩ := hcut
    have HB1 := Lib.hid hb1
    have HD := Lib.hid h1
    have HDL := Lib.hid h1.len
    clear h1 hb1 HB6
    have HMI : Hid (64 * n - (m + 1) = i) := Lib.hid (by have := HI.out; omega)
    by_cases hp : N < q
    · rw [brw_yes hp]
      have HN : Hid (N = upq V i) := Lib.hid (by rw [← HPN.out, if_pos hp])
      have hbv : (((1 : Nat) : Int) == 0) = false := rfl
      clear hp
      go_wp2_with fail
      go_roundw
      case rel =>
        have e := HI.out
        exact ⟨m + 1, by omega, congrArg (Value.int .i64) (by omega), ns, HNS.out.cast (by rw [HMI.out]; exact HN.out), HB1.out.less 2⟩
      case measure =>
        have e := HI.out
        simp [intOf]
        try omega
    · rw [brw_no hp]
      have HN : Hid ((N + 18446744073709551616 ^ 4 - q) % 18446744073709551616 ^ 4 = upq V i) := Lib.hid (by rw [← HPN.out, if_neg hp, sub_q N P b HNE.out HPL.out HBL.out hp])
      have hbv : (((0 : Nat) : Int) == 0) = true := rfl
      clear hp
      go_wp2_with (first | ((with_reducible show wpList _ _ _ (Oper.mk (some 42) _ _ _ _ _ :: _) _ _); refine wpList_load_part rfl 49 _ rfl (gd) 0 _ 49 (0, 0) _ (HB1.out.get 2 rfl) rfl .u64 ds (arr_part _ _) Try.underlying49 rfl (lim_i HDL.out) ?_) | ((with_reducible show wpList _ _ _ (Oper.mk none (Op.store _ (Operand.tmp 3) _) _ _ _ _ :: _) _ _); refine wpList_store_whole rfl 49 _ _ rfl (w.heap.size + 1) _ _ 49 (HB1.out.get 1 rfl) rfl rfl (arr_len2 _ _ HDL.out HNSL.out) (lim_s HDL.out) (all_arr _ _) ?_; intro w7 hb7 hk7 hz7; have HB7 := Lib.hid (HB1.out.put 1 rfl hk7 hb7); clear hb7 hk7 hz7))
      go_roundw
      case rel =>
        have e := HI.out
        exact ⟨m + 1, by omega, congrArg (Value.int .i64) (by omega), ds, HD.out.cast (by rw [HMI.out]; exact HN.out), HB7.out.less 2⟩
      case measure =>
        have e := HI.out
        simp [intOf]
        try omega
  · obtain rfl : m = 64 * n := by omega
    rw [Nat.sub_self, HVE.out] at hcs
    have hz : (n : Int) * 64 - 1 - ((64 * n : Nat) : Int) = -1 := by omega
    rw [hz]
    have HY := Lib.hid hcs
    have HYL := Lib.hid hcs.len
    have HB := Lib.hid hB
    clear hcs hB hz
    go_wp2_with (first | ((with_reducible show wpList _ _ _ (Oper.mk (some 43) _ _ _ _ _ :: _) _ _); refine wpList_load_part rfl 49 _ rfl (w.heap.size + 1) 0 _ 49 (0, 0) _ (HB.out.get 1 rfl) rfl .u64 cs (arr_part _ _) Try.underlying49 rfl (lim_i HYL.out) ?_) | ((with_reducible show wpList _ _ _ (Oper.mk none (Op.store _ (Operand.tmp 2) _) _ _ _ _ :: _) _ _); refine wpList_store_whole rfl 49 _ _ rfl (w.heap.size) _ _ 49 (HB.out.get 0 rfl) rfl rfl (arr_len2 _ _ HYL.out HLzl.out) (lim_s HYL.out) (all_arr _ _) ?_; intro w7 hb7 hk7 hz7; have HB7 := Lib.hid (HB.out.put 0 rfl hk7 hb7); clear hb7 hk7 hz7))
    (try simp only [Exit.inBlock, Exit.then])
    refine bodyPost_ret (results_cell_row rfl _ _ (w.heap.size) 49 _ (0, 0) _ rfl (HB7.out.get 0 rfl) Try.underlying49 rfl (lim_s HYL.out)) rfl ?_
    exact ⟨_, rfl, HY.out, HB7.out.below⟩
end Go.Proofs.Ytanjhngehfbpbaa.Sl
