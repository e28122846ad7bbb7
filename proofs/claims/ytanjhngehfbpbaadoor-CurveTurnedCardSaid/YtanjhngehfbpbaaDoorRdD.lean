/- The document's out: what it answers. Condition: a row that stands for a number modulo p. -/
import Derived.Test.YtanjhngehfbpbaaDoorRdC
namespace Go.Proofs.YtanjhngehfbpbaaDoor.Rd
open Go.RowKit Lm Fp

theorem and1 (d : Int) (h : d = -1 ∨ d = 0) : bits .and .i64 d 1 = -d := by rcases h with rfl | rfl <;> decide
theorem toNat_ofInt64 (x : Int) : ((BitVec.ofInt 64 x).toNat : Int) = x % 18446744073709551616 := by
  rw [BitVec.toNat_ofInt]
  have := Int.emod_nonneg x (show (18446744073709551616 : Int) ≠ 0 by decide)
  exact Int.toNat_of_nonneg this
theorem andFF (x : Int) : bits .and .i64 x 65535 = x % 65536 := by
  have h1 := toNat_ofInt64 x
  have h2 : (BitVec.ofInt 64 (65535 : Int)).toNat = 65535 := by decide
  show IntKind.i64.wrap ((BitVec.ofInt 64 x &&& BitVec.ofInt 64 (65535 : Int)).toNat : Int) = _
  rw [BitVec.toNat_and, h2, show 65535 = 2 ^ 16 - 1 from rfl, Nat.and_two_pow_sub_one_eq_mod, IntKind.wrap_i64]
  omega
theorem andF (x : Int) : IntKind.u8.wrap (bits .and .i64 x 255) = x % 256 := by
  have h1 := toNat_ofInt64 x
  have h2 : (BitVec.ofInt 64 (255 : Int)).toNat = 255 := by decide
  show IntKind.u8.wrap (IntKind.i64.wrap ((BitVec.ofInt 64 x &&& BitVec.ofInt 64 (255 : Int)).toNat : Int)) = _
  rw [BitVec.toNat_and, h2, show 255 = 2 ^ 8 - 1 from rfl, Nat.and_two_pow_sub_one_eq_mod, IntKind.wrap_i64, IntKind.wrap_u8]
  omega
def it (V : Nat) : Nat → Nat
  | 0 => V
  | k + 1 => less1 (it V k)
theorem it_three (V : Nat) (h : V < 65536 ^ 16) : it V 3 = V % p := by
  have e := lessen_eq V (Nat.lt_of_lt_of_le h (by decide))
  show less1 (less1 (less1 V)) = _
  rw [e, less1, if_pos (Nat.mod_lt _ p_pos)]

set_option maxRecDepth 100000 in
set_option maxHeartbeats 4000000 in
theorem out_any (xs : List Int) (a : Nat) (w : World) (hx : El xs a) :
    Calls Tryd.prog 67 #[.agg (arr .i64 xs)] w fun e w' => e = .returned (.agg (arr .u8 (nar (dig 256 32 a)))) ∧ Below w.heap.size w w' := by
  obtain ⟨ze, hze⟩ : ∃ zs : List Int, zs = List.replicate 16 0 := ⟨_, rfl⟩
  have HZze : Hid (∀ w, (zeroValue 64).run Tryd.prog w = .ok (.agg (arr .i64 ze)) w) := Lib.hid (by intro w; rw [hze]; exact zero_el w)
  have HLze : Hid (ze.length = 16) := Lib.hid (by rw [hze]; rfl)
  obtain ⟨zn, hzn⟩ : ∃ zs : List Int, zs = List.replicate 32 0 := ⟨_, rfl⟩
  have HZzn : Hid (∀ w, (zeroValue 23).run Tryd.prog w = .ok (.agg (arr .u8 zn)) w) := Lib.hid (by intro w; rw [hzn]; exact zero_num w)
  have HLzn : Hid (zn.length = 32) := Lib.hid (by rw [hzn]; rfl)
  have HZ0 : Hid (∀ us, zn = outs us 0) := Lib.hid (fun us => by rw [hzn]; exact outs_zero us)
  have HZ1 : Hid (∀ ds : List Int, ze.set 0 (ds.getD 0 0) = sb ds 1) := Lib.hid (fun ds => by rw [hze]; exact sb_one ds)
  have HZG : Hid (ze.getD 0 0 = 0) := Lib.hid (by rw [hze]; rfl)
  obtain ⟨f1, f2⟩ := four_pass hx
  have n1 : Near (38 * 17) (carry xs) := carry_any xs 1048576 17 (getD_bound xs 1048576 hx.2.1 (by decide)) (by decide) (by decide)
  have n2 : Near 38 (carry (carry xs)) := carry_twice _ _ n1 (by decide) (by decide)
  have n3 := carry_third _ n2
  have HC0 := Lib.hid (fun w => carry_code xs w hx.1 (fun x h => by have := hx.2.1 x h; omega))
  have HC1 := Lib.hid (fun w => carry_code (carry xs) w (carry_len _) (fun x h => by have := near_mem n1 (by decide) x h; omega))
  have HC2 := Lib.hid (fun w => carry_code (carry (carry xs)) w (carry_len _) (fun x h => by have := near_mem n2 (by decide) x h; omega))
  have HC3 := Lib.hid (fun w => carry_code (carry (carry (carry xs))) w (carry_len _) (fun x h => by have := near_mem n3 (by decide) x h; omega))
  obtain ⟨c4, h4⟩ : ∃ c, c = carry (carry (carry (carry xs))) := ⟨_, rfl⟩
  rw [← h4] at f1 f2 HC3
  clear h4
  obtain ⟨c3, h3⟩ : ∃ c, c = carry (carry (carry xs)) := ⟨_, rfl⟩
  rw [← h3] at HC2 HC3
  clear h3
  obtain ⟨c2, h2⟩ : ∃ c, c = carry (carry xs) := ⟨_, rfl⟩
  rw [← h2] at HC1 HC2
  clear h2
  obtain ⟨c1, h1⟩ : ∃ c, c = carry xs := ⟨_, rfl⟩
  rw [← h1] at HC0 HC1
  clear h1 n1 n2 n3
  obtain ⟨c0, h0⟩ : ∃ c, c = xs := ⟨_, rfl⟩
  rw [← h0] at HC0 hx ⊢
  obtain ⟨V, hV⟩ := near0_nat f1
  have HN4 := Lib.hid f1
  have HV := Lib.hid hV
  have hV2 := (near0_dig f1 V hV).2
  have HIT : Hid (it V 3 = a) := Lib.hid (by
    rw [it_three V hV2]
    rw [hV, ← Int.natCast_emod] at f2
    omega)
  have HL4 := Lib.hid f1.1
  have HL0 := Lib.hid hx.1
  have HS0 := Lib.hid (Blk.two w (arr .i64 c0) (arr .u8 zn) 64 23)
  clear hze hzn hx f1 f2 hV hV2 h0
  go_enter Tryd.func67, Tryd.ntmps67
  go_wp2_with (first | ((with_reducible refine aS 2 ?_); refine wpList_alloc_row rfl 23 rfl _ (HZzn.out _) ?_) | ((with_reducible refine aS 8 ?_); refine wpList_load_part rfl 64 _ rfl (w.heap.size) 0 _ 64 (0, 0) _ (HS0.out.get 0 rfl) rfl .i64 c0 (arr_part _ _) Tryd.underlying64 rfl (el_i HL0.out) ?_) | ((with_reducible show Calls _ _ #[.agg (arr _ c0)] _ _); go_at_call 112; refine (HC0.out _).mono ?_; rintro e w1 ⟨rfl, hb1⟩; have HB1 := Lib.hid (HS0.out.kept hb1); clear hb1) | ((with_reducible show Calls _ _ #[.agg (arr _ c1)] _ _); go_at_call 112; refine (HC1.out _).mono ?_; rintro e w2 ⟨rfl, hb2⟩; have HB2 := Lib.hid (HB1.out.kept hb2); clear hb2) | ((with_reducible show Calls _ _ #[.agg (arr _ c2)] _ _); go_at_call 112; refine (HC2.out _).mono ?_; rintro e w3 ⟨rfl, hb3⟩; have HB3 := Lib.hid (HB2.out.kept hb3); clear hb3) | ((with_reducible show Calls _ _ #[.agg (arr _ c3)] _ _); go_at_call 112; refine (HC3.out _).mono ?_; rintro e w4 ⟨rfl, hb4⟩; have HB4 := Lib.hid (HB3.out.kept hb4); clear hb4) | ((with_reducible refine aT 1 ?_); refine wpList_store_whole rfl 64 _ _ rfl (w.heap.size) _ _ 64 (HB4.out.get 0 rfl) rfl rfl (arr_len2 _ _ HL4.out HL0.out) (el_s HL4.out) (all_arr _ _) ?_; intro w5 hb5 hk5 hz5; have HB5 := Lib.hid (HB4.out.put 0 rfl hk5 hb5); clear hb5 hk5 hz5))
  go_loopw [3] (fun v wr => ∃ k : Nat, k ≤ 3 ∧ v = .int .i64 k ∧ ∃ us : List Int, Near 0 us ∧ vi us = (it V k : Int) ∧ Blk w wr [(w.heap.size, arr .i64 us, 64), (w.heap.size + 1, arr .u8 zn, 23)]) (fun v _ => 3 - (intOf v).toNat)
  case atStart => exact ⟨0, Nat.zero_le _, rfl, c4, HN4.out, HV.out, HB5.out⟩
  clear HS0 HB1 HB2 HB3 HB4 HB5
  case round =>
  obtain ⟨k, hk, rfl, us, un, uv, hB⟩ := hrel
  by_cases hlt : k < 3
  · obtain ⟨ds, hds⟩ : ∃ ds, ds = dsub us := ⟨_, rfl⟩
    have HUN := Lib.hid un
    have HUV := Lib.hid uv
    have HDS := Lib.hid hds
    have HCR : Hid (∀ j, j < 16 → -65536 ≤ ds.getD j 0 + cr ds j ∧ ds.getD j 0 + cr ds j ≤ 65535) := Lib.hid (fun j hj => by
      have h1 := near0_get un j
      have h2 := P16_bound j
      have h3 := dsub_cr un j (by omega)
      rw [hds, dsub_get us j hj]
      omega)
    have b0 := near0_get un 0
    have e0 : us.getD 0 0 - 65517 = ds.getD 0 0 := by rw [hds, dsub_get us 0 (by decide)]; rfl
    have hb1 := hB.alloc (arr .i64 ze) 64
    have q0 := arr_get' (hb1.get 0 rfl) 0 (by rw [un.1]; decide)
    have q1 := arr_get' (hb1.get 2 rfl) 0 (by rw [HLze.out]; decide)
    have q2 := free_blk (hb1.get 2 rfl) 0
    have HBM : Hid (Blk w (wr.alloc (.cells ((arr .i64 ze).setIfInBounds 0 (.int .i64 (us.getD 0 0 - 65517))) 64)) [(w.heap.size, arr .i64 us, 64), (w.heap.size + 1, arr .u8 zn, 23), (wr.heap.size, arr .i64 (sb ds 1), 64)]) := Lib.hid ((hB.alloc ((arr .i64 ze).setIfInBounds 0 (.int .i64 (us.getD 0 0 - 65517))) 64).cast (by rw [arr_set, e0, HZ1.out ds]; rfl))
    generalize us.getD 0 0 = x at q0 b0 HBM
    clear hB un uv hds e0 hb1
    go_wp2_with (first | ((with_reducible refine aS 4 ?_); refine wpList_alloc_row rfl 64 rfl _ (HZze.out _) ?_))
    generalize wr.heap.size = gm at HBM ⊢
    generalize wr.alloc (.cells ((arr .i64 ze).setIfInBounds 0 (.int .i64 (x - 65517))) 64) = wm at HBM ⊢
    clear q0 q1 q2 b0
    go_loopw [5] (fun v wq => ∃ j : Nat, j ≤ 14 ∧ v = .int .i64 ((j : Int) + 1) ∧ ∃ ms : List Int, ms = sb ds (j + 1) ∧ Blk w wq [(w.heap.size, arr .i64 us, 64), (w.heap.size + 1, arr .u8 zn, 23), (gm, arr .i64 ms, 64)]) (fun v _ => 15 - (intOf v).toNat)
    case atStart => exact ⟨0, Nat.zero_le _, rfl, _, rfl, HBM.out⟩
    case round =>
      obtain ⟨j, hj, rfl, ms, hms, hQ⟩ := hrel
      have ml : ms.length = 16 := by rw [hms]; exact tb_len _ _
      have mg := sb_get ds j (by omega)
      have cb := HCR.out j (by omega)
      by_cases hlo : j < 14
      · have q0 := arr_get' (hQ.get 0 rfl) (j + 1) (by rw [HUN.out.1]; omega)
        have q1 := arr_get' (hQ.get 2 rfl) j (by rw [ml]; omega)
        have q2 := arr_get' (hQ.get 2 rfl) (j + 1) (by rw [ml]; omega)
        have q3 := free_blk (hQ.get 2 rfl) (j + 1)
        have q4 := free_blk (hQ.get 2 rfl) j
        have b0 := near0_get HUN.out (j + 1)
        have e0 : us.getD (j + 1) 0 - 65535 = ds.getD (j + 1) 0 := by rw [HDS.out, dsub_get us (j + 1) (by omega), P16_get (j + 1) (by omega) (by omega)]
        rw [hms, mg] at q1
        have st := fun x hx => sb_step ds j x (by omega) hx
        generalize hx : ds.getD j 0 + cr ds j = x at q1 st cb
        have st := st x rfl
        rw [← e0] at st
        generalize us.getD (j + 1) 0 = y at q0 b0 st
        have ha := and1 (x / 65536) (by omega)
        have hf := andFF x
        have hb1 := (hQ.cell 2 rfl (j + 1) (.int .i64 (y - 65535 - bits .and .i64 (x / 65536) 1))).cell 2 rfl j (.int .i64 (bits .and .i64 x 65535))
        have e2 : ((arr .i64 ms).setIfInBounds (j + 1) (.int .i64 (y - 65535 - bits .and .i64 (x / 65536) 1))).setIfInBounds j (.int .i64 (bits .and .i64 x 65535)) = arr .i64 (sb ds (j + 1 + 1)) := by
          rw [ha, hf, arr_set, arr_set, hms, show y - 65535 - -(x / 65536) = y - 65535 + x / 65536 by omega, st]
        have HB1 := Lib.hid ((hb1.drew).cast (l' := [(w.heap.size, arr .i64 us, 64), (w.heap.size + 1, arr .u8 zn, 23), (gm, arr .i64 (sb ds (j + 1 + 1)), 64)]) (by rw [← e2]; rfl))
        have hbd : bits .and .i64 (x / 65536) 1 = 0 ∨ bits .and .i64 (x / 65536) 1 = 1 := by rw [ha]; omega
        clear hb1 e2 hms hQ st ml mg hx ha hf e0
        go_wp2_with fail
        go_region
        go_wp2_with fail
        go_roundw
        case rel => exact ⟨j + 1, by omega, by go_num, _, rfl, HB1.out⟩
        case measure => simp [intOf]; omega
      · obtain rfl : j = 14 := by omega
        have q0 := arr_get' (hQ.get 0 rfl) 15 (by rw [HUN.out.1]; omega)
        have q1 := arr_get' (hQ.get 2 rfl) 14 (by rw [ml]; omega)
        have q2 := arr_get' (hQ.get 2 rfl) 15 (by rw [ml]; omega)
        have q3 := free_blk (hQ.get 2 rfl) 15
        have q4 := free_blk (hQ.get 2 rfl) 14
        have b0 := near0_get HUN.out 15
        have e0 : us.getD 15 0 - 32767 = ds.getD 15 0 := by rw [HDS.out, dsub_get us 15 (by omega)]; rfl
        rw [hms, mg] at q1
        have st := fun x hx => sb_step ds 14 x (by omega) hx
        have sd := sub_dec HUN.out (it V k) HUV.out
        rw [← HDS.out, ← e0] at sd
        have c15 : cr ds 15 = (ds.getD 14 0 + cr ds 14) / 65536 := rfl
        rw [c15] at sd
        generalize hx : ds.getD 14 0 + cr ds 14 = x at q1 st cb sd
        have st := st x rfl
        rw [show (14 + 1 : Nat) = 15 from rfl, ← e0, show (14 + 2 : Nat) = 16 from rfl, sb_last] at st
        generalize us.getD 15 0 = y at q0 b0 st sd
        have ha := and1 (x / 65536) (by omega)
        have hf := andFF x
        have hb1 := (hQ.cell 2 rfl 15 (.int .i64 (y - 32767 - bits .and .i64 (x / 65536) 1))).cell 2 rfl 14 (.int .i64 (bits .and .i64 x 65535))
        have e2 : ((arr .i64 ms).setIfInBounds 15 (.int .i64 (y - 32767 - bits .and .i64 (x / 65536) 1))).setIfInBounds 14 (.int .i64 (bits .and .i64 x 65535)) = arr .i64 (mid ds 15) := by
          rw [ha, hf, arr_set, arr_set, hms, show y - 32767 - -(x / 65536) = y - 32767 + x / 65536 by omega, st]
        have HB1 := Lib.hid (hb1.cast (l' := [(w.heap.size, arr .i64 us, 64), (w.heap.size + 1, arr .u8 zn, 23), (gm, arr .i64 (mid ds 15), 64)]) (by rw [← e2]; rfl))
        obtain ⟨mm, hmm⟩ : ∃ m, m = mid ds 15 := ⟨_, rfl⟩
        rw [← hmm] at HB1 sd
        have HML : Hid (mm.length = 16) := Lib.hid (by rw [hmm]; exact tb_len _ _)
        have hbd : bits .and .i64 (x / 65536) 1 = 0 ∨ bits .and .i64 (x / 65536) 1 = 1 := by rw [ha]; omega
        have hsg : y - 32767 - bits .and .i64 (x / 65536) 1 = y - 32767 + x / 65536 := by rw [ha]; omega
        rcases sd with ⟨s1, s2⟩ | ⟨s1, s2, s3, s4⟩
        · have hge : ¬ 0 ≤ y - 32767 - bits .and .i64 (x / 65536) 1 := by omega
          have HUW : Hid (vi us = (it V (k + 1) : Int)) := Lib.hid (by rw [HUV.out, it, less1, if_pos s2])
          clear hb1 e2 hms hQ st ml mg hx ha hf e0 c15 s1 s2 hmm hsg
          go_wp2_with fail
          go_roundw
          case rel => exact ⟨k + 1, by omega, by go_num, us, HUN.out, HUW.out, HB1.out.less 2⟩
          case measure => simp [intOf]; omega
        · have hge : 0 ≤ y - 32767 - bits .and .i64 (x / 65536) 1 := by omega
          have HUM := Lib.hid s3
          have HUW : Hid (vi mm = (it V (k + 1) : Int)) := Lib.hid (by rw [s4, it, less1, if_neg (by omega)])
          have HUL := Lib.hid HUN.out.1
          clear hb1 e2 hms hQ st ml mg hx ha hf e0 c15 s1 s2 s3 s4 hmm hsg
          go_wp2_with (first | ((with_reducible refine aS 62 ?_); refine wpList_load_part rfl 64 _ rfl (gm) 0 _ 64 (0, 0) _ (HB1.out.get 2 rfl) rfl .i64 mm (arr_part _ _) Tryd.underlying64 rfl (el_i HML.out) ?_) | ((with_reducible refine aT 1 ?_); refine wpList_store_whole rfl 64 _ _ rfl (w.heap.size) _ _ 64 (HB1.out.get 0 rfl) rfl rfl (arr_len2 _ _ HML.out HUL.out) (el_s HML.out) (all_arr _ _) ?_; intro w7 hb7 hk7 hz7; have HB7 := Lib.hid (HB1.out.put 0 rfl hk7 hb7); clear hb7 hk7 hz7))
          go_roundw
          case rel => exact ⟨k + 1, by omega, by go_num, mm, HUM.out, HUW.out, HB7.out.less 2⟩
          case measure => simp [intOf]; omega
  · obtain rfl : k = 3 := by omega
    rw [HIT.out] at uv
    obtain ⟨d1, d2⟩ := near0_dig un a uv
    have HUN := Lib.hid un
    have HB := Lib.hid (hB.alloc (arr .u8 zn) 23)
    have HOA : Hid (outs us 16 = nar (dig 256 32 a)) := Lib.hid (by rw [d1]; exact outs_all a)
    obtain ⟨oa, hoa⟩ : ∃ o, o = nar (dig 256 32 a) := ⟨_, rfl⟩
    rw [← hoa] at HOA
    have HOE := Lib.hid hoa
    clear hB un uv d1 d2 hoa
    go_wp2_with (first | ((with_reducible refine aS 6 ?_); refine wpList_alloc_row rfl 23 rfl _ (HZzn.out _) ?_))
    generalize wr.heap.size = gn at HB ⊢
    go_loopw [7] (fun v wq => ∃ i : Nat, i ≤ 16 ∧ v = .int .i64 i ∧ ∃ os : List Int, os = outs us i ∧ Blk w wq [(w.heap.size, arr .i64 us, 64), (w.heap.size + 1, arr .u8 zn, 23), (gn, arr .u8 os, 23)]) (fun v _ => 16 - (intOf v).toNat)
    case atStart => exact ⟨0, Nat.zero_le _, rfl, _, HZ0.out us, HB.out⟩
    case round =>
      obtain ⟨i, hi, rfl, os, hos, hQ⟩ := hrel
      have ol : os.length = 32 := by rw [hos]; exact tb_len _ _
      by_cases hlo : i < 16
      · have q0 := arr_get' (hQ.get 0 rfl) i (by rw [HUN.out.1]; omega)
        have q3 := free_blk (hQ.get 2 rfl) (2 * i)
        have q4 := free_blk (hQ.get 2 rfl) (2 * i + 1)
        have q5 := arr_get' (hQ.get 2 rfl) (2 * i) (by rw [ol]; omega)
        have q6 := arr_get' (hQ.get 2 rfl) (2 * i + 1) (by rw [ol]; omega)
        have b0 := near0_get HUN.out i
        have st := fun x hx => outs_step us i x hx
        generalize hx : us.getD i 0 = x at q0 b0 st
        have st := st x rfl
        have a0 := andF x
        rw [IntKind.wrap_u8] at a0
        have a1 := andF (x / 256)
        rw [IntKind.wrap_u8] at a1
        have hne := hQ.ne 0 2 rfl rfl (by decide)
        have hne' := hQ.ne 2 0 rfl rfl (by decide)
        have hb1 := (hQ.cell 2 rfl (2 * i) (.int .u8 (bits .and .i64 x 255 % 256))).cell 2 rfl (2 * i + 1) (.int .u8 (bits .and .i64 (x / 256) 255 % 256))
        have e2 : ((arr .u8 os).setIfInBounds (2 * i) (.int .u8 (bits .and .i64 x 255 % 256))).setIfInBounds (2 * i + 1) (.int .u8 (bits .and .i64 (x / 256) 255 % 256)) = arr .u8 (outs us (i + 1)) := by rw [a0, a1, arr_set, arr_set, hos, st]
        have HB1 := Lib.hid (hb1.cast (l' := [(w.heap.size, arr .i64 us, 64), (w.heap.size + 1, arr .u8 zn, 23), (gn, arr .u8 (outs us (i + 1)), 23)]) (by rw [← e2]; rfl))
        have m1 : (2 * (i : Int)).toNat = 2 * i := by omega
        have m2 : (2 * (i : Int) + 1).toNat = 2 * i + 1 := by omega
        clear hb1 e2 hos hQ st ol hx a0 a1
        go_wp2_with fail
        go_roundw
        case rel => exact ⟨i + 1, by omega, by go_num, _, rfl, HB1.out⟩
        case measure => simp [intOf]; omega
      · obtain rfl : i = 16 := by omega
        rw [HOA.out] at hos
        subst hos
        have HQ := Lib.hid hQ
        have HOL := Lib.hid ol
        clear hQ ol
        go_wp2_with (first | ((with_reducible refine aS 85 ?_); refine wpList_load_part rfl 23 _ rfl (gn) 0 _ 23 (0, 0) _ (HQ.out.get 2 rfl) rfl .u8 os (arr_part _ _) Tryd.underlying23 rfl (num_i HOL.out) ?_) | ((with_reducible refine aT 2 ?_); refine wpList_store_whole rfl 23 _ _ rfl (w.heap.size + 1) _ _ 23 (HQ.out.get 1 rfl) rfl rfl (arr_len2 _ _ HOL.out HLzn.out) (num_s HOL.out) (all_arr _ _) ?_; intro w8 hb8 hk8 hz8; have HB8 := Lib.hid (HQ.out.put 1 rfl hk8 hb8); clear hb8 hk8 hz8))
        (try simp only [Exit.inBlock, Exit.then])
        refine bodyPost_ret (results_cell_row rfl _ _ (w.heap.size + 1) 23 _ (0, 0) _ rfl (HB8.out.get 1 rfl) Tryd.underlying23 rfl (num_s HOL.out)) rfl ?_
        exact ⟨by rw [HOE.out], HB8.out.below⟩
end Go.Proofs.YtanjhngehfbpbaaDoor.Rd
