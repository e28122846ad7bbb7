/- The document's clamped: what it answers. Condition: 32 bytes. The document's Ladder: what it answers. Condition: 32 bytes. The document's LadderPublic, Shared: what they answer. Condition: 32 bytes. -/
import Derived.Test.YtogebegdgfdijaaDoorRa
import Derived.Test.YtogebegdgfdijaaDoorRl
set_option maxRecDepth 100000
set_option maxHeartbeats 16000000
set_option linter.unusedSimpArgs false
set_option linter.unusedVariables false
namespace Go.Proofs.YtogebegdgfdijaaDoor.Rd
open Go.RowKit Lm Fp Cu
theorem clamped_any (v : Nat) (w : World) (hv : v < 2 ^ 256) :
    Calls Tryd.prog 53 #[.agg (arr .u8 (nar (dig 256 32 v)))] w fun e w' => e = .returned (.agg (arr .u8 (nar (dig 256 32 (clamp v))))) ∧ Below w.heap.size w w' := by
  have hcs := clamp_set v hv
  obtain ⟨t1, t2⟩ := top_byte256 v hv
  have l1 := low_byte v
  have g0 : (nar (dig 256 32 v)).getD 0 0 = ((v % 256 : Nat) : Int) := by rw [nar_get, l1]
  have g31 : (nar (dig 256 32 v)).getD 31 0 = ((v / 256 ^ 31 : Nat) : Int) := by rw [nar_get, t1]
  have a0 := and248 (v % 256) (Nat.mod_lt _ (by decide))
  have a1 := or64 (v / 256 ^ 31) t2
  have hfin : ((nar (dig 256 32 v)).set 0 ((v % 256 / 8 * 8 : Nat) : Int)).set 31 ((v / 256 ^ 31 % 64 + 64 : Nat) : Int) = nar (dig 256 32 (clamp v)) := by rw [← nar_set, ← nar_set, hcs]
  obtain ⟨ns, hns⟩ : ∃ x, x = nar (dig 256 32 v) := ⟨_, rfl⟩
  obtain ⟨rs, hrs⟩ : ∃ x, x = nar (dig 256 32 (clamp v)) := ⟨_, rfl⟩
  have HNL : Hid (ns.length = 32) := Lib.hid (by rw [hns, nar_len, dig_len])
  have HRL : Hid (rs.length = 32) := Lib.hid (by rw [hrs, nar_len, dig_len])
  rw [← hns] at g0 g31 hfin ⊢
  rw [← hrs] at hfin
  generalize v / 256 ^ 31 = t at g31 a1 hfin t2
  generalize hx : v % 256 = x at g0 a0 hfin
  have hx2 : x < 256 := by omega
  obtain ⟨zn, hzn⟩ : ∃ zs : List Int, zs = List.replicate 32 0 := ⟨_, rfl⟩
  have HZzn : Hid (∀ w, (zeroValue 23).run Tryd.prog w = .ok (.agg (arr .u8 zn)) w) := Lib.hid (by intro w; rw [hzn]; exact zero_num w)
  have HLzn : Hid (zn.length = 32) := Lib.hid (by rw [hzn]; rfl)
  have HS0 := Lib.hid (Blk.two w (arr .u8 ns) (arr .u8 zn) 23 23)
  have e2 : ((arr .u8 ns).setIfInBounds 0 (.int .u8 (bits .and .u8 (x : Int) 248))).setIfInBounds 31 (.int .u8 (bits .or .u8 (bits .and .u8 (t : Int) 127) 64)) = arr .u8 rs := by rw [a0, a1, arr_set, arr_set, hfin]
  have HE2 := Lib.hid e2
  have HRS := Lib.hid hrs
  have HG0 := Lib.hid g0
  have HG31 := Lib.hid g31
  clear hzn hns hrs hcs t1 l1 g0 g31 a0 a1 hfin e2 hx
  go_enter Tryd.func53, Tryd.ntmps53
  go_upto_region 1 with (first | ((with_reducible refine aS 2 ?_); refine wpList_alloc_row rfl 23 rfl _ (HZzn.out _) ?_))
  (try simp only [World.size_alloc, Act.put, sA, sZ, sS])
  generalize ((w.alloc (.cells (arr .u8 ns) 23)).alloc (.cells (arr .u8 zn) 23)) = wb at HS0 ⊢
  have q0 := arr_get' (HS0.out.get 0 rfl) 0 (by rw [HNL.out]; decide)
  have q1 := arr_get' (HS0.out.get 0 rfl) 31 (by rw [HNL.out]; decide)
  have q2 := free_blk (HS0.out.get 0 rfl) 0
  have q3 := free_blk (HS0.out.get 0 rfl) 31
  rw [HG0.out] at q0
  rw [HG31.out] at q1
  have hb1 := (HS0.out.cell 0 rfl 0 (.int .u8 (bits .and .u8 (x : Int) 248))).cell 0 rfl 31 (.int .u8 (bits .or .u8 (bits .and .u8 (t : Int) 127) 64))
  have HS1 := Lib.hid (hb1.cast (l' := [(w.heap.size, arr .u8 rs, 23), (w.heap.size + 1, arr .u8 zn, 23)]) (by rw [← HE2.out]; rfl))
  clear hb1
  go_upto_region 3 with fail
  go_wp2_with (first | ((with_reducible refine aS 12 ?_); refine wpList_load_part rfl 23 _ rfl (w.heap.size) 0 _ 23 (0, 0) _ (HS1.out.get 0 rfl) rfl .u8 rs (arr_part _ _) Tryd.underlying23 rfl (num_i HRL.out) ?_) | ((with_reducible refine aT 2 ?_); refine wpList_store_whole rfl 23 _ _ rfl (w.heap.size + 1) _ _ 23 (HS1.out.get 1 rfl) rfl rfl (arr_len2 _ _ HRL.out HLzn.out) (num_s HRL.out) (all_arr _ _) ?_; intro w3 hb3 hk3 hz3; have HB3 := Lib.hid (HS1.out.put 1 rfl hk3 hb3); clear hb3 hk3 hz3))
  (try simp only [Exit.then])
  refine bodyPost_ret (results_cell_row rfl _ _ (w.heap.size + 1) 23 _ (0, 0) _ rfl (HB3.out.get 1 rfl) Tryd.underlying23 rfl (num_s HRL.out)) rfl ?_
  exact ⟨by rw [HRS.out], HB3.out.below⟩
end Go.Proofs.YtogebegdgfdijaaDoor.Rd
namespace Go.Proofs.YtogebegdgfdijaaDoor.Rd
open Go.RowKit Lm Fp Cu
theorem build_el0f (w : World) : (Instr.build 82 #[]).run Tryd.prog w = .ok (.agg (arr .i64 (List.replicate 16 0))) w := by kernel_rfl
theorem and127f (t : Nat) (h : t < 256) : bits .and .u8 (t : Int) 127 = ((t % 128 : Nat) : Int) := by
  have e : t &&& 127 = t % 128 := Nat.and_two_pow_sub_one_eq_mod t 7
  have h1 : (BitVec.ofInt 8 (t : Int)).toNat = t := by rw [BitVec.ofInt_natCast, BitVec.toNat_ofNat]; exact Nat.mod_eq_of_lt (by omega)
  have h2 : (BitVec.ofInt 8 (127 : Int)).toNat = 127 := by decide
  show IntKind.u8.wrap ((BitVec.ofInt 8 (t : Int) &&& BitVec.ofInt 8 (127 : Int)).toNat : Int) = _
  rw [BitVec.toNat_and, h1, h2, e, IntKind.wrap_u8]
  omega
theorem lgo_next (x k n : Nat) : lgo x k (n + 1) = (lstep x ((lgo x k n).swap (k / 2 ^ (254 - n) % 2))).swap (k / 2 ^ (254 - n) % 2) := rfl
theorem ladder_any (k u : Nat) (w : World) (hk : k < 2 ^ 256) (hu : u < 2 ^ 256) :
    Calls Tryd.prog 33 #[.agg (arr .u8 (nar (dig 256 32 k))), .agg (arr .u8 (nar (dig 256 32 u)))] w fun e w' => e = .returned (.agg (arr .u8 (nar (dig 256 32 (x25519 k u))))) ∧ Below w.heap.size w w' := by
  have hcl := fun w => clamped_any k w hk
  obtain ⟨t1, t2⟩ := top_byte256 u hu
  have hds := dec_set u hu
  have hy2 : u % 2 ^ 255 < 2 ^ 255 := Nat.mod_lt _ (by decide)
  have hin := fun w => in_num (u % 2 ^ 255) w (Nat.lt_of_lt_of_le hy2 (by decide))
  have g31 : (nar (dig 256 32 u)).getD 31 0 = ((u / 256 ^ 31 : Nat) : Int) := by rw [nar_get, t1]
  have hn2 : (nar (dig 256 32 u)).set 31 ((u / 256 ^ 31 % 128 : Nat) : Int) = nar (dig 256 32 (u % 2 ^ 255)) := by rw [← nar_set, hds]
  have ha := and127f (u / 256 ^ 31) t2
  generalize u / 256 ^ 31 = t at g31 hn2 ha t2
  obtain ⟨K, hK⟩ : ∃ K, K = clamp k := ⟨_, rfl⟩
  obtain ⟨X, hX⟩ : ∃ X, X = u % 2 ^ 255 % p := ⟨_, rfl⟩
  have hres : x25519 k u = fmul (lgo X K 255).a (finv (lgo X K 255).b) := by rw [hK, hX]; rfl
  rw [hres]
  rw [← hK] at hcl
  rw [← hX] at hin
  obtain ⟨ks, hks⟩ : ∃ x, x = nar (dig 256 32 k) := ⟨_, rfl⟩
  have HKL : Hid (ks.length = 32) := Lib.hid (by rw [hks, nar_len, dig_len])
  obtain ⟨us, hus⟩ : ∃ x, x = nar (dig 256 32 u) := ⟨_, rfl⟩
  have HUL : Hid (us.length = 32) := Lib.hid (by rw [hus, nar_len, dig_len])
  obtain ⟨um, hum⟩ : ∃ x, x = nar (dig 256 32 (u % 2 ^ 255)) := ⟨_, rfl⟩
  have HUM : Hid (um.length = 32) := Lib.hid (by rw [hum, nar_len, dig_len])
  obtain ⟨kc, hkc⟩ : ∃ x, x = nar (dig 256 32 K) := ⟨_, rfl⟩
  have HKC : Hid (kc.length = 32) := Lib.hid (by rw [hkc, nar_len, dig_len])
  rw [← hks, ← hus]
  rw [← hks] at hcl
  rw [← hkc] at hcl
  rw [← hus] at g31 hn2
  rw [← hum] at hn2 hin
  have HCL := Lib.hid hcl
  have HIN := Lib.hid hin
  have HG := Lib.hid g31
  have HN2 := Lib.hid hn2
  have HA := Lib.hid ha
  have HES := Lib.hid hkc
  obtain ⟨ze, hze⟩ : ∃ zs : List Int, zs = List.replicate 16 0 := ⟨_, rfl⟩
  have HZze : Hid (∀ w, (zeroValue 82).run Tryd.prog w = .ok (.agg (arr .i64 ze)) w) := Lib.hid (by intro w; rw [hze]; exact zero_el w)
  have HLze : Hid (ze.length = 16) := Lib.hid (by rw [hze]; rfl)
  obtain ⟨zn, hzn⟩ : ∃ zs : List Int, zs = List.replicate 32 0 := ⟨_, rfl⟩
  have HZzn : Hid (∀ w, (zeroValue 23).run Tryd.prog w = .ok (.agg (arr .u8 zn)) w) := Lib.hid (by intro w; rw [hzn]; exact zero_num w)
  have HLzn : Hid (zn.length = 32) := Lib.hid (by rw [hzn]; rfl)
  have HEz : Hid (El ze 0) := Lib.hid (by rw [hze]; exact el_zero)
  have HBE : Hid (∀ w, (Instr.build 82 #[]).run Tryd.prog w = .ok (.agg (arr .i64 ze)) w) := Lib.hid (by intro w; rw [hze]; exact build_el0f w)
  have HS0 := Lib.hid (Blk.three w (arr .u8 ks) (arr .u8 us) (arr .u8 zn) 23 23 23)
  clear hze hzn hcl hds hy2 hin g31 hn2 ha hK hX hres hks hus hum hkc t1 hk hu
  go_enter Tryd.func33, Tryd.ntmps33
  go_upto_region 1 with (first | ((with_reducible refine aS 4 ?_); refine wpList_alloc_row rfl 23 rfl _ (HZzn.out _) ?_))
  (try simp only [World.size_alloc, Act.put, sA, sZ, sS])
  generalize (((w.alloc (.cells (arr .u8 ks) 23)).alloc (.cells (arr .u8 us) 23)).alloc (.cells (arr .u8 zn) 23)) = wb at HS0 ⊢
  go_upto_region 2 with (first | ((with_reducible refine aS 21 ?_); refine wpList_load_part rfl 23 _ rfl (w.heap.size) (0) _ 23 (0, 0) _ (HS0.out.get 0 rfl) rfl .u8 ks (arr_part _ _) Tryd.underlying23 rfl (num_i HKL.out) ?_) | ((with_reducible show Calls _ 53 #[.agg _] _ _); go_at_call 53; refine (HCL.out _).mono ?_; rintro e w1001 ⟨rfl, hb1001⟩; have HB1001 := Lib.hid (HS0.out.kept hb1001); clear hb1001) | ((with_reducible refine aT 2 (x := (Operand.tmp 22)) ?_); refine wpList_store_whole rfl 23 _ _ rfl (w.heap.size) _ _ 23 (HB1001.out.get 0 rfl) rfl rfl (arr_len2 _ _ HKC.out HKL.out) (num_s HKC.out) (all_arr _ _) ?_; intro w1002 hb1002 hk1002 hz1002; have HB1002 := Lib.hid (HB1001.out.put 0 rfl hk1002 hb1002); clear hb1002 hk1002 hz1002; clear HB1001))
  have q0 := arr_get' (HB1002.out.get 1 rfl) 31 (by rw [HUL.out]; decide)
  have q1 := free_blk (HB1002.out.get 1 rfl) 31
  rw [HG.out] at q0
  have hb1 := HB1002.out.cell 1 rfl 31 (.int .u8 (bits .and .u8 (t : Int) 127))
  have e2 : (arr .u8 us).setIfInBounds 31 (.int .u8 (bits .and .u8 (t : Int) 127)) = arr .u8 um := by rw [HA.out, arr_set, HN2.out]
  have HU1 := Lib.hid (hb1.cast (l' := [(w.heap.size, arr .u8 kc, 23), (w.heap.size + 1, arr .u8 um, 23), (w.heap.size + 1 + 1, arr .u8 zn, 23)]) (by rw [← e2]; rfl))
  clear hb1 e2
  go_upto_region 3 with fail
  clear q0 q1
  generalize w1002.setCell ⟨w.heap.size + 1, 31, none⟩ (.int .u8 (bits .and .u8 (t : Int) 127)) = wu at HU1 ⊢
  go_wp2_with (first | ((with_reducible refine aS 27 ?_); refine wpList_load_part rfl 23 _ rfl (w.heap.size + 1) (0) _ 23 (0, 0) _ (HU1.out.get 1 rfl) rfl .u8 um (arr_part _ _) Tryd.underlying23 rfl (num_i HUM.out) ?_) | ((with_reducible show Calls _ 54 #[.agg _] _ _); go_at_call 54; refine (HIN.out _).mono ?_; rintro e w1003 ⟨z1003, rfl, h1003, hb1003⟩; have HZ1003 := Lib.hid h1003; have HL1003 := Lib.hid h1003.1; clear h1003; have HB1003 := Lib.hid (HU1.out.kept hb1003); clear hb1003) | ((with_reducible refine aS 5 ?_); refine wpList_alloc_row rfl 82 rfl _ (HZze.out _) ?_; have HB1004 := Lib.hid (HB1003.out.alloc (arr .i64 ze) 82); generalize w1003.heap.size = g1004 at HB1004 ⊢; generalize w1003.alloc (.cells (arr .i64 ze) 82) = w1004 at HB1004 ⊢; clear HB1003) | ((with_reducible refine aT 5 (x := (Operand.tmp 28)) ?_); refine wpList_store_whole rfl 82 _ _ rfl (g1004) _ _ 82 (HB1004.out.get 3 rfl) rfl rfl (arr_len2 _ _ HL1003.out HLze.out) (el_s HL1003.out) (all_arr _ _) ?_; intro w1005 hb1005 hk1005 hz1005; have HB1005 := Lib.hid (HB1004.out.put 3 rfl hk1005 hb1005); clear hb1005 hk1005 hz1005; clear HB1004) | ((with_reducible show Calls _ 55 #[_] _ _); go_at_call 55; refine (one_any 1 _ (by decide)).mono ?_; rintro e w1006 ⟨z1006, rfl, h1006, hb1006⟩; have HZ1006 := Lib.hid h1006; have HL1006 := Lib.hid h1006.1; clear h1006; have HB1006 := Lib.hid (HB1005.out.kept hb1006); clear hb1006; clear HB1005) | ((with_reducible refine aS 6 ?_); refine wpList_alloc_row rfl 82 rfl _ (HZze.out _) ?_; have HB1007 := Lib.hid (HB1006.out.alloc (arr .i64 ze) 82); generalize w1006.heap.size = g1007 at HB1007 ⊢; generalize w1006.alloc (.cells (arr .i64 ze) 82) = w1007 at HB1007 ⊢; clear HB1006) | ((with_reducible refine aT 6 (x := (Operand.tmp 29)) ?_); refine wpList_store_whole rfl 82 _ _ rfl (g1007) _ _ 82 (HB1007.out.get 4 rfl) rfl rfl (arr_len2 _ _ HL1006.out HLze.out) (el_s HL1006.out) (all_arr _ _) ?_; intro w1008 hb1008 hk1008 hz1008; have HB1008 := Lib.hid (HB1007.out.put 4 rfl hk1008 hb1008); clear hb1008 hk1008 hz1008; clear HB1007) | ((with_reducible refine aS 30 ?_); refine wpList_build (by rfl) 82 _ rfl #[] rfl _ (HBE.out _) ?_) | ((with_reducible refine aS 7 ?_); refine wpList_alloc_row rfl 82 rfl _ (HZze.out _) ?_; have HB1009 := Lib.hid (HB1008.out.alloc (arr .i64 ze) 82); generalize w1008.heap.size = g1009 at HB1009 ⊢; generalize w1008.alloc (.cells (arr .i64 ze) 82) = w1009 at HB1009 ⊢; clear HB1008) | ((with_reducible refine aT 7 (x := (Operand.tmp 30)) ?_); refine wpList_store_whole rfl 82 _ _ rfl (g1009) _ _ 82 (HB1009.out.get 5 rfl) rfl rfl (arr_len2 _ _ HLze.out HLze.out) (el_s HLze.out) (all_arr _ _) ?_; intro w1010 hb1010 hk1010 hz1010; have HB1010 := Lib.hid (HB1009.out.put 5 rfl hk1010 hb1010); clear hb1010 hk1010 hz1010; clear HB1009) | ((with_reducible refine aS 31 ?_); refine wpList_load_part rfl 82 _ rfl (g1004) (0) _ 82 (0, 0) _ (HB1010.out.get 3 rfl) rfl .i64 z1003 (arr_part _ _) Tryd.underlying82 rfl (el_i HL1003.out) ?_) | ((with_reducible refine aS 8 ?_); refine wpList_alloc_row rfl 82 rfl _ (HZze.out _) ?_; have HB1011 := Lib.hid (HB1010.out.alloc (arr .i64 ze) 82); generalize w1010.heap.size = g1011 at HB1011 ⊢; generalize w1010.alloc (.cells (arr .i64 ze) 82) = w1011 at HB1011 ⊢; clear HB1010) | ((with_reducible refine aT 8 (x := (Operand.tmp 31)) ?_); refine wpList_store_whole rfl 82 _ _ rfl (g1011) _ _ 82 (HB1011.out.get 6 rfl) rfl rfl (arr_len2 _ _ HL1003.out HLze.out) (el_s HL1003.out) (all_arr _ _) ?_; intro w1012 hb1012 hk1012 hz1012; have HB1012 := Lib.hid (HB1011.out.put 6 rfl hk1012 hb1012); clear hb1012 hk1012 hz1012; clear HB1011) | ((with_reducible show Calls _ 55 #[_] _ _); go_at_call 55; refine (one_any 1 _ (by decide)).mono ?_; rintro e w1013 ⟨z1013, rfl, h1013, hb1013⟩; have HZ1013 := Lib.hid h1013; have HL1013 := Lib.hid h1013.1; clear h1013; have HB1013 := Lib.hid (HB1012.out.kept hb1013); clear hb1013; clear HB1012) | ((with_reducible refine aS 9 ?_); refine wpList_alloc_row rfl 82 rfl _ (HZze.out _) ?_; have HB1014 := Lib.hid (HB1013.out.alloc (arr .i64 ze) 82); generalize w1013.heap.size = g1014 at HB1014 ⊢; generalize w1013.alloc (.cells (arr .i64 ze) 82) = w1014 at HB1014 ⊢; clear HB1013) | ((with_reducible refine aT 9 (x := (Operand.tmp 32)) ?_); refine wpList_store_whole rfl 82 _ _ rfl (g1014) _ _ 82 (HB1014.out.get 7 rfl) rfl rfl (arr_len2 _ _ HL1013.out HLze.out) (el_s HL1013.out) (all_arr _ _) ?_; intro w1015 hb1015 hk1015 hz1015; have HB1015 := Lib.hid (HB1014.out.put 7 rfl hk1015 hb1015); clear hb1015 hk1015 hz1015; clear HB1014))
  go_loopw [10] (fun v' wr => ∃ n : Nat, n ≤ 255 ∧ v' = .int .i64 (254 - (n : Int)) ∧ ∃ la lb lc ld : List Int, El la (lgo X K n).a ∧ El lb (lgo X K n).b ∧ El lc (lgo X K n).c ∧ El ld (lgo X K n).d ∧ Blk w wr [(w.heap.size, arr .u8 kc, 23), (w.heap.size + 1, arr .u8 um, 23), (w.heap.size + 1 + 1, arr .u8 zn, 23), (g1004, (arr .i64 z1003), 82), (g1007, arr .i64 la, 82), (g1009, arr .i64 lb, 82), (g1011, arr .i64 lc, 82), (g1014, arr .i64 ld, 82)]) (fun v' _ => (intOf v' + 1).toNat)
  case atStart => exact ⟨0, Nat.zero_le _, rfl, _, _, _, _, HZ1006.out, HEz.out, HZ1003.out, HZ1013.out, HB1015.out⟩
  case round =>
  obtain ⟨n, hn, rfl, la, lb, lc, ld, h1, h2, h3, h4, hB⟩ := hrel
  have HAe := Lib.hid h1
  have HBe := Lib.hid h2
  have HCe := Lib.hid h3
  have HDe := Lib.hid h4
  have HAl := Lib.hid h1.1
  have HBl := Lib.hid h2.1
  have HCl := Lib.hid h3.1
  have HDl := Lib.hid h4.1
  have HB := Lib.hid hB
  clear h1 h2 h3 h4 hB
  by_cases hlt : n < 255
  · obtain ⟨i, hi⟩ : ∃ i : Nat, i + n = 254 := ⟨254 - n, by omega⟩
    have hz : (254 : Int) - (n : Int) = (i : Int) := by omega
    have hi2 : i < 256 := by omega
    obtain ⟨y, hy, hy2, hbit⟩ := code_bit kc K i HES.out hi2
    have hpn := lgo_next X K n
    rw [show 254 - n = i by omega] at hpn
    rw [hz]
    have q0 := arr_get' (HB.out.get 0 rfl) (i / 8) (by rw [HKC.out]; omega)
    rw [hy] at q0
    have HI := Lib.hid hi
    clear hy hz hi
    have q9 : 0 ≤ (i : Int) := by omega
    have hb := show K / 2 ^ i % 2 = 0 ∨ K / 2 ^ i % 2 = 1 by omega
    generalize K / 2 ^ i % 2 = b0 at hb hbit hpn
    obtain ⟨S, hS⟩ : ∃ S, S = (lgo X K n).swap b0 := ⟨_, rfl⟩
    have HSE := Lib.hid hS
    have HPN : Hid (lgo X K (n + 1) = (lstep X S).swap b0) := Lib.hid (by rw [hpn, hS])
    clear hpn hS
    go_upto_if 47 with fail
    clear q0 hbit
    go_cut [] (fun wx => ∃ ta tb tc td : List Int, El ta S.a ∧ El tb S.b ∧ El tc S.c ∧ El td S.d ∧ Blk w wx [(w.heap.size, arr .u8 kc, 23), (w.heap.size + 1, arr .u8 um, 23), (w.heap.size + 1 + 1, arr .u8 zn, 23), (g1004, (arr .i64 z1003), 82), (g1007, arr .i64 ta, 82), (g1009, arr .i64 tb, 82), (g1011, arr .i64 tc, 82), (g1014, arr .i64 td, 82)])
    case first =>
      rcases hb with rfl | rfl
      · have hbv : (((0 : Nat) : Int) == 1) = false := rfl
        go_wp2_with fail
        go_meet
        exact ⟨_, _, _, _, by rw [HSE.out]; exact HAe.out, by rw [HSE.out]; exact HBe.out, by rw [HSE.out]; exact HCe.out, by rw [HSE.out]; exact HDe.out, HB.out⟩
      · have hbv : (((1 : Nat) : Int) == 1) = true := rfl
        go_upto_region 14 with (first | ((with_reducible refine aS 48 ?_); refine wpList_load_part rfl 82 _ rfl (g1011) (0) _ 82 (0, 0) _ (HB.out.get 6 rfl) rfl .i64 lc (arr_part _ _) Tryd.underlying82 rfl (el_i HCl.out) ?_) | ((with_reducible refine aS 49 ?_); refine wpList_load_part rfl 82 _ rfl (g1007) (0) _ 82 (0, 0) _ (HB.out.get 4 rfl) rfl .i64 la (arr_part _ _) Tryd.underlying82 rfl (el_i HAl.out) ?_) | ((with_reducible refine aT 6 (x := (Operand.tmp 48)) ?_); refine wpList_store_whole rfl 82 _ _ rfl (g1007) _ _ 82 (HB.out.get 4 rfl) rfl rfl (arr_len2 _ _ HCl.out HAl.out) (el_s HCl.out) (all_arr _ _) ?_; intro w1016 hb1016 hk1016 hz1016; have HB1016 := Lib.hid (HB.out.put 4 rfl hk1016 hb1016); clear hb1016 hk1016 hz1016) | ((with_reducible refine aT 8 (x := (Operand.tmp 49)) ?_); refine wpList_store_whole rfl 82 _ _ rfl (g1011) _ _ 82 (HB1016.out.get 6 rfl) rfl rfl (arr_len2 _ _ HAl.out HCl.out) (el_s HAl.out) (all_arr _ _) ?_; intro w1017 hb1017 hk1017 hz1017; have HB1017 := Lib.hid (HB1016.out.put 6 rfl hk1017 hb1017); clear hb1017 hk1017 hz1017; clear HB1016))
        go_wp2_with (first | ((with_reducible refine aS 50 ?_); refine wpList_load_part rfl 82 _ rfl (g1014) (0) _ 82 (0, 0) _ (HB1017.out.get 7 rfl) rfl .i64 ld (arr_part _ _) Tryd.underlying82 rfl (el_i HDl.out) ?_) | ((with_reducible refine aS 51 ?_); refine wpList_load_part rfl 82 _ rfl (g1009) (0) _ 82 (0, 0) _ (HB1017.out.get 5 rfl) rfl .i64 lb (arr_part _ _) Tryd.underlying82 rfl (el_i HBl.out) ?_) | ((with_reducible refine aT 7 (x := (Operand.tmp 50)) ?_); refine wpList_store_whole rfl 82 _ _ rfl (g1009) _ _ 82 (HB1017.out.get 5 rfl) rfl rfl (arr_len2 _ _ HDl.out HBl.out) (el_s HDl.out) (all_arr _ _) ?_; intro w1018 hb1018 hk1018 hz1018; have HB1018 := Lib.hid (HB1017.out.put 5 rfl hk1018 hb1018); clear hb1018 hk1018 hz1018; clear HB1017) | ((with_reducible refine aT 9 (x := (Operand.tmp 51)) ?_); refine wpList_store_whole rfl 82 _ _ rfl (g1014) _ _ 82 (HB1018.out.get 7 rfl) rfl rfl (arr_len2 _ _ HBl.out HDl.out) (el_s HBl.out) (all_arr _ _) ?_; intro w1019 hb1019 hk1019 hz1019; have HB1019 := Lib.hid (HB1018.out.put 7 rfl hk1019 hb1019); clear hb1019 hk1019 hz1019; clear HB1018))
        go_meet
        exact ⟨_, _, _, _, by rw [HSE.out]; exact HCe.out, by rw [HSE.out]; exact HDe.out, by rw [HSE.out]; exact HAe.out, by rw [HSE.out]; exact HBe.out, HB1019.out⟩
    case rest =>
    obtain ⟨wt, rfl⟩ : ∃ x : World, x = wc := ⟨_, rfl⟩
    obtain ⟨ta, tb, tc, td, h1, h2, h3, h4, h5⟩ := hcut
    clear HAe HBe HCe HDe HAl HBl HCl HDl HB HSE
    have HAe := Lib.hid h1
    have HBe := Lib.hid h2
    have HCe := Lib.hid h3
    have HDe := Lib.hid h4
    have HAl := Lib.hid h1.1
    have HBl := Lib.hid h2.1
    have HCl := Lib.hid h3.1
    have HDl := Lib.hid h4.1
    have HB := Lib.hid h5
    clear h1 h2 h3 h4 h5
    go_upto_region 15 with fail
    go_upto_region 16 with (first | ((with_reducible refine aS 52 ?_); refine wpList_load_part rfl 82 _ rfl (g1007) (0) _ 82 (0, 0) _ (HB.out.get 4 rfl) rfl .i64 ta (arr_part _ _) Tryd.underlying82 rfl (el_i HAl.out) ?_) | ((with_reducible refine aS 53 ?_); refine wpList_load_part rfl 82 _ rfl (g1009) (0) _ 82 (0, 0) _ (HB.out.get 5 rfl) rfl .i64 tb (arr_part _ _) Tryd.underlying82 rfl (el_i HBl.out) ?_) | ((with_reducible show Calls _ 56 #[.agg _, .agg _] _ _); go_at_call 56; refine (add_any _ _ _ _ _ HAe.out HBe.out).mono ?_; rintro e w1020 ⟨z1020, rfl, h1020, hb1020⟩; have HZ1020 := Lib.hid h1020; have HL1020 := Lib.hid h1020.1; clear h1020; have HB1020 := Lib.hid (HB.out.kept hb1020); clear hb1020) | ((with_reducible refine aS 12 ?_); refine wpList_alloc_row rfl 82 rfl _ (HZze.out _) ?_; have HB1021 := Lib.hid (HB1020.out.alloc (arr .i64 ze) 82); generalize w1020.heap.size = g1021 at HB1021 ⊢; generalize w1020.alloc (.cells (arr .i64 ze) 82) = w1021 at HB1021 ⊢; clear HB1020) | ((with_reducible refine aT 12 (x := (Operand.tmp 54)) ?_); refine wpList_store_whole rfl 82 _ _ rfl (g1021) _ _ 82 (HB1021.out.get 8 rfl) rfl rfl (arr_len2 _ _ HL1020.out HLze.out) (el_s HL1020.out) (all_arr _ _) ?_; intro w1022 hb1022 hk1022 hz1022; have HB1022 := Lib.hid (HB1021.out.put 8 rfl hk1022 hb1022); clear hb1022 hk1022 hz1022; clear HB1021))
    go_upto_region 17 with (first | ((with_reducible refine aS 55 ?_); refine wpList_load_part rfl 82 _ rfl (g1021) (0) _ 82 (0, 0) _ (HB1022.out.get 8 rfl) rfl .i64 z1020 (arr_part _ _) Tryd.underlying82 rfl (el_i HL1020.out) ?_) | ((with_reducible refine aS 56 ?_); refine wpList_load_part rfl 82 _ rfl (g1021) (0) _ 82 (0, 0) _ (HB1022.out.get 8 rfl) rfl .i64 z1020 (arr_part _ _) Tryd.underlying82 rfl (el_i HL1020.out) ?_) | ((with_reducible show Calls _ 57 #[.agg _, .agg _] _ _); go_at_call 57; refine (mul_any _ _ _ _ _ HZ1020.out HZ1020.out).mono ?_; rintro e w1023 ⟨z1023, rfl, h1023, hb1023⟩; have HZ1023 := Lib.hid h1023; have HL1023 := Lib.hid h1023.1; clear h1023; have HB1023 := Lib.hid (HB1022.out.kept hb1023); clear hb1023; clear HB1022) | ((with_reducible refine aS 13 ?_); refine wpList_alloc_row rfl 82 rfl _ (HZze.out _) ?_; have HB1024 := Lib.hid (HB1023.out.alloc (arr .i64 ze) 82); generalize w1023.heap.size = g1024 at HB1024 ⊢; generalize w1023.alloc (.cells (arr .i64 ze) 82) = w1024 at HB1024 ⊢; clear HB1023) | ((with_reducible refine aT 13 (x := (Operand.tmp 57)) ?_); refine wpList_store_whole rfl 82 _ _ rfl (g1024) _ _ 82 (HB1024.out.get 9 rfl) rfl rfl (arr_len2 _ _ HL1023.out HLze.out) (el_s HL1023.out) (all_arr _ _) ?_; intro w1025 hb1025 hk1025 hz1025; have HB1025 := Lib.hid (HB1024.out.put 9 rfl hk1025 hb1025); clear hb1025 hk1025 hz1025; clear HB1024))
    go_upto_region 18 with (first | ((with_reducible refine aS 58 ?_); refine wpList_load_part rfl 82 _ rfl (g1007) (0) _ 82 (0, 0) _ (HB1025.out.get 4 rfl) rfl .i64 ta (arr_part _ _) Tryd.underlying82 rfl (el_i HAl.out) ?_) | ((with_reducible refine aS 59 ?_); refine wpList_load_part rfl 82 _ rfl (g1009) (0) _ 82 (0, 0) _ (HB1025.out.get 5 rfl) rfl .i64 tb (arr_part _ _) Tryd.underlying82 rfl (el_i HBl.out) ?_) | ((with_reducible show Calls _ 58 #[.agg _, .agg _] _ _); go_at_call 58; refine (sub_any _ _ _ _ _ HAe.out HBe.out).mono ?_; rintro e w1026 ⟨z1026, rfl, h1026, hb1026⟩; have HZ1026 := Lib.hid h1026; have HL1026 := Lib.hid h1026.1; clear h1026; have HB1026 := Lib.hid (HB1025.out.kept hb1026); clear hb1026; clear HB1025) | ((with_reducible refine aS 14 ?_); refine wpList_alloc_row rfl 82 rfl _ (HZze.out _) ?_; have HB1027 := Lib.hid (HB1026.out.alloc (arr .i64 ze) 82); generalize w1026.heap.size = g1027 at HB1027 ⊢; generalize w1026.alloc (.cells (arr .i64 ze) 82) = w1027 at HB1027 ⊢; clear HB1026) | ((with_reducible refine aT 14 (x := (Operand.tmp 60)) ?_); refine wpList_store_whole rfl 82 _ _ rfl (g1027) _ _ 82 (HB1027.out.get 10 rfl) rfl rfl (arr_len2 _ _ HL1026.out HLze.out) (el_s HL1026.out) (all_arr _ _) ?_; intro w1028 hb1028 hk1028 hz1028; have HB1028 := Lib.hid (HB1027.out.put 10 rfl hk1028 hb1028); clear hb1028 hk1028 hz1028; clear HB1027))
    go_upto_region 19 with (first | ((with_reducible refine aS 61 ?_); refine wpList_load_part rfl 82 _ rfl (g1027) (0) _ 82 (0, 0) _ (HB1028.out.get 10 rfl) rfl .i64 z1026 (arr_part _ _) Tryd.underlying82 rfl (el_i HL1026.out) ?_) | ((with_reducible refine aS 62 ?_); refine wpList_load_part rfl 82 _ rfl (g1027) (0) _ 82 (0, 0) _ (HB1028.out.get 10 rfl) rfl .i64 z1026 (arr_part _ _) Tryd.underlying82 rfl (el_i HL1026.out) ?_) | ((with_reducible show Calls _ 57 #[.agg _, .agg _] _ _); go_at_call 57; refine (mul_any _ _ _ _ _ HZ1026.out HZ1026.out).mono ?_; rintro e w1029 ⟨z1029, rfl, h1029, hb1029⟩; have HZ1029 := Lib.hid h1029; have HL1029 := Lib.hid h1029.1; clear h1029; have HB1029 := Lib.hid (HB1028.out.kept hb1029); clear hb1029; clear HB1028) | ((with_reducible refine aS 15 ?_); refine wpList_alloc_row rfl 82 rfl _ (HZze.out _) ?_; have HB1030 := Lib.hid (HB1029.out.alloc (arr .i64 ze) 82); generalize w1029.heap.size = g1030 at HB1030 ⊢; generalize w1029.alloc (.cells (arr .i64 ze) 82) = w1030 at HB1030 ⊢; clear HB1029) | ((with_reducible refine aT 15 (x := (Operand.tmp 63)) ?_); refine wpList_store_whole rfl 82 _ _ rfl (g1030) _ _ 82 (HB1030.out.get 11 rfl) rfl rfl (arr_len2 _ _ HL1029.out HLze.out) (el_s HL1029.out) (all_arr _ _) ?_; intro w1031 hb1031 hk1031 hz1031; have HB1031 := Lib.hid (HB1030.out.put 11 rfl hk1031 hb1031); clear hb1031 hk1031 hz1031; clear HB1030))
    go_upto_region 20 with (first | ((with_reducible refine aS 64 ?_); refine wpList_load_part rfl 82 _ rfl (g1024) (0) _ 82 (0, 0) _ (HB1031.out.get 9 rfl) rfl .i64 z1023 (arr_part _ _) Tryd.underlying82 rfl (el_i HL1023.out) ?_) | ((with_reducible refine aS 65 ?_); refine wpList_load_part rfl 82 _ rfl (g1030) (0) _ 82 (0, 0) _ (HB1031.out.get 11 rfl) rfl .i64 z1029 (arr_part _ _) Tryd.underlying82 rfl (el_i HL1029.out) ?_) | ((with_reducible show Calls _ 58 #[.agg _, .agg _] _ _); go_at_call 58; refine (sub_any _ _ _ _ _ HZ1023.out HZ1029.out).mono ?_; rintro e w1032 ⟨z1032, rfl, h1032, hb1032⟩; have HZ1032 := Lib.hid h1032; have HL1032 := Lib.hid h1032.1; clear h1032; have HB1032 := Lib.hid (HB1031.out.kept hb1032); clear hb1032; clear HB1031) | ((with_reducible refine aS 16 ?_); refine wpList_alloc_row rfl 82 rfl _ (HZze.out _) ?_; have HB1033 := Lib.hid (HB1032.out.alloc (arr .i64 ze) 82); generalize w1032.heap.size = g1033 at HB1033 ⊢; generalize w1032.alloc (.cells (arr .i64 ze) 82) = w1033 at HB1033 ⊢; clear HB1032) | ((with_reducible refine aT 16 (x := (Operand.tmp 66)) ?_); refine wpList_store_whole rfl 82 _ _ rfl (g1033) _ _ 82 (HB1033.out.get 12 rfl) rfl rfl (arr_len2 _ _ HL1032.out HLze.out) (el_s HL1032.out) (all_arr _ _) ?_; intro w1034 hb1034 hk1034 hz1034; have HB1034 := Lib.hid (HB1033.out.put 12 rfl hk1034 hb1034); clear hb1034 hk1034 hz1034; clear HB1033))
    (try simp only [Act.put, sA, sZ, sS])
    go_cut [17] (fun us' wx => ∃ gg xx, us' = .pointer (some ⟨gg, 0, none⟩) ∧ El xx (fmul (fsub S.c S.d) (fadd S.a S.b)) ∧ Blk w wx [(w.heap.size, arr .u8 kc, 23), (w.heap.size + 1, arr .u8 um, 23), (w.heap.size + 1 + 1, arr .u8 zn, 23), (g1004, (arr .i64 z1003), 82), (g1007, arr .i64 ta, 82), (g1009, arr .i64 tb, 82), (g1011, arr .i64 tc, 82), (g1014, arr .i64 td, 82), (g1021, (arr .i64 z1020), 82), (g1024, (arr .i64 z1023), 82), (g1027, (arr .i64 z1026), 82), (g1030, (arr .i64 z1029), 82), (g1033, (arr .i64 z1032), 82), (gg, arr .i64 xx, 82)])
    case first =>
      have HK0 := Lib.hid ((Kept.refl (fun _ => False) w1034).drew)
      have HBd := Lib.hid (HB1034.out.drew)
      refine wp_region_held_drew (S := (fun w' => Kept (fun _ => False) w1034 w')) (by kernel_rfl) (HK0.out) (fun hHeld => ?_)
      generalize w1034.drew = wd at HK0 HBd hHeld ⊢
      refine' wpAnyH_take (i := 0) (oi := (⟨some 67, _, _, _, _, none⟩ : Oper)) (v := _) rfl (by kernel_rfl) (by kernel_rfl) (by kernel_rfl) (fun _ _ _ h => h) (yieldsIf_load_mid (by rfl) _ _ rfl _ _ rfl (tc.map (Value.int .i64)) _ ?hS1035 Tryd.underlying82 rfl (by rw [List.length_map]; exact el_i HCl.out)) (by assumption) ?rest1035
      case hS1035 => (intro w hSw; (try dsimp only at hSw); exact range_part (hSw.blk (HB1034.out.get 6 rfl) (fun e => e.elim)) 0 _ (by rw [List.length_map]; exact arr_part _ _))
      (try simp only [Act.put, sA, sZ, sS])
      refine' wpAnyH_take (i := 1) (oi := (⟨some 68, _, _, _, _, none⟩ : Oper)) (v := _) rfl (by kernel_rfl) (by kernel_rfl) (by kernel_rfl) (fun _ _ _ h => h) (yieldsIf_load_mid (by rfl) _ _ rfl _ _ rfl (td.map (Value.int .i64)) _ ?hS1036 Tryd.underlying82 rfl (by rw [List.length_map]; exact el_i HDl.out)) (by assumption) ?rest1036
      case hS1036 => (intro w hSw; (try dsimp only at hSw); exact range_part (hSw.blk (HB1034.out.get 7 rfl) (fun e => e.elim)) 0 _ (by rw [List.length_map]; exact arr_part _ _))
      (try simp only [Act.put, sA, sZ, sS])
      refine' wpAnyH_take (i := 3) (oi := (⟨some 70, _, _, _, _, none⟩ : Oper)) (v := _) rfl (by kernel_rfl) (by kernel_rfl) (by kernel_rfl) (fun _ _ _ h => h) (yieldsIf_load_mid (by rfl) _ _ rfl _ _ rfl (z1020.map (Value.int .i64)) _ ?hS1037 Tryd.underlying82 rfl (by rw [List.length_map]; exact el_i HL1020.out)) (by assumption) ?rest1037
      case hS1037 => (intro w hSw; (try dsimp only at hSw); exact range_part (hSw.blk (HB1034.out.get 8 rfl) (fun e => e.elim)) 0 _ (by rw [List.length_map]; exact arr_part _ _))
      (try simp only [Act.put, sA, sZ, sS])
      refine wpAnyH_ready (rs := [2, 5]) (by kernel_rfl) (by simp) ?_
      refine AllReadyH.cons (o := (⟨some 69, _, _, _, _, none⟩ : Oper)) rfl (fun K hK => ?_) ?_
      · go_simp
        go_at_call 58
        refine (sub_any _ _ _ _ _ HCe.out HDe.out).mono ?_
        rintro e w1038 ⟨z1038, rfl, h1038, hb1038⟩
        have HZ1038 := Lib.hid h1038
        have HL1038 := Lib.hid h1038.1
        clear h1038
        have HB1038 := Lib.hid (HBd.out.kept hb1038)
        have HK1038 := Lib.hid (HK0.out.trans (Kept.of_below hb1038))
        clear hb1038
        (try dsimp only)
        clear HBd
        clear HK0
        clear hHeld
        refine hK.out _ _ (HK1038.out) (fun hHeld => ?_)
        clear hK K
        (try simp only [Act.put, sA, sZ, sS])
        refine wpAnyH_ready (rs := [4, 5]) (by kernel_rfl) (by simp) ?_
        refine AllReadyH.cons (o := (⟨some 71, _, _, _, _, none⟩ : Oper)) rfl (fun K hK => ?_) ?_
        · go_simp
          go_at_call 57
          refine (mul_any _ _ _ _ _ HZ1038.out HZ1020.out).mono ?_
          rintro e w1039 ⟨z1039, rfl, h1039, hb1039⟩
          have HZ1039 := Lib.hid h1039
          have HL1039 := Lib.hid h1039.1
          clear h1039
          have HB1039 := Lib.hid (HB1038.out.kept hb1039)
          have HK1039 := Lib.hid (HK1038.out.trans (Kept.of_below hb1039))
          clear hb1039
          (try dsimp only)
          clear HB1038
          clear HK1038
          clear hHeld
          refine hK.out _ _ (HK1039.out) (fun hHeld => ?_)
          clear hK K
          (try simp only [Act.put, sA, sZ, sS])
          refine wpAnyH_ready (rs := [5]) (by kernel_rfl) (by simp) ?_
          refine AllReadyH.cons (o := (⟨some 17, _, _, _, _, none⟩ : Oper)) rfl (fun K hK => ?_) AllReadyH.nil
          refine step_alloc_row rfl 82 rfl _ (HZze.out _) ?_
          have HB1040 := Lib.hid (HB1039.out.alloc (arr .i64 ze) 82)
          have HK1040 := Lib.hid (HK1039.out.alloc (.cells (arr .i64 ze) 82))
          have HN1040 := Lib.hid (show w1034.heap.size ≤ (w1039).heap.size from HK1039.out.size)
          generalize (w1039).heap.size = g1040 at HB1040 HN1040 ⊢
          generalize (w1039).alloc (.cells (arr .i64 ze) 82) = w1040 at HB1040 HK1040 ⊢
          clear HB1039
          clear HK1039
          clear hHeld
          refine hK.out _ _ (HK1040.out) (fun hHeld => ?_)
          clear hK K
          (try simp only [Act.put, sA, sZ, sS])
          refine wpAnyH_ready (rs := [6]) (by kernel_rfl) (by simp) ?_
          refine AllReadyH.cons (o := (⟨none, _, _, _, _, none⟩ : Oper)) rfl (fun K hK => ?_) AllReadyH.nil
          refine step_store_whole rfl 82 (.tmp 17) (.tmp 71) rfl (g1040) _ _ _ (HB1040.out.get 13 rfl) rfl rfl (arr_len2 _ _ HL1039.out HLze.out) (el_s HL1039.out) (all_arr _ _) ?_
          intro w1041 hb1041 hk1041 hz1041
          have HB1041 := Lib.hid (HB1040.out.put 13 rfl hk1041 hb1041)
          have HK1041 := Lib.hid (HK1040.out.trans_new hk1041 (fun i hi e => absurd hi (by rw [e]; exact Nat.not_lt.2 HN1040.out)))
          clear hb1041 hk1041 hz1041
          clear HB1040
          clear HK1040
          clear hHeld
          refine hK.out _ _ (HK1041.out) (fun hHeld => ?_)
          clear hK K
          (try simp only [Act.put])
          refine wpAnyH_done (by kernel_rfl) ?_ _
          go_wp2_with fail
          go_meet
          exact ⟨_, _, rfl, HZ1039.out, HB1041.out⟩
        refine AllReadyH.cons (o := (⟨some 17, _, _, _, _, none⟩ : Oper)) rfl (fun K hK => ?_) ?_
        · refine step_alloc_row rfl 82 rfl _ (HZze.out _) ?_
          have HB1042 := Lib.hid (HB1038.out.alloc (arr .i64 ze) 82)
          have HK1042 := Lib.hid (HK1038.out.alloc (.cells (arr .i64 ze) 82))
          have HN1042 := Lib.hid (show w1034.heap.size ≤ (w1038).heap.size from HK1038.out.size)
          generalize (w1038).heap.size = g1042 at HB1042 HN1042 ⊢
          generalize (w1038).alloc (.cells (arr .i64 ze) 82) = w1042 at HB1042 HK1042 ⊢
          clear HB1038
          clear HK1038
          clear hHeld
          refine hK.out _ _ (HK1042.out) (fun hHeld => ?_)
          clear hK K
          (try simp only [Act.put, sA, sZ, sS])
          refine wpAnyH_ready (rs := [4]) (by kernel_rfl) (by simp) ?_
          refine AllReadyH.cons (o := (⟨some 71, _, _, _, _, none⟩ : Oper)) rfl (fun K hK => ?_) AllReadyH.nil
          go_simp
          go_at_call 57
          refine (mul_any _ _ _ _ _ HZ1038.out HZ1020.out).mono ?_
          rintro e w1043 ⟨z1043, rfl, h1043, hb1043⟩
          have HZ1043 := Lib.hid h1043
          have HL1043 := Lib.hid h1043.1
          clear h1043
          have HB1043 := Lib.hid (HB1042.out.kept hb1043)
          have HK1043 := Lib.hid (HK1042.out.trans (Kept.of_below hb1043))
          clear hb1043
          (try dsimp only)
          clear HB1042
          clear HK1042
          clear hHeld
          refine hK.out _ _ (HK1043.out) (fun hHeld => ?_)
          clear hK K
          (try simp only [Act.put, sA, sZ, sS])
          refine wpAnyH_ready (rs := [6]) (by kernel_rfl) (by simp) ?_
          refine AllReadyH.cons (o := (⟨none, _, _, _, _, none⟩ : Oper)) rfl (fun K hK => ?_) AllReadyH.nil
          refine step_store_whole rfl 82 (.tmp 17) (.tmp 71) rfl (g1042) _ _ _ (HB1043.out.get 13 rfl) rfl rfl (arr_len2 _ _ HL1043.out HLze.out) (el_s HL1043.out) (all_arr _ _) ?_
          intro w1044 hb1044 hk1044 hz1044
          have HB1044 := Lib.hid (HB1043.out.put 13 rfl hk1044 hb1044)
          have HK1044 := Lib.hid (HK1043.out.trans_new hk1044 (fun i hi e => absurd hi (by rw [e]; exact Nat.not_lt.2 HN1042.out)))
          clear hb1044 hk1044 hz1044
          clear HB1043
          clear HK1043
          clear hHeld
          refine hK.out _ _ (HK1044.out) (fun hHeld => ?_)
          clear hK K
          (try simp only [Act.put])
          refine wpAnyH_done (by kernel_rfl) ?_ _
          go_wp2_with fail
          go_meet
          exact ⟨_, _, rfl, HZ1043.out, HB1044.out⟩
        exact AllReadyH.nil
      refine AllReadyH.cons (o := (⟨some 17, _, _, _, _, none⟩ : Oper)) rfl (fun K hK => ?_) ?_
      · refine step_alloc_row rfl 82 rfl _ (HZze.out _) ?_
        have HB1045 := Lib.hid (HBd.out.alloc (arr .i64 ze) 82)
        have HK1045 := Lib.hid (HK0.out.alloc (.cells (arr .i64 ze) 82))
        have HN1045 := Lib.hid (show w1034.heap.size ≤ (wd).heap.size from HK0.out.size)
        generalize (wd).heap.size = g1045 at HB1045 HN1045 ⊢
        generalize (wd).alloc (.cells (arr .i64 ze) 82) = w1045 at HB1045 HK1045 ⊢
        clear HBd
        clear HK0
        clear hHeld
        refine hK.out _ _ (HK1045.out) (fun hHeld => ?_)
        clear hK K
        (try simp only [Act.put, sA, sZ, sS])
        refine wpAnyH_ready (rs := [2]) (by kernel_rfl) (by simp) ?_
        refine AllReadyH.cons (o := (⟨some 69, _, _, _, _, none⟩ : Oper)) rfl (fun K hK => ?_) AllReadyH.nil
        go_simp
        go_at_call 58
        refine (sub_any _ _ _ _ _ HCe.out HDe.out).mono ?_
        rintro e w1046 ⟨z1046, rfl, h1046, hb1046⟩
        have HZ1046 := Lib.hid h1046
        have HL1046 := Lib.hid h1046.1
        clear h1046
        have HB1046 := Lib.hid (HB1045.out.kept hb1046)
        have HK1046 := Lib.hid (HK1045.out.trans (Kept.of_below hb1046))
        clear hb1046
        (try dsimp only)
        clear HB1045
        clear HK1045
        clear hHeld
        refine hK.out _ _ (HK1046.out) (fun hHeld => ?_)
        clear hK K
        (try simp only [Act.put, sA, sZ, sS])
        refine wpAnyH_ready (rs := [4]) (by kernel_rfl) (by simp) ?_
        refine AllReadyH.cons (o := (⟨some 71, _, _, _, _, none⟩ : Oper)) rfl (fun K hK => ?_) AllReadyH.nil
        go_simp
        go_at_call 57
        refine (mul_any _ _ _ _ _ HZ1046.out HZ1020.out).mono ?_
        rintro e w1047 ⟨z1047, rfl, h1047, hb1047⟩
        have HZ1047 := Lib.hid h1047
        have HL1047 := Lib.hid h1047.1
        clear h1047
        have HB1047 := Lib.hid (HB1046.out.kept hb1047)
        have HK1047 := Lib.hid (HK1046.out.trans (Kept.of_below hb1047))
        clear hb1047
        (try dsimp only)
        clear HB1046
        clear HK1046
        clear hHeld
        refine hK.out _ _ (HK1047.out) (fun hHeld => ?_)
        clear hK K
        (try simp only [Act.put, sA, sZ, sS])
        refine wpAnyH_ready (rs := [6]) (by kernel_rfl) (by simp) ?_
        refine AllReadyH.cons (o := (⟨none, _, _, _, _, none⟩ : Oper)) rfl (fun K hK => ?_) AllReadyH.nil
        refine step_store_whole rfl 82 (.tmp 17) (.tmp 71) rfl (g1045) _ _ _ (HB1047.out.get 13 rfl) rfl rfl (arr_len2 _ _ HL1047.out HLze.out) (el_s HL1047.out) (all_arr _ _) ?_
        intro w1048 hb1048 hk1048 hz1048
        have HB1048 := Lib.hid (HB1047.out.put 13 rfl hk1048 hb1048)
        have HK1048 := Lib.hid (HK1047.out.trans_new hk1048 (fun i hi e => absurd hi (by rw [e]; exact Nat.not_lt.2 HN1045.out)))
        clear hb1048 hk1048 hz1048
        clear HB1047
        clear HK1047
        clear hHeld
        refine hK.out _ _ (HK1048.out) (fun hHeld => ?_)
        clear hK K
        (try simp only [Act.put])
        refine wpAnyH_done (by kernel_rfl) ?_ _
        go_wp2_with fail
        go_meet
        exact ⟨_, _, rfl, HZ1047.out, HB1048.out⟩
      exact AllReadyH.nil
    case rest =>
    obtain ⟨wy20, rfl⟩ : ∃ x : World, x = wc := ⟨_, rfl⟩
    obtain ⟨gy20, xy20, rfl, h1, hb1⟩ := hcut
    have HBy20 := Lib.hid hb1
    have HXy20 := Lib.hid h1
    have HLy20 := Lib.hid h1.1
    clear h1 hb1
    go_upto_region 21 with fail
    go_cut [18] (fun us' wx => ∃ gg xx, us' = .pointer (some ⟨gg, 0, none⟩) ∧ El xx (fmul (fadd S.c S.d) (fsub S.a S.b)) ∧ Blk w wx [(w.heap.size, arr .u8 kc, 23), (w.heap.size + 1, arr .u8 um, 23), (w.heap.size + 1 + 1, arr .u8 zn, 23), (g1004, (arr .i64 z1003), 82), (g1007, arr .i64 ta, 82), (g1009, arr .i64 tb, 82), (g1011, arr .i64 tc, 82), (g1014, arr .i64 td, 82), (g1021, (arr .i64 z1020), 82), (g1024, (arr .i64 z1023), 82), (g1027, (arr .i64 z1026), 82), (g1030, (arr .i64 z1029), 82), (g1033, (arr .i64 z1032), 82), (gy20, arr .i64 xy20, 82), (gg, arr .i64 xx, 82)])
    case first =>
      have HK0 := Lib.hid ((Kept.refl (fun _ => False) wy20).drew)
      have HBd := Lib.hid (HBy20.out.drew)
      refine wp_region_held_drew (S := (fun w' => Kept (fun _ => False) wy20 w')) (by kernel_rfl) (HK0.out) (fun hHeld => ?_)
      generalize wy20.drew = wd at HK0 HBd hHeld ⊢
      refine' wpAnyH_take (i := 0) (oi := (⟨some 72, _, _, _, _, none⟩ : Oper)) (v := _) rfl (by kernel_rfl) (by kernel_rfl) (by kernel_rfl) (fun _ _ _ h => h) (yieldsIf_load_mid (by rfl) _ _ rfl _ _ rfl (tc.map (Value.int .i64)) _ ?hS1049 Tryd.underlying82 rfl (by rw [List.length_map]; exact el_i HCl.out)) (by assumption) ?rest1049
      case hS1049 => (intro w hSw; (try dsimp only at hSw); exact range_part (hSw.blk (HBy20.out.get 6 rfl) (fun e => e.elim)) 0 _ (by rw [List.length_map]; exact arr_part _ _))
      (try simp only [Act.put, sA, sZ, sS])
      refine' wpAnyH_take (i := 1) (oi := (⟨some 73, _, _, _, _, none⟩ : Oper)) (v := _) rfl (by kernel_rfl) (by kernel_rfl) (by kernel_rfl) (fun _ _ _ h => h) (yieldsIf_load_mid (by rfl) _ _ rfl _ _ rfl (td.map (Value.int .i64)) _ ?hS1050 Tryd.underlying82 rfl (by rw [List.length_map]; exact el_i HDl.out)) (by assumption) ?rest1050
      case hS1050 => (intro w hSw; (try dsimp only at hSw); exact range_part (hSw.blk (HBy20.out.get 7 rfl) (fun e => e.elim)) 0 _ (by rw [List.length_map]; exact arr_part _ _))
      (try simp only [Act.put, sA, sZ, sS])
      refine' wpAnyH_take (i := 3) (oi := (⟨some 75, _, _, _, _, none⟩ : Oper)) (v := _) rfl (by kernel_rfl) (by kernel_rfl) (by kernel_rfl) (fun _ _ _ h => h) (yieldsIf_load_mid (by rfl) _ _ rfl _ _ rfl (z1026.map (Value.int .i64)) _ ?hS1051 Tryd.underlying82 rfl (by rw [List.length_map]; exact el_i HL1026.out)) (by assumption) ?rest1051
      case hS1051 => (intro w hSw; (try dsimp only at hSw); exact range_part (hSw.blk (HBy20.out.get 10 rfl) (fun e => e.elim)) 0 _ (by rw [List.length_map]; exact arr_part _ _))
      (try simp only [Act.put, sA, sZ, sS])
      refine wpAnyH_ready (rs := [2, 5]) (by kernel_rfl) (by simp) ?_
      refine AllReadyH.cons (o := (⟨some 74, _, _, _, _, none⟩ : Oper)) rfl (fun K hK => ?_) ?_
      · go_simp
        go_at_call 56
        refine (add_any _ _ _ _ _ HCe.out HDe.out).mono ?_
        rintro e w1052 ⟨z1052, rfl, h1052, hb1052⟩
        have HZ1052 := Lib.hid h1052
        have HL1052 := Lib.hid h1052.1
        clear h1052
        have HB1052 := Lib.hid (HBd.out.kept hb1052)
        have HK1052 := Lib.hid (HK0.out.trans (Kept.of_below hb1052))
        clear hb1052
        (try dsimp only)
        clear HBd
        clear HK0
        clear hHeld
        refine hK.out _ _ (HK1052.out) (fun hHeld => ?_)
        clear hK K
        (try simp only [Act.put, sA, sZ, sS])
        refine wpAnyH_ready (rs := [4, 5]) (by kernel_rfl) (by simp) ?_
        refine AllReadyH.cons (o := (⟨some 76, _, _, _, _, none⟩ : Oper)) rfl (fun K hK => ?_) ?_
        · go_simp
          go_at_call 57
          refine (mul_any _ _ _ _ _ HZ1052.out HZ1026.out).mono ?_
          rintro e w1053 ⟨z1053, rfl, h1053, hb1053⟩
          have HZ1053 := Lib.hid h1053
          have HL1053 := Lib.hid h1053.1
          clear h1053
          have HB1053 := Lib.hid (HB1052.out.kept hb1053)
          have HK1053 := Lib.hid (HK1052.out.trans (Kept.of_below hb1053))
          clear hb1053
          (try dsimp only)
          clear HB1052
          clear HK1052
          clear hHeld
          refine hK.out _ _ (HK1053.out) (fun hHeld => ?_)
          clear hK K
          (try simp only [Act.put, sA, sZ, sS])
          refine wpAnyH_ready (rs := [5]) (by kernel_rfl) (by simp) ?_
          refine AllReadyH.cons (o := (⟨some 18, _, _, _, _, none⟩ : Oper)) rfl (fun K hK => ?_) AllReadyH.nil
          refine step_alloc_row rfl 82 rfl _ (HZze.out _) ?_
          have HB1054 := Lib.hid (HB1053.out.alloc (arr .i64 ze) 82)
          have HK1054 := Lib.hid (HK1053.out.alloc (.cells (arr .i64 ze) 82))
          have HN1054 := Lib.hid (show wy20.heap.size ≤ (w1053).heap.size from HK1053.out.size)
          generalize (w1053).heap.size = g1054 at HB1054 HN1054 ⊢
          generalize (w1053).alloc (.cells (arr .i64 ze) 82) = w1054 at HB1054 HK1054 ⊢
          clear HB1053
          clear HK1053
          clear hHeld
          refine hK.out _ _ (HK1054.out) (fun hHeld => ?_)
          clear hK K
          (try simp only [Act.put, sA, sZ, sS])
          refine wpAnyH_ready (rs := [6]) (by kernel_rfl) (by simp) ?_
          refine AllReadyH.cons (o := (⟨none, _, _, _, _, none⟩ : Oper)) rfl (fun K hK => ?_) AllReadyH.nil
          refine step_store_whole rfl 82 (.tmp 18) (.tmp 76) rfl (g1054) _ _ _ (HB1054.out.get 14 rfl) rfl rfl (arr_len2 _ _ HL1053.out HLze.out) (el_s HL1053.out) (all_arr _ _) ?_
          intro w1055 hb1055 hk1055 hz1055
          have HB1055 := Lib.hid (HB1054.out.put 14 rfl hk1055 hb1055)
          have HK1055 := Lib.hid (HK1054.out.trans_new hk1055 (fun i hi e => absurd hi (by rw [e]; exact Nat.not_lt.2 HN1054.out)))
          clear hb1055 hk1055 hz1055
          clear HB1054
          clear HK1054
          clear hHeld
          refine hK.out _ _ (HK1055.out) (fun hHeld => ?_)
          clear hK K
          (try simp only [Act.put])
          refine wpAnyH_done (by kernel_rfl) ?_ _
          go_wp2_with fail
          go_meet
          exact ⟨_, _, rfl, HZ1053.out, HB1055.out⟩
        refine AllReadyH.cons (o := (⟨some 18, _, _, _, _, none⟩ : Oper)) rfl (fun K hK => ?_) ?_
        · refine step_alloc_row rfl 82 rfl _ (HZze.out _) ?_
          have HB1056 := Lib.hid (HB1052.out.alloc (arr .i64 ze) 82)
          have HK1056 := Lib.hid (HK1052.out.alloc (.cells (arr .i64 ze) 82))
          have HN1056 := Lib.hid (show wy20.heap.size ≤ (w1052).heap.size from HK1052.out.size)
          generalize (w1052).heap.size = g1056 at HB1056 HN1056 ⊢
          generalize (w1052).alloc (.cells (arr .i64 ze) 82) = w1056 at HB1056 HK1056 ⊢
          clear HB1052
          clear HK1052
          clear hHeld
          refine hK.out _ _ (HK1056.out) (fun hHeld => ?_)
          clear hK K
          (try simp only [Act.put, sA, sZ, sS])
          refine wpAnyH_ready (rs := [4]) (by kernel_rfl) (by simp) ?_
          refine AllReadyH.cons (o := (⟨some 76, _, _, _, _, none⟩ : Oper)) rfl (fun K hK => ?_) AllReadyH.nil
          go_simp
          go_at_call 57
          refine (mul_any _ _ _ _ _ HZ1052.out HZ1026.out).mono ?_
          rintro e w1057 ⟨z1057, rfl, h1057, hb1057⟩
          have HZ1057 := Lib.hid h1057
          have HL1057 := Lib.hid h1057.1
          clear h1057
          have HB1057 := Lib.hid (HB1056.out.kept hb1057)
          have HK1057 := Lib.hid (HK1056.out.trans (Kept.of_below hb1057))
          clear hb1057
          (try dsimp only)
          clear HB1056
          clear HK1056
          clear hHeld
          refine hK.out _ _ (HK1057.out) (fun hHeld => ?_)
          clear hK K
          (try simp only [Act.put, sA, sZ, sS])
          refine wpAnyH_ready (rs := [6]) (by kernel_rfl) (by simp) ?_
          refine AllReadyH.cons (o := (⟨none, _, _, _, _, none⟩ : Oper)) rfl (fun K hK => ?_) AllReadyH.nil
          refine step_store_whole rfl 82 (.tmp 18) (.tmp 76) rfl (g1056) _ _ _ (HB1057.out.get 14 rfl) rfl rfl (arr_len2 _ _ HL1057.out HLze.out) (el_s HL1057.out) (all_arr _ _) ?_
          intro w1058 hb1058 hk1058 hz1058
          have HB1058 := Lib.hid (HB1057.out.put 14 rfl hk1058 hb1058)
          have HK1058 := Lib.hid (HK1057.out.trans_new hk1058 (fun i hi e => absurd hi (by rw [e]; exact Nat.not_lt.2 HN1056.out)))
          clear hb1058 hk1058 hz1058
          clear HB1057
          clear HK1057
          clear hHeld
          refine hK.out _ _ (HK1058.out) (fun hHeld => ?_)
          clear hK K
          (try simp only [Act.put])
          refine wpAnyH_done (by kernel_rfl) ?_ _
          go_wp2_with fail
          go_meet
          exact ⟨_, _, rfl, HZ1057.out, HB1058.out⟩
        exact AllReadyH.nil
      refine AllReadyH.cons (o := (⟨some 18, _, _, _, _, none⟩ : Oper)) rfl (fun K hK => ?_) ?_
      · refine step_alloc_row rfl 82 rfl _ (HZze.out _) ?_
        have HB1059 := Lib.hid (HBd.out.alloc (arr .i64 ze) 82)
        have HK1059 := Lib.hid (HK0.out.alloc (.cells (arr .i64 ze) 82))
        have HN1059 := Lib.hid (show wy20.heap.size ≤ (wd).heap.size from HK0.out.size)
        generalize (wd).heap.size = g1059 at HB1059 HN1059 ⊢
        generalize (wd).alloc (.cells (arr .i64 ze) 82) = w1059 at HB1059 HK1059 ⊢
        clear HBd
        clear HK0
        clear hHeld
        refine hK.out _ _ (HK1059.out) (fun hHeld => ?_)
        clear hK K
        (try simp only [Act.put, sA, sZ, sS])
        refine wpAnyH_ready (rs := [2]) (by kernel_rfl) (by simp) ?_
        refine AllReadyH.cons (o := (⟨some 74, _, _, _, _, none⟩ : Oper)) rfl (fun K hK => ?_) AllReadyH.nil
        go_simp
        go_at_call 56
        refine (add_any _ _ _ _ _ HCe.out HDe.out).mono ?_
        rintro e w1060 ⟨z1060, rfl, h1060, hb1060⟩
        have HZ1060 := Lib.hid h1060
        have HL1060 := Lib.hid h1060.1
        clear h1060
        have HB1060 := Lib.hid (HB1059.out.kept hb1060)
        have HK1060 := Lib.hid (HK1059.out.trans (Kept.of_below hb1060))
        clear hb1060
        (try dsimp only)
        clear HB1059
        clear HK1059
        clear hHeld
        refine hK.out _ _ (HK1060.out) (fun hHeld => ?_)
        clear hK K
        (try simp only [Act.put, sA, sZ, sS])
        refine wpAnyH_ready (rs := [4]) (by kernel_rfl) (by simp) ?_
        refine AllReadyH.cons (o := (⟨some 76, _, _, _, _, none⟩ : Oper)) rfl (fun K hK => ?_) AllReadyH.nil
        go_simp
        go_at_call 57
        refine (mul_any _ _ _ _ _ HZ1060.out HZ1026.out).mono ?_
        rintro e w1061 ⟨z1061, rfl, h1061, hb1061⟩
        have HZ1061 := Lib.hid h1061
        have HL1061 := Lib.hid h1061.1
        clear h1061
        have HB1061 := Lib.hid (HB1060.out.kept hb1061)
        have HK1061 := Lib.hid (HK1060.out.trans (Kept.of_below hb1061))
        clear hb1061
        (try dsimp only)
        clear HB1060
        clear HK1060
        clear hHeld
        refine hK.out _ _ (HK1061.out) (fun hHeld => ?_)
        clear hK K
        (try simp only [Act.put, sA, sZ, sS])
        refine wpAnyH_ready (rs := [6]) (by kernel_rfl) (by simp) ?_
        refine AllReadyH.cons (o := (⟨none, _, _, _, _, none⟩ : Oper)) rfl (fun K hK => ?_) AllReadyH.nil
        refine step_store_whole rfl 82 (.tmp 18) (.tmp 76) rfl (g1059) _ _ _ (HB1061.out.get 14 rfl) rfl rfl (arr_len2 _ _ HL1061.out HLze.out) (el_s HL1061.out) (all_arr _ _) ?_
        intro w1062 hb1062 hk1062 hz1062
        have HB1062 := Lib.hid (HB1061.out.put 14 rfl hk1062 hb1062)
        have HK1062 := Lib.hid (HK1061.out.trans_new hk1062 (fun i hi e => absurd hi (by rw [e]; exact Nat.not_lt.2 HN1059.out)))
        clear hb1062 hk1062 hz1062
        clear HB1061
        clear HK1061
        clear hHeld
        refine hK.out _ _ (HK1062.out) (fun hHeld => ?_)
        clear hK K
        (try simp only [Act.put])
        refine wpAnyH_done (by kernel_rfl) ?_ _
        go_wp2_with fail
        go_meet
        exact ⟨_, _, rfl, HZ1061.out, HB1062.out⟩
      exact AllReadyH.nil
    case rest =>
    obtain ⟨wy21, rfl⟩ : ∃ x : World, x = wc := ⟨_, rfl⟩
    obtain ⟨gy21, xy21, rfl, h1, hb1⟩ := hcut
    have HBy21 := Lib.hid hb1
    have HXy21 := Lib.hid h1
    have HLy21 := Lib.hid h1.1
    clear h1 hb1
    go_upto_region 23 with (first | ((with_reducible refine aS 77 ?_); refine wpList_load_part rfl 82 _ rfl (gy20) (0) _ 82 (0, 0) _ (HBy21.out.get 13 rfl) rfl .i64 xy20 (arr_part _ _) Tryd.underlying82 rfl (el_i HLy20.out) ?_) | ((with_reducible refine aS 78 ?_); refine wpList_load_part rfl 82 _ rfl (gy21) (0) _ 82 (0, 0) _ (HBy21.out.get 14 rfl) rfl .i64 xy21 (arr_part _ _) Tryd.underlying82 rfl (el_i HLy21.out) ?_) | ((with_reducible show Calls _ 56 #[.agg _, .agg _] _ _); go_at_call 56; refine (add_any _ _ _ _ _ HXy20.out HXy21.out).mono ?_; rintro e w1063 ⟨z1063, rfl, h1063, hb1063⟩; have HZ1063 := Lib.hid h1063; have HL1063 := Lib.hid h1063.1; clear h1063; have HB1063 := Lib.hid (HBy21.out.kept hb1063); clear hb1063) | ((with_reducible refine aS 19 ?_); refine wpList_alloc_row rfl 82 rfl _ (HZze.out _) ?_; have HB1064 := Lib.hid (HB1063.out.alloc (arr .i64 ze) 82); generalize w1063.heap.size = g1064 at HB1064 ⊢; generalize w1063.alloc (.cells (arr .i64 ze) 82) = w1064 at HB1064 ⊢; clear HB1063) | ((with_reducible refine aT 19 (x := (Operand.tmp 79)) ?_); refine wpList_store_whole rfl 82 _ _ rfl (g1064) _ _ 82 (HB1064.out.get 15 rfl) rfl rfl (arr_len2 _ _ HL1063.out HLze.out) (el_s HL1063.out) (all_arr _ _) ?_; intro w1065 hb1065 hk1065 hz1065; have HB1065 := Lib.hid (HB1064.out.put 15 rfl hk1065 hb1065); clear hb1065 hk1065 hz1065; clear HB1064))
    go_upto_region 24 with (first | ((with_reducible refine aS 80 ?_); refine wpList_load_part rfl 82 _ rfl (gy20) (0) _ 82 (0, 0) _ (HB1065.out.get 13 rfl) rfl .i64 xy20 (arr_part _ _) Tryd.underlying82 rfl (el_i HLy20.out) ?_) | ((with_reducible refine aS 81 ?_); refine wpList_load_part rfl 82 _ rfl (gy21) (0) _ 82 (0, 0) _ (HB1065.out.get 14 rfl) rfl .i64 xy21 (arr_part _ _) Tryd.underlying82 rfl (el_i HLy21.out) ?_) | ((with_reducible show Calls _ 58 #[.agg _, .agg _] _ _); go_at_call 58; refine (sub_any _ _ _ _ _ HXy20.out HXy21.out).mono ?_; rintro e w1066 ⟨z1066, rfl, h1066, hb1066⟩; have HZ1066 := Lib.hid h1066; have HL1066 := Lib.hid h1066.1; clear h1066; have HB1066 := Lib.hid (HB1065.out.kept hb1066); clear hb1066; clear HB1065) | ((with_reducible refine aS 20 ?_); refine wpList_alloc_row rfl 82 rfl _ (HZze.out _) ?_; have HB1067 := Lib.hid (HB1066.out.alloc (arr .i64 ze) 82); generalize w1066.heap.size = g1067 at HB1067 ⊢; generalize w1066.alloc (.cells (arr .i64 ze) 82) = w1067 at HB1067 ⊢; clear HB1066) | ((with_reducible refine aT 20 (x := (Operand.tmp 82)) ?_); refine wpList_store_whole rfl 82 _ _ rfl (g1067) _ _ 82 (HB1067.out.get 16 rfl) rfl rfl (arr_len2 _ _ HL1066.out HLze.out) (el_s HL1066.out) (all_arr _ _) ?_; intro w1068 hb1068 hk1068 hz1068; have HB1068 := Lib.hid (HB1067.out.put 16 rfl hk1068 hb1068); clear hb1068 hk1068 hz1068; clear HB1067))
    go_upto_region 25 with (first | ((with_reducible refine aS 83 ?_); refine wpList_load_part rfl 82 _ rfl (g1064) (0) _ 82 (0, 0) _ (HB1068.out.get 15 rfl) rfl .i64 z1063 (arr_part _ _) Tryd.underlying82 rfl (el_i HL1063.out) ?_) | ((with_reducible refine aS 84 ?_); refine wpList_load_part rfl 82 _ rfl (g1064) (0) _ 82 (0, 0) _ (HB1068.out.get 15 rfl) rfl .i64 z1063 (arr_part _ _) Tryd.underlying82 rfl (el_i HL1063.out) ?_) | ((with_reducible show Calls _ 57 #[.agg _, .agg _] _ _); go_at_call 57; refine (mul_any _ _ _ _ _ HZ1063.out HZ1063.out).mono ?_; rintro e w1069 ⟨z1069, rfl, h1069, hb1069⟩; have HZ1069 := Lib.hid h1069; have HL1069 := Lib.hid h1069.1; clear h1069; have HB1069 := Lib.hid (HB1068.out.kept hb1069); clear hb1069; clear HB1068) | ((with_reducible refine aT 8 (x := (Operand.tmp 85)) ?_); refine wpList_store_whole rfl 82 _ _ rfl (g1011) _ _ 82 (HB1069.out.get 6 rfl) rfl rfl (arr_len2 _ _ HL1069.out HCl.out) (el_s HL1069.out) (all_arr _ _) ?_; intro w1070 hb1070 hk1070 hz1070; have HB1070 := Lib.hid (HB1069.out.put 6 rfl hk1070 hb1070); clear hb1070 hk1070 hz1070; clear HB1069))
    (try simp only [Act.put])
    have HK0 := Lib.hid ((Kept.refl (fun x => x = g1014) w1070).drew)
    have HBd := Lib.hid (HB1070.out.drew)
    refine wp_region_held_drew (S := (fun w' => Kept (fun x => x = g1014) w1070 w')) (by kernel_rfl) (HK0.out) (fun hHeld => ?_)
    generalize w1070.drew = wd at HK0 HBd hHeld ⊢
    refine' wpAnyH_take (i := 0) (oi := (⟨some 86, _, _, _, _, none⟩ : Oper)) (v := _) rfl (by kernel_rfl) (by kernel_rfl) (by kernel_rfl) (fun _ _ _ h => h) (yieldsIf_load_mid (by rfl) _ _ rfl _ _ rfl (z1003.map (Value.int .i64)) _ ?hS1071 Tryd.underlying82 rfl (by rw [List.length_map]; exact el_i HL1003.out)) (by assumption) ?rest1071
    case hS1071 => (intro w hSw; (try dsimp only at hSw); exact range_part (hSw.blk (HB1070.out.get 3 rfl) (HB1070.out.ne 3 7 rfl rfl (by decide))) 0 _ (by rw [List.length_map]; exact arr_part _ _))
    (try simp only [Act.put, sA, sZ, sS])
    refine' wpAnyH_take (i := 1) (oi := (⟨some 87, _, _, _, _, none⟩ : Oper)) (v := _) rfl (by kernel_rfl) (by kernel_rfl) (by kernel_rfl) (fun _ _ _ h => h) (yieldsIf_load_mid (by rfl) _ _ rfl _ _ rfl (z1066.map (Value.int .i64)) _ ?hS1072 Tryd.underlying82 rfl (by rw [List.length_map]; exact el_i HL1066.out)) (by assumption) ?rest1072
    case hS1072 => (intro w hSw; (try dsimp only at hSw); exact range_part (hSw.blk (HB1070.out.get 16 rfl) (HB1070.out.ne 16 7 rfl rfl (by decide))) 0 _ (by rw [List.length_map]; exact arr_part _ _))
    (try simp only [Act.put, sA, sZ, sS])
    refine' wpAnyH_take (i := 2) (oi := (⟨some 88, _, _, _, _, none⟩ : Oper)) (v := _) rfl (by kernel_rfl) (by kernel_rfl) (by kernel_rfl) (fun _ _ _ h => h) (yieldsIf_load_mid (by rfl) _ _ rfl _ _ rfl (z1066.map (Value.int .i64)) _ ?hS1073 Tryd.underlying82 rfl (by rw [List.length_map]; exact el_i HL1066.out)) (by assumption) ?rest1073
    case hS1073 => (intro w hSw; (try dsimp only at hSw); exact range_part (hSw.blk (HB1070.out.get 16 rfl) (HB1070.out.ne 16 7 rfl rfl (by decide))) 0 _ (by rw [List.length_map]; exact arr_part _ _))
    (try simp only [Act.put, sA, sZ, sS])
    refine wpAnyH_ready (rs := [3]) (by kernel_rfl) (by simp) ?_
    refine AllReadyH.cons (o := (⟨some 89, _, _, _, _, none⟩ : Oper)) rfl (fun K hK => ?_) AllReadyH.nil
    go_simp
    go_at_call 57
    refine (mul_any _ _ _ _ _ HZ1066.out HZ1066.out).mono ?_
    rintro e w1074 ⟨z1074, rfl, h1074, hb1074⟩
    have HZ1074 := Lib.hid h1074
    have HL1074 := Lib.hid h1074.1
    clear h1074
    have HB1074 := Lib.hid (HBd.out.kept hb1074)
    have HK1074 := Lib.hid (HK0.out.trans (Kept.of_below hb1074))
    clear hb1074
    (try dsimp only)
    clear HBd
    clear HK0
    clear hHeld
    refine hK.out _ _ (HK1074.out) (fun hHeld => ?_)
    clear hK K
    (try simp only [Act.put, sA, sZ, sS])
    refine wpAnyH_ready (rs := [4]) (by kernel_rfl) (by simp) ?_
    refine AllReadyH.cons (o := (⟨some 90, _, _, _, _, none⟩ : Oper)) rfl (fun K hK => ?_) AllReadyH.nil
    go_simp
    go_at_call 57
    refine (mul_any _ _ _ _ _ HZ1003.out HZ1074.out).mono ?_
    rintro e w1075 ⟨z1075, rfl, h1075, hb1075⟩
    have HZ1075 := Lib.hid h1075
    have HL1075 := Lib.hid h1075.1
    clear h1075
    have HB1075 := Lib.hid (HB1074.out.kept hb1075)
    have HK1075 := Lib.hid (HK1074.out.trans (Kept.of_below hb1075))
    clear hb1075
    (try dsimp only)
    clear HB1074
    clear HK1074
    clear hHeld
    refine hK.out _ _ (HK1075.out) (fun hHeld => ?_)
    clear hK K
    (try simp only [Act.put, sA, sZ, sS])
    refine wpAnyH_ready (rs := [5]) (by kernel_rfl) (by simp) ?_
    refine AllReadyH.cons (o := (⟨none, _, _, _, _, none⟩ : Oper)) rfl (fun K hK => ?_) AllReadyH.nil
    refine step_store_whole rfl 82 (.tmp 9) (.tmp 90) rfl (g1014) _ _ _ (HB1075.out.get 7 rfl) rfl rfl (arr_len2 _ _ HL1075.out HDl.out) (el_s HL1075.out) (all_arr _ _) ?_
    intro w1076 hb1076 hk1076 hz1076
    have HB1076 := Lib.hid (HB1075.out.put 7 rfl hk1076 hb1076)
    have HK1076 := Lib.hid (HK1075.out.trans hk1076)
    clear hb1076 hk1076 hz1076
    clear HB1075
    clear HK1075
    clear hHeld
    refine hK.out _ _ (HK1076.out) (fun hHeld => ?_)
    clear hK K
    (try simp only [Act.put])
    refine wpAnyH_done (by kernel_rfl) ?_ _
    (try simp only [Exit.then])
    go_upto_region 27 with (first | ((with_reducible refine aS 91 ?_); refine wpList_load_part rfl 82 _ rfl (g1024) (0) _ 82 (0, 0) _ (HB1076.out.get 9 rfl) rfl .i64 z1023 (arr_part _ _) Tryd.underlying82 rfl (el_i HL1023.out) ?_) | ((with_reducible refine aS 92 ?_); refine wpList_load_part rfl 82 _ rfl (g1030) (0) _ 82 (0, 0) _ (HB1076.out.get 11 rfl) rfl .i64 z1029 (arr_part _ _) Tryd.underlying82 rfl (el_i HL1029.out) ?_) | ((with_reducible show Calls _ 57 #[.agg _, .agg _] _ _); go_at_call 57; refine (mul_any _ _ _ _ _ HZ1023.out HZ1029.out).mono ?_; rintro e w1077 ⟨z1077, rfl, h1077, hb1077⟩; have HZ1077 := Lib.hid h1077; have HL1077 := Lib.hid h1077.1; clear h1077; have HB1077 := Lib.hid (HB1076.out.kept hb1077); clear hb1077; clear HB1076) | ((with_reducible refine aT 6 (x := (Operand.tmp 93)) ?_); refine wpList_store_whole rfl 82 _ _ rfl (g1007) _ _ 82 (HB1077.out.get 4 rfl) rfl rfl (arr_len2 _ _ HL1077.out HAl.out) (el_s HL1077.out) (all_arr _ _) ?_; intro w1078 hb1078 hk1078 hz1078; have HB1078 := Lib.hid (HB1077.out.put 4 rfl hk1078 hb1078); clear hb1078 hk1078 hz1078; clear HB1077))
    (try simp only [Act.put])
    have HK0 := Lib.hid ((Kept.refl (fun x => x = g1009) w1078).drew)
    have HBd := Lib.hid (HB1078.out.drew)
    refine wp_region_held_drew (S := (fun w' => Kept (fun x => x = g1009) w1078 w')) (by kernel_rfl) (HK0.out) (fun hHeld => ?_)
    generalize w1078.drew = wd at HK0 HBd hHeld ⊢
    refine' wpAnyH_take (i := 0) (oi := (⟨some 94, _, _, _, _, none⟩ : Oper)) (v := _) rfl (by kernel_rfl) (by kernel_rfl) (by kernel_rfl) (fun _ _ _ h => h) (yieldsIf_load_mid (by rfl) _ _ rfl _ _ rfl (z1032.map (Value.int .i64)) _ ?hS1079 Tryd.underlying82 rfl (by rw [List.length_map]; exact el_i HL1032.out)) (by assumption) ?rest1079
    case hS1079 => (intro w hSw; (try dsimp only at hSw); exact range_part (hSw.blk (HB1078.out.get 12 rfl) (HB1078.out.ne 12 5 rfl rfl (by decide))) 0 _ (by rw [List.length_map]; exact arr_part _ _))
    (try simp only [Act.put, sA, sZ, sS])
    refine' wpAnyH_take (i := 1) (oi := (⟨some 95, _, _, _, _, none⟩ : Oper)) (v := _) rfl (by kernel_rfl) (by kernel_rfl) (by kernel_rfl) (fun _ _ _ h => h) (yieldsIf_load_mid (by rfl) _ _ rfl _ _ rfl (z1023.map (Value.int .i64)) _ ?hS1080 Tryd.underlying82 rfl (by rw [List.length_map]; exact el_i HL1023.out)) (by assumption) ?rest1080
    case hS1080 => (intro w hSw; (try dsimp only at hSw); exact range_part (hSw.blk (HB1078.out.get 9 rfl) (HB1078.out.ne 9 5 rfl rfl (by decide))) 0 _ (by rw [List.length_map]; exact arr_part _ _))
    (try simp only [Act.put, sA, sZ, sS])
    refine' wpAnyH_take (i := 3) (oi := (⟨some 97, _, _, _, _, none⟩ : Oper)) (v := _) rfl (by kernel_rfl) (by kernel_rfl) (by kernel_rfl) (fun _ _ _ h => h) (yieldsIf_load_mid (by rfl) _ _ rfl _ _ rfl (z1032.map (Value.int .i64)) _ ?hS1081 Tryd.underlying82 rfl (by rw [List.length_map]; exact el_i HL1032.out)) (by assumption) ?rest1081
    case hS1081 => (intro w hSw; (try dsimp only at hSw); exact range_part (hSw.blk (HB1078.out.get 12 rfl) (HB1078.out.ne 12 5 rfl rfl (by decide))) 0 _ (by rw [List.length_map]; exact arr_part _ _))
    (try simp only [Act.put, sA, sZ, sS])
    refine wpAnyH_ready (rs := [2]) (by kernel_rfl) (by simp) ?_
    refine AllReadyH.cons (o := (⟨some 96, _, _, _, _, none⟩ : Oper)) rfl (fun K hK => ?_) AllReadyH.nil
    go_simp
    go_at_call 55
    refine (one_any 121665 _ (by decide)).mono ?_
    rintro e w1082 ⟨z1082, rfl, h1082, hb1082⟩
    have HZ1082 := Lib.hid h1082
    have HL1082 := Lib.hid h1082.1
    clear h1082
    have HB1082 := Lib.hid (HBd.out.kept hb1082)
    have HK1082 := Lib.hid (HK0.out.trans (Kept.of_below hb1082))
    clear hb1082
    (try dsimp only)
    clear HBd
    clear HK0
    clear hHeld
    refine hK.out _ _ (HK1082.out) (fun hHeld => ?_)
    clear hK K
    (try simp only [Act.put, sA, sZ, sS])
    refine wpAnyH_ready (rs := [4]) (by kernel_rfl) (by simp) ?_
    refine AllReadyH.cons (o := (⟨some 98, _, _, _, _, none⟩ : Oper)) rfl (fun K hK => ?_) AllReadyH.nil
    go_simp
    go_at_call 57
    refine (mul_any _ _ _ _ _ HZ1082.out HZ1032.out).mono ?_
    rintro e w1083 ⟨z1083, rfl, h1083, hb1083⟩
    have HZ1083 := Lib.hid h1083
    have HL1083 := Lib.hid h1083.1
    clear h1083
    have HB1083 := Lib.hid (HB1082.out.kept hb1083)
    have HK1083 := Lib.hid (HK1082.out.trans (Kept.of_below hb1083))
    clear hb1083
    (try dsimp only)
    clear HB1082
    clear HK1082
    clear hHeld
    refine hK.out _ _ (HK1083.out) (fun hHeld => ?_)
    clear hK K
    (try simp only [Act.put, sA, sZ, sS])
    refine wpAnyH_ready (rs := [5]) (by kernel_rfl) (by simp) ?_
    refine AllReadyH.cons (o := (⟨some 99, _, _, _, _, none⟩ : Oper)) rfl (fun K hK => ?_) AllReadyH.nil
    go_simp
    go_at_call 56
    refine (add_any _ _ _ _ _ HZ1023.out HZ1083.out).mono ?_
    rintro e w1084 ⟨z1084, rfl, h1084, hb1084⟩
    have HZ1084 := Lib.hid h1084
    have HL1084 := Lib.hid h1084.1
    clear h1084
    have HB1084 := Lib.hid (HB1083.out.kept hb1084)
    have HK1084 := Lib.hid (HK1083.out.trans (Kept.of_below hb1084))
    clear hb1084
    (try dsimp only)
    clear HB1083
    clear HK1083
    clear hHeld
    refine hK.out _ _ (HK1084.out) (fun hHeld => ?_)
    clear hK K
    (try simp only [Act.put, sA, sZ, sS])
    refine wpAnyH_ready (rs := [6]) (by kernel_rfl) (by simp) ?_
    refine AllReadyH.cons (o := (⟨some 100, _, _, _, _, none⟩ : Oper)) rfl (fun K hK => ?_) AllReadyH.nil
    go_simp
    go_at_call 57
    refine (mul_any _ _ _ _ _ HZ1032.out HZ1084.out).mono ?_
    rintro e w1085 ⟨z1085, rfl, h1085, hb1085⟩
    have HZ1085 := Lib.hid h1085
    have HL1085 := Lib.hid h1085.1
    clear h1085
    have HB1085 := Lib.hid (HB1084.out.kept hb1085)
    have HK1085 := Lib.hid (HK1084.out.trans (Kept.of_below hb1085))
    clear hb1085
    (try dsimp only)
    clear HB1084
    clear HK1084
    clear hHeld
    refine hK.out _ _ (HK1085.out) (fun hHeld => ?_)
    clear hK K
    (try simp only [Act.put, sA, sZ, sS])
    refine wpAnyH_ready (rs := [7]) (by kernel_rfl) (by simp) ?_
    refine AllReadyH.cons (o := (⟨none, _, _, _, _, none⟩ : Oper)) rfl (fun K hK => ?_) AllReadyH.nil
    refine step_store_whole rfl 82 (.tmp 7) (.tmp 100) rfl (g1009) _ _ _ (HB1085.out.get 5 rfl) rfl rfl (arr_len2 _ _ HL1085.out HBl.out) (el_s HL1085.out) (all_arr _ _) ?_
    intro w1086 hb1086 hk1086 hz1086
    have HB1086 := Lib.hid (HB1085.out.put 5 rfl hk1086 hb1086)
    have HK1086 := Lib.hid (HK1085.out.trans hk1086)
    clear hb1086 hk1086 hz1086
    clear HB1085
    clear HK1085
    clear hHeld
    refine hK.out _ _ (HK1086.out) (fun hHeld => ?_)
    clear hK K
    (try simp only [Act.put])
    refine wpAnyH_done (by kernel_rfl) ?_ _
    (try simp only [Exit.then])
    rcases hb with rfl | rfl
    · have hbv : (((0 : Nat) : Int) == 1) = false := rfl
      go_wp2_with fail
      go_roundw
      case rel =>
        have e := HI.out
        exact ⟨n + 1, by omega, by congr 1; omega, _, _, _, _, by rw [HPN.out]; exact HZ1077.out, by rw [HPN.out]; exact HZ1085.out, by rw [HPN.out]; exact HZ1069.out, by rw [HPN.out]; exact HZ1075.out, HB1086.out.less 8⟩
      case measure => simp [intOf]
    · have hbv : (((1 : Nat) : Int) == 1) = true := rfl
      go_upto_region 30 with (first | ((with_reducible refine aS 103 ?_); refine wpList_load_part rfl 82 _ rfl (g1011) (0) _ 82 (0, 0) _ (HB1086.out.get 6 rfl) rfl .i64 z1069 (arr_part _ _) Tryd.underlying82 rfl (el_i HL1069.out) ?_) | ((with_reducible refine aS 104 ?_); refine wpList_load_part rfl 82 _ rfl (g1007) (0) _ 82 (0, 0) _ (HB1086.out.get 4 rfl) rfl .i64 z1077 (arr_part _ _) Tryd.underlying82 rfl (el_i HL1077.out) ?_) | ((with_reducible refine aT 6 (x := (Operand.tmp 103)) ?_); refine wpList_store_whole rfl 82 _ _ rfl (g1007) _ _ 82 (HB1086.out.get 4 rfl) rfl rfl (arr_len2 _ _ HL1069.out HL1077.out) (el_s HL1069.out) (all_arr _ _) ?_; intro w1087 hb1087 hk1087 hz1087; have HB1087 := Lib.hid (HB1086.out.put 4 rfl hk1087 hb1087); clear hb1087 hk1087 hz1087; clear HB1086) | ((with_reducible refine aT 8 (x := (Operand.tmp 104)) ?_); refine wpList_store_whole rfl 82 _ _ rfl (g1011) _ _ 82 (HB1087.out.get 6 rfl) rfl rfl (arr_len2 _ _ HL1077.out HL1069.out) (el_s HL1077.out) (all_arr _ _) ?_; intro w1088 hb1088 hk1088 hz1088; have HB1088 := Lib.hid (HB1087.out.put 6 rfl hk1088 hb1088); clear hb1088 hk1088 hz1088; clear HB1087))
      go_wp2_with (first | ((with_reducible refine aS 105 ?_); refine wpList_load_part rfl 82 _ rfl (g1014) (0) _ 82 (0, 0) _ (HB1088.out.get 7 rfl) rfl .i64 z1075 (arr_part _ _) Tryd.underlying82 rfl (el_i HL1075.out) ?_) | ((with_reducible refine aS 106 ?_); refine wpList_load_part rfl 82 _ rfl (g1009) (0) _ 82 (0, 0) _ (HB1088.out.get 5 rfl) rfl .i64 z1085 (arr_part _ _) Tryd.underlying82 rfl (el_i HL1085.out) ?_) | ((with_reducible refine aT 7 (x := (Operand.tmp 105)) ?_); refine wpList_store_whole rfl 82 _ _ rfl (g1009) _ _ 82 (HB1088.out.get 5 rfl) rfl rfl (arr_len2 _ _ HL1075.out HL1085.out) (el_s HL1075.out) (all_arr _ _) ?_; intro w1089 hb1089 hk1089 hz1089; have HB1089 := Lib.hid (HB1088.out.put 5 rfl hk1089 hb1089); clear hb1089 hk1089 hz1089; clear HB1088) | ((with_reducible refine aT 9 (x := (Operand.tmp 106)) ?_); refine wpList_store_whole rfl 82 _ _ rfl (g1014) _ _ 82 (HB1089.out.get 7 rfl) rfl rfl (arr_len2 _ _ HL1085.out HL1075.out) (el_s HL1085.out) (all_arr _ _) ?_; intro w1090 hb1090 hk1090 hz1090; have HB1090 := Lib.hid (HB1089.out.put 7 rfl hk1090 hb1090); clear hb1090 hk1090 hz1090; clear HB1089))
      go_roundw
      case rel =>
        have e := HI.out
        exact ⟨n + 1, by omega, by congr 1; omega, _, _, _, _, by rw [HPN.out]; exact HZ1069.out, by rw [HPN.out]; exact HZ1075.out, by rw [HPN.out]; exact HZ1077.out, by rw [HPN.out]; exact HZ1085.out, HB1090.out.less 8⟩
      case measure => simp [intOf]
  · obtain rfl : n = 255 := by omega
    have hz : (254 : Int) - ((255 : Nat) : Int) = -1 := by omega
    rw [hz]
    have hout := fun xs w (h : El xs (fmul (lgo X K 255).a (finv (lgo X K 255).b))) => out_any xs _ w h
    obtain ⟨ro, hro⟩ : ∃ x, x = nar (dig 256 32 (fmul (lgo X K 255).a (finv (lgo X K 255).b))) := ⟨_, rfl⟩
    have HRL : Hid (ro.length = 32) := Lib.hid (by rw [hro, nar_len, dig_len])
    rw [← hro] at hout
    have HOUT := Lib.hid hout
    have HRO := Lib.hid hro
    clear hz hout hro
    go_upto_region 31 with fail
    have HK0 := Lib.hid ((Kept.refl (fun x => x = w.heap.size + 1 + 1) wr).drew)
    have HBd := Lib.hid (HB.out.drew)
    refine wp_region_held_drew (S := (fun w' => Kept (fun x => x = w.heap.size + 1 + 1) wr w')) (by kernel_rfl) (HK0.out) (fun hHeld => ?_)
    generalize wr.drew = wd at HK0 HBd hHeld ⊢
    refine' wpAnyH_take (i := 0) (oi := (⟨some 107, _, _, _, _, none⟩ : Oper)) (v := _) rfl (by kernel_rfl) (by kernel_rfl) (by kernel_rfl) (fun _ _ _ h => h) (yieldsIf_load_mid (by rfl) _ _ rfl _ _ rfl (la.map (Value.int .i64)) _ ?hS1091 Tryd.underlying82 rfl (by rw [List.length_map]; exact el_i HAl.out)) (by assumption) ?rest1091
    case hS1091 => (intro w hSw; (try dsimp only at hSw); exact range_part (hSw.blk (HB.out.get 4 rfl) (HB.out.ne 4 2 rfl rfl (by decide))) 0 _ (by rw [List.length_map]; exact arr_part _ _))
    (try simp only [Act.put, sA, sZ, sS])
    refine' wpAnyH_take (i := 1) (oi := (⟨some 108, _, _, _, _, none⟩ : Oper)) (v := _) rfl (by kernel_rfl) (by kernel_rfl) (by kernel_rfl) (fun _ _ _ h => h) (yieldsIf_load_mid (by rfl) _ _ rfl _ _ rfl (lb.map (Value.int .i64)) _ ?hS1092 Tryd.underlying82 rfl (by rw [List.length_map]; exact el_i HBl.out)) (by assumption) ?rest1092
    case hS1092 => (intro w hSw; (try dsimp only at hSw); exact range_part (hSw.blk (HB.out.get 5 rfl) (HB.out.ne 5 2 rfl rfl (by decide))) 0 _ (by rw [List.length_map]; exact arr_part _ _))
    (try simp only [Act.put, sA, sZ, sS])
    refine wpAnyH_ready (rs := [2]) (by kernel_rfl) (by simp) ?_
    refine AllReadyH.cons (o := (⟨some 109, _, _, _, _, none⟩ : Oper)) rfl (fun K hK => ?_) AllReadyH.nil
    go_simp
    go_at_call 60
    refine (inv_any _ _ _ HBe.out).mono ?_
    rintro e w1093 ⟨z1093, rfl, h1093, hb1093⟩
    have HZ1093 := Lib.hid h1093
    have HL1093 := Lib.hid h1093.1
    clear h1093
    have HB1093 := Lib.hid (HBd.out.kept hb1093)
    have HK1093 := Lib.hid (HK0.out.trans (Kept.of_below hb1093))
    clear hb1093
    (try dsimp only)
    clear HBd
    clear HK0
    clear hHeld
    refine hK.out _ _ (HK1093.out) (fun hHeld => ?_)
    clear hK K
    (try simp only [Act.put, sA, sZ, sS])
    refine wpAnyH_ready (rs := [3]) (by kernel_rfl) (by simp) ?_
    refine AllReadyH.cons (o := (⟨some 110, _, _, _, _, none⟩ : Oper)) rfl (fun K hK => ?_) AllReadyH.nil
    go_simp
    go_at_call 57
    refine (mul_any _ _ _ _ _ HAe.out HZ1093.out).mono ?_
    rintro e w1094 ⟨z1094, rfl, h1094, hb1094⟩
    have HZ1094 := Lib.hid h1094
    have HL1094 := Lib.hid h1094.1
    clear h1094
    have HB1094 := Lib.hid (HB1093.out.kept hb1094)
    have HK1094 := Lib.hid (HK1093.out.trans (Kept.of_below hb1094))
    clear hb1094
    (try dsimp only)
    clear HB1093
    clear HK1093
    clear hHeld
    refine hK.out _ _ (HK1094.out) (fun hHeld => ?_)
    clear hK K
    (try simp only [Act.put, sA, sZ, sS])
    refine wpAnyH_ready (rs := [4]) (by kernel_rfl) (by simp) ?_
    refine AllReadyH.cons (o := (⟨some 111, _, _, _, _, none⟩ : Oper)) rfl (fun K hK => ?_) AllReadyH.nil
    go_simp
    go_at_call 59
    refine (HOUT.out _ _ HZ1094.out).mono ?_
    rintro e w1095 ⟨rfl, hb1095⟩
    have HB1095 := Lib.hid (HB1094.out.kept hb1095)
    have HK1095 := Lib.hid (HK1094.out.trans (Kept.of_below hb1095))
    clear hb1095
    (try dsimp only)
    clear HB1094
    clear HK1094
    clear hHeld
    refine hK.out _ _ (HK1095.out) (fun hHeld => ?_)
    clear hK K
    (try simp only [Act.put, sA, sZ, sS])
    refine wpAnyH_ready (rs := [5]) (by kernel_rfl) (by simp) ?_
    refine AllReadyH.cons (o := (⟨none, _, _, _, _, none⟩ : Oper)) rfl (fun K hK => ?_) AllReadyH.nil
    refine step_store_whole rfl 23 (.tmp 4) (.tmp 111) rfl (w.heap.size + 1 + 1) _ _ _ (HB1095.out.get 2 rfl) rfl rfl (arr_len2 _ _ HRL.out HLzn.out) (num_s HRL.out) (all_arr _ _) ?_
    intro w1096 hb1096 hk1096 hz1096
    have HB1096 := Lib.hid (HB1095.out.put 2 rfl hk1096 hb1096)
    have HK1096 := Lib.hid (HK1095.out.trans hk1096)
    clear hb1096 hk1096 hz1096
    clear HB1095
    clear HK1095
    clear hHeld
    refine hK.out _ _ (HK1096.out) (fun hHeld => ?_)
    clear hK K
    (try simp only [Act.put])
    refine wpAnyH_done (by kernel_rfl) ?_ _
    have HBF := HB1096
    (try simp only [Exit.then])
    go_wp2_with fail
    refine bodyPost_ret (results_cell_row rfl _ _ (w.heap.size + 1 + 1) 23 _ (0, 0) _ rfl (HBF.out.get 2 rfl) Tryd.underlying23 rfl (num_s HRL.out)) rfl ?_
    exact ⟨by rw [HRO.out], HBF.out.below⟩
end Go.Proofs.YtogebegdgfdijaaDoor.Rd
namespace Go.Proofs.YtogebegdgfdijaaDoor.Rd
open Go.RowKit Lm Fp Cu
theorem build_num0f (w : World) : (Instr.build 23 #[]).run Tryd.prog w = .ok (.agg (arr .u8 (List.replicate 32 0))) w := by kernel_rfl
theorem zero_digf : (List.replicate 32 0 : List Int) = nar (dig 256 32 0) := by decide +kernel
theorem dig32_injf {a b : Nat} (ha : a < 256 ^ 32) (hb : b < 256 ^ 32) : (nar (dig 256 32 a) == nar (dig 256 32 b)) = decide (a = b) := by
  by_cases e : a = b
  · subst e; simp
  · rw [decide_eq_false e, beq_eq_false_iff_ne]
    intro h
    have h3 : dig 256 32 a = dig 256 32 b := by
      have := congrArg (List.map Int.toNat) h
      have e : ∀ l : List Nat, (nar l).map Int.toNat = l := fun l => by rw [nar, List.map_map]; exact List.map_id l
      rwa [e, e] at this
    have h4 := congrArg (val 256) h3
    rw [val32 a ha, val32 b hb] at h4
    exact e h4
theorem nine_dig : (List.replicate 32 (0 : Int)).set 0 9 = nar (dig 256 32 9) := by decide +kernel
theorem lpub_any (k : Nat) (w : World) (hk : k < 2 ^ 256) :
    Calls Tryd.prog 16 #[.agg (arr .u8 (nar (dig 256 32 k)))] w fun e w' => e = .returned (.agg (arr .u8 (nar (dig 256 32 (x25519 k 9))))) ∧ Below w.heap.size w w' := by
  have hl := fun w => ladder_any k 9 w hk (by decide)
  obtain ⟨ks, hks⟩ : ∃ x, x = nar (dig 256 32 k) := ⟨_, rfl⟩
  have HKL : Hid (ks.length = 32) := Lib.hid (by rw [hks, nar_len, dig_len])
  obtain ⟨us, hus⟩ : ∃ x, x = nar (dig 256 32 9) := ⟨_, rfl⟩
  have HUL : Hid (us.length = 32) := Lib.hid (by rw [hus, nar_len, dig_len])
  obtain ⟨rs, hrs⟩ : ∃ x, x = nar (dig 256 32 (x25519 k 9)) := ⟨_, rfl⟩
  have HRL : Hid (rs.length = 32) := Lib.hid (by rw [hrs, nar_len, dig_len])
  rw [← hks, ← hus, ← hrs] at hl
  rw [← hks, ← hrs]
  have HL := Lib.hid hl
  obtain ⟨zn, hzn⟩ : ∃ zs : List Int, zs = List.replicate 32 0 := ⟨_, rfl⟩
  have HZzn : Hid (∀ w, (zeroValue 23).run Tryd.prog w = .ok (.agg (arr .u8 zn)) w) := Lib.hid (by intro w; rw [hzn]; exact zero_num w)
  have HLzn : Hid (zn.length = 32) := Lib.hid (by rw [hzn]; rfl)
  have HN9 : Hid (zn.set 0 9 = us) := Lib.hid (by rw [hzn, hus]; exact nine_dig)
  have HS0 := Lib.hid (Blk.two w (arr .u8 ks) (arr .u8 zn) 23 23)
  clear hzn hl hks hus hrs
  go_enter Tryd.func16, Tryd.ntmps16
  go_upto_region 1 with (first | ((with_reducible refine aS 2 ?_); refine wpList_alloc_row rfl 23 rfl _ (HZzn.out _) ?_))
  (try simp only [World.size_alloc, Act.put, sA, sZ, sS])
  generalize ((w.alloc (.cells (arr .u8 ks) 23)).alloc (.cells (arr .u8 zn) 23)) = wb at HS0 ⊢
  go_upto_region 2 with (first | ((with_reducible refine aS 3 ?_); refine wpList_alloc_row rfl 23 rfl _ (HZzn.out _) ?_; have HS1 := Lib.hid (HS0.out.alloc (arr .u8 zn) 23); generalize wb.heap.size = g3 at HS1 ⊢; generalize wb.alloc (.cells (arr .u8 zn) 23) = w1 at HS1 ⊢))
  have q0 := arr_get' (HS1.out.get 2 rfl) 0 (by rw [HLzn.out]; decide)
  have q1 := free_blk (HS1.out.get 2 rfl) 0
  have hb1 := HS1.out.cell 2 rfl 0 (.int .u8 9)
  have e2 : (arr .u8 zn).setIfInBounds 0 (.int .u8 9) = arr .u8 us := by rw [arr_set, HN9.out]
  have HS2 := Lib.hid (hb1.cast (l' := [(w.heap.size, arr .u8 ks, 23), (w.heap.size + 1, arr .u8 zn, 23), (g3, arr .u8 us, 23)]) (by rw [← e2]; rfl))
  clear hb1 e2
  go_wp2_with (first | ((with_reducible refine aS 5 ?_); refine wpList_load_part rfl 23 _ rfl (w.heap.size) 0 _ 23 (0, 0) _ (HS2.out.get 0 rfl) rfl .u8 ks (arr_part _ _) Tryd.underlying23 rfl (num_i HKL.out) ?_) | ((with_reducible refine aS 6 ?_); refine wpList_load_part rfl 23 _ rfl (g3) 0 _ 23 (0, 0) _ (HS2.out.get 2 rfl) rfl .u8 us (arr_part _ _) Tryd.underlying23 rfl (num_i HUL.out) ?_) | ((with_reducible show Calls _ 33 _ _ _); go_at_call 33; refine (HL.out _).mono ?_; rintro e w6 ⟨rfl, hb6⟩; have HB6 := Lib.hid (HS2.out.kept hb6); clear hb6) | ((with_reducible refine aT 2 ?_); refine wpList_store_whole rfl 23 _ _ rfl (w.heap.size + 1) _ _ 23 (HB6.out.get 1 rfl) rfl rfl (arr_len2 _ _ HRL.out HLzn.out) (num_s HRL.out) (all_arr _ _) ?_; intro w7 hb7 hk7 hz7; have HB7 := Lib.hid (HB6.out.put 1 rfl hk7 hb7); clear hb7 hk7 hz7))
  (try simp only [Exit.then])
  refine bodyPost_ret (results_cell_row rfl _ _ (w.heap.size + 1) 23 _ (0, 0) _ rfl (HB7.out.get 1 rfl) Tryd.underlying23 rfl (num_s HRL.out)) rfl ?_
  exact ⟨rfl, HB7.out.below⟩
theorem shared_any (k u : Nat) (w : World) (hk : k < 2 ^ 256) (hu : u < 2 ^ 256) :
    Calls Tryd.prog 15 #[.agg (arr .u8 (nar (dig 256 32 k))), .agg (arr .u8 (nar (dig 256 32 u)))] w fun e w' => e = .returned (.tuple #[.agg (arr .u8 (nar (dig 256 32 (x25519 k u)))), .int .i64 (if x25519 k u = 0 then 21 else 0)]) ∧ Below w.heap.size w w' := by
  have hl := fun w => ladder_any k u w hk hu
  have hz := dig32_injf (Nat.lt_trans (x25519_lt k u) p_lt32) (show 0 < 256 ^ 32 by decide)
  obtain ⟨ks, hks⟩ : ∃ x, x = nar (dig 256 32 k) := ⟨_, rfl⟩
  have HKL : Hid (ks.length = 32) := Lib.hid (by rw [hks, nar_len, dig_len])
  obtain ⟨us, hus⟩ : ∃ x, x = nar (dig 256 32 u) := ⟨_, rfl⟩
  have HUL : Hid (us.length = 32) := Lib.hid (by rw [hus, nar_len, dig_len])
  obtain ⟨rs, hrs⟩ : ∃ x, x = nar (dig 256 32 (x25519 k u)) := ⟨_, rfl⟩
  have HRL : Hid (rs.length = 32) := Lib.hid (by rw [hrs, nar_len, dig_len])
  rw [← hks, ← hus, ← hrs] at hl
  rw [← hrs] at hz
  rw [← hks, ← hus, ← hrs]
  obtain ⟨zn, hzn⟩ : ∃ zs : List Int, zs = List.replicate 32 0 := ⟨_, rfl⟩
  have HZzn : Hid (∀ w, (zeroValue 23).run Tryd.prog w = .ok (.agg (arr .u8 zn)) w) := Lib.hid (by intro w; rw [hzn]; exact zero_num w)
  have HLzn : Hid (zn.length = 32) := Lib.hid (by rw [hzn]; rfl)
  rw [← zero_digf, ← hzn] at hz
  have HL := Lib.hid hl
  have HZ := Lib.hid hz
  have HBN : Hid (∀ w, (Instr.build 23 #[]).run Tryd.prog w = .ok (.agg (arr .u8 zn)) w) := Lib.hid (by intro w; rw [hzn]; exact build_num0f w)
  have HS0 := Lib.hid (Blk.three w (arr .u8 ks) (arr .u8 us) (arr .u8 zn) 23 23 23)
  obtain ⟨er, her⟩ : ∃ e : Int, e = (if x25519 k u = 0 then 21 else 0) := ⟨_, rfl⟩
  have HER := Lib.hid her
  rw [← her]
  clear hzn hl hz hks hus hrs her
  go_enter Tryd.func15, Tryd.ntmps15
  go_upto_region 1 with (first | ((with_reducible refine aS 4 ?_); refine wpList_alloc_row rfl 23 rfl _ (HZzn.out _) ?_))
  (try simp only [World.size_alloc, Act.put, sA, sZ, sS])
  generalize (((w.alloc (.cells (arr .u8 ks) 23)).alloc (.cells (arr .u8 us) 23)).alloc (.cells (arr .u8 zn) 23)) = wb at HS0 ⊢
  go_upto_region 2 with (first | ((with_reducible refine aS 7 ?_); refine wpList_load_part rfl 23 _ rfl (w.heap.size) 0 _ 23 (0, 0) _ (HS0.out.get 0 rfl) rfl .u8 ks (arr_part _ _) Tryd.underlying23 rfl (num_i HKL.out) ?_) | ((with_reducible refine aS 8 ?_); refine wpList_load_part rfl 23 _ rfl (w.heap.size + 1) 0 _ 23 (0, 0) _ (HS0.out.get 1 rfl) rfl .u8 us (arr_part _ _) Tryd.underlying23 rfl (num_i HUL.out) ?_) | ((with_reducible show Calls _ 33 _ _ _); go_at_call 33; refine (HL.out _).mono ?_; rintro e w6 ⟨rfl, hb6⟩; have HB6 := Lib.hid (HS0.out.kept hb6); clear hb6) | ((with_reducible refine aS 6 ?_); refine wpList_alloc_row rfl 23 rfl _ (HZzn.out _) ?_; have HB7 := Lib.hid (HB6.out.alloc (arr .u8 zn) 23); generalize w6.heap.size = gz at HB7 ⊢; generalize w6.alloc (.cells (arr .u8 zn) 23) = w7 at HB7 ⊢) | ((with_reducible refine aT 6 ?_); refine wpList_store_whole rfl 23 _ _ rfl (gz) _ _ 23 (HB7.out.get 3 rfl) rfl rfl (arr_len2 _ _ HRL.out HLzn.out) (num_s HRL.out) (all_arr _ _) ?_; intro w8 hb8 hk8 hz8; have HB8 := Lib.hid (HB7.out.put 3 rfl hk8 hb8); clear hb8 hk8 hz8))
  by_cases hx : x25519 k u = 0
  · have hzz := HZ.out
    rw [decide_eq_true hx] at hzz
    have HZZ := Lib.hid hzz
    have he := HER.out
    rw [if_pos hx] at he
    subst he
    clear hzz
    go_wp2_with (first | ((with_reducible refine aS 10 ?_); refine wpList_load_part rfl 23 _ rfl (gz) 0 _ 23 (0, 0) _ (HB8.out.get 3 rfl) rfl .u8 rs (arr_part _ _) Tryd.underlying23 rfl (num_i HRL.out) ?_) | ((with_reducible refine aS 11 ?_); refine wpList_build (by rfl) 23 _ rfl #[] rfl _ (HBN.out _) ?_) | ((with_reducible refine aS 12 ?_); refine wpList_eql_arr (by rfl) 23 _ _ (.tmp 10) (.tmp 11) rfl 32 .u8 .u8 Tryd.underlying23 Tryd.underlying5 (fun w => by kernel_rfl) (by kernel_rfl) rs zn rfl rfl HRL.out HLzn.out true HZZ.out ?_) | ((with_reducible refine aS 13 ?_); refine wpList_load_part rfl 23 _ rfl (gz) 0 _ 23 (0, 0) _ (HB8.out.get 3 rfl) rfl .u8 rs (arr_part _ _) Tryd.underlying23 rfl (num_i HRL.out) ?_) | ((with_reducible refine aT 4 ?_); refine wpList_store_whole rfl 23 _ _ rfl (w.heap.size + 1 + 1) _ _ 23 (HB8.out.get 2 rfl) rfl rfl (arr_len2 _ _ HRL.out HLzn.out) (num_s HRL.out) (all_arr _ _) ?_; intro w9 hb9 hk9 hz9; have HB9 := Lib.hid (HB8.out.put 2 rfl hk9 hb9); clear hb9 hk9 hz9))
    (try simp only [Exit.then])
    refine bodyPost_ret (results_cell_tmp_row rfl _ _ (w.heap.size + 1 + 1) 23 _ (0, 0) _ _ rfl (HB9.out.get 2 rfl) Tryd.underlying23 rfl (num_s HRL.out) rfl) rfl ?_
    exact ⟨rfl, HB9.out.below⟩
  · have hzz := HZ.out
    rw [decide_eq_false hx] at hzz
    have HZZ := Lib.hid hzz
    have he := HER.out
    rw [if_neg hx] at he
    subst he
    clear hzz
    go_wp2_with (first | ((with_reducible refine aS 10 ?_); refine wpList_load_part rfl 23 _ rfl (gz) 0 _ 23 (0, 0) _ (HB8.out.get 3 rfl) rfl .u8 rs (arr_part _ _) Tryd.underlying23 rfl (num_i HRL.out) ?_) | ((with_reducible refine aS 11 ?_); refine wpList_build (by rfl) 23 _ rfl #[] rfl _ (HBN.out _) ?_) | ((with_reducible refine aS 12 ?_); refine wpList_eql_arr (by rfl) 23 _ _ (.tmp 10) (.tmp 11) rfl 32 .u8 .u8 Tryd.underlying23 Tryd.underlying5 (fun w => by kernel_rfl) (by kernel_rfl) rs zn rfl rfl HRL.out HLzn.out false HZZ.out ?_) | ((with_reducible refine aS 14 ?_); refine wpList_load_part rfl 23 _ rfl (gz) 0 _ 23 (0, 0) _ (HB8.out.get 3 rfl) rfl .u8 rs (arr_part _ _) Tryd.underlying23 rfl (num_i HRL.out) ?_) | ((with_reducible refine aT 4 ?_); refine wpList_store_whole rfl 23 _ _ rfl (w.heap.size + 1 + 1) _ _ 23 (HB8.out.get 2 rfl) rfl rfl (arr_len2 _ _ HRL.out HLzn.out) (num_s HRL.out) (all_arr _ _) ?_; intro w9 hb9 hk9 hz9; have HB9 := Lib.hid (HB8.out.put 2 rfl hk9 hb9); clear hb9 hk9 hz9))
    (try simp only [Exit.then])
    refine bodyPost_ret (results_cell_tmp_row rfl _ _ (w.heap.size + 1 + 1) 23 _ (0, 0) _ _ rfl (HB9.out.get 2 rfl) Tryd.underlying23 rfl (num_s HRL.out) rfl) rfl ?_
    exact ⟨rfl, HB9.out.below⟩
end Go.Proofs.YtogebegdgfdijaaDoor.Rd
