/- The document's Canon, written: what they answer. Condition: bytes; rows that stand for points. -/
import Derived.Test.YtanjhngehfbpbaaDoorRpB
namespace Go.Proofs.YtanjhngehfbpbaaDoor.Rd
open Go.RowKit Lm Fp Cu

theorem exec_neq_arr {P : Program} {o : Oper} {ev : Operand → Value} {w : World} (t ty : TypeId) (e : TypeId) (x y : Operand) (ho : o.op = .binOp .neq t x y ty) (n : Nat) (k k' : IntKind)
    (ht : P.underlying t = some (.array n e)) (he : P.underlying e = some (.int k')) (hsz : ∀ w, (sizeOf e).run P w = .ok 1 w) (hm : P.eqGuardType P.depth t = false)
    (xs ys : List Int) (hx : ev x = .agg (arr k xs)) (hy : ev y = .agg (arr k ys)) (lx : xs.length = n) (ly : ys.length = n) (b : Bool) (hb : (!(xs == ys)) = b) :
    (execOp ev o).run P w = .ok (.value (.bool b)) w := by
  simp only [execOp, ho, hx, hy, Sem.run_bind, run_eqGuard_agg w .neq t x y _ _ hm, Result.andThen_ok, run_neq_arr w t e n k k' ht he hsz xs ys lx ly, hb]
  rfl
theorem p_lt32 : p < 256 ^ 32 := by decide +kernel
theorem val32 (v : Nat) (h : v < 256 ^ 32) : val 256 (dig 256 32 v) = v := by rw [val_dig, Nat.mod_eq_of_lt h]
/-- in, of a number's bytes. -/
theorem in_num (v : Nat) (w : World) (h : v < 256 ^ 32) : Calls Tryd.prog 84 #[.agg (arr .u8 (nar (dig 256 32 v)))] w fun e w' => ∃ zs, e = .returned (.agg (arr .i64 zs)) ∧ El zs (v % p) ∧ Below w.heap.size w w' := by
  have := in_any (dig 256 32 v) w (dig_len _ _ _) (dig_lt 256 (by decide) _ _)
  rwa [val32 v h] at this

set_option maxRecDepth 100000 in
set_option maxHeartbeats 4000000 in
theorem canon_any (v : Nat) (w : World) (h : v < 256 ^ 32) : Calls Tryd.prog 83 #[.agg (arr .u8 (nar (dig 256 32 v)))] w fun e w' => e = .returned (.agg (arr .u8 (nar (dig 256 32 (v % p))))) ∧ Below w.heap.size w w' := by
  have hi := fun w => in_num v w h
  obtain ⟨ns, hns⟩ : ∃ x, x = nar (dig 256 32 v) := ⟨_, rfl⟩
  have HNL : Hid (ns.length = 32) := Lib.hid (by rw [hns, nar_len, dig_len])
  rw [← hns] at hi ⊢
  have ho := fun xs w (h : El xs (v % p)) => out_any xs (v % p) w h
  obtain ⟨os, hos⟩ : ∃ x, x = nar (dig 256 32 (v % p)) := ⟨_, rfl⟩
  have HOL : Hid (os.length = 32) := Lib.hid (by rw [hos, nar_len, dig_len])
  have HOS := Lib.hid hos
  rw [← hos] at ho
  have HI := Lib.hid hi
  have HO := Lib.hid ho
  obtain ⟨zn, hzn⟩ : ∃ zs : List Int, zs = List.replicate 32 0 := ⟨_, rfl⟩
  have HZzn : Hid (∀ w, (zeroValue 23).run Tryd.prog w = .ok (.agg (arr .u8 zn)) w) := Lib.hid (by intro w; rw [hzn]; exact zero_num w)
  have HLzn : Hid (zn.length = 32) := Lib.hid (by rw [hzn]; rfl)
  have HS0 := Lib.hid (Blk.two w (arr .u8 ns) (arr .u8 zn) 23 23)
  clear hzn hi ho hns hos
  go_enter Tryd.func83, Tryd.ntmps83
  go_wp2_with (first | ((with_reducible refine aS 2 ?_); refine wpList_alloc_row rfl 23 rfl _ (HZzn.out _) ?_) | ((with_reducible refine aS 3 ?_); refine wpList_load_part rfl 23 _ rfl (w.heap.size) 0 _ 23 (0, 0) _ (HS0.out.get 0 rfl) rfl .u8 ns (arr_part _ _) Tryd.underlying23 rfl (num_i HNL.out) ?_) | ((with_reducible show Calls _ 84 _ _ _); go_at_call 84; refine (HI.out _).mono ?_; rintro e w1 ⟨z1, rfl, h1, hb1⟩; have HZ1 := Lib.hid h1; have HB1 := Lib.hid (HS0.out.kept hb1); clear h1 hb1) | ((with_reducible show Calls _ 67 _ _ _); go_at_call 67; refine (HO.out _ _ HZ1.out).mono ?_; rintro e w2 ⟨rfl, hb2⟩; have HB2 := Lib.hid (HB1.out.kept hb2); clear hb2) | ((with_reducible refine aT 2 ?_); refine wpList_store_whole rfl 23 _ _ rfl (w.heap.size + 1) _ _ 23 (HB2.out.get 1 rfl) rfl rfl (arr_len2 _ _ HOL.out HLzn.out) (num_s HOL.out) (all_arr _ _) ?_; intro w3 hb3 hk3 hz3; have HB3 := Lib.hid (HB2.out.put 1 rfl hk3 hb3); clear hb3 hk3 hz3))
  (try simp only [Exit.then])
  refine bodyPost_ret (results_cell_row rfl _ _ (w.heap.size + 1) 23 _ (0, 0) _ rfl (HB3.out.get 1 rfl) Tryd.underlying23 rfl (num_s HOL.out)) rfl ?_
  exact ⟨by rw [HOS.out], HB3.out.below⟩

set_option maxRecDepth 100000 in
set_option maxHeartbeats 4000000 in
theorem written_any (ps : List Int) (P : Pt) (w : World) (hp : PtEl ps P) : Calls Tryd.prog 31 #[.agg (arr .i64 ps)] w fun e w' => e = .returned (.agg (arr .u8 (nar (dig 256 32 (ebytes P))))) ∧ Below w.heap.size w w' := by
  have HmW := Lib.hid hp.len
  obtain ⟨mx, my, mz, mt, hme, hmx, hmy, hmz, hmt⟩ := hp
  have Hmx := Lib.hid hmx
  have HmxL := Lib.hid hmx.1
  have Hmy := Lib.hid hmy
  have HmyL := Lib.hid hmy.1
  have Hmz := Lib.hid hmz
  have HmzL := Lib.hid hmz.1
  have Hmt := Lib.hid hmt
  have HmtL := Lib.hid hmt.1
  have hmP := four_partL .i64 mx my mz mt 16 hmx.1 hmy.1 hmz.1 hmt.1
  rw [← hme] at hmP
  have HmP := Lib.hid hmP
  clear hmx hmy hmz hmt hme hmP
  obtain ⟨X, hX⟩ : ∃ x, x = fmul P.x (finv P.z) := ⟨_, rfl⟩
  obtain ⟨Y, hY⟩ : ∃ x, x = fmul P.y (finv P.z) := ⟨_, rfl⟩
  have hYlt : Y < 2 ^ 255 := by rw [hY]; exact Nat.lt_of_lt_of_le (fmul_lt _ _) (by decide +kernel)
  have hen := enc_set Y (X % 2) hYlt (by omega)
  obtain ⟨ht1, ht2⟩ := top_byte Y hYlt
  have hlb := low_byte X
  have heb : ebytes P = Y + 2 ^ 255 * (X % 2) := by rw [hX, hY]; rfl
  rw [heb, ← hen]
  have hox := fun xs w (h : El xs (fmul P.x (finv P.z))) => out_any xs _ w h
  have hoy := fun xs w (h : El xs (fmul P.y (finv P.z))) => out_any xs _ w h
  rw [← hX] at hox
  rw [← hY] at hoy
  obtain ⟨bx8, hbx⟩ : ∃ x, x = nar (dig 256 32 X) := ⟨_, rfl⟩
  obtain ⟨by8, hby⟩ : ∃ x, x = nar (dig 256 32 Y) := ⟨_, rfl⟩
  have HBXL : Hid (bx8.length = 32) := Lib.hid (by rw [hbx, nar_len, dig_len])
  have HBYL : Hid (by8.length = 32) := Lib.hid (by rw [hby, nar_len, dig_len])
  have g0 : bx8.getD 0 0 = ((X % 256 : Nat) : Int) := by rw [hbx, nar_get, hlb]
  have g1 : by8.getD 31 0 = ((Y / 256 ^ 31 : Nat) : Int) := by rw [hby, nar_get, ht1]
  have hfin : by8.set 31 ((Y / 256 ^ 31 + 128 * (X % 2) : Nat) : Int) = nar ((dig 256 32 Y).set 31 (Y / 256 ^ 31 + 128 * (X % 2))) := by rw [nar_set, hby]
  rw [← hbx] at hox
  rw [← hby] at hoy
  rw [← hfin]
  have ha := and1u (X % 256) (Nat.mod_lt _ (by decide))
  rw [Nat.mod_mod_of_dvd X (show 2 ∣ 256 by decide)] at ha
  generalize Y / 256 ^ 31 = q at ht2 g1
  have hor : bits .or .u8 (q : Int) (((X % 2 : Nat) : Int) * 128) = ((q + 128 * (X % 2) : Nat) : Int) := by
    have h1 : (BitVec.ofInt 8 (q : Int)).toNat = q := by rw [BitVec.ofInt_natCast, BitVec.toNat_ofNat]; exact Nat.mod_eq_of_lt (by omega)
    rcases (show X % 2 = 0 ∨ X % 2 = 1 by omega) with h | h
    · rw [h]
      show IntKind.u8.wrap ((BitVec.ofInt 8 (q : Int) ||| BitVec.ofInt 8 (((0 : Nat) : Int) * 128)).toNat : Int) = _
      rw [BitVec.toNat_or, h1, show (BitVec.ofInt 8 (((0 : Nat) : Int) * 128)).toNat = 0 from by decide, Nat.or_zero, IntKind.wrap_u8]
      omega
    · rw [h]
      show IntKind.u8.wrap ((BitVec.ofInt 8 (q : Int) ||| BitVec.ofInt 8 (((1 : Nat) : Int) * 128)).toNat : Int) = _
      have h3 : q ||| 128 = 128 + q := by
        rw [Nat.or_comm]
        have := Nat.two_pow_add_eq_or_of_lt (i := 7) (b := q) (by omega) 1
        simpa using this.symm
      rw [BitVec.toNat_or, h1, show (BitVec.ofInt 8 (((1 : Nat) : Int) * 128)).toNat = 128 from by decide, h3, IntKind.wrap_u8]
      omega
  obtain ⟨rs, hrs⟩ : ∃ r, r = by8.set 31 ((q + 128 * (X % 2) : Nat) : Int) := ⟨_, rfl⟩
  rw [← hrs]
  have HRL : Hid (rs.length = 32) := Lib.hid (by rw [hrs, List.length_set]; exact HBYL.out)
  have HRS := Lib.hid hrs
  have HOX := Lib.hid hox
  have HOY := Lib.hid hoy
  have HOR := Lib.hid hor
  have HA := Lib.hid ha
  have HG0 := Lib.hid g0
  have HG1 := Lib.hid g1
  have HXE := Lib.hid hX
  have HYE := Lib.hid hY
  obtain ⟨ze, hze⟩ : ∃ zs : List Int, zs = List.replicate 16 0 := ⟨_, rfl⟩
  have HZze : Hid (∀ w, (zeroValue 64).run Tryd.prog w = .ok (.agg (arr .i64 ze)) w) := Lib.hid (by intro w; rw [hze]; exact zero_el w)
  have HLze : Hid (ze.length = 16) := Lib.hid (by rw [hze]; rfl)
  obtain ⟨zn, hzn⟩ : ∃ zs : List Int, zs = List.replicate 32 0 := ⟨_, rfl⟩
  have HZzn : Hid (∀ w, (zeroValue 23).run Tryd.prog w = .ok (.agg (arr .u8 zn)) w) := Lib.hid (by intro w; rw [hzn]; exact zero_num w)
  have HLzn : Hid (zn.length = 32) := Lib.hid (by rw [hzn]; rfl)
  have HS0 := Lib.hid (Blk.two w (arr .i64 ps) (arr .u8 zn) 66 23)
  clear hze hzn hen ht1 hlb heb hox hoy hbx hby hfin hor hrs ha g0 g1 hX hY hYlt
  go_enter Tryd.func31, Tryd.ntmps31
  go_upto_region 1 with (first | ((with_reducible refine aS 2 ?_); refine wpList_alloc_row rfl 23 rfl _ (HZzn.out _) ?_))
  (try simp only [World.size_alloc, Act.put, sA, sZ, sS])
  generalize ((w.alloc (.cells (arr .i64 ps) 66)).alloc (.cells (arr .u8 zn) 23)) = wb at HS0 ⊢
  go_upto_region 2 with (first | ((with_reducible refine aS 7 ?_); refine wpList_load_part rfl 64 _ rfl (w.heap.size) (32) _ 66 (0, 0) _ (HS0.out.get 0 rfl) rfl .i64 mz (HmP.out.2.2.1) Tryd.underlying64 rfl (el_i HmzL.out) ?_) | ((with_reducible show Calls _ 66 #[.agg _] _ _); go_at_call 66; refine (inv_any _ _ _ Hmz.out).mono ?_; rintro e w501 ⟨z501, rfl, h501, hb501⟩; have HZ501 := Lib.hid h501; have HL501 := Lib.hid h501.1; clear h501; have HB501 := Lib.hid (HS0.out.kept hb501); clear hb501) | ((with_reducible refine aS 3 ?_); refine wpList_alloc_row rfl 64 rfl _ (HZze.out _) ?_; have HB502 := Lib.hid (HB501.out.alloc (arr .i64 ze) 64); generalize w501.heap.size = g502 at HB502 ⊢; generalize w501.alloc (.cells (arr .i64 ze) 64) = w502 at HB502 ⊢) | ((with_reducible refine aT 3 (x := (Operand.tmp 8)) ?_); refine wpList_store_whole rfl 64 _ _ rfl (g502) _ _ 64 (HB502.out.get 2 rfl) rfl rfl (arr_len2 _ _ HL501.out HLze.out) (el_s HL501.out) (all_arr _ _) ?_; intro w503 hb503 hk503 hz503; have HB503 := Lib.hid (HB502.out.put 2 rfl hk503 hb503); clear hb503 hk503 hz503))
  go_upto_region 3 with (first | ((with_reducible refine aS 10 ?_); refine wpList_load_part rfl 64 _ rfl (w.heap.size) (0) _ 66 (0, 0) _ (HB503.out.get 0 rfl) rfl .i64 mx (HmP.out.1) Tryd.underlying64 rfl (el_i HmxL.out) ?_) | ((with_reducible refine aS 11 ?_); refine wpList_load_part rfl 64 _ rfl (g502) (0) _ 64 (0, 0) _ (HB503.out.get 2 rfl) rfl .i64 z501 (arr_part _ _) Tryd.underlying64 rfl (el_i HL501.out) ?_) | ((with_reducible show Calls _ 68 #[.agg _, .agg _] _ _); go_at_call 68; refine (mul_any _ _ _ _ _ Hmx.out HZ501.out).mono ?_; rintro e w504 ⟨z504, rfl, h504, hb504⟩; have HZ504 := Lib.hid h504; have HL504 := Lib.hid h504.1; clear h504; have HB504 := Lib.hid (HB503.out.kept hb504); clear hb504) | ((with_reducible show Calls _ 67 #[.agg _] _ _); go_at_call 67; refine (HOX.out _ _ (by rw [HXE.out]; exact HZ504.out)).mono ?_; rintro e w505 ⟨rfl, hb505⟩; have HB505 := Lib.hid (HB504.out.kept hb505); clear hb505) | ((with_reducible refine aS 4 ?_); refine wpList_alloc_row rfl 23 rfl _ (HZzn.out _) ?_; have HB506 := Lib.hid (HB505.out.alloc (arr .u8 zn) 23); generalize w505.heap.size = g506 at HB506 ⊢; generalize w505.alloc (.cells (arr .u8 zn) 23) = w506 at HB506 ⊢) | ((with_reducible refine aT 4 (x := (Operand.tmp 13)) ?_); refine wpList_store_whole rfl 23 _ _ rfl (g506) _ _ 23 (HB506.out.get 3 rfl) rfl rfl (arr_len2 _ _ HBXL.out HLzn.out) (num_s HBXL.out) (all_arr _ _) ?_; intro w507 hb507 hk507 hz507; have HB507 := Lib.hid (HB506.out.put 3 rfl hk507 hb507); clear hb507 hk507 hz507))
  go_upto_region 4 with (first | ((with_reducible refine aS 15 ?_); refine wpList_load_part rfl 64 _ rfl (w.heap.size) (16) _ 66 (0, 0) _ (HB507.out.get 0 rfl) rfl .i64 my (HmP.out.2.1) Tryd.underlying64 rfl (el_i HmyL.out) ?_) | ((with_reducible refine aS 16 ?_); refine wpList_load_part rfl 64 _ rfl (g502) (0) _ 64 (0, 0) _ (HB507.out.get 2 rfl) rfl .i64 z501 (arr_part _ _) Tryd.underlying64 rfl (el_i HL501.out) ?_) | ((with_reducible show Calls _ 68 #[.agg _, .agg _] _ _); go_at_call 68; refine (mul_any _ _ _ _ _ Hmy.out HZ501.out).mono ?_; rintro e w508 ⟨z508, rfl, h508, hb508⟩; have HZ508 := Lib.hid h508; have HL508 := Lib.hid h508.1; clear h508; have HB508 := Lib.hid (HB507.out.kept hb508); clear hb508) | ((with_reducible show Calls _ 67 #[.agg _] _ _); go_at_call 67; refine (HOY.out _ _ (by rw [HYE.out]; exact HZ508.out)).mono ?_; rintro e w509 ⟨rfl, hb509⟩; have HB509 := Lib.hid (HB508.out.kept hb509); clear hb509) | ((with_reducible refine aS 5 ?_); refine wpList_alloc_row rfl 23 rfl _ (HZzn.out _) ?_; have HB510 := Lib.hid (HB509.out.alloc (arr .u8 zn) 23); generalize w509.heap.size = g510 at HB510 ⊢; generalize w509.alloc (.cells (arr .u8 zn) 23) = w510 at HB510 ⊢) | ((with_reducible refine aT 5 (x := (Operand.tmp 18)) ?_); refine wpList_store_whole rfl 23 _ _ rfl (g510) _ _ 23 (HB510.out.get 4 rfl) rfl rfl (arr_len2 _ _ HBYL.out HLzn.out) (num_s HBYL.out) (all_arr _ _) ?_; intro w511 hb511 hk511 hz511; have HB511 := Lib.hid (HB510.out.put 4 rfl hk511 hb511); clear hb511 hk511 hz511))
  have q0 := arr_get' (HB511.out.get 3 rfl) 0 (by rw [HBXL.out]; decide)
  have q1 := arr_get' (HB511.out.get 4 rfl) 31 (by rw [HBYL.out]; decide)
  have q2 := free_blk (HB511.out.get 4 rfl) 31
  rw [HG0.out] at q0
  rw [HG1.out] at q1
  have hb1 := HB511.out.cell 4 rfl 31 (.int .u8 (bits .or .u8 (q : Int) (bits .and .u8 ((X % 256 : Nat) : Int) 1 * 128)))
  have e2 : (arr .u8 by8).setIfInBounds 31 (.int .u8 (bits .or .u8 (q : Int) (bits .and .u8 ((X % 256 : Nat) : Int) 1 * 128))) = arr .u8 rs := by rw [HA.out, HOR.out, arr_set, HRS.out]
  have HB9 := Lib.hid (hb1.cast (l' := [(w.heap.size, arr .i64 ps, 66), (w.heap.size + 1, arr .u8 zn, 23), (g502, (arr .i64 z501), 64), (g506, (arr .u8 bx8), 23), (g510, arr .u8 rs, 23)]) (by rw [← e2]; rfl))
  have hx2 : bits .and .u8 ((X % 256 : Nat) : Int) 1 = 0 ∨ bits .and .u8 ((X % 256 : Nat) : Int) 1 = 1 := by rw [HA.out]; omega
  generalize X % 256 = xq at q0 hx2 HB9
  clear hb1 e2
  go_wp2_with (first | ((with_reducible refine aS 27 ?_); refine wpList_load_part rfl 23 _ rfl (g510) 0 _ 23 (0, 0) _ (HB9.out.get 4 rfl) rfl .u8 rs (arr_part _ _) Tryd.underlying23 rfl (num_i HRL.out) ?_) | ((with_reducible refine aT 2 ?_); refine wpList_store_whole rfl 23 _ _ rfl (w.heap.size + 1) _ _ 23 (HB9.out.get 1 rfl) rfl rfl (arr_len2 _ _ HRL.out HLzn.out) (num_s HRL.out) (all_arr _ _) ?_; intro w10 hb10 hk10 hz10; have HB10 := Lib.hid (HB9.out.put 1 rfl hk10 hb10); clear hb10 hk10 hz10))
  (try simp only [Exit.then])
  refine bodyPost_ret (results_cell_row rfl _ _ (w.heap.size + 1) 23 _ (0, 0) _ rfl (HB10.out.get 1 rfl) Tryd.underlying23 rfl (num_s HRL.out)) rfl ?_
  exact ⟨by rw [HRS.out], HB10.out.below⟩
end Go.Proofs.YtanjhngehfbpbaaDoor.Rd
