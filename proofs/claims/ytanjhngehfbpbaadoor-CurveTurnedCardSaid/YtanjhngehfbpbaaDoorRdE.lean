/- The document's most, eighth, pow, inv, same: what they answer. Condition: rows that stand for numbers modulo p. -/
import Derived.Test.YtanjhngehfbpbaaDoorRdD
import Derived.Test.YtanjhngehfbpbaaDoorMa
namespace Go.Proofs.YtanjhngehfbpbaaDoor.Rd
open Go.RowKit Lm Fp

def fills (i : Nat) : List Int := tb 32 fun j => if j < i then 255 else 0
theorem fills_zero : List.replicate 32 0 = fills 0 := by decide
theorem fills_step (i : Nat) : (fills i).set i 255 = fills (i + 1) := by
  rw [fills, tb_set]
  refine tb_congr _ _ _ fun j _ => ?_
  by_cases e : j = i
  · subst e; rw [if_pos rfl, if_pos (show j < j + 1 by omega)]
  · rw [if_neg e]
    by_cases e3 : j < i
    · rw [if_pos e3, if_pos (show j < i + 1 by omega)]
    · rw [if_neg e3, if_neg (show ¬ j < i + 1 by omega)]
theorem most_eq : ((fills 32).set 31 127).set 0 235 = nar (dig 256 32 (p - 2)) := by decide +kernel
theorem eighth_eq' : ((fills 32).set 0 254).set 31 15 = nar (dig 256 32 eighth) := by decide +kernel

set_option maxRecDepth 100000 in
set_option maxHeartbeats 2000000 in
theorem most_any (w : World) :
    Calls Tryd.prog 111 #[.int .i64 21] w fun e w' => e = .returned (.agg (arr .u8 (nar (dig 256 32 (p - 2))))) ∧ Below w.heap.size w w' := by
  obtain ⟨zn, hzn⟩ : ∃ zs : List Int, zs = List.replicate 32 0 := ⟨_, rfl⟩
  have HZzn : Hid (∀ w, (zeroValue 23).run Tryd.prog w = .ok (.agg (arr .u8 zn)) w) := Lib.hid (by intro w; rw [hzn]; exact zero_num w)
  have HLzn : Hid (zn.length = 32) := Lib.hid (by rw [hzn]; rfl)
  have HZ0 : Hid (zn = fills 0) := Lib.hid (by rw [hzn]; exact fills_zero)
  have HS0 := Lib.hid (Blk.two w (arr .u8 zn) (arr .u8 zn) 23 23)
  obtain ⟨oa, hoa⟩ : ∃ o, o = nar (dig 256 32 (p - 2)) := ⟨_, rfl⟩
  have HOE := Lib.hid hoa
  have HFE : Hid (((fills 32).set 31 127).set 0 235 = oa) := Lib.hid (by rw [hoa]; exact most_eq)
  have HOL : Hid (oa.length = 32) := Lib.hid (by rw [hoa, nar_len, dig_len])
  clear hzn hoa
  go_enter Tryd.func111, Tryd.ntmps111
  go_wp2_with (first | ((with_reducible refine aS 2 ?_); refine wpList_alloc_row rfl 23 rfl _ (HZzn.out _) ?_) | ((with_reducible refine aS 3 ?_); refine wpList_alloc_row rfl 23 rfl _ (HZzn.out _) ?_))
  go_loopw [4] (fun v wr => ∃ i : Nat, i ≤ 32 ∧ v = .int .i64 i ∧ ∃ os : List Int, os = fills i ∧ Blk w wr [(w.heap.size, arr .u8 zn, 23), (w.heap.size + 1, arr .u8 os, 23)]) (fun v _ => 32 - (intOf v).toNat)
  case atStart => exact ⟨0, Nat.zero_le _, rfl, _, HZ0.out, HS0.out⟩
  clear HS0 HZ0
  case round =>
  obtain ⟨i, hi, rfl, os, hos, hB⟩ := hrel
  have ol : os.length = 32 := by rw [hos]; exact tb_len _ _
  by_cases hlt : i < 32
  · have q0 := arr_get' (hB.get 1 rfl) i (by rw [ol]; exact hlt)
    have q1 := free_blk (hB.get 1 rfl) i
    have hb1 := hB.cell 1 rfl i (.int .u8 255)
    have e2 : (arr .u8 os).setIfInBounds i (.int .u8 255) = arr .u8 (fills (i + 1)) := by rw [arr_set, hos, fills_step]
    have HB1 := Lib.hid (hb1.cast (l' := [(w.heap.size, arr .u8 zn, 23), (w.heap.size + 1, arr .u8 (fills (i + 1)), 23)]) (by rw [← e2]; rfl))
    clear hb1 e2 hos hB ol
    go_wp2_with fail
    go_roundw
    case rel => exact ⟨i + 1, by omega, by go_num, _, rfl, HB1.out⟩
    case measure => simp [intOf]; omega
  · obtain rfl : i = 32 := by omega
    have q0 := arr_get' (hB.get 1 rfl) 31 (by rw [ol]; decide)
    have q1 := free_blk (hB.get 1 rfl) 31
    have q2 := arr_get' (hB.get 1 rfl) 0 (by rw [ol]; decide)
    have q3 := free_blk (hB.get 1 rfl) 0
    have hb1 := (hB.cell 1 rfl 31 (.int .u8 127)).cell 1 rfl 0 (.int .u8 235)
    have e2 : ((arr .u8 os).setIfInBounds 31 (.int .u8 127)).setIfInBounds 0 (.int .u8 235) = arr .u8 oa := by rw [arr_set, arr_set, hos, HFE.out]
    have HB1 := Lib.hid (hb1.cast (l' := [(w.heap.size, arr .u8 zn, 23), (w.heap.size + 1, arr .u8 oa, 23)]) (by rw [← e2]; rfl))
    clear hb1 e2 hos hB ol
    go_wp2_with (first | ((with_reducible refine aS 16 ?_); refine wpList_load_part rfl 23 _ rfl (w.heap.size + 1) 0 _ 23 (0, 0) _ (HB1.out.get 1 rfl) rfl .u8 oa (arr_part _ _) Tryd.underlying23 rfl (num_i HOL.out) ?_) | ((with_reducible refine aT 2 ?_); refine wpList_store_whole rfl 23 _ _ rfl (w.heap.size) _ _ 23 (HB1.out.get 0 rfl) rfl rfl (arr_len2 _ _ HOL.out HLzn.out) (num_s HOL.out) (all_arr _ _) ?_; intro w8 hb8 hk8 hz8; have HB8 := Lib.hid (HB1.out.put 0 rfl hk8 hb8); clear hb8 hk8 hz8))
    (try simp only [Exit.inBlock, Exit.then])
    refine bodyPost_ret (results_cell_row rfl _ _ (w.heap.size) 23 _ (0, 0) _ rfl (HB8.out.get 0 rfl) Tryd.underlying23 rfl (num_s HOL.out)) rfl ?_
    exact ⟨by rw [HOE.out], HB8.out.below⟩

set_option maxRecDepth 100000 in
set_option maxHeartbeats 2000000 in
theorem eighth_any (w : World) :
    Calls Tryd.prog 114 #[] w fun e w' => e = .returned (.agg (arr .u8 (nar (dig 256 32 (eighth))))) ∧ Below w.heap.size w w' := by
  obtain ⟨zn, hzn⟩ : ∃ zs : List Int, zs = List.replicate 32 0 := ⟨_, rfl⟩
  have HZzn : Hid (∀ w, (zeroValue 23).run Tryd.prog w = .ok (.agg (arr .u8 zn)) w) := Lib.hid (by intro w; rw [hzn]; exact zero_num w)
  have HLzn : Hid (zn.length = 32) := Lib.hid (by rw [hzn]; rfl)
  have HZ0 : Hid (zn = fills 0) := Lib.hid (by rw [hzn]; exact fills_zero)
  have HS0 := Lib.hid (Blk.two w (arr .u8 zn) (arr .u8 zn) 23 23)
  obtain ⟨oa, hoa⟩ : ∃ o, o = nar (dig 256 32 (eighth)) := ⟨_, rfl⟩
  have HOE := Lib.hid hoa
  have HFE : Hid (((fills 32).set 0 254).set 31 15 = oa) := Lib.hid (by rw [hoa]; exact eighth_eq')
  have HOL : Hid (oa.length = 32) := Lib.hid (by rw [hoa, nar_len, dig_len])
  clear hzn hoa
  go_enter Tryd.func114, Tryd.ntmps114
  go_wp2_with (first | ((with_reducible refine aS 0 ?_); refine wpList_alloc_row rfl 23 rfl _ (HZzn.out _) ?_) | ((with_reducible refine aS 1 ?_); refine wpList_alloc_row rfl 23 rfl _ (HZzn.out _) ?_))
  go_loopw [2] (fun v wr => ∃ i : Nat, i ≤ 32 ∧ v = .int .i64 i ∧ ∃ os : List Int, os = fills i ∧ Blk w wr [(w.heap.size, arr .u8 zn, 23), (w.heap.size + 1, arr .u8 os, 23)]) (fun v _ => 32 - (intOf v).toNat)
  case atStart => exact ⟨0, Nat.zero_le _, rfl, _, HZ0.out, HS0.out⟩
  clear HS0 HZ0
  case round =>
  obtain ⟨i, hi, rfl, os, hos, hB⟩ := hrel
  have ol : os.length = 32 := by rw [hos]; exact tb_len _ _
  by_cases hlt : i < 32
  · have q0 := arr_get' (hB.get 1 rfl) i (by rw [ol]; exact hlt)
    have q1 := free_blk (hB.get 1 rfl) i
    have hb1 := hB.cell 1 rfl i (.int .u8 255)
    have e2 : (arr .u8 os).setIfInBounds i (.int .u8 255) = arr .u8 (fills (i + 1)) := by rw [arr_set, hos, fills_step]
    have HB1 := Lib.hid (hb1.cast (l' := [(w.heap.size, arr .u8 zn, 23), (w.heap.size + 1, arr .u8 (fills (i + 1)), 23)]) (by rw [← e2]; rfl))
    clear hb1 e2 hos hB ol
    go_wp2_with fail
    go_roundw
    case rel => exact ⟨i + 1, by omega, by go_num, _, rfl, HB1.out⟩
    case measure => simp [intOf]; omega
  · obtain rfl : i = 32 := by omega
    have q0 := arr_get' (hB.get 1 rfl) 0 (by rw [ol]; decide)
    have q1 := free_blk (hB.get 1 rfl) 0
    have q2 := arr_get' (hB.get 1 rfl) 31 (by rw [ol]; decide)
    have q3 := free_blk (hB.get 1 rfl) 31
    have hb1 := (hB.cell 1 rfl 0 (.int .u8 254)).cell 1 rfl 31 (.int .u8 15)
    have e2 : ((arr .u8 os).setIfInBounds 0 (.int .u8 254)).setIfInBounds 31 (.int .u8 15) = arr .u8 oa := by rw [arr_set, arr_set, hos, HFE.out]
    have HB1 := Lib.hid (hb1.cast (l' := [(w.heap.size, arr .u8 zn, 23), (w.heap.size + 1, arr .u8 oa, 23)]) (by rw [← e2]; rfl))
    clear hb1 e2 hos hB ol
    go_wp2_with (first | ((with_reducible refine aS 11 ?_); refine wpList_load_part rfl 23 _ rfl (w.heap.size + 1) 0 _ 23 (0, 0) _ (HB1.out.get 1 rfl) rfl .u8 oa (arr_part _ _) Tryd.underlying23 rfl (num_i HOL.out) ?_) | ((with_reducible refine aT 0 ?_); refine wpList_store_whole rfl 23 _ _ rfl (w.heap.size) _ _ 23 (HB1.out.get 0 rfl) rfl rfl (arr_len2 _ _ HOL.out HLzn.out) (num_s HOL.out) (all_arr _ _) ?_; intro w8 hb8 hk8 hz8; have HB8 := Lib.hid (HB1.out.put 0 rfl hk8 hb8); clear hb8 hk8 hz8))
    (try simp only [Exit.inBlock, Exit.then])
    refine bodyPost_ret (results_cell_row rfl _ _ (w.heap.size) 23 _ (0, 0) _ rfl (HB8.out.get 0 rfl) Tryd.underlying23 rfl (num_s HOL.out)) rfl ?_
    exact ⟨by rw [HOE.out], HB8.out.below⟩

theorem range_kept {T : Nat → Prop} {a b : World} {g o : Nat} {xs : List Value} (h : a.rangeAt g o xs) (k : Kept T a b) (hT : ¬ T g) : b.rangeAt g o xs := fun j v hj => k.cellX (h j v hj) hT
theorem num_beq {a b : Nat} (ha : a < p) (hb : b < p) : (nar (dig 256 32 a) == nar (dig 256 32 b)) = decide (a = b) := by
  have hp : p < 256 ^ 32 := by decide +kernel
  by_cases e : a = b
  · subst e; simp
  · rw [decide_eq_false e, beq_eq_false_iff_ne]
    intro h
    have h1 := val_dig 256 32 a
    have h2 := val_dig 256 32 b
    have h3 : dig 256 32 a = dig 256 32 b := by
      have := congrArg (List.map Int.toNat) h
      have e : ∀ l : List Nat, (nar l).map Int.toNat = l := fun l => by rw [nar, List.map_map]; exact List.map_id l
      rwa [e, e] at this
    rw [h3, h2, Nat.mod_eq_of_lt (by omega), Nat.mod_eq_of_lt (by omega)] at h1
    exact e h1.symm
/-- '==' of two arrays of integers, as an operation. -/
theorem exec_eql_arr {P : Program} {o : Oper} {ev : Operand → Value} {w : World} (t ty : TypeId) (e : TypeId) (x y : Operand) (ho : o.op = .binOp .eql t x y ty) (n : Nat) (k k' : IntKind)
    (ht : P.underlying t = some (.array n e)) (he : P.underlying e = some (.int k')) (hsz : ∀ w, (sizeOf e).run P w = .ok 1 w) (hm : P.eqGuardType P.depth t = false)
    (xs ys : List Int) (hx : ev x = .agg (arr k xs)) (hy : ev y = .agg (arr k ys)) (lx : xs.length = n) (ly : ys.length = n) (b : Bool) (hb : (xs == ys) = b) :
    (execOp ev o).run P w = .ok (.value (.bool b)) w := by
  simp only [execOp, ho, hx, hy, Sem.run_bind, run_eqGuard_agg w .eql t x y _ _ hm, Result.andThen_ok, run_eql_arr w t e n k k' ht he hsz xs ys lx ly, hb]
  rfl
theorem bit_byte (v k : Nat) : v / 256 ^ (k / 8) % 256 / 2 ^ (k % 8) % 2 = v / 2 ^ k % 2 := by
  have e : 2 ^ k = 256 ^ (k / 8) * 2 ^ (k % 8) := by
    rw [show (256 : Nat) = 2 ^ 8 by rfl, ← Nat.pow_mul, ← Nat.pow_add]
    congr 1
    omega
  rw [e, ← Nat.div_div_eq_div_mul]
  generalize v / 256 ^ (k / 8) = y
  have h8 : k % 8 < 8 := Nat.mod_lt _ (by decide)
  generalize k % 8 = s at h8 ⊢
  have hB : (256 : Nat) = 2 ^ s * (2 * 2 ^ (7 - s)) := by
    rw [show (256 : Nat) = 2 ^ 8 by rfl, ← Nat.pow_succ', ← Nat.pow_add]
    congr 1
    omega
  rw [hB, Nat.mod_mul_right_div_self, Nat.mod_mul_right_mod]
theorem and1u (y : Nat) (h : y < 256) : bits .and .u8 (y : Int) 1 = ((y % 2 : Nat) : Int) := by
  have e : y &&& 1 = y % 2 := Nat.and_two_pow_sub_one_eq_mod y 1
  have h1 : (BitVec.ofInt 8 (y : Int)).toNat = y := by rw [BitVec.ofInt_natCast, BitVec.toNat_ofNat]; exact Nat.mod_eq_of_lt (by omega)
  have h2 : (BitVec.ofInt 8 (1 : Int)).toNat = 1 := by decide
  show IntKind.u8.wrap ((BitVec.ofInt 8 (y : Int) &&& BitVec.ofInt 8 (1 : Int)).toNat : Int) = _
  rw [BitVec.toNat_and, h1, h2, e, IntKind.wrap_u8]
  omega
/-- A bit as the code reads it. -/
theorem code_bit (es : List Int) (v k : Nat) (he : es = nar (dig 256 32 v)) (hk : k < 256) : ∃ y : Nat, es.getD (k / 8) 0 = y ∧ y < 256 ∧ bits .and .u8 ((y : Int) / 2 ^ (k % 8)) 1 = ((v / 2 ^ k % 2 : Nat) : Int) := by
  refine ⟨v / 256 ^ (k / 8) % 256, by rw [he, nar_get, dig_get _ _ _ _ (by omega)], Nat.mod_lt _ (by decide), ?_⟩
  have e1 : ((v / 256 ^ (k / 8) % 256 : Nat) : Int) / 2 ^ (k % 8) = ((v / 256 ^ (k / 8) % 256 / 2 ^ (k % 8) : Nat) : Int) := by
    rw [Int.natCast_ediv, Int.natCast_pow]; rfl
  rw [e1, and1u _ (Nat.lt_of_le_of_lt (Nat.div_le_self _ _) (Nat.mod_lt _ (by decide))), bit_byte]

set_option maxRecDepth 100000 in
set_option maxHeartbeats 4000000 in
theorem pow_any (xs : List Int) (a v : Nat) (w : World) (hx : El xs a) :
    Calls Tryd.prog 110 #[.agg (arr .i64 xs), .agg (arr .u8 (nar (dig 256 32 v)))] w fun e w' => ∃ zs, e = .returned (.agg (arr .i64 zs)) ∧ El zs (fpow a v 256) ∧ Below w.heap.size w w' := by
  obtain ⟨ze, hze⟩ : ∃ zs : List Int, zs = List.replicate 16 0 := ⟨_, rfl⟩
  have HZze : Hid (∀ w, (zeroValue 64).run Tryd.prog w = .ok (.agg (arr .i64 ze)) w) := Lib.hid (by intro w; rw [hze]; exact zero_el w)
  have HLze : Hid (ze.length = 16) := Lib.hid (by rw [hze]; rfl)
  obtain ⟨es, hes⟩ : ∃ x, x = nar (dig 256 32 v) := ⟨_, rfl⟩
  rw [← hes]
  have HES := Lib.hid hes
  have HEL : Hid (es.length = 32) := Lib.hid (by rw [hes, nar_len, dig_len])
  have HX := Lib.hid hx
  have HXL := Lib.hid hx.1
  have HS0 := Lib.hid (Blk.three w (arr .i64 xs) (arr .u8 es) (arr .i64 ze) 64 23 64)
  clear hze hes hx
  go_enter Tryd.func110, Tryd.ntmps110
  go_wp2_with (first | ((with_reducible refine aS 4 ?_); refine wpList_alloc_row rfl 64 rfl _ (HZze.out _) ?_) | ((with_reducible show Calls _ _ #[.int _ _] _ _); go_at_call 70; refine (one_any 1 _ (by decide)).mono ?_; rintro e w1 ⟨z1, rfl, h1, hb1⟩; have HZ1 := Lib.hid h1; have HL1 := Lib.hid h1.1; have HB1 := Lib.hid (HS0.out.kept hb1); clear h1 hb1) | ((with_reducible refine aS 5 ?_); refine wpList_alloc_row rfl 64 rfl _ (HZze.out _) ?_; have HB2 := Lib.hid (HB1.out.alloc (arr .i64 ze) 64); generalize w1.heap.size = gx at HB2 ⊢) | ((with_reducible refine aT 5 ?_); refine wpList_store_whole rfl 64 _ _ rfl (gx) _ _ 64 (HB2.out.get 3 rfl) rfl rfl (arr_len2 _ _ HL1.out HLze.out) (el_s HL1.out) (all_arr _ _) ?_; intro w3 hb3 hk3 hz3; have HB3 := Lib.hid (HB2.out.put 3 rfl hk3 hb3); clear hb3 hk3 hz3))
  go_loopw [6] (fun v' wr => ∃ n : Nat, n ≤ 256 ∧ v' = .int .i64 (255 - (n : Int)) ∧ ∃ cs : List Int, El cs (fpow a v n) ∧ Blk w wr [(w.heap.size, arr .i64 xs, 64), (w.heap.size + 1, arr .u8 es, 23), (w.heap.size + 1 + 1, arr .i64 ze, 64), (gx, arr .i64 cs, 64)]) (fun v' _ => (intOf v' + 1).toNat)
  case atStart => exact ⟨0, Nat.zero_le _, rfl, _, HZ1.out, HB3.out⟩
  clear HS0 HB1 HB2 HB3
  case round =>
  obtain ⟨n, hn, rfl, cs, hcs, hB⟩ := hrel
  by_cases hlt : n < 256
  · obtain ⟨i, hi⟩ : ∃ i : Nat, i + n = 255 := ⟨255 - n, by omega⟩
    have hz : (255 : Int) - (n : Int) = (i : Int) := by omega
    have hi2 : i < 256 := by omega
    obtain ⟨y, hy, hy2, hbit⟩ := code_bit es v i HES.out hi2
    have q0 := arr_get' (hB.get 1 rfl) (i / 8) (by rw [HEL.out]; omega)
    rw [hy] at q0
    have hpn := pow_next a v n
    rw [show 255 - n = i by omega] at hpn
    rw [hz]
    have HCS := Lib.hid hcs
    have HCL := Lib.hid hcs.1
    have HB := Lib.hid hB
    have HI := Lib.hid hi
    have HY := Lib.hid hy
    clear hcs hB hy hz hi
    have q9 : 0 ≤ (i : Int) := by omega
    rcases (show v / 2 ^ i % 2 = 0 ∨ v / 2 ^ i % 2 = 1 by omega) with hb | hb
    · rw [hb] at hbit
      rw [if_neg (by omega)] at hpn
      have hbit0 : bits .and .u8 ((y : Int) / 2 ^ (i % 8)) 1 = 0 := hbit
      have HPN := Lib.hid hpn
      clear hpn hb hbit
      go_wp2_with (first | ((with_reducible refine aS 12 ?_); refine wpList_load_part rfl 64 _ rfl (gx) 0 _ 64 (0, 0) _ (HB.out.get 3 rfl) rfl .i64 cs (arr_part _ _) Tryd.underlying64 rfl (el_i HCL.out) ?_) | ((with_reducible refine aS 13 ?_); refine wpList_load_part rfl 64 _ rfl (gx) 0 _ 64 (0, 0) _ (HB.out.get 3 rfl) rfl .i64 cs (arr_part _ _) Tryd.underlying64 rfl (el_i HCL.out) ?_) | ((with_reducible show Calls _ _ #[.agg (arr _ cs), .agg (arr _ cs)] _ _); go_at_call 68; refine (mul_any _ _ _ _ _ HCS.out HCS.out).mono ?_; rintro e w5 ⟨z5, rfl, h5, hb5⟩; have HZ5 := Lib.hid h5; have HL5 := Lib.hid h5.1; have HB5 := Lib.hid (HB.out.kept hb5); clear h5 hb5) | ((with_reducible refine aT 5 ?_); refine wpList_store_whole rfl 64 _ _ rfl (gx) _ _ 64 (HB5.out.get 3 rfl) rfl rfl (arr_len2 _ _ HL5.out HCL.out) (el_s HL5.out) (all_arr _ _) ?_; intro w6 hb6 hk6 hz6; have HB6 := Lib.hid (HB5.out.put 3 rfl hk6 hb6); have q1 := arr_get' (HB6.out.get 1 rfl) (i / 8) (by rw [HEL.out]; omega); rw [HY.out] at q1; clear hb6 hk6 hz6))
      go_roundw
      case rel =>
        have e := HI.out
        exact ⟨n + 1, by omega, by congr 1; omega, _, by rw [HPN.out]; exact HZ5.out, HB6.out⟩
      case measure => simp [intOf]
    · rw [if_pos hb] at hpn
      rw [hb] at hbit
      have hbit1 : bits .and .u8 ((y : Int) / 2 ^ (i % 8)) 1 = 1 := hbit
      have HPN := Lib.hid hpn
      clear hpn hb hbit
      go_wp2_with (first | ((with_reducible refine aS 12 ?_); refine wpList_load_part rfl 64 _ rfl (gx) 0 _ 64 (0, 0) _ (HB.out.get 3 rfl) rfl .i64 cs (arr_part _ _) Tryd.underlying64 rfl (el_i HCL.out) ?_) | ((with_reducible refine aS 13 ?_); refine wpList_load_part rfl 64 _ rfl (gx) 0 _ 64 (0, 0) _ (HB.out.get 3 rfl) rfl .i64 cs (arr_part _ _) Tryd.underlying64 rfl (el_i HCL.out) ?_) | ((with_reducible show Calls _ _ #[.agg (arr _ cs), .agg (arr _ cs)] _ _); go_at_call 68; refine (mul_any _ _ _ _ _ HCS.out HCS.out).mono ?_; rintro e w5 ⟨z5, rfl, h5, hb5⟩; have HZ5 := Lib.hid h5; have HL5 := Lib.hid h5.1; have HB5 := Lib.hid (HB.out.kept hb5); clear h5 hb5) | (with_reducible refine aT 5 (x := (Operand.tmp 14)) ?_); ((with_reducible refine aT 5 ?_); refine wpList_store_whole rfl 64 _ _ rfl (gx) _ _ 64 (HB5.out.get 3 rfl) rfl rfl (arr_len2 _ _ HL5.out HCL.out) (el_s HL5.out) (all_arr _ _) ?_; intro w6 hb6 hk6 hz6; have HB6 := Lib.hid (HB5.out.put 3 rfl hk6 hb6); have q1 := arr_get' (HB6.out.get 1 rfl) (i / 8) (by rw [HEL.out]; omega); rw [HY.out] at q1; clear hb6 hk6 hz6) | ((with_reducible refine aS 25 ?_); refine wpList_load_part rfl 64 _ rfl (gx) 0 _ 64 (0, 0) _ (HB6.out.get 3 rfl) rfl .i64 z5 (arr_part _ _) Tryd.underlying64 rfl (el_i HL5.out) ?_) | ((with_reducible refine aS 26 ?_); refine wpList_load_part rfl 64 _ rfl (w.heap.size) 0 _ 64 (0, 0) _ (HB6.out.get 0 rfl) rfl .i64 xs (arr_part _ _) Tryd.underlying64 rfl (el_i HXL.out) ?_) | ((with_reducible show Calls _ _ #[.agg (arr _ z5), .agg (arr _ xs)] _ _); go_at_call 68; refine (mul_any _ _ _ _ _ HZ5.out HX.out).mono ?_; rintro e w7 ⟨z7, rfl, h7, hb7⟩; have HZ7 := Lib.hid h7; have HL7 := Lib.hid h7.1; have HB7 := Lib.hid (HB6.out.kept hb7); clear h7 hb7) | (with_reducible refine aT 5 (x := (Operand.tmp 27)) ?_); ((with_reducible refine aT 5 ?_); refine wpList_store_whole rfl 64 _ _ rfl (gx) _ _ 64 (HB7.out.get 3 rfl) rfl rfl (arr_len2 _ _ HL7.out HL5.out) (el_s HL7.out) (all_arr _ _) ?_; intro w8 hb8 hk8 hz8; have HB8 := Lib.hid (HB7.out.put 3 rfl hk8 hb8); clear hb8 hk8 hz8))
      go_roundw
      case rel =>
        have e := HI.out
        exact ⟨n + 1, by omega, by congr 1; omega, _, by rw [HPN.out]; exact HZ7.out, HB8.out⟩
      case measure => simp [intOf]
  · obtain rfl : n = 256 := by omega
    have hz : (255 : Int) - ((256 : Nat) : Int) = -1 := by omega
    rw [hz]
    have HCS := Lib.hid hcs
    have HCL := Lib.hid hcs.1
    have HB := Lib.hid hB
    clear hcs hB hz
    go_wp2_with (first | ((with_reducible refine aS 28 ?_); refine wpList_load_part rfl 64 _ rfl (gx) 0 _ 64 (0, 0) _ (HB.out.get 3 rfl) rfl .i64 cs (arr_part _ _) Tryd.underlying64 rfl (el_i HCL.out) ?_) | ((with_reducible refine aT 4 ?_); refine wpList_store_whole rfl 64 _ _ rfl (w.heap.size + 1 + 1) _ _ 64 (HB.out.get 2 rfl) rfl rfl (arr_len2 _ _ HCL.out HLze.out) (el_s HCL.out) (all_arr _ _) ?_; intro w8 hb8 hk8 hz8; have HB8 := Lib.hid (HB.out.put 2 rfl hk8 hb8); clear hb8 hk8 hz8))
    (try simp only [Exit.inBlock, Exit.then])
    refine bodyPost_ret (results_cell_row rfl _ _ (w.heap.size + 1 + 1) 64 _ (0, 0) _ rfl (HB8.out.get 2 rfl) Tryd.underlying64 rfl (el_s HCL.out)) rfl ?_
    exact ⟨_, rfl, HCS.out, HB8.out.below⟩

set_option maxRecDepth 100000 in
set_option maxHeartbeats 2000000 in
/-- The inverse by the power. -/
theorem inv_any (xs : List Int) (a : Nat) (w : World) (hx : El xs a) :
    Calls Tryd.prog 66 #[.agg (arr .i64 xs)] w fun e w' => ∃ zs, e = .returned (.agg (arr .i64 zs)) ∧ El zs (finv a) ∧ Below w.heap.size w w' := by
  have hm := most_any
  have hp := fun w => pow_any xs a (p - 2) w hx
  obtain ⟨es, hes⟩ : ∃ x, x = nar (dig 256 32 (p - 2)) := ⟨_, rfl⟩
  rw [← hes] at hm hp
  obtain ⟨ze, hze⟩ : ∃ zs : List Int, zs = List.replicate 16 0 := ⟨_, rfl⟩
  have HZze : Hid (∀ w, (zeroValue 64).run Tryd.prog w = .ok (.agg (arr .i64 ze)) w) := Lib.hid (by intro w; rw [hze]; exact zero_el w)
  have HLze : Hid (ze.length = 16) := Lib.hid (by rw [hze]; rfl)
  have HM := Lib.hid hm
  have HP := Lib.hid hp
  have HXL := Lib.hid hx.1
  have HS0 := Lib.hid (Blk.two w (arr .i64 xs) (arr .i64 ze) 64 64)
  clear hze hes hx hm hp
  go_enter Tryd.func66, Tryd.ntmps66
  go_upto_region 1 with (first | ((with_reducible refine aS 2 ?_); refine wpList_alloc_row rfl 64 rfl _ (HZze.out _) ?_))
  generalize ((w.alloc (.cells (arr .i64 xs) 64)).alloc (.cells (arr .i64 ze) 64)) = wb at HS0 ⊢
  have HK0 := Lib.hid ((Kept.refl (fun x => x = w.heap.size + 1) wb).drew)
  have HBd := Lib.hid (HS0.out.drew)
  refine wp_region_held_drew (S := (fun w' => Kept (fun x => x = w.heap.size + 1) wb w')) (by kernel_rfl) (HK0.out) (fun hHeld => ?_)
  generalize wb.drew = wd at HK0 HBd hHeld ⊢
  refine' wpAnyH_take (i := 0) (oi := (⟨some 3, _, _, _, _, none⟩ : Oper)) (v := _) rfl (by kernel_rfl) (by kernel_rfl) (by kernel_rfl) (fun _ _ _ h => h) (yieldsIf_load_mid (by rfl) _ _ rfl _ _ rfl (xs.map (Value.int .i64)) _ ?hS101 Tryd.underlying64 rfl (by rw [List.length_map]; exact el_i HXL.out)) (by assumption) ?rest101
  case hS101 => (intro w hSw; (try dsimp only at hSw); exact range_part (hSw.blk (HS0.out.get 0 rfl) (HS0.out.ne 0 1 rfl rfl (by decide))) 0 _ (by rw [List.length_map]; exact arr_part _ _))
  (try simp only [Act.put, sA, sZ, sS])
  refine wpAnyH_ready (rs := [1]) (by kernel_rfl) (by simp) ?_
  refine AllReadyH.cons (o := (⟨some 4, _, _, _, _, none⟩ : Oper)) rfl (fun K hK => ?_) AllReadyH.nil
  go_simp
  go_at_call 111
  refine (HM.out _).mono ?_
  rintro e w102 ⟨rfl, hb102⟩
  have HB102 := Lib.hid (HBd.out.kept hb102)
  have HK102 := Lib.hid (HK0.out.trans (Kept.of_below hb102))
  clear hb102
  (try dsimp only)
  refine hK.out _ _ (HK102.out) (fun hHeld => ?_)
  clear hK K
  (try simp only [Act.put, sA, sZ, sS])
  refine wpAnyH_ready (rs := [2]) (by kernel_rfl) (by simp) ?_
  refine AllReadyH.cons (o := (⟨some 5, _, _, _, _, none⟩ : Oper)) rfl (fun K hK => ?_) AllReadyH.nil
  go_simp
  go_at_call 110
  refine (HP.out _).mono ?_
  rintro e w103 ⟨z103, rfl, h103, hb103⟩
  have HZ103 := Lib.hid h103
  have HL103 := Lib.hid h103.1
  clear h103
  have HB103 := Lib.hid (HB102.out.kept hb103)
  have HK103 := Lib.hid (HK102.out.trans (Kept.of_below hb103))
  clear hb103
  (try dsimp only)
  refine hK.out _ _ (HK103.out) (fun hHeld => ?_)
  clear hK K
  (try simp only [Act.put, sA, sZ, sS])
  refine wpAnyH_ready (rs := [3]) (by kernel_rfl) (by simp) ?_
  refine AllReadyH.cons (o := (⟨none, _, _, _, _, none⟩ : Oper)) rfl (fun K hK => ?_) AllReadyH.nil
  refine step_store_whole rfl 64 (.tmp 2) (.tmp 5) rfl (w.heap.size + 1) _ _ _ (HB103.out.get 1 rfl) rfl rfl (arr_len2 _ _ HL103.out HLze.out) (el_s HL103.out) (all_arr _ _) ?_
  intro w104 hb104 hk104 hz104
  have HB104 := Lib.hid (HB103.out.put 1 rfl hk104 hb104)
  have HK104 := Lib.hid (HK103.out.trans hk104)
  clear hb104 hk104 hz104
  refine hK.out _ _ (HK104.out) (fun hHeld => ?_)
  clear hK K
  (try simp only [Act.put])
  refine wpAnyH_done (by kernel_rfl) ?_ _
  have HBF := HB104
  have HLF := HL103
  have HZF := HZ103
  (try simp only [Exit.then])
  go_wp2_with fail
  refine bodyPost_ret (results_cell_row rfl _ _ (w.heap.size + 1) 64 _ (0, 0) _ rfl (HBF.out.get 1 rfl) Tryd.underlying64 rfl (el_s HLF.out)) rfl ?_
  exact ⟨_, rfl, HZF.out, HBF.out.below⟩

set_option maxRecDepth 100000 in
set_option maxHeartbeats 2000000 in
theorem same_any (xs ys : List Int) (a b : Nat) (w : World) (hx : El xs a) (hy : El ys b) :
    Calls Tryd.prog 115 #[.agg (arr .i64 xs), .agg (arr .i64 ys)] w fun e w' => e = .returned (.bool (decide (a = b))) ∧ Below w.heap.size w w' := by
  have HX := Lib.hid hx
  have HY := Lib.hid hy
  have HXL := Lib.hid hx.1
  have HYL := Lib.hid hy.1
  have hoa := fun w => out_any xs a w hx
  have hob := fun w => out_any ys b w hy
  have heq : (nar (dig 256 32 a) == nar (dig 256 32 b)) = decide (a = b) := num_beq hx.lt hy.lt
  obtain ⟨oa, ha⟩ : ∃ o, o = nar (dig 256 32 a) := ⟨_, rfl⟩
  obtain ⟨ob, hb⟩ : ∃ o, o = nar (dig 256 32 b) := ⟨_, rfl⟩
  rw [← ha] at hoa heq
  rw [← hb] at hob heq
  have HOA := Lib.hid hoa
  have HOB := Lib.hid hob
  have HEQ := Lib.hid heq
  have HAL : Hid (oa.length = 32) := Lib.hid (by rw [ha, nar_len, dig_len])
  have HBL : Hid (ob.length = 32) := Lib.hid (by rw [hb, nar_len, dig_len])
  have HS0 := Lib.hid (Blk.two w (arr .i64 xs) (arr .i64 ys) 64 64)
  clear hx hy hoa hob heq ha hb
  go_enter Tryd.func115, Tryd.ntmps115
  go_upto_region 1 with fail
  generalize ((w.alloc (.cells (arr .i64 xs) 64)).alloc (.cells (arr .i64 ys) 64)) = wb at HS0 ⊢
  have HK0 := Lib.hid ((Kept.refl (fun _ => False) wb).drew)
  have HBd := Lib.hid (HS0.out.drew)
  refine wp_region_held_drew (S := (fun w' => Kept (fun _ => False) wb w')) (by kernel_rfl) (HK0.out) (fun hHeld => ?_)
  generalize wb.drew = wd at HK0 HBd hHeld ⊢
  refine' wpAnyH_take (i := 0) (oi := (⟨some 5, _, _, _, _, none⟩ : Oper)) (v := _) rfl (by kernel_rfl) (by kernel_rfl) (by kernel_rfl) (fun _ _ _ h => h) (yieldsIf_load_mid (by rfl) _ _ rfl _ _ rfl (xs.map (Value.int .i64)) _ ?hS105 Tryd.underlying64 rfl (by rw [List.length_map]; exact el_i HXL.out)) (by assumption) ?rest105
  case hS105 => (intro w hSw; (try dsimp only at hSw); exact range_part (hSw.blk (HS0.out.get 0 rfl) (fun e => e.elim)) 0 _ (by rw [List.length_map]; exact arr_part _ _))
  (try simp only [Act.put, sA, sZ, sS])
  refine' wpAnyH_take (i := 2) (oi := (⟨some 7, _, _, _, _, none⟩ : Oper)) (v := _) rfl (by kernel_rfl) (by kernel_rfl) (by kernel_rfl) (fun _ _ _ h => h) (yieldsIf_load_mid (by rfl) _ _ rfl _ _ rfl (ys.map (Value.int .i64)) _ ?hS106 Tryd.underlying64 rfl (by rw [List.length_map]; exact el_i HYL.out)) (by assumption) ?rest106
  case hS106 => (intro w hSw; (try dsimp only at hSw); exact range_part (hSw.blk (HS0.out.get 1 rfl) (fun e => e.elim)) 0 _ (by rw [List.length_map]; exact arr_part _ _))
  (try simp only [Act.put, sA, sZ, sS])
  refine wpAnyH_ready (rs := [1]) (by kernel_rfl) (by simp) ?_
  refine AllReadyH.cons (o := (⟨some 6, _, _, _, _, none⟩ : Oper)) rfl (fun K hK => ?_) AllReadyH.nil
  go_simp
  go_at_call 67
  refine (HOA.out _).mono ?_
  rintro e w107 ⟨rfl, hb107⟩
  have HB107 := Lib.hid (HBd.out.kept hb107)
  have HK107 := Lib.hid (HK0.out.trans (Kept.of_below hb107))
  clear hb107
  (try dsimp only)
  refine hK.out _ _ (HK107.out) (fun hHeld => ?_)
  clear hK K
  (try simp only [Act.put, sA, sZ, sS])
  refine wpAnyH_ready (rs := [3]) (by kernel_rfl) (by simp) ?_
  refine AllReadyH.cons (o := (⟨some 8, _, _, _, _, none⟩ : Oper)) rfl (fun K hK => ?_) AllReadyH.nil
  go_simp
  go_at_call 67
  refine (HOB.out _).mono ?_
  rintro e w108 ⟨rfl, hb108⟩
  have HB108 := Lib.hid (HB107.out.kept hb108)
  have HK108 := Lib.hid (HK107.out.trans (Kept.of_below hb108))
  clear hb108
  (try dsimp only)
  refine hK.out _ _ (HK108.out) (fun hHeld => ?_)
  clear hK K
  (try simp only [Act.put, sA, sZ, sS])
  refine wpAnyH_take (i := 4) (oi := (⟨some 9, _, _, _, _, none⟩ : Oper)) (v := (.bool (decide (a = b)))) rfl (by kernel_rfl) (by kernel_rfl) (by kernel_rfl) (fun _ _ _ h => h) (Or.inl ⟨by rfl, ?hy109⟩) (by assumption) ?rest109
  case hy109 => (intro w hSw; (try dsimp only at hSw); exact exec_eql_arr 23 _ _ (.tmp 6) (.tmp 8) rfl 32 .u8 .u8 Tryd.underlying23 Tryd.underlying5 (fun w => by kernel_rfl) (by kernel_rfl) oa ob rfl rfl HAL.out HBL.out _ HEQ.out)
  (try simp only [Act.put, sA, sZ, sS])
  refine wpAnyH_take (i := 5) (oi := (⟨some 4, _, _, _, _, none⟩ : Oper)) (v := ?v110) rfl (by kernel_rfl) (by kernel_rfl) (by kernel_rfl) (fun _ _ _ h => h) (Or.inl ⟨by rfl, ?hy110⟩) (by assumption) ?rest110
  case hy110 => (intro w hSw; (try dsimp only at hSw); go_simp; try (with_reducible rfl))
  (try simp only [Act.put, sA, sZ, sS])
  refine wpAnyH_done (by kernel_rfl) ?_ _
  have HBF := HB108
  (try simp only [Exit.then])
  go_wp2_with fail
  go_ret
  exact ⟨rfl, HBF.out.below⟩
end Go.Proofs.YtanjhngehfbpbaaDoor.Rd
