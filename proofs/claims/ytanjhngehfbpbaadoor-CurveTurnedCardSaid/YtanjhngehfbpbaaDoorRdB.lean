/- The document's in, one, add, sub: what they answer. Condition: bytes; sixteen digits. -/
import Derived.Test.YtanjhngehfbpbaaDoorRdA
namespace Go.Proofs.YtanjhngehfbpbaaDoor.Rd
open Go.RowKit Lm Fp

theorem byte_at {xs : List Int} (h : ∀ x ∈ xs, 0 ≤ x ∧ x ≤ 255) (i : Nat) : 0 ≤ xs.getD i 0 ∧ xs.getD i 0 ≤ 255 := by
  simp only [List.getD]
  cases e : xs[i]? with
  | none => simp
  | some y => simpa using h y (List.mem_of_getElem? e)
theorem or_pair (x y : Int) (hx : 0 ≤ x ∧ x ≤ 255) (hy : 0 ≤ y ∧ y ≤ 255) : bits .or .i64 x (y * 256) = x + 256 * y := by
  obtain ⟨a, rfl⟩ := Int.eq_ofNat_of_zero_le hx.1
  obtain ⟨b, rfl⟩ := Int.eq_ofNat_of_zero_le hy.1
  have h1 : (BitVec.ofInt 64 (a : Int)).toNat = a := by rw [BitVec.ofInt_natCast, BitVec.toNat_ofNat]; exact Nat.mod_eq_of_lt (by omega)
  have h2 : (BitVec.ofInt 64 ((b : Int) * 256)).toNat = b * 256 := by
    rw [show (b : Int) * 256 = ((b * 256 : Nat) : Int) by omega, BitVec.ofInt_natCast, BitVec.toNat_ofNat]; exact Nat.mod_eq_of_lt (by omega)
  show IntKind.i64.wrap ((BitVec.ofInt 64 (a : Int) ||| BitVec.ofInt 64 ((b : Int) * 256)).toNat : Int) = _
  have h3 : a ||| b * 256 = b * 256 + a := by
    rw [Nat.or_comm, Nat.mul_comm, show (256 : Nat) = 2 ^ 8 by rfl, ← Nat.two_pow_add_eq_or_of_lt (by omega)]
  rw [BitVec.toNat_or, h1, h2, h3, IntKind.wrap_i64]
  omega

set_option maxRecDepth 100000 in
set_option maxHeartbeats 2000000 in
theorem in_code (ns : List Int) (w : World) (hl : ns.length = 32) (hb : ∀ x ∈ ns, 0 ≤ x ∧ x ≤ 255) :
    Calls Tryd.prog 84 #[.agg (arr .u8 ns)] w fun e w' => e = .returned (.agg (arr .i64 (ins ns 16))) ∧ Below w.heap.size w w' := by
  obtain ⟨ze, hze⟩ : ∃ zs : List Int, zs = List.replicate 16 0 := ⟨_, rfl⟩
  have HZze : Hid (∀ w, (zeroValue 64).run Tryd.prog w = .ok (.agg (arr .i64 ze)) w) := Lib.hid (by intro w; rw [hze]; exact zero_el w)
  have HLze : Hid (ze.length = 16) := Lib.hid (by rw [hze]; rfl)
  have hz0 : ze = ins ns 0 := by rw [hze]; exact ins_zero ns
  have HS0 := Lib.hid (Blk.three w (arr .u8 ns) (arr .i64 ze) (arr .i64 ze) 23 64 64)
  have HL := Lib.hid hl
  have HB := Lib.hid hb
  have HZ0 := Lib.hid hz0
  clear hze hl hb hz0
  go_enter Tryd.func84, Tryd.ntmps84
  go_wp2_with (first | ((with_reducible refine aS 2 ?_); refine wpList_alloc_row rfl 64 rfl _ (HZze.out _) ?_) | ((with_reducible refine aS 3 ?_); refine wpList_alloc_row rfl 64 rfl _ (HZze.out _) ?_))
  go_loopw [4] (fun v wr => ∃ i : Nat, i ≤ 16 ∧ v = .int .i64 i ∧ ∃ cs : List Int, cs = ins ns i ∧ Blk w wr [(w.heap.size, arr .u8 ns, 23), (w.heap.size + 1, arr .i64 ze, 64), (w.heap.size + 1 + 1, arr .i64 cs, 64)]) (fun v _ => 16 - (intOf v).toNat)
  case atStart => exact ⟨0, Nat.zero_le _, rfl, _, HZ0.out, HS0.out⟩
  clear HS0 HZ0
  case round =>
  obtain ⟨i, hi, rfl, cs, hcs, hB⟩ := hrel
  have cl : cs.length = 16 := by rw [hcs]; exact tb_len _ _
  by_cases hlt : i < 16
  · have q0 := arr_get' (hB.get 0 rfl) (2 * i) (by rw [HL.out]; omega)
    have q1 := arr_get' (hB.get 0 rfl) (2 * i + 1) (by rw [HL.out]; omega)
    have q3 := free_blk (hB.get 2 rfl) i
    have q4 := arr_get' (hB.get 2 rfl) i (by rw [cl]; exact hlt)
    have b0 := byte_at HB.out (2 * i)
    have b1 := byte_at HB.out (2 * i + 1)
    have st := ins_step ns i
    generalize ns.getD (2 * i) 0 = x at q0 b0 st
    generalize ns.getD (2 * i + 1) 0 = y at q1 b1 st
    have ho := or_pair x y b0 b1
    have hb1 := hB.cell 2 rfl i (.int .i64 (bits .or .i64 x (y * 256)))
    have e2 : (arr .i64 cs).setIfInBounds i (.int .i64 (bits .or .i64 x (y * 256))) = arr .i64 (ins ns (i + 1)) := by rw [ho, arr_set, hcs, st]
    have HB1 := Lib.hid (hb1.cast (l' := [(w.heap.size, arr .u8 ns, 23), (w.heap.size + 1, arr .i64 ze, 64), (w.heap.size + 1 + 1, arr .i64 (ins ns (i + 1)), 64)]) (by rw [← e2]; rfl))
    have n1 : (2 * (i : Int)).toNat = 2 * i := by omega
    have n2 : (2 * (i : Int) + 1).toNat = 2 * i + 1 := by omega
    clear hb1 e2 hcs hB st ho cl
    go_wp2_with fail
    go_region
    go_wp2_with fail
    go_roundw
    case rel => exact ⟨i + 1, by omega, by go_num, _, rfl, HB1.out.drew⟩
    case measure => simp [intOf]; omega
  · obtain rfl : i = 16 := by omega
    have HB2 := Lib.hid hB
    have HOL := Lib.hid cl
    have HRS := Lib.hid hcs
    clear hB cl hcs
    go_wp2_with (first | ((with_reducible refine aS 24 ?_); refine wpList_load_part rfl 64 _ rfl (w.heap.size + 1 + 1) 0 _ 64 (0, 0) _ (HB2.out.get 2 rfl) rfl .i64 cs (arr_part _ _) Tryd.underlying64 rfl (el_i HOL.out) ?_) | ((with_reducible refine aT 2 ?_); refine wpList_store_whole rfl 64 _ _ rfl (w.heap.size + 1) _ _ 64 (HB2.out.get 1 rfl) rfl rfl (arr_len2 _ _ HOL.out HLze.out) (el_s HOL.out) (all_arr _ _) ?_; intro w7 hb7 hk7 hz7; have HB7 := Lib.hid (HB2.out.put 1 rfl hk7 hb7); clear hb7 hk7 hz7))
    (try simp only [Exit.inBlock, Exit.then])
    refine bodyPost_ret (results_cell_row rfl _ _ (w.heap.size + 1) 64 _ (0, 0) _ rfl (HB7.out.get 1 rfl) Tryd.underlying64 rfl (el_s HOL.out)) rfl ?_
    exact ⟨by rw [HRS.out], HB7.out.below⟩

/-- The document's in: of 32 bytes. -/
theorem in_any (ns : List Nat) (w : World) (hl : ns.length = 32) (hb : ∀ n ∈ ns, n < 256) :
    Calls Tryd.prog 84 #[.agg (arr .u8 (nar ns))] w fun e w' => ∃ zs, e = .returned (.agg (arr .i64 zs)) ∧ El zs (val 256 ns % p) ∧ Below w.heap.size w w' :=
  (in_code (nar ns) w (by rw [nar_len, hl]) (by
    intro x hx
    obtain ⟨n, hn, rfl⟩ := List.mem_map.1 hx
    have := hb n hn
    show 0 ≤ (n : Int) ∧ (n : Int) ≤ 255
    omega)).mono fun _ _ h => ⟨_, h.1, ins_el ns hl hb, h.2⟩

set_option maxRecDepth 100000 in
set_option maxHeartbeats 2000000 in
theorem one_any (n : Nat) (w : World) (hn : n ≤ 1048576) :
    Calls Tryd.prog 70 #[.int .i64 n] w fun e w' => ∃ zs, e = .returned (.agg (arr .i64 zs)) ∧ El zs n ∧ Below w.heap.size w w' := by
  obtain ⟨ze, hze⟩ : ∃ zs : List Int, zs = List.replicate 16 0 := ⟨_, rfl⟩
  have HZze : Hid (∀ w, (zeroValue 64).run Tryd.prog w = .ok (.agg (arr .i64 ze)) w) := Lib.hid (by intro w; rw [hze]; exact zero_el w)
  have HLze : Hid (ze.length = 16) := Lib.hid (by rw [hze]; rfl)
  have hE := el_small n hn
  rw [← hze] at hE
  have HS0 := Lib.hid ((Blk.two w (arr .i64 ze) ((arr .i64 ze).setIfInBounds 0 (.int .i64 (n : Int))) 64 64).cast (l' := [(w.heap.size, arr .i64 ze, 64), (w.heap.size + 1, arr .i64 (ze.set 0 (n : Int)), 64)]) (by rw [← arr_set]))
  have HS1 := Lib.hid (Blk.two w (arr .i64 ze) (arr .i64 ze) 64 64)
  have HE := Lib.hid hE
  have q0 := arr_get' (HS1.out.get 1 rfl) 0 (by rw [HLze.out]; decide)
  have q1 := free_blk (HS1.out.get 1 rfl) 0
  obtain ⟨cs, hcs⟩ : ∃ cs, cs = ze.set 0 (n : Int) := ⟨_, rfl⟩
  have HOL : Hid (cs.length = 16) := Lib.hid (by rw [hcs, List.length_set]; exact HLze.out)
  rw [← hcs] at HS0 HE
  clear hze hE hcs HS1
  go_enter Tryd.func70, Tryd.ntmps70
  go_wp2_with (first | ((with_reducible refine aS 2 ?_); refine wpList_alloc_row rfl 64 rfl _ (HZze.out _) ?_) | ((with_reducible refine aS 3 ?_); refine wpList_alloc_row rfl 64 rfl _ (HZze.out _) ?_) | ((with_reducible refine aS 6 ?_); refine wpList_load_part rfl 64 _ rfl (w.heap.size + 1) 0 _ 64 (0, 0) _ (HS0.out.get 1 rfl) rfl .i64 cs (arr_part _ _) Tryd.underlying64 rfl (el_i HOL.out) ?_) | ((with_reducible refine aT 2 ?_); refine wpList_store_whole rfl 64 _ _ rfl (w.heap.size) _ _ 64 (HS0.out.get 0 rfl) rfl rfl (arr_len2 _ _ HOL.out HLze.out) (el_s HOL.out) (all_arr _ _) ?_; intro w7 hb7 hk7 hz7; have HB7 := Lib.hid (HS0.out.put 0 rfl hk7 hb7); clear hb7 hk7 hz7))
  (try simp only [Exit.inBlock, Exit.then])
  refine bodyPost_ret (results_cell_row rfl _ _ (w.heap.size) 64 _ (0, 0) _ rfl (HB7.out.get 0 rfl) Tryd.underlying64 rfl (el_s HOL.out)) rfl ?_
  exact ⟨_, rfl, HE.out, HB7.out.below⟩

def mid_add (xs ys : List Int) (i : Nat) : List Int := tb 16 fun j => if j < i then xs.getD j 0 + ys.getD j 0 else xs.getD j 0
theorem mid_add_zero (xs ys : List Int) (h : xs.length = 16) : mid_add xs ys 0 = xs := by
  refine Eq.trans (tb_congr _ _ _ fun i _ => ?_) (tb_of 16 xs h).symm
  rw [if_neg (by omega)]
theorem mid_add_all (xs ys : List Int) : mid_add xs ys 16 = sumr xs ys := tb_congr _ _ _ fun i hi => by rw [if_pos hi]
theorem mid_add_get (xs ys : List Int) (i : Nat) (h : i < 16) : (mid_add xs ys i).getD i 0 = xs.getD i 0 := by rw [mid_add, tb_get _ _ _ h, if_neg (by omega)]
theorem mid_add_step (xs ys : List Int) (i : Nat) : (mid_add xs ys i).set i (xs.getD i 0 + ys.getD i 0) = mid_add xs ys (i + 1) := by
  rw [mid_add, tb_set]
  refine tb_congr _ _ _ fun j _ => ?_
  by_cases e : j = i
  · subst e; rw [if_pos rfl, if_pos (by omega)]
  · rw [if_neg e]
    by_cases e3 : j < i
    · rw [if_pos e3, if_pos (by omega)]
    · rw [if_neg e3, if_neg (by omega)]

set_option maxRecDepth 100000 in
set_option maxHeartbeats 2000000 in
theorem add_any (xs ys : List Int) (a b : Nat) (w : World) (hx : El xs a) (hy : El ys b) :
    Calls Tryd.prog 87 #[.agg (arr .i64 xs), .agg (arr .i64 ys)] w fun e w' => ∃ zs, e = .returned (.agg (arr .i64 zs)) ∧ El zs (fadd a b) ∧ Below w.heap.size w w' := by
  obtain ⟨ze, hze⟩ : ∃ zs : List Int, zs = List.replicate 16 0 := ⟨_, rfl⟩
  have HZze : Hid (∀ w, (zeroValue 64).run Tryd.prog w = .ok (.agg (arr .i64 ze)) w) := Lib.hid (by intro w; rw [hze]; exact zero_el w)
  have HLze : Hid (ze.length = 16) := Lib.hid (by rw [hze]; rfl)
  have HS0 := Lib.hid (Blk.three w (arr .i64 xs) (arr .i64 ys) (arr .i64 ze) 64 64 64)
  have HX := Lib.hid hx
  have HY := Lib.hid hy
  have HE := Lib.hid (El.add hx hy)
  have HC := Lib.hid (fun w => carry_code (sumr xs ys) w (tb_len _ _) (tb_mem _ _ _ fun i _ => by
    have h1 := getD_bound xs 1048576 hx.2.1 (by decide) i
    have h2 := getD_bound ys 1048576 hy.2.1 (by decide) i
    omega))
  obtain ⟨rs, hrs⟩ : ∃ rs, rs = carry (sumr xs ys) := ⟨_, rfl⟩
  rw [← hrs] at HE HC
  have HRL : Hid (rs.length = 16) := Lib.hid (by rw [hrs]; exact carry_len _)
  obtain ⟨ss, hss⟩ : ∃ ss, ss = sumr xs ys := ⟨_, rfl⟩
  have HSL : Hid (ss.length = 16) := Lib.hid (by rw [hss]; exact tb_len _ _)
  rw [← hss] at HC
  have HSS := Lib.hid hss
  clear hze hx hy hrs hss
  go_enter Tryd.func87, Tryd.ntmps87
  go_wp2_with (first | ((with_reducible refine aS 4 ?_); refine wpList_alloc_row rfl 64 rfl _ (HZze.out _) ?_))
  go_loopw [5] (fun v wr => ∃ i : Nat, i ≤ 16 ∧ v = .int .i64 i ∧ ∃ cs : List Int, cs = mid_add xs ys i ∧ Blk w wr [(w.heap.size, arr .i64 cs, 64), (w.heap.size + 1, arr .i64 ys, 64), (w.heap.size + 1 + 1, arr .i64 ze, 64)]) (fun v _ => 16 - (intOf v).toNat)
  case atStart => exact ⟨0, Nat.zero_le _, rfl, _, (mid_add_zero xs ys HX.out.1).symm, HS0.out⟩
  clear HS0
  case round =>
  obtain ⟨i, hi, rfl, cs, hcs, hB⟩ := hrel
  have cl : cs.length = 16 := by rw [hcs]; exact tb_len _ _
  by_cases hlt : i < 16
  · have q0 := arr_get' (hB.get 0 rfl) i (by rw [cl]; exact hlt)
    have q1 := arr_get' (hB.get 1 rfl) i (by rw [HY.out.1]; exact hlt)
    have q3 := free_blk (hB.get 0 rfl) i
    rw [hcs, mid_add_get xs ys i hlt] at q0
    have b0 := getD_bound xs 1048576 HX.out.2.1 (by decide) i
    have b1 := getD_bound ys 1048576 HY.out.2.1 (by decide) i
    have st := mid_add_step xs ys i
    generalize xs.getD i 0 = x at q0 b0 st
    generalize ys.getD i 0 = y at q1 b1 st
    have hb1 := hB.cell 0 rfl i (.int .i64 (x + y))
    have e2 : (arr .i64 cs).setIfInBounds i (.int .i64 (x + y)) = arr .i64 (mid_add xs ys (i + 1)) := by rw [arr_set, hcs, st]
    have HB1 := Lib.hid (hb1.cast (l' := [(w.heap.size, arr .i64 (mid_add xs ys (i + 1)), 64), (w.heap.size + 1, arr .i64 ys, 64), (w.heap.size + 1 + 1, arr .i64 ze, 64)]) (by rw [← e2]; rfl))
    clear hb1 e2 hcs hB st cl
    go_wp2_with fail
    go_region
    go_wp2_with fail
    go_roundw
    case rel => exact ⟨i + 1, by omega, by go_num, _, rfl, HB1.out.drew⟩
    case measure => simp [intOf]; omega
  · obtain rfl : i = 16 := by omega
    rw [mid_add_all, ← HSS.out] at hcs
    subst hcs
    have HB2 := Lib.hid hB
    clear hB cl
    go_wp2_with (first | ((with_reducible refine aS 19 ?_); refine wpList_load_part rfl 64 _ rfl (w.heap.size) 0 _ 64 (0, 0) _ (HB2.out.get 0 rfl) rfl .i64 cs (arr_part _ _) Tryd.underlying64 rfl (el_i HSL.out) ?_) | ((with_reducible show Calls _ _ #[.agg _] _ _); go_at_call 112; refine (HC.out _).mono ?_; rintro e w6 ⟨rfl, hb6⟩; have HB6 := Lib.hid (HB2.out.kept hb6); clear hb6) | ((with_reducible refine aT 4 ?_); refine wpList_store_whole rfl 64 _ _ rfl (w.heap.size + 1 + 1) _ _ 64 (HB6.out.get 2 rfl) rfl rfl (arr_len2 _ _ HRL.out HLze.out) (el_s HRL.out) (all_arr _ _) ?_; intro w7 hb7 hk7 hz7; have HB7 := Lib.hid (HB6.out.put 2 rfl hk7 hb7); clear hb7 hk7 hz7))
    (try simp only [Exit.inBlock, Exit.then])
    refine bodyPost_ret (results_cell_row rfl _ _ (w.heap.size + 1 + 1) 64 _ (0, 0) _ rfl (HB7.out.get 2 rfl) Tryd.underlying64 rfl (el_s HRL.out)) rfl ?_
    exact ⟨_, rfl, HE.out, HB7.out.below⟩

def mid_sub (xs ys : List Int) (i : Nat) : List Int := tb 16 fun j => if j < i then xs.getD j 0 - ys.getD j 0 else xs.getD j 0
theorem mid_sub_zero (xs ys : List Int) (h : xs.length = 16) : mid_sub xs ys 0 = xs := by
  refine Eq.trans (tb_congr _ _ _ fun i _ => ?_) (tb_of 16 xs h).symm
  rw [if_neg (by omega)]
theorem mid_sub_all (xs ys : List Int) : mid_sub xs ys 16 = difr xs ys := tb_congr _ _ _ fun i hi => by rw [if_pos hi]
theorem mid_sub_get (xs ys : List Int) (i : Nat) (h : i < 16) : (mid_sub xs ys i).getD i 0 = xs.getD i 0 := by rw [mid_sub, tb_get _ _ _ h, if_neg (by omega)]
theorem mid_sub_step (xs ys : List Int) (i : Nat) : (mid_sub xs ys i).set i (xs.getD i 0 - ys.getD i 0) = mid_sub xs ys (i + 1) := by
  rw [mid_sub, tb_set]
  refine tb_congr _ _ _ fun j _ => ?_
  by_cases e : j = i
  · subst e; rw [if_pos rfl, if_pos (by omega)]
  · rw [if_neg e]
    by_cases e3 : j < i
    · rw [if_pos e3, if_pos (by omega)]
    · rw [if_neg e3, if_neg (by omega)]

set_option maxRecDepth 100000 in
set_option maxHeartbeats 2000000 in
theorem sub_any (xs ys : List Int) (a b : Nat) (w : World) (hx : El xs a) (hy : El ys b) :
    Calls Tryd.prog 86 #[.agg (arr .i64 xs), .agg (arr .i64 ys)] w fun e w' => ∃ zs, e = .returned (.agg (arr .i64 zs)) ∧ El zs (fsub a b) ∧ Below w.heap.size w w' := by
  obtain ⟨ze, hze⟩ : ∃ zs : List Int, zs = List.replicate 16 0 := ⟨_, rfl⟩
  have HZze : Hid (∀ w, (zeroValue 64).run Tryd.prog w = .ok (.agg (arr .i64 ze)) w) := Lib.hid (by intro w; rw [hze]; exact zero_el w)
  have HLze : Hid (ze.length = 16) := Lib.hid (by rw [hze]; rfl)
  have HS0 := Lib.hid (Blk.three w (arr .i64 xs) (arr .i64 ys) (arr .i64 ze) 64 64 64)
  have HX := Lib.hid hx
  have HY := Lib.hid hy
  have HE := Lib.hid (El.sub hx hy)
  have HC := Lib.hid (fun w => carry_code (difr xs ys) w (tb_len _ _) (tb_mem _ _ _ fun i _ => by
    have h1 := getD_bound xs 1048576 hx.2.1 (by decide) i
    have h2 := getD_bound ys 1048576 hy.2.1 (by decide) i
    omega))
  obtain ⟨rs, hrs⟩ : ∃ rs, rs = carry (difr xs ys) := ⟨_, rfl⟩
  rw [← hrs] at HE HC
  have HRL : Hid (rs.length = 16) := Lib.hid (by rw [hrs]; exact carry_len _)
  obtain ⟨ss, hss⟩ : ∃ ss, ss = difr xs ys := ⟨_, rfl⟩
  have HSL : Hid (ss.length = 16) := Lib.hid (by rw [hss]; exact tb_len _ _)
  rw [← hss] at HC
  have HSS := Lib.hid hss
  clear hze hx hy hrs hss
  go_enter Tryd.func86, Tryd.ntmps86
  go_wp2_with (first | ((with_reducible refine aS 4 ?_); refine wpList_alloc_row rfl 64 rfl _ (HZze.out _) ?_))
  go_loopw [5] (fun v wr => ∃ i : Nat, i ≤ 16 ∧ v = .int .i64 i ∧ ∃ cs : List Int, cs = mid_sub xs ys i ∧ Blk w wr [(w.heap.size, arr .i64 cs, 64), (w.heap.size + 1, arr .i64 ys, 64), (w.heap.size + 1 + 1, arr .i64 ze, 64)]) (fun v _ => 16 - (intOf v).toNat)
  case atStart => exact ⟨0, Nat.zero_le _, rfl, _, (mid_sub_zero xs ys HX.out.1).symm, HS0.out⟩
  clear HS0
  case round =>
  obtain ⟨i, hi, rfl, cs, hcs, hB⟩ := hrel
  have cl : cs.length = 16 := by rw [hcs]; exact tb_len _ _
  by_cases hlt : i < 16
  · have q0 := arr_get' (hB.get 0 rfl) i (by rw [cl]; exact hlt)
    have q1 := arr_get' (hB.get 1 rfl) i (by rw [HY.out.1]; exact hlt)
    have q3 := free_blk (hB.get 0 rfl) i
    rw [hcs, mid_sub_get xs ys i hlt] at q0
    have b0 := getD_bound xs 1048576 HX.out.2.1 (by decide) i
    have b1 := getD_bound ys 1048576 HY.out.2.1 (by decide) i
    have st := mid_sub_step xs ys i
    generalize xs.getD i 0 = x at q0 b0 st
    generalize ys.getD i 0 = y at q1 b1 st
    have hb1 := hB.cell 0 rfl i (.int .i64 (x - y))
    have e2 : (arr .i64 cs).setIfInBounds i (.int .i64 (x - y)) = arr .i64 (mid_sub xs ys (i + 1)) := by rw [arr_set, hcs, st]
    have HB1 := Lib.hid (hb1.cast (l' := [(w.heap.size, arr .i64 (mid_sub xs ys (i + 1)), 64), (w.heap.size + 1, arr .i64 ys, 64), (w.heap.size + 1 + 1, arr .i64 ze, 64)]) (by rw [← e2]; rfl))
    clear hb1 e2 hcs hB st cl
    go_wp2_with fail
    go_region
    go_wp2_with fail
    go_roundw
    case rel => exact ⟨i + 1, by omega, by go_num, _, rfl, HB1.out.drew⟩
    case measure => simp [intOf]; omega
  · obtain rfl : i = 16 := by omega
    rw [mid_sub_all, ← HSS.out] at hcs
    subst hcs
    have HB2 := Lib.hid hB
    clear hB cl
    go_wp2_with (first | ((with_reducible refine aS 19 ?_); refine wpList_load_part rfl 64 _ rfl (w.heap.size) 0 _ 64 (0, 0) _ (HB2.out.get 0 rfl) rfl .i64 cs (arr_part _ _) Tryd.underlying64 rfl (el_i HSL.out) ?_) | ((with_reducible show Calls _ _ #[.agg _] _ _); go_at_call 112; refine (HC.out _).mono ?_; rintro e w6 ⟨rfl, hb6⟩; have HB6 := Lib.hid (HB2.out.kept hb6); clear hb6) | ((with_reducible refine aT 4 ?_); refine wpList_store_whole rfl 64 _ _ rfl (w.heap.size + 1 + 1) _ _ 64 (HB6.out.get 2 rfl) rfl rfl (arr_len2 _ _ HRL.out HLze.out) (el_s HRL.out) (all_arr _ _) ?_; intro w7 hb7 hk7 hz7; have HB7 := Lib.hid (HB6.out.put 2 rfl hk7 hb7); clear hb7 hk7 hz7))
    (try simp only [Exit.inBlock, Exit.then])
    refine bodyPost_ret (results_cell_row rfl _ _ (w.heap.size + 1 + 1) 64 _ (0, 0) _ rfl (HB7.out.get 2 rfl) Tryd.underlying64 rfl (el_s HRL.out)) rfl ?_
    exact ⟨_, rfl, HE.out, HB7.out.below⟩
end Go.Proofs.YtanjhngehfbpbaaDoor.Rd
