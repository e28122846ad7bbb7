/- field.prime, Lessen, fold, Plus, Minus: what they answer. Condition: numbers below 2^256; for Minus below p. field.Lessen, fold, Plus, Minus: what they answer. Condition: numbers below 2^256; for Minus below p. field.fold, Plus, Minus: what they answer. Condition: numbers below 2^256; for Minus below p. field.Times: what it answers. Condition: numbers below 2^256. limb.Bit, Less and field.Power, Inverse: what they answer. Condition: numbers below 2^256. field.Square: what it answers. Condition: a number below 2^256. limb.Pick: what it answers. Condition: a bit. -/
import Derived.Test.YtanjhngehfbpbaaDoorMa
import Derived.Test.YtanjhngehfbpbaaDoorFdP
namespace Go.Proofs.YtanjhngehfbpbaaDoor.Fp
open Go.RowKit Lm

theorem zero_lim (w : World) : (zeroValue 56).run Tryd.prog w = .ok (.agg (arr .u64 (List.replicate 4 0))) w := by kernel_rfl
theorem size_lim : (Tryd.prog.info? 56).map (·.size) = some 4 := by kernel_rfl
theorem lim_s {xs : List Int} (h : xs.length = 4) : (Tryd.prog.info? 56).map (·.size) = some (arr .u64 xs).size := by rw [arr_size, h]; exact size_lim
theorem lim_i {xs : List Int} (h : xs.length = 4) : (Tryd.prog.info? 56).map (·.size) = some xs.length := by rw [h]; exact size_lim
/-- The limbs xs are the number a. -/
def N4 (xs : List Int) (a : Nat) : Prop := xs = nar (dig 18446744073709551616 4 a) ∧ a < 18446744073709551616 ^ 4
theorem N4.len {xs : List Int} {a : Nat} (h : N4 xs a) : xs.length = 4 := by rw [h.1, nar_len, dig_len]
theorem N4.cast {xs : List Int} {a b : Nat} (h : N4 xs a) (e : a = b) : N4 xs b := e ▸ h
theorem N4.inj {xs ys : List Int} {a b : Nat} (hx : N4 xs a) (hy : N4 ys b) : (xs == ys) = decide (a = b) := by
  obtain ⟨rfl, h1⟩ := hx
  obtain ⟨rfl, h2⟩ := hy
  by_cases e : a = b
  · subst e; simp
  · rw [decide_eq_false e, beq_eq_false_iff_ne]
    intro h
    have h3 : dig 18446744073709551616 4 a = dig 18446744073709551616 4 b := by
      have := congrArg (List.map Int.toNat) h
      have e : ∀ l : List Nat, (nar l).map Int.toNat = l := fun l => by rw [nar, List.map_map]; exact List.map_id l
      rwa [e, e] at this
    have h4 := congrArg (val 18446744073709551616) h3
    rw [val_dig, val_dig, Nat.mod_eq_of_lt h1, Nat.mod_eq_of_lt h2] at h4
    exact e h4
theorem vd (a : Nat) (h : a < 18446744073709551616 ^ 4) : val 18446744073709551616 (dig 18446744073709551616 4 a) = a := by rw [val_dig, Nat.mod_eq_of_lt h]
theorem n4_of (a : Nat) (h : a < 18446744073709551616 ^ 4) : N4 (nar (dig 18446744073709551616 4 a)) a := ⟨rfl, h⟩
theorem T_pos : 0 < 18446744073709551616 ^ 4 := by decide
/-- What is borrowed. -/
def brw (a b : Nat) : Nat := if a < b then 1 else 0
theorem brw_yes {a b : Nat} (h : a < b) : brw a b = 1 := if_pos h
theorem brw_no {a b : Nat} (h : ¬ a < b) : brw a b = 0 := if_neg h
/-- What is carried. -/
def cry (a b : Nat) : Nat := (a + b) / 18446744073709551616 ^ 4
theorem ladd4 {xs ys : List Int} (a b : Nat) (w : World) (hx : N4 xs a) (hy : N4 ys b) :
    Calls Tryd.prog 77 #[.agg (arr .u64 xs), .agg (arr .u64 ys)] w fun e w' => ∃ zs, e = .returned (.tuple #[.agg (arr .u64 zs), .int .u64 ((cry a b : Nat) : Int)]) ∧ N4 zs ((a + b) % 18446744073709551616 ^ 4) ∧ Below w.heap.size w w' := by
  obtain ⟨rfl, h1⟩ := hx
  obtain ⟨rfl, h2⟩ := hy
  refine (ladd_any _ _ w (dig_len _ _ _) (dig_len _ _ _) (dig_lt _ (by decide) _ _) (dig_lt _ (by decide) _ _)).mono ?_
  rintro e w' ⟨rfl, hb⟩
  rw [vd a h1, vd b h2]
  exact ⟨_, rfl, n4_of _ (Nat.mod_lt _ T_pos), hb⟩
theorem lsub4 {xs ys : List Int} (a b : Nat) (w : World) (hx : N4 xs a) (hy : N4 ys b) :
    Calls Tryd.prog 106 #[.agg (arr .u64 xs), .agg (arr .u64 ys)] w fun e w' => ∃ zs, e = .returned (.tuple #[.agg (arr .u64 zs), .int .u64 ((brw a b : Nat) : Int)]) ∧ N4 zs ((a + 18446744073709551616 ^ 4 - b) % 18446744073709551616 ^ 4) ∧ Below w.heap.size w w' := by
  obtain ⟨rfl, h1⟩ := hx
  obtain ⟨rfl, h2⟩ := hy
  refine (lsub_any _ _ w (dig_len _ _ _) (dig_len _ _ _) (dig_lt _ (by decide) _ _) (dig_lt _ (by decide) _ _)).mono ?_
  rintro e w' ⟨rfl, hb⟩
  rw [vd a h1, vd b h2]
  exact ⟨_, rfl, n4_of _ (Nat.mod_lt _ T_pos), hb⟩

set_option maxRecDepth 100000 in
set_option maxHeartbeats 2000000 in
theorem prime_any (w : World) : Calls Tryd.prog 105 #[] w fun e w' => ∃ zs, e = .returned (.agg (arr .u64 zs)) ∧ N4 zs p ∧ Below w.heap.size w w' := by
  have hn := n4_of p p_lt
  obtain ⟨ps, hps⟩ : ∃ x, x = nar (dig 18446744073709551616 4 p) := ⟨_, rfl⟩
  rw [← hps] at hn
  have HBL : Hid (∀ w, (Instr.build 56 #[(0, .int .u64 18446744073709551597), (1, .int .u64 18446744073709551615), (2, .int .u64 18446744073709551615), (3, .int .u64 9223372036854775807)]).run Tryd.prog w = .ok (.agg (arr .u64 ps)) w) := Lib.hid (fun w => by rw [hps]; kernel_rfl)
  have HPL := Lib.hid hn.len
  have HN := Lib.hid hn
  obtain ⟨zl, hzl⟩ : ∃ zs : List Int, zs = List.replicate 4 0 := ⟨_, rfl⟩
  have HZzl : Hid (∀ w, (zeroValue 56).run Tryd.prog w = .ok (.agg (arr .u64 zl)) w) := Lib.hid (by intro w; rw [hzl]; exact zero_lim w)
  have HLzl : Hid (zl.length = 4) := Lib.hid (by rw [hzl]; rfl)
  have HS0 := Lib.hid (Blk.one w (arr .u64 zl) 56)
  clear hzl hps hn
  go_enter Tryd.func105, Tryd.ntmps105
  go_wp2_with (first | ((with_reducible refine aS 0 ?_); refine wpList_alloc_row rfl 56 rfl _ (HZzl.out _) ?_) | ((with_reducible refine aS 1 ?_); refine wpList_build (by rfl) 56 _ rfl #[(0, .int .u64 18446744073709551597), (1, .int .u64 18446744073709551615), (2, .int .u64 18446744073709551615), (3, .int .u64 9223372036854775807)] rfl _ (HBL.out _) ?_) | ((with_reducible refine aT 0 ?_); refine wpList_store_whole rfl 56 _ _ rfl (w.heap.size) _ _ 56 (HS0.out.get 0 rfl) rfl rfl (arr_len2 _ _ HPL.out HLzl.out) (lim_s HPL.out) (all_arr _ _) ?_; intro w1 hb1 hk1 hz1; have HB1 := Lib.hid (HS0.out.put 0 rfl hk1 hb1); clear hb1 hk1 hz1))
  (try simp only [Exit.then])
  refine bodyPost_ret (results_cell_row rfl _ _ (w.heap.size) 56 _ (0, 0) _ rfl (HB1.out.get 0 rfl) Tryd.underlying56 rfl (lim_s HPL.out)) rfl ?_
  exact ⟨_, rfl, HN.out, HB1.out.below⟩
end Go.Proofs.YtanjhngehfbpbaaDoor.Fp
namespace Go.Proofs.YtanjhngehfbpbaaDoor.Fp
open Go.RowKit Lm

def itl (a : Nat) : Nat → Nat
  | 0 => a
  | k + 1 => less1 (itl a k)
theorem itl_lt (a : Nat) (h : a < 18446744073709551616 ^ 4) : ∀ k, itl a k < 18446744073709551616 ^ 4
  | 0 => h
  | k + 1 => by
    have := itl_lt a h k
    unfold itl less1
    split <;> omega
theorem itl_two (a : Nat) (h : a < 18446744073709551616 ^ 4) : itl a 2 = a % p := lessen_eq a h
theorem sub_big (y : Nat) (hy : y < 18446744073709551616 ^ 4) (h : ¬ y < p) : (y + 18446744073709551616 ^ 4 - p) % 18446744073709551616 ^ 4 = y - p := by
  have := p_lt
  rw [show y + 18446744073709551616 ^ 4 - p = y - p + 18446744073709551616 ^ 4 by omega, Nat.add_mod_right, Nat.mod_eq_of_lt (by omega)]
theorem p_mod_lt (a : Nat) : a % p < 18446744073709551616 ^ 4 := Nat.lt_trans (Nat.mod_lt _ p_pos) p_lt

set_option maxRecDepth 100000 in
set_option maxHeartbeats 4000000 in
theorem lessen_any {xs : List Int} (a : Nat) (w : World) (hx : N4 xs a) : Calls Tryd.prog 71 #[.agg (arr .u64 xs)] w fun e w' => ∃ zs, e = .returned (.agg (arr .u64 zs)) ∧ N4 zs (a % p) ∧ Below w.heap.size w w' := by
  obtain ⟨zl, hzl⟩ : ∃ zs : List Int, zs = List.replicate 4 0 := ⟨_, rfl⟩
  have HZzl : Hid (∀ w, (zeroValue 56).run Tryd.prog w = .ok (.agg (arr .u64 zl)) w) := Lib.hid (by intro w; rw [hzl]; exact zero_lim w)
  have HLzl : Hid (zl.length = 4) := Lib.hid (by rw [hzl]; rfl)
  have HX := Lib.hid hx
  have HPR := Lib.hid prime_any
  have HAL : Hid (∀ k, itl a k < 18446744073709551616 ^ 4) := Lib.hid (itl_lt a hx.2)
  have HA2 : Hid (itl a 2 = a % p) := Lib.hid (itl_two a hx.2)
  have HS0 := Lib.hid (Blk.two w (arr .u64 xs) (arr .u64 zl) 56 56)
  clear hzl hx
  go_enter Tryd.func71, Tryd.ntmps71
  go_wp2_with (first | ((with_reducible refine aS 2 ?_); refine wpList_alloc_row rfl 56 rfl _ (HZzl.out _) ?_))
  go_loopw [5] (fun v wr => ∃ k : Nat, k ≤ 2 ∧ v = .int .i64 k ∧ ∃ ys : List Int, N4 ys (itl a k) ∧ Blk w wr [(w.heap.size, arr .u64 ys, 56), (w.heap.size + 1, arr .u64 zl, 56)]) (fun v _ => 2 - (intOf v).toNat)
  case atStart => exact ⟨0, Nat.zero_le _, rfl, xs, HX.out, HS0.out⟩
  clear HS0
  case round =>
  obtain ⟨k, hk, rfl, ys, hy, hB⟩ := hrel
  by_cases hlt : k < 2
  · have HY := Lib.hid hy
    have HYL := Lib.hid hy.len
    have HB := Lib.hid hB
    obtain ⟨y, hyy⟩ : ∃ y, y = itl a k := ⟨_, rfl⟩
    have HYT : Hid (y < 18446744073709551616 ^ 4) := Lib.hid (by rw [hyy]; exact HAL.out k)
    have HYE := Lib.hid hyy
    rw [← hyy] at HY
    clear hy hB hyy
    go_upto_region 3 with fail
    go_cut [3, 4] (fun u3 u4 wx => ∃ gg xx, u3 = .pointer (some ⟨gg, 0, none⟩) ∧ u4 = .int .u64 ((brw y p : Nat) : Int) ∧ N4 xx ((y + 18446744073709551616 ^ 4 - p) % 18446744073709551616 ^ 4) ∧ Blk w wx [(w.heap.size, arr .u64 ys, 56), (w.heap.size + 1, arr .u64 zl, 56), (gg, arr .u64 xx, 56)])
    case first =>
      have HK0 := Lib.hid ((Kept.refl (fun _ => False) wr).drew)
      have HBd := Lib.hid (HB.out.drew)
      refine wp_region_held_drew (S := (fun w' => Kept (fun _ => False) wr w')) (by kernel_rfl) (HK0.out) (fun hHeld => ?_)
      generalize wr.drew = wd at HK0 HBd hHeld ⊢
      refine' wpAnyH_take (i := 0) (oi := (⟨some 8, _, _, _, _, none⟩ : Oper)) (v := _) rfl (by kernel_rfl) (by kernel_rfl) (by kernel_rfl) (fun _ _ _ h => h) (yieldsIf_load_mid (by rfl) _ _ rfl _ _ rfl (ys.map (Value.int .u64)) _ ?hS301 Tryd.underlying56 rfl (by rw [List.length_map]; exact lim_i HYL.out)) (by assumption) ?rest301
      case hS301 => (intro w hSw; (try dsimp only at hSw); exact range_part (hSw.blk (HB.out.get 0 rfl) (fun e => e.elim)) 0 _ (by rw [List.length_map]; exact arr_part _ _))
      (try simp only [Act.put, sA, sZ, sS])
      refine wpAnyH_ready (rs := [1, 6]) (by kernel_rfl) (by simp) ?_
      refine AllReadyH.cons (o := (⟨some 9, _, _, _, _, none⟩ : Oper)) rfl (fun K hK => ?_) ?_
      · go_simp
        go_at_call 105
        refine (HPR.out _).mono ?_
        rintro e w302 ⟨z302, rfl, h302, hb302⟩
        have HZ302 := Lib.hid h302
        have HL302 := Lib.hid h302.len
        clear h302
        have HB302 := Lib.hid (HBd.out.kept hb302)
        have HK302 := Lib.hid (HK0.out.trans (Kept.of_below hb302))
        clear hb302
        (try dsimp only)
        clear HBd
        clear HK0
        clear hHeld
        refine hK.out _ _ (HK302.out) (fun hHeld => ?_)
        clear hK K
        (try simp only [Act.put, sA, sZ, sS])
        refine wpAnyH_ready (rs := [2, 6]) (by kernel_rfl) (by simp) ?_
        refine AllReadyH.cons (o := ({ dst := some 10, op := Op.call { callee := Callee.value (Operand.func 106), args := #[Operand.tmp 8, Operand.tmp 9], argTypes := #[56, 56] }, type := 101, pos := "field.go:24", after := #[{ on := 0, ground := Ground.data }, { on := 1, ground := Ground.data }, { on := 1, ground := Ground.chain }], guard := none } : Oper)) rfl (fun K hK => ?_) ?_
        · go_simp
          go_at_call 106
          refine (lsub4 _ _ _ HY.out HZ302.out).mono ?_
          rintro e w303 ⟨z303, rfl, h303, hb303⟩
          have HZ303 := Lib.hid h303
          have HL303 := Lib.hid h303.len
          clear h303
          have HB303 := Lib.hid (HB302.out.kept hb303)
          have HK303 := Lib.hid (HK302.out.trans (Kept.of_below hb303))
          clear hb303
          (try dsimp only)
          clear HB302
          clear HK302
          clear hHeld
          refine hK.out _ _ (HK303.out) (fun hHeld => ?_)
          clear hK K
          (try simp only [Act.put, sA, sZ, sS])
          refine wpAnyH_take (i := 3) (oi := ({ dst := some 7, op := Op.move (Operand.tmp 10), type := 101, pos := "field.go:24", after := #[{ on := 2, ground := Ground.data }], guard := none } : Oper)) (v := ?v304) rfl (by kernel_rfl) (by kernel_rfl) (by kernel_rfl) (fun _ _ _ h => h) (Or.inl ⟨by rfl, ?hy304⟩) (by assumption) ?rest304
          case hy304 => (intro w hSw; (try dsimp only at hSw); go_simp; try (with_reducible rfl))
          (try simp only [Act.put, sA, sZ, sS])
          refine wpAnyH_take (i := 4) (oi := (⟨some 11, _, _, _, _, none⟩ : Oper)) (v := ?v305) rfl (by kernel_rfl) (by kernel_rfl) (by kernel_rfl) (fun _ _ _ h => h) (Or.inl ⟨by rfl, ?hy305⟩) (by assumption) ?rest305
          case hy305 => (intro w hSw; (try dsimp only at hSw); go_simp; try (with_reducible rfl))
          (try simp only [Act.put, sA, sZ, sS])
          refine wpAnyH_take (i := 5) (oi := (⟨some 12, _, _, _, _, none⟩ : Oper)) (v := ?v306) rfl (by kernel_rfl) (by kernel_rfl) (by kernel_rfl) (fun _ _ _ h => h) (Or.inl ⟨by rfl, ?hy306⟩) (by assumption) ?rest306
          case hy306 => (intro w hSw; (try dsimp only at hSw); go_simp; try (with_reducible rfl))
          (try simp only [Act.put, sA, sZ, sS])
          refine wpAnyH_ready (rs := [6]) (by kernel_rfl) (by simp) ?_
          refine AllReadyH.cons (o := (⟨some 3, _, _, _, _, none⟩ : Oper)) rfl (fun K hK => ?_) AllReadyH.nil
          refine step_alloc_row rfl 56 rfl _ (HZzl.out _) ?_
          have HB307 := Lib.hid (HB303.out.alloc (arr .u64 zl) 56)
          have HK307 := Lib.hid (HK303.out.alloc (.cells (arr .u64 zl) 56))
          have HN307 := Lib.hid (show wr.heap.size ≤ (w303).heap.size from HK303.out.size)
          generalize (w303).heap.size = g307 at HB307 HN307 ⊢
          generalize (w303).alloc (.cells (arr .u64 zl) 56) = w307 at HB307 HK307 ⊢
          clear HB303
          clear HK303
          clear hHeld
          refine hK.out _ _ (HK307.out) (fun hHeld => ?_)
          clear hK K
          (try simp only [Act.put, sA, sZ, sS])
          refine wpAnyH_ready (rs := [7]) (by kernel_rfl) (by simp) ?_
          refine AllReadyH.cons (o := (⟨none, _, _, _, _, none⟩ : Oper)) rfl (fun K hK => ?_) AllReadyH.nil
          refine step_store_whole rfl 56 (.tmp 3) (.tmp 11) rfl (g307) _ _ _ (HB307.out.get 2 rfl) rfl rfl (arr_len2 _ _ HL303.out HLzl.out) (lim_s HL303.out) (all_arr _ _) ?_
          intro w308 hb308 hk308 hz308
          have HB308 := Lib.hid (HB307.out.put 2 rfl hk308 hb308)
          have HK308 := Lib.hid (HK307.out.trans_new hk308 (fun i hi e => absurd hi (by rw [e]; exact Nat.not_lt.2 HN307.out)))
          clear hb308 hk308 hz308
          clear HB307
          clear HK307
          clear hHeld
          refine hK.out _ _ (HK308.out) (fun hHeld => ?_)
          clear hK K
          (try simp only [Act.put])
          refine wpAnyH_take (i := 8) (oi := (⟨some 4, _, _, _, _, none⟩ : Oper)) (v := ?v309) rfl (by kernel_rfl) (by kernel_rfl) (by kernel_rfl) (fun _ _ _ h => h) (Or.inl ⟨by rfl, ?hy309⟩) (by assumption) ?rest309
          case hy309 => (intro w hSw; (try dsimp only at hSw); go_simp; try (with_reducible rfl))
          (try simp only [Act.put, sA, sZ, sS])
          refine wpAnyH_done (by kernel_rfl) ?_ _
          go_wp2_with fail
          go_meet
          exact ⟨_, _, rfl, rfl, HZ303.out, HB308.out⟩
        refine AllReadyH.cons (o := (⟨some 3, _, _, _, _, none⟩ : Oper)) rfl (fun K hK => ?_) ?_
        · refine step_alloc_row rfl 56 rfl _ (HZzl.out _) ?_
          have HB310 := Lib.hid (HB302.out.alloc (arr .u64 zl) 56)
          have HK310 := Lib.hid (HK302.out.alloc (.cells (arr .u64 zl) 56))
          have HN310 := Lib.hid (show wr.heap.size ≤ (w302).heap.size from HK302.out.size)
          generalize (w302).heap.size = g310 at HB310 HN310 ⊢
          generalize (w302).alloc (.cells (arr .u64 zl) 56) = w310 at HB310 HK310 ⊢
          clear HB302
          clear HK302
          clear hHeld
          refine hK.out _ _ (HK310.out) (fun hHeld => ?_)
          clear hK K
          (try simp only [Act.put, sA, sZ, sS])
          refine wpAnyH_ready (rs := [2]) (by kernel_rfl) (by simp) ?_
          refine AllReadyH.cons (o := ({ dst := some 10, op := Op.call { callee := Callee.value (Operand.func 106), args := #[Operand.tmp 8, Operand.tmp 9], argTypes := #[56, 56] }, type := 101, pos := "field.go:24", after := #[{ on := 0, ground := Ground.data }, { on := 1, ground := Ground.data }, { on := 1, ground := Ground.chain }], guard := none } : Oper)) rfl (fun K hK => ?_) AllReadyH.nil
          go_simp
          go_at_call 106
          refine (lsub4 _ _ _ HY.out HZ302.out).mono ?_
          rintro e w311 ⟨z311, rfl, h311, hb311⟩
          have HZ311 := Lib.hid h311
          have HL311 := Lib.hid h311.len
          clear h311
          have HB311 := Lib.hid (HB310.out.kept hb311)
          have HK311 := Lib.hid (HK310.out.trans (Kept.of_below hb311))
          clear hb311
          (try dsimp only)
          clear HB310
          clear HK310
          clear hHeld
          refine hK.out _ _ (HK311.out) (fun hHeld => ?_)
          clear hK K
          (try simp only [Act.put, sA, sZ, sS])
          refine wpAnyH_take (i := 3) (oi := ({ dst := some 7, op := Op.move (Operand.tmp 10), type := 101, pos := "field.go:24", after := #[{ on := 2, ground := Ground.data }], guard := none } : Oper)) (v := ?v312) rfl (by kernel_rfl) (by kernel_rfl) (by kernel_rfl) (fun _ _ _ h => h) (Or.inl ⟨by rfl, ?hy312⟩) (by assumption) ?rest312
          case hy312 => (intro w hSw; (try dsimp only at hSw); go_simp; try (with_reducible rfl))
          (try simp only [Act.put, sA, sZ, sS])
          refine wpAnyH_take (i := 4) (oi := (⟨some 11, _, _, _, _, none⟩ : Oper)) (v := ?v313) rfl (by kernel_rfl) (by kernel_rfl) (by kernel_rfl) (fun _ _ _ h => h) (Or.inl ⟨by rfl, ?hy313⟩) (by assumption) ?rest313
          case hy313 => (intro w hSw; (try dsimp only at hSw); go_simp; try (with_reducible rfl))
          (try simp only [Act.put, sA, sZ, sS])
          refine wpAnyH_take (i := 5) (oi := (⟨some 12, _, _, _, _, none⟩ : Oper)) (v := ?v314) rfl (by kernel_rfl) (by kernel_rfl) (by kernel_rfl) (fun _ _ _ h => h) (Or.inl ⟨by rfl, ?hy314⟩) (by assumption) ?rest314
          case hy314 => (intro w hSw; (try dsimp only at hSw); go_simp; try (with_reducible rfl))
          (try simp only [Act.put, sA, sZ, sS])
          refine wpAnyH_ready (rs := [7]) (by kernel_rfl) (by simp) ?_
          refine AllReadyH.cons (o := (⟨none, _, _, _, _, none⟩ : Oper)) rfl (fun K hK => ?_) AllReadyH.nil
          refine step_store_whole rfl 56 (.tmp 3) (.tmp 11) rfl (g310) _ _ _ (HB311.out.get 2 rfl) rfl rfl (arr_len2 _ _ HL311.out HLzl.out) (lim_s HL311.out) (all_arr _ _) ?_
          intro w315 hb315 hk315 hz315
          have HB315 := Lib.hid (HB311.out.put 2 rfl hk315 hb315)
          have HK315 := Lib.hid (HK311.out.trans_new hk315 (fun i hi e => absurd hi (by rw [e]; exact Nat.not_lt.2 HN310.out)))
          clear hb315 hk315 hz315
          clear HB311
          clear HK311
          clear hHeld
          refine hK.out _ _ (HK315.out) (fun hHeld => ?_)
          clear hK K
          (try simp only [Act.put])
          refine wpAnyH_take (i := 8) (oi := (⟨some 4, _, _, _, _, none⟩ : Oper)) (v := ?v316) rfl (by kernel_rfl) (by kernel_rfl) (by kernel_rfl) (fun _ _ _ h => h) (Or.inl ⟨by rfl, ?hy316⟩) (by assumption) ?rest316
          case hy316 => (intro w hSw; (try dsimp only at hSw); go_simp; try (with_reducible rfl))
          (try simp only [Act.put, sA, sZ, sS])
          refine wpAnyH_done (by kernel_rfl) ?_ _
          go_wp2_with fail
          go_meet
          exact ⟨_, _, rfl, rfl, HZ311.out, HB315.out⟩
        exact AllReadyH.nil
      refine AllReadyH.cons (o := (⟨some 3, _, _, _, _, none⟩ : Oper)) rfl (fun K hK => ?_) ?_
      · refine step_alloc_row rfl 56 rfl _ (HZzl.out _) ?_
        have HB317 := Lib.hid (HBd.out.alloc (arr .u64 zl) 56)
        have HK317 := Lib.hid (HK0.out.alloc (.cells (arr .u64 zl) 56))
        have HN317 := Lib.hid (show wr.heap.size ≤ (wd).heap.size from HK0.out.size)
        generalize (wd).heap.size = g317 at HB317 HN317 ⊢
        generalize (wd).alloc (.cells (arr .u64 zl) 56) = w317 at HB317 HK317 ⊢
        clear HBd
        clear HK0
        clear hHeld
        refine hK.out _ _ (HK317.out) (fun hHeld => ?_)
        clear hK K
        (try simp only [Act.put, sA, sZ, sS])
        refine wpAnyH_ready (rs := [1]) (by kernel_rfl) (by simp) ?_
        refine AllReadyH.cons (o := (⟨some 9, _, _, _, _, none⟩ : Oper)) rfl (fun K hK => ?_) AllReadyH.nil
        go_simp
        go_at_call 105
        refine (HPR.out _).mono ?_
        rintro e w318 ⟨z318, rfl, h318, hb318⟩
        have HZ318 := Lib.hid h318
        have HL318 := Lib.hid h318.len
        clear h318
        have HB318 := Lib.hid (HB317.out.kept hb318)
        have HK318 := Lib.hid (HK317.out.trans (Kept.of_below hb318))
        clear hb318
        (try dsimp only)
        clear HB317
        clear HK317
        clear hHeld
        refine hK.out _ _ (HK318.out) (fun hHeld => ?_)
        clear hK K
        (try simp only [Act.put, sA, sZ, sS])
        refine wpAnyH_ready (rs := [2]) (by kernel_rfl) (by simp) ?_
        refine AllReadyH.cons (o := ({ dst := some 10, op := Op.call { callee := Callee.value (Operand.func 106), args := #[Operand.tmp 8, Operand.tmp 9], argTypes := #[56, 56] }, type := 101, pos := "field.go:24", after := #[{ on := 0, ground := Ground.data }, { on := 1, ground := Ground.data }, { on := 1, ground := Ground.chain }], guard := none } : Oper)) rfl (fun K hK => ?_) AllReadyH.nil
        go_simp
        go_at_call 106
        refine (lsub4 _ _ _ HY.out HZ318.out).mono ?_
        rintro e w319 ⟨z319, rfl, h319, hb319⟩
        have HZ319 := Lib.hid h319
        have HL319 := Lib.hid h319.len
        clear h319
        have HB319 := Lib.hid (HB318.out.kept hb319)
        have HK319 := Lib.hid (HK318.out.trans (Kept.of_below hb319))
        clear hb319
        (try dsimp only)
        clear HB318
        clear HK318
        clear hHeld
        refine hK.out _ _ (HK319.out) (fun hHeld => ?_)
        clear hK K
        (try simp only [Act.put, sA, sZ, sS])
        refine wpAnyH_take (i := 3) (oi := ({ dst := some 7, op := Op.move (Operand.tmp 10), type := 101, pos := "field.go:24", after := #[{ on := 2, ground := Ground.data }], guard := none } : Oper)) (v := ?v320) rfl (by kernel_rfl) (by kernel_rfl) (by kernel_rfl) (fun _ _ _ h => h) (Or.inl ⟨by rfl, ?hy320⟩) (by assumption) ?rest320
        case hy320 => (intro w hSw; (try dsimp only at hSw); go_simp; try (with_reducible rfl))
        (try simp only [Act.put, sA, sZ, sS])
        refine wpAnyH_take (i := 4) (oi := (⟨some 11, _, _, _, _, none⟩ : Oper)) (v := ?v321) rfl (by kernel_rfl) (by kernel_rfl) (by kernel_rfl) (fun _ _ _ h => h) (Or.inl ⟨by rfl, ?hy321⟩) (by assumption) ?rest321
        case hy321 => (intro w hSw; (try dsimp only at hSw); go_simp; try (with_reducible rfl))
        (try simp only [Act.put, sA, sZ, sS])
        refine wpAnyH_take (i := 5) (oi := (⟨some 12, _, _, _, _, none⟩ : Oper)) (v := ?v322) rfl (by kernel_rfl) (by kernel_rfl) (by kernel_rfl) (fun _ _ _ h => h) (Or.inl ⟨by rfl, ?hy322⟩) (by assumption) ?rest322
        case hy322 => (intro w hSw; (try dsimp only at hSw); go_simp; try (with_reducible rfl))
        (try simp only [Act.put, sA, sZ, sS])
        refine wpAnyH_ready (rs := [7]) (by kernel_rfl) (by simp) ?_
        refine AllReadyH.cons (o := (⟨none, _, _, _, _, none⟩ : Oper)) rfl (fun K hK => ?_) AllReadyH.nil
        refine step_store_whole rfl 56 (.tmp 3) (.tmp 11) rfl (g317) _ _ _ (HB319.out.get 2 rfl) rfl rfl (arr_len2 _ _ HL319.out HLzl.out) (lim_s HL319.out) (all_arr _ _) ?_
        intro w323 hb323 hk323 hz323
        have HB323 := Lib.hid (HB319.out.put 2 rfl hk323 hb323)
        have HK323 := Lib.hid (HK319.out.trans_new hk323 (fun i hi e => absurd hi (by rw [e]; exact Nat.not_lt.2 HN317.out)))
        clear hb323 hk323 hz323
        clear HB319
        clear HK319
        clear hHeld
        refine hK.out _ _ (HK323.out) (fun hHeld => ?_)
        clear hK K
        (try simp only [Act.put])
        refine wpAnyH_take (i := 8) (oi := (⟨some 4, _, _, _, _, none⟩ : Oper)) (v := ?v324) rfl (by kernel_rfl) (by kernel_rfl) (by kernel_rfl) (fun _ _ _ h => h) (Or.inl ⟨by rfl, ?hy324⟩) (by assumption) ?rest324
        case hy324 => (intro w hSw; (try dsimp only at hSw); go_simp; try (with_reducible rfl))
        (try simp only [Act.put, sA, sZ, sS])
        refine wpAnyH_done (by kernel_rfl) ?_ _
        go_wp2_with fail
        go_meet
        exact ⟨_, _, rfl, rfl, HZ319.out, HB323.out⟩
      exact AllReadyH.nil
    case rest =>
    obtain ⟨wy, rfl⟩ : ∃ x : World, x = wc := ⟨_, rfl⟩
    obtain ⟨gd, ds, rfl, rfl, h1, hb1⟩ := hcut
    have HB1 := Lib.hid hb1
    have HD := Lib.hid h1
    have HDL := Lib.hid h1.len
    clear h1 hb1 HB
    by_cases hp : y < p
    · rw [brw_yes hp]
      have HN : Hid (itl a (k + 1) = y) := Lib.hid (by rw [itl, ← HYE.out, less1, if_pos hp])
      have hbv : (((1 : Nat) : Int) == 0) = false := rfl
      clear hp
      go_wp2_with fail
      go_roundw
      case rel => exact ⟨k + 1, by omega, by go_num, ys, by rw [HN.out]; exact HY.out, HB1.out.less 2⟩
      case measure => simp [intOf]; omega
    · rw [brw_no hp]
      have HN : Hid (itl a (k + 1) = (y + 18446744073709551616 ^ 4 - p) % 18446744073709551616 ^ 4) := Lib.hid (by rw [itl, ← HYE.out, less1, if_neg hp, sub_big y HYT.out hp])
      have hbv : (((0 : Nat) : Int) == 0) = true := rfl
      clear hp
      go_wp2_with (first | ((with_reducible refine aS 15 ?_); refine wpList_load_part rfl 56 _ rfl (gd) 0 _ 56 (0, 0) _ (HB1.out.get 2 rfl) rfl .u64 ds (arr_part _ _) Tryd.underlying56 rfl (lim_i HDL.out) ?_) | ((with_reducible refine aT 1 ?_); refine wpList_store_whole rfl 56 _ _ rfl (w.heap.size) _ _ 56 (HB1.out.get 0 rfl) rfl rfl (arr_len2 _ _ HDL.out HYL.out) (lim_s HDL.out) (all_arr _ _) ?_; intro w7 hb7 hk7 hz7; have HB7 := Lib.hid (HB1.out.put 0 rfl hk7 hb7); clear hb7 hk7 hz7))
      go_roundw
      case rel => exact ⟨k + 1, by omega, by go_num, ds, by rw [HN.out]; exact HD.out, HB7.out.less 2⟩
      case measure => simp [intOf]; omega
  · obtain rfl : k = 2 := by omega
    rw [HA2.out] at hy
    have HY := Lib.hid hy
    have HYL := Lib.hid hy.len
    have HB := Lib.hid hB
    clear hy hB
    go_wp2_with (first | ((with_reducible refine aS 17 ?_); refine wpList_load_part rfl 56 _ rfl (w.heap.size) 0 _ 56 (0, 0) _ (HB.out.get 0 rfl) rfl .u64 ys (arr_part _ _) Tryd.underlying56 rfl (lim_i HYL.out) ?_) | ((with_reducible refine aT 2 ?_); refine wpList_store_whole rfl 56 _ _ rfl (w.heap.size + 1) _ _ 56 (HB.out.get 1 rfl) rfl rfl (arr_len2 _ _ HYL.out HLzl.out) (lim_s HYL.out) (all_arr _ _) ?_; intro w7 hb7 hk7 hz7; have HB7 := Lib.hid (HB.out.put 1 rfl hk7 hb7); clear hb7 hk7 hz7))
    (try simp only [Exit.inBlock, Exit.then])
    refine bodyPost_ret (results_cell_row rfl _ _ (w.heap.size + 1) 56 _ (0, 0) _ rfl (HB7.out.get 1 rfl) Tryd.underlying56 rfl (lim_s HYL.out)) rfl ?_
    exact ⟨_, rfl, HY.out, HB7.out.below⟩
end Go.Proofs.YtanjhngehfbpbaaDoor.Fp
namespace Go.Proofs.YtanjhngehfbpbaaDoor.Fp
open Go.RowKit Lm

theorem build_raw (v : Int) (w : World) : (Instr.build 56 #[(0, .int .u64 v)]).run Tryd.prog w = .ok (.agg (arr .u64 [v, 0, 0, 0])) w := by kernel_rfl
theorem dig_small (v : Nat) (hv : v < 18446744073709551616) : dig 18446744073709551616 4 v = [v, 0, 0, 0] := by
  simp only [dig]
  rw [Nat.mod_eq_of_lt hv, Nat.div_eq_of_lt hv]
theorem n4_small (v : Nat) (hv : v < 18446744073709551616) : N4 [(v : Int), 0, 0, 0] v := ⟨by rw [dig_small v hv]; rfl, Nat.lt_of_lt_of_le hv (by decide)⟩

set_option maxRecDepth 100000 in
set_option maxHeartbeats 4000000 in
theorem fold_any {xs : List Int} (x c : Nat) (w : World) (hx : N4 xs x) (hc : c ≤ 1000) : Calls Tryd.prog 104 #[.agg (arr .u64 xs), .int .u64 c] w fun e w' => ∃ zs, e = .returned (.agg (arr .u64 zs)) ∧ N4 zs ((x + 18446744073709551616 ^ 4 * c) % p) ∧ Below w.heap.size w w' := by
  obtain ⟨f1, f2⟩ := fold_eq x c hx.2 hc
  rw [show (x + 38 * c) / 18446744073709551616 ^ 4 = cry x (38 * c) from rfl] at f1 f2
  obtain ⟨c1, hc1⟩ : ∃ c1, c1 = cry x (38 * c) := ⟨_, rfl⟩
  rw [← hc1] at f1 f2
  have e1 : 38 * (c : Int) = ((38 * c : Nat) : Int) := by omega
  have e2 : 38 * (c1 : Int) = ((38 * c1 : Nat) : Int) := by omega
  have hn1 := n4_small (38 * c) (by omega)
  have hn2 := n4_small (38 * c1) (by omega)
  have hb1 := fun w => build_raw (38 * (c : Int)) w
  have hb2 := fun w => build_raw (38 * (c1 : Int)) w
  rw [e1] at hb1
  rw [e2] at hb2
  obtain ⟨b1, hB1⟩ : ∃ b : List Int, b = [((38 * c : Nat) : Int), 0, 0, 0] := ⟨_, rfl⟩
  obtain ⟨b2, hB2⟩ : ∃ b : List Int, b = [((38 * c1 : Nat) : Int), 0, 0, 0] := ⟨_, rfl⟩
  rw [← hB1] at hn1 hb1
  rw [← hB2] at hn2 hb2
  rw [← e1] at hb1
  rw [← e2] at hb2
  have HN1 := Lib.hid hn1
  have HN2 := Lib.hid hn2
  have HBB1 := Lib.hid hb1
  have HBB2 := Lib.hid hb2
  have HX := Lib.hid hx
  have HXL := Lib.hid hx.len
  have HF1 := Lib.hid f1
  have HC1 := Lib.hid hc1
  obtain ⟨zl, hzl⟩ : ∃ zs : List Int, zs = List.replicate 4 0 := ⟨_, rfl⟩
  have HZzl : Hid (∀ w, (zeroValue 56).run Tryd.prog w = .ok (.agg (arr .u64 zl)) w) := Lib.hid (by intro w; rw [hzl]; exact zero_lim w)
  have HLzl : Hid (zl.length = 4) := Lib.hid (by rw [hzl]; rfl)
  have HS0 := Lib.hid (Blk.two w (arr .u64 xs) (arr .u64 zl) 56 56)
  clear hzl hx hn1 hn2 hb1 hb2 f1 hc1 e1 e2 hB1 hB2
  go_enter Tryd.func104, Tryd.ntmps104
  go_upto_region 2 with (first | ((with_reducible refine aS 4 ?_); refine wpList_alloc_row rfl 56 rfl _ (HZzl.out _) ?_) | ((with_reducible refine aS 7 ?_); refine wpList_load_part rfl 56 _ rfl (w.heap.size) 0 _ 56 (0, 0) _ (HS0.out.get 0 rfl) rfl .u64 xs (arr_part _ _) Tryd.underlying56 rfl (lim_i HXL.out) ?_) | ((with_reducible refine aS 10 ?_); refine wpList_build (by rfl) 56 _ rfl #[(0, .int .u64 (38 * (c : Int)))] rfl _ (HBB1.out _) ?_) | ((with_reducible show Calls _ _ #[.agg (arr _ xs), .agg (arr _ b1)] _ _); go_at_call 77; refine (ladd4 _ _ _ HX.out HN1.out).mono ?_; rintro e w1 ⟨z1, rfl, h1, hb1⟩; have HZ1 := Lib.hid h1; have HL1 := Lib.hid h1.len; have HB1 := Lib.hid (HS0.out.kept hb1); clear h1 hb1) | ((with_reducible refine aT 2 ?_); refine wpList_store_whole rfl 56 _ _ rfl (w.heap.size) _ _ 56 (HB1.out.get 0 rfl) rfl rfl (arr_len2 _ _ HL1.out HXL.out) (lim_s HL1.out) (all_arr _ _) ?_; intro w2 hb2 hk2 hz2; have HB2 := Lib.hid (HB1.out.put 0 rfl hk2 hb2); clear hb2 hk2 hz2))
  rw [← HC1.out]
  go_wp2_with (first | ((with_reducible refine aS 15 ?_); refine wpList_load_part rfl 56 _ rfl (w.heap.size) 0 _ 56 (0, 0) _ (HB2.out.get 0 rfl) rfl .u64 z1 (arr_part _ _) Tryd.underlying56 rfl (lim_i HL1.out) ?_) | ((with_reducible refine aS 18 ?_); refine wpList_build (by rfl) 56 _ rfl #[(0, .int .u64 (38 * (c1 : Int)))] rfl _ (HBB2.out _) ?_) | ((with_reducible show Calls _ _ #[.agg (arr _ z1), .agg (arr _ b2)] _ _); go_at_call 77; refine (ladd4 _ _ _ HZ1.out HN2.out).mono ?_; rintro e w3 ⟨z3, rfl, h3, hb3⟩; have HZ3 := Lib.hid h3; have HL3 := Lib.hid h3.len; have HB3 := Lib.hid (HB2.out.kept hb3); clear h3 hb3) | ((with_reducible refine aT 2 ?_); refine wpList_store_whole rfl 56 _ _ rfl (w.heap.size) _ _ 56 (HB3.out.get 0 rfl) rfl rfl (arr_len2 _ _ HL3.out HL1.out) (lim_s HL3.out) (all_arr _ _) ?_; intro w4 hb4 hk4 hz4; have HB4 := Lib.hid (HB3.out.put 0 rfl hk4 hb4); clear hb4 hk4 hz4) | ((with_reducible refine aS 22 ?_); refine wpList_load_part rfl 56 _ rfl (w.heap.size) 0 _ 56 (0, 0) _ (HB4.out.get 0 rfl) rfl .u64 z3 (arr_part _ _) Tryd.underlying56 rfl (lim_i HL3.out) ?_) | ((with_reducible show Calls _ 71 _ _ _); go_at_call 71; refine (lessen_any _ _ HZ3.out).mono ?_; rintro e w5 ⟨z5, rfl, h5, hb5⟩; have HZ5 := Lib.hid h5; have HL5 := Lib.hid h5.len; have HB5 := Lib.hid (HB4.out.kept hb5); clear h5 hb5) | ((with_reducible refine aT 4 ?_); refine wpList_store_whole rfl 56 _ _ rfl (w.heap.size + 1) _ _ 56 (HB5.out.get 1 rfl) rfl rfl (arr_len2 _ _ HL5.out HLzl.out) (lim_s HL5.out) (all_arr _ _) ?_; intro w6 hb6 hk6 hz6; have HB6 := Lib.hid (HB5.out.put 1 rfl hk6 hb6); clear hb6 hk6 hz6))
  (try simp only [Exit.then])
  refine bodyPost_ret (results_cell_row rfl _ _ (w.heap.size + 1) 56 _ (0, 0) _ rfl (HB6.out.get 1 rfl) Tryd.underlying56 rfl (lim_s HL5.out)) rfl ?_
  exact ⟨_, rfl, HZ5.out.cast HF1.out, HB6.out.below⟩

set_option maxRecDepth 100000 in
set_option maxHeartbeats 4000000 in
theorem plus_any {xs ys : List Int} (a b : Nat) (w : World) (hx : N4 xs a) (hy : N4 ys b) : Calls Tryd.prog 73 #[.agg (arr .u64 xs), .agg (arr .u64 ys)] w fun e w' => ∃ zs, e = .returned (.agg (arr .u64 zs)) ∧ N4 zs (fadd a b) ∧ Below w.heap.size w w' := by
  have hc : (a + b) / 18446744073709551616 ^ 4 ≤ 1000 := by
    have h1 := hx.2
    have h2 := hy.2
    have h3 : (a + b) / 18446744073709551616 ^ 4 < 2 := Nat.div_lt_of_lt_mul (by omega)
    omega
  have HPE := Lib.hid (plus_eq a b)
  rw [show (a + b) / 18446744073709551616 ^ 4 = cry a b from rfl] at HPE hc
  obtain ⟨c, hcc⟩ : ∃ c, c = cry a b := ⟨_, rfl⟩
  rw [← hcc] at HPE hc
  have HCC := Lib.hid hcc
  have HX := Lib.hid hx
  have HY := Lib.hid hy
  have HXL := Lib.hid hx.len
  have HYL := Lib.hid hy.len
  obtain ⟨zl, hzl⟩ : ∃ zs : List Int, zs = List.replicate 4 0 := ⟨_, rfl⟩
  have HZzl : Hid (∀ w, (zeroValue 56).run Tryd.prog w = .ok (.agg (arr .u64 zl)) w) := Lib.hid (by intro w; rw [hzl]; exact zero_lim w)
  have HLzl : Hid (zl.length = 4) := Lib.hid (by rw [hzl]; rfl)
  have HS0 := Lib.hid (Blk.three w (arr .u64 xs) (arr .u64 ys) (arr .u64 zl) 56 56 56)
  clear hzl hx hy hcc
  go_enter Tryd.func73, Tryd.ntmps73
  go_upto_region 1 with (first | ((with_reducible refine aS 4 ?_); refine wpList_alloc_row rfl 56 rfl _ (HZzl.out _) ?_))
  (try simp only [World.size_alloc, Act.put, sA, sZ, sS])
  generalize (((w.alloc (.cells (arr .u64 xs) 56)).alloc (.cells (arr .u64 ys) 56)).alloc (.cells (arr .u64 zl) 56)) = wb at HS0 ⊢
  go_upto_region 2 with (first | ((with_reducible refine aS 8 ?_); refine wpList_load_part rfl 56 _ rfl (w.heap.size) (0) _ 56 (0, 0) _ (HS0.out.get 0 rfl) rfl .u64 xs (arr_part _ _) Tryd.underlying56 rfl (lim_i HXL.out) ?_) | ((with_reducible refine aS 9 ?_); refine wpList_load_part rfl 56 _ rfl (w.heap.size + 1) (0) _ 56 (0, 0) _ (HS0.out.get 1 rfl) rfl .u64 ys (arr_part _ _) Tryd.underlying56 rfl (lim_i HYL.out) ?_) | ((with_reducible show Calls _ 77 #[.agg _, .agg _] _ _); go_at_call 77; refine (ladd4 _ _ _ HX.out HY.out).mono ?_; rintro e w501 ⟨z501, rfl, h501, hb501⟩; have HZ501 := Lib.hid h501; have HL501 := Lib.hid h501.len; clear h501; have HB501 := Lib.hid (HS0.out.kept hb501); clear hb501) | ((with_reducible refine aS 5 ?_); refine wpList_alloc_row rfl 56 rfl _ (HZzl.out _) ?_; have HB502 := Lib.hid (HB501.out.alloc (arr .u64 zl) 56); generalize w501.heap.size = g502 at HB502 ⊢; generalize w501.alloc (.cells (arr .u64 zl) 56) = w502 at HB502 ⊢; clear HB501) | ((with_reducible refine aT 5 (x := (Operand.tmp 11)) ?_); refine wpList_store_whole rfl 56 _ _ rfl (g502) _ _ 56 (HB502.out.get 3 rfl) rfl rfl (arr_len2 _ _ HL501.out HLzl.out) (lim_s HL501.out) (all_arr _ _) ?_; intro w503 hb503 hk503 hz503; have HB503 := Lib.hid (HB502.out.put 3 rfl hk503 hb503); clear hb503 hk503 hz503; clear HB502))
  rw [← HCC.out]
  go_wp2_with (first | ((with_reducible refine aS 13 ?_); refine wpList_load_part rfl 56 _ rfl (g502) (0) _ 56 (0, 0) _ (HB503.out.get 3 rfl) rfl .u64 z501 (arr_part _ _) Tryd.underlying56 rfl (lim_i HL501.out) ?_) | ((with_reducible show Calls _ 104 #[.agg _, _] _ _); go_at_call 104; refine (fold_any _ c _ HZ501.out hc).mono ?_; rintro e w504 ⟨z504, rfl, h504, hb504⟩; have HZ504 := Lib.hid h504; have HL504 := Lib.hid h504.len; clear h504; have HB504 := Lib.hid (HB503.out.kept hb504); clear hb504; clear HB503) | ((with_reducible refine aT 4 (x := (Operand.tmp 15)) ?_); refine wpList_store_whole rfl 56 _ _ rfl (w.heap.size + 1 + 1) _ _ 56 (HB504.out.get 2 rfl) rfl rfl (arr_len2 _ _ HL504.out HLzl.out) (lim_s HL504.out) (all_arr _ _) ?_; intro w505 hb505 hk505 hz505; have HB505 := Lib.hid (HB504.out.put 2 rfl hk505 hb505); clear hb505 hk505 hz505; clear HB504))
  (try simp only [Exit.then])
  refine bodyPost_ret (results_cell_row rfl _ _ (w.heap.size + 1 + 1) 56 _ (0, 0) _ rfl (HB505.out.get 2 rfl) Tryd.underlying56 rfl (lim_s HL504.out)) rfl ?_
  exact ⟨_, rfl, HZ504.out.cast HPE.out, HB505.out.below⟩

set_option maxRecDepth 100000 in
set_option maxHeartbeats 4000000 in
theorem minus_any {xs ys : List Int} (a b : Nat) (w : World) (hx : N4 xs a) (hy : N4 ys b) (ha : a < p) (hb : b < p) : Calls Tryd.prog 72 #[.agg (arr .u64 xs), .agg (arr .u64 ys)] w fun e w' => ∃ zs, e = .returned (.agg (arr .u64 zs)) ∧ N4 zs (fsub a b) ∧ Below w.heap.size w w' := by
  have hme := minus_eq a b ha hb
  have HME := Lib.hid hme
  have HPR := Lib.hid prime_any
  have HX := Lib.hid hx
  have HY := Lib.hid hy
  have HXL := Lib.hid hx.len
  have HYL := Lib.hid hy.len
  obtain ⟨zl, hzl⟩ : ∃ zs : List Int, zs = List.replicate 4 0 := ⟨_, rfl⟩
  have HZzl : Hid (∀ w, (zeroValue 56).run Tryd.prog w = .ok (.agg (arr .u64 zl)) w) := Lib.hid (by intro w; rw [hzl]; exact zero_lim w)
  have HLzl : Hid (zl.length = 4) := Lib.hid (by rw [hzl]; rfl)
  have HS0 := Lib.hid (Blk.three w (arr .u64 xs) (arr .u64 ys) (arr .u64 zl) 56 56 56)
  clear hzl hx hy hme
  go_enter Tryd.func72, Tryd.ntmps72
  go_upto_region 1 with (first | ((with_reducible refine aS 4 ?_); refine wpList_alloc_row rfl 56 rfl _ (HZzl.out _) ?_))
  (try simp only [World.size_alloc, Act.put, sA, sZ, sS])
  generalize (((w.alloc (.cells (arr .u64 xs) 56)).alloc (.cells (arr .u64 ys) 56)).alloc (.cells (arr .u64 zl) 56)) = wb at HS0 ⊢
  go_upto_region 2 with (first | ((with_reducible refine aS 8 ?_); refine wpList_load_part rfl 56 _ rfl (w.heap.size) (0) _ 56 (0, 0) _ (HS0.out.get 0 rfl) rfl .u64 xs (arr_part _ _) Tryd.underlying56 rfl (lim_i HXL.out) ?_) | ((with_reducible refine aS 9 ?_); refine wpList_load_part rfl 56 _ rfl (w.heap.size + 1) (0) _ 56 (0, 0) _ (HS0.out.get 1 rfl) rfl .u64 ys (arr_part _ _) Tryd.underlying56 rfl (lim_i HYL.out) ?_) | ((with_reducible show Calls _ 106 #[.agg _, .agg _] _ _); go_at_call 106; refine (lsub4 _ _ _ HX.out HY.out).mono ?_; rintro e w506 ⟨z506, rfl, h506, hb506⟩; have HZ506 := Lib.hid h506; have HL506 := Lib.hid h506.len; clear h506; have HB506 := Lib.hid (HS0.out.kept hb506); clear hb506) | ((with_reducible refine aS 5 ?_); refine wpList_alloc_row rfl 56 rfl _ (HZzl.out _) ?_; have HB507 := Lib.hid (HB506.out.alloc (arr .u64 zl) 56); generalize w506.heap.size = g507 at HB507 ⊢; generalize w506.alloc (.cells (arr .u64 zl) 56) = w507 at HB507 ⊢; clear HB506) | ((with_reducible refine aT 5 (x := (Operand.tmp 11)) ?_); refine wpList_store_whole rfl 56 _ _ rfl (g507) _ _ 56 (HB507.out.get 3 rfl) rfl rfl (arr_len2 _ _ HL506.out HLzl.out) (lim_s HL506.out) (all_arr _ _) ?_; intro w508 hb508 hk508 hz508; have HB508 := Lib.hid (HB507.out.put 3 rfl hk508 hb508); clear hb508 hk508 hz508; clear HB507))
  by_cases hlt : a < b
  · rw [brw_yes hlt]
    have hm := HME.out
    rw [if_pos hlt] at hm
    have HM := Lib.hid hm
    have hbv : (((1 : Nat) : Int) != 0) = true := rfl
    clear hm hlt
    go_upto_region 3 with fail
    have HK0 := Lib.hid ((Kept.refl (fun x => x = g507) w508).drew)
    have HBd := Lib.hid (HB508.out.drew)
    refine wp_region_held_drew (S := (fun w' => Kept (fun x => x = g507) w508 w')) (by kernel_rfl) (HK0.out) (fun hHeld => ?_)
    generalize w508.drew = wd at HK0 HBd hHeld ⊢
    refine wpAnyH_ready (rs := [0, 1]) (by kernel_rfl) (by simp) ?_
    refine AllReadyH.cons (o := (⟨some 16, _, _, _, _, none⟩ : Oper)) rfl (fun K hK => ?_) ?_
    · refine step_load_part rfl 56 _ rfl (g507) (0) _ 56 (0, 0) _ (HBd.out.get 3 rfl) rfl .u64 z506 (arr_part _ _) Tryd.underlying56 rfl (lim_i HL506.out) ?_
      clear hHeld
      refine hK.out _ _ (HK0.out) (fun hHeld => ?_)
      clear hK K
      (try simp only [Act.put, sA, sZ, sS])
      refine wpAnyH_ready (rs := [1]) (by kernel_rfl) (by simp) ?_
      refine AllReadyH.cons (o := (⟨some 17, _, _, _, _, none⟩ : Oper)) rfl (fun K hK => ?_) AllReadyH.nil
      go_simp
      go_at_call 105
      refine (HPR.out _).mono ?_
      rintro e w510 ⟨z510, rfl, h510, hb510⟩
      have HZ510 := Lib.hid h510
      have HL510 := Lib.hid h510.len
      clear h510
      have HB510 := Lib.hid (HBd.out.kept hb510)
      have HK510 := Lib.hid (HK0.out.trans (Kept.of_below hb510))
      clear hb510
      (try dsimp only)
      clear HBd
      clear HK0
      clear hHeld
      refine hK.out _ _ (HK510.out) (fun hHeld => ?_)
      clear hK K
      (try simp only [Act.put, sA, sZ, sS])
      refine wpAnyH_ready (rs := [2]) (by kernel_rfl) (by simp) ?_
      refine AllReadyH.cons (o := ({ dst := some 18, op := Op.call { callee := Callee.value (Operand.func 77), args := #[Operand.tmp 16, Operand.tmp 17], argTypes := #[56, 56] }, type := 101, pos := "field.go:48", after := #[{ on := 0, ground := Ground.data }, { on := 1, ground := Ground.data }, { on := 1, ground := Ground.chain }], guard := none } : Oper)) rfl (fun K hK => ?_) AllReadyH.nil
      go_simp
      go_at_call 77
      refine (ladd4 _ _ _ HZ506.out HZ510.out).mono ?_
      rintro e w511 ⟨z511, rfl, h511, hb511⟩
      have HZ511 := Lib.hid h511
      have HL511 := Lib.hid h511.len
      clear h511
      have HB511 := Lib.hid (HB510.out.kept hb511)
      have HK511 := Lib.hid (HK510.out.trans (Kept.of_below hb511))
      clear hb511
      (try dsimp only)
      clear HB510
      clear HK510
      clear hHeld
      refine hK.out _ _ (HK511.out) (fun hHeld => ?_)
      clear hK K
      (try simp only [Act.put, sA, sZ, sS])
      refine wpAnyH_take (i := 3) (oi := ({ dst := some 15, op := Op.move (Operand.tmp 18), type := 101, pos := "field.go:48", after := #[{ on := 2, ground := Ground.data }], guard := none } : Oper)) (v := ?v512) rfl (by kernel_rfl) (by kernel_rfl) (by kernel_rfl) (fun _ _ _ h => h) (Or.inl ⟨by rfl, ?hy512⟩) (by assumption) ?rest512
      case hy512 => (intro w hSw; (try dsimp only at hSw); go_simp; try (with_reducible rfl))
      (try simp only [Act.put, sA, sZ, sS])
      refine wpAnyH_take (i := 4) (oi := (⟨some 19, _, _, _, _, none⟩ : Oper)) (v := ?v513) rfl (by kernel_rfl) (by kernel_rfl) (by kernel_rfl) (fun _ _ _ h => h) (Or.inl ⟨by rfl, ?hy513⟩) (by assumption) ?rest513
      case hy513 => (intro w hSw; (try dsimp only at hSw); go_simp; try (with_reducible rfl))
      (try simp only [Act.put, sA, sZ, sS])
      refine wpAnyH_take (i := 5) (oi := (⟨some 20, _, _, _, _, none⟩ : Oper)) (v := ?v514) rfl (by kernel_rfl) (by kernel_rfl) (by kernel_rfl) (fun _ _ _ h => h) (Or.inl ⟨by rfl, ?hy514⟩) (by assumption) ?rest514
      case hy514 => (intro w hSw; (try dsimp only at hSw); go_simp; try (with_reducible rfl))
      (try simp only [Act.put, sA, sZ, sS])
      refine wpAnyH_ready (rs := [6]) (by kernel_rfl) (by simp) ?_
      refine AllReadyH.cons (o := (⟨none, _, _, _, _, none⟩ : Oper)) rfl (fun K hK => ?_) AllReadyH.nil
      refine step_store_whole rfl 56 (.tmp 5) (.tmp 19) rfl (g507) _ _ _ (HB511.out.get 3 rfl) rfl rfl (arr_len2 _ _ HL511.out HL506.out) (lim_s HL511.out) (all_arr _ _) ?_
      intro w515 hb515 hk515 hz515
      have HB515 := Lib.hid (HB511.out.put 3 rfl hk515 hb515)
      have HK515 := Lib.hid (HK511.out.trans hk515)
      clear hb515 hk515 hz515
      clear HB511
      clear HK511
      clear hHeld
      refine hK.out _ _ (HK515.out) (fun hHeld => ?_)
      clear hK K
      (try simp only [Act.put])
      refine wpAnyH_done (by kernel_rfl) ?_ _
      (try simp only [Exit.then])
      go_wp2_with (first | ((with_reducible refine aS 21 ?_); refine wpList_load_part rfl 56 _ rfl (g507) 0 _ 56 (0, 0) _ (HB515.out.get 3 rfl) rfl .u64 z511 (arr_part _ _) Tryd.underlying56 rfl (lim_i HL511.out) ?_) | ((with_reducible refine aT 4 ?_); refine wpList_store_whole rfl 56 _ _ rfl (w.heap.size + 1 + 1) _ _ 56 (HB515.out.get 2 rfl) rfl rfl (arr_len2 _ _ HL511.out HLzl.out) (lim_s HL511.out) (all_arr _ _) ?_; intro w9 hb9 hk9 hz9; have HBq := Lib.hid (HB515.out.put 2 rfl hk9 hb9); clear hb9 hk9 hz9))
      (try simp only [Exit.then])
      refine bodyPost_ret (results_cell_row rfl _ _ (w.heap.size + 1 + 1) 56 _ (0, 0) _ rfl (HBq.out.get 2 rfl) Tryd.underlying56 rfl (lim_s HL511.out)) rfl ?_
      exact ⟨_, rfl, HZ511.out.cast HM.out, HBq.out.below⟩
    refine AllReadyH.cons (o := (⟨some 17, _, _, _, _, none⟩ : Oper)) rfl (fun K hK => ?_) ?_
    · go_simp
      go_at_call 105
      refine (HPR.out _).mono ?_
      rintro e w516 ⟨z516, rfl, h516, hb516⟩
      have HZ516 := Lib.hid h516
      have HL516 := Lib.hid h516.len
      clear h516
      have HB516 := Lib.hid (HBd.out.kept hb516)
      have HK516 := Lib.hid (HK0.out.trans (Kept.of_below hb516))
      clear hb516
      (try dsimp only)
      clear HBd
      clear HK0
      clear hHeld
      refine hK.out _ _ (HK516.out) (fun hHeld => ?_)
      clear hK K
      (try simp only [Act.put, sA, sZ, sS])
      refine wpAnyH_ready (rs := [0]) (by kernel_rfl) (by simp) ?_
      refine AllReadyH.cons (o := (⟨some 16, _, _, _, _, none⟩ : Oper)) rfl (fun K hK => ?_) AllReadyH.nil
      refine step_load_part rfl 56 _ rfl (g507) (0) _ 56 (0, 0) _ (HB516.out.get 3 rfl) rfl .u64 z506 (arr_part _ _) Tryd.underlying56 rfl (lim_i HL506.out) ?_
      clear hHeld
      refine hK.out _ _ (HK516.out) (fun hHeld => ?_)
      clear hK K
      (try simp only [Act.put, sA, sZ, sS])
      refine wpAnyH_ready (rs := [2]) (by kernel_rfl) (by simp) ?_
      refine AllReadyH.cons (o := ({ dst := some 18, op := Op.call { callee := Callee.value (Operand.func 77), args := #[Operand.tmp 16, Operand.tmp 17], argTypes := #[56, 56] }, type := 101, pos := "field.go:48", after := #[{ on := 0, ground := Ground.data }, { on := 1, ground := Ground.data }, { on := 1, ground := Ground.chain }], guard := none } : Oper)) rfl (fun K hK => ?_) AllReadyH.nil
      go_simp
      go_at_call 77
      refine (ladd4 _ _ _ HZ506.out HZ516.out).mono ?_
      rintro e w518 ⟨z518, rfl, h518, hb518⟩
      have HZ518 := Lib.hid h518
      have HL518 := Lib.hid h518.len
      clear h518
      have HB518 := Lib.hid (HB516.out.kept hb518)
      have HK518 := Lib.hid (HK516.out.trans (Kept.of_below hb518))
      clear hb518
      (try dsimp only)
      clear HB516
      clear HK516
      clear hHeld
      refine hK.out _ _ (HK518.out) (fun hHeld => ?_)
      clear hK K
      (try simp only [Act.put, sA, sZ, sS])
      refine wpAnyH_take (i := 3) (oi := ({ dst := some 15, op := Op.move (Operand.tmp 18), type := 101, pos := "field.go:48", after := #[{ on := 2, ground := Ground.data }], guard := none } : Oper)) (v := ?v519) rfl (by kernel_rfl) (by kernel_rfl) (by kernel_rfl) (fun _ _ _ h => h) (Or.inl ⟨by rfl, ?hy519⟩) (by assumption) ?rest519
      case hy519 => (intro w hSw; (try dsimp only at hSw); go_simp; try (with_reducible rfl))
      (try simp only [Act.put, sA, sZ, sS])
      refine wpAnyH_take (i := 4) (oi := (⟨some 19, _, _, _, _, none⟩ : Oper)) (v := ?v520) rfl (by kernel_rfl) (by kernel_rfl) (by kernel_rfl) (fun _ _ _ h => h) (Or.inl ⟨by rfl, ?hy520⟩) (by assumption) ?rest520
      case hy520 => (intro w hSw; (try dsimp only at hSw); go_simp; try (with_reducible rfl))
      (try simp only [Act.put, sA, sZ, sS])
      refine wpAnyH_take (i := 5) (oi := (⟨some 20, _, _, _, _, none⟩ : Oper)) (v := ?v521) rfl (by kernel_rfl) (by kernel_rfl) (by kernel_rfl) (fun _ _ _ h => h) (Or.inl ⟨by rfl, ?hy521⟩) (by assumption) ?rest521
      case hy521 => (intro w hSw; (try dsimp only at hSw); go_simp; try (with_reducible rfl))
      (try simp only [Act.put, sA, sZ, sS])
      refine wpAnyH_ready (rs := [6]) (by kernel_rfl) (by simp) ?_
      refine AllReadyH.cons (o := (⟨none, _, _, _, _, none⟩ : Oper)) rfl (fun K hK => ?_) AllReadyH.nil
      refine step_store_whole rfl 56 (.tmp 5) (.tmp 19) rfl (g507) _ _ _ (HB518.out.get 3 rfl) rfl rfl (arr_len2 _ _ HL518.out HL506.out) (lim_s HL518.out) (all_arr _ _) ?_
      intro w522 hb522 hk522 hz522
      have HB522 := Lib.hid (HB518.out.put 3 rfl hk522 hb522)
      have HK522 := Lib.hid (HK518.out.trans hk522)
      clear hb522 hk522 hz522
      clear HB518
      clear HK518
      clear hHeld
      refine hK.out _ _ (HK522.out) (fun hHeld => ?_)
      clear hK K
      (try simp only [Act.put])
      refine wpAnyH_done (by kernel_rfl) ?_ _
      (try simp only [Exit.then])
      go_wp2_with (first | ((with_reducible refine aS 21 ?_); refine wpList_load_part rfl 56 _ rfl (g507) 0 _ 56 (0, 0) _ (HB522.out.get 3 rfl) rfl .u64 z518 (arr_part _ _) Tryd.underlying56 rfl (lim_i HL518.out) ?_) | ((with_reducible refine aT 4 ?_); refine wpList_store_whole rfl 56 _ _ rfl (w.heap.size + 1 + 1) _ _ 56 (HB522.out.get 2 rfl) rfl rfl (arr_len2 _ _ HL518.out HLzl.out) (lim_s HL518.out) (all_arr _ _) ?_; intro w9 hb9 hk9 hz9; have HBq := Lib.hid (HB522.out.put 2 rfl hk9 hb9); clear hb9 hk9 hz9))
      (try simp only [Exit.then])
      refine bodyPost_ret (results_cell_row rfl _ _ (w.heap.size + 1 + 1) 56 _ (0, 0) _ rfl (HBq.out.get 2 rfl) Tryd.underlying56 rfl (lim_s HL518.out)) rfl ?_
      exact ⟨_, rfl, HZ518.out.cast HM.out, HBq.out.below⟩
    exact AllReadyH.nil
  · rw [brw_no hlt]
    have hm := HME.out
    rw [if_neg hlt] at hm
    have HM := Lib.hid hm
    have hbv : (((0 : Nat) : Int) != 0) = false := rfl
    clear hm hlt
    go_wp2_with (first | ((with_reducible refine aS 21 ?_); refine wpList_load_part rfl 56 _ rfl (g507) 0 _ 56 (0, 0) _ (HB508.out.get 3 rfl) rfl .u64 z506 (arr_part _ _) Tryd.underlying56 rfl (lim_i HL506.out) ?_) | ((with_reducible refine aT 4 ?_); refine wpList_store_whole rfl 56 _ _ rfl (w.heap.size + 1 + 1) _ _ 56 (HB508.out.get 2 rfl) rfl rfl (arr_len2 _ _ HL506.out HLzl.out) (lim_s HL506.out) (all_arr _ _) ?_; intro w9 hb9 hk9 hz9; have HBq := Lib.hid (HB508.out.put 2 rfl hk9 hb9); clear hb9 hk9 hz9))
    (try simp only [Exit.then])
    refine bodyPost_ret (results_cell_row rfl _ _ (w.heap.size + 1 + 1) 56 _ (0, 0) _ rfl (HBq.out.get 2 rfl) Tryd.underlying56 rfl (lim_s HL506.out)) rfl ?_
    exact ⟨_, rfl, HZ506.out.cast HM.out, HBq.out.below⟩
end Go.Proofs.YtanjhngehfbpbaaDoor.Fp
namespace Go.Proofs.YtanjhngehfbpbaaDoor.Fp
open Go.RowKit Lm

theorem size_8 : (Tryd.prog.info? 105).map (·.size) = some 8 := by kernel_rfl
theorem t8_s {xs : List Int} (h : xs.length = 8) : (Tryd.prog.info? 105).map (·.size) = some (arr .u64 xs).size := by rw [arr_size, h]; exact size_8
theorem t8_i {xs : List Int} (h : xs.length = 8) : (Tryd.prog.info? 105).map (·.size) = some xs.length := by rw [h]; exact size_8
theorem getD_drop (xs : List Nat) (n i : Nat) : (xs.drop n).getD i 0 = xs.getD (n + i) 0 := by simp [List.getD, List.getElem?_drop]
theorem p38_le (y : Nat) (h : y < 18446744073709551616) : y * 38 ≤ 18446744073709551615 * 18446744073709551615 := by omega

set_option maxRecDepth 100000 in
set_option maxHeartbeats 8000000 in
theorem times_any {xs ys : List Int} (a b : Nat) (w : World) (hx : N4 xs a) (hy : N4 ys b) : Calls Tryd.prog 58 #[.agg (arr .u64 xs), .agg (arr .u64 ys)] w fun e w' => ∃ zs, e = .returned (.agg (arr .u64 zs)) ∧ N4 zs (fmul a b) ∧ Below w.heap.size w w' := by
  have hm := fun w => lmul_any (dig 18446744073709551616 4 a) (dig 18446744073709551616 4 b) w (dig_len _ _ _) (dig_len _ _ _) (dig_lt _ (by decide) _ _) (dig_lt _ (by decide) _ _)
  rw [vd a hx.2, vd b hy.2, ← hx.1, ← hy.1] at hm
  obtain ⟨ws, hws⟩ : ∃ r, r = dig 18446744073709551616 8 (a * b) := ⟨_, rfl⟩
  rw [← hws] at hm
  have WL : Hid (ws.length = 8) := Lib.hid (by rw [hws, dig_len])
  have WB : Hid (∀ x ∈ ws, x < 18446744073709551616) := Lib.hid (by rw [hws]; exact dig_lt _ (by decide) _ _)
  have hab : a * b < 18446744073709551616 ^ 8 := by
    rw [show 8 = 4 + 4 from rfl, Nat.pow_add]
    exact Nat.mul_lt_mul_of_lt_of_lt hx.2 hy.2
  have WV : Hid (a * b = val 18446744073709551616 (ws.take 4) + 18446744073709551616 ^ 4 * val 18446744073709551616 (ws.drop 4)) := Lib.hid (by
    have h1 := val_append 18446744073709551616 (ws.take 4) (ws.drop 4)
    rw [List.take_append_drop, List.length_take, WL.out] at h1
    rw [show 18446744073709551616 ^ 4 = 18446744073709551616 ^ min 4 8 from rfl, ← h1, hws, val_dig, Nat.mod_eq_of_lt hab])
  obtain ⟨w8, hw8⟩ : ∃ x, x = nar ws := ⟨_, rfl⟩
  rw [← hw8] at hm
  have W8L : Hid (w8.length = 8) := Lib.hid (by rw [hw8, nar_len, WL.out])
  have W8G : Hid (∀ k, w8.getD k 0 = ((ws.getD k 0 : Nat) : Int)) := Lib.hid (fun k => by rw [hw8, nar_get])
  have HM := Lib.hid hm
  have HXL := Lib.hid hx.len
  have HYL := Lib.hid hy.len
  obtain ⟨zl, hzl⟩ : ∃ zs : List Int, zs = List.replicate 4 0 := ⟨_, rfl⟩
  have HZzl : Hid (∀ w, (zeroValue 56).run Tryd.prog w = .ok (.agg (arr .u64 zl)) w) := Lib.hid (by intro w; rw [hzl]; exact zero_lim w)
  have HLzl : Hid (zl.length = 4) := Lib.hid (by rw [hzl]; rfl)
  obtain ⟨z8, hz8⟩ : ∃ zs : List Int, zs = List.replicate 8 0 := ⟨_, rfl⟩
  have HZz8 : Hid (∀ w, (zeroValue 105).run Tryd.prog w = .ok (.agg (arr .u64 z8)) w) := Lib.hid (by intro w; rw [hz8]; exact Lm.zero8 w)
  have HLz8 : Hid (z8.length = 8) := Lib.hid (by rw [hz8]; rfl)
  have HZL0 : Hid (zl = nar (List.replicate 4 0)) := Lib.hid (by rw [hzl, nar_zeros])
  have HS0 := Lib.hid (Blk.three w (arr .u64 xs) (arr .u64 ys) (arr .u64 zl) 56 56 56)
  clear hzl hz8 hx hy hm hws hw8 hab
  go_enter Tryd.func58, Tryd.ntmps58
  go_upto_region 1 with (first | ((with_reducible refine aS 4 ?_); refine wpList_alloc_row rfl 56 rfl _ (HZzl.out _) ?_))
  (try simp only [World.size_alloc, Act.put, sA, sZ, sS])
  generalize (((w.alloc (.cells (arr .u64 xs) 56)).alloc (.cells (arr .u64 ys) 56)).alloc (.cells (arr .u64 zl) 56)) = wb at HS0 ⊢
  go_upto_region 3 with (first | ((with_reducible refine aS 12 ?_); refine wpList_load_part rfl 56 _ rfl (w.heap.size) 0 _ 56 (0, 0) _ (HS0.out.get 0 rfl) rfl .u64 xs (arr_part _ _) Tryd.underlying56 rfl (lim_i HXL.out) ?_) | ((with_reducible refine aS 13 ?_); refine wpList_load_part rfl 56 _ rfl (w.heap.size + 1) 0 _ 56 (0, 0) _ (HS0.out.get 1 rfl) rfl .u64 ys (arr_part _ _) Tryd.underlying56 rfl (lim_i HYL.out) ?_) | ((with_reducible show Calls _ 79 _ _ _); go_at_call 79; refine (HM.out _).mono ?_; rintro e w1 ⟨rfl, hb1⟩; have HB1 := Lib.hid (HS0.out.kept hb1); clear hb1) | ((with_reducible refine aS 5 ?_); refine wpList_alloc_row rfl 105 rfl _ (HZz8.out _) ?_; have HB2 := Lib.hid (HB1.out.alloc (arr .u64 z8) 105); generalize w1.heap.size = g5 at HB2 ⊢; generalize w1.alloc (.cells (arr .u64 z8) 105) = w2 at HB2 ⊢) | ((with_reducible refine aT 5 ?_); refine wpList_store_whole rfl 105 _ _ rfl (g5) _ _ 105 (HB2.out.get 3 rfl) rfl rfl (arr_len2 _ _ W8L.out HLz8.out) (t8_s W8L.out) (all_arr _ _) ?_; intro w3 hb3 hk3 hz3; have HB3 := Lib.hid (HB2.out.put 3 rfl hk3 hb3); clear hb3 hk3 hz3) | ((with_reducible refine aS 6 ?_); refine wpList_alloc_row rfl 56 rfl _ (HZzl.out _) ?_; have HB4 := Lib.hid (HB3.out.alloc (arr .u64 zl) 56); generalize w3.heap.size = g6 at HB4 ⊢; generalize w3.alloc (.cells (arr .u64 zl) 56) = w4 at HB4 ⊢))
  go_wp2_with fail
  go_loopw [7, 15] (fun cv jv wr => ∃ (j c : Nat) (os : List Nat), j ≤ 4 ∧ jv = .int .i64 j ∧ cv = .int .u64 c ∧ c ≤ 39 ∧ os.length = 4 ∧ (∀ x ∈ os, x < 18446744073709551616) ∧ val 18446744073709551616 (os.take j) + 18446744073709551616 ^ j * c = val 18446744073709551616 (ws.take j) + 38 * val 18446744073709551616 ((ws.drop 4).take j) ∧ Blk w wr [(w.heap.size, arr .u64 xs, 56), (w.heap.size + 1, arr .u64 ys, 56), (w.heap.size + 1 + 1, arr .u64 zl, 56), (g5, arr .u64 w8, 105), (g6, arr .u64 (nar os), 56)]) (fun _ jv _ => 4 - (intOf jv).toNat)
  case atStart => exact ⟨0, 0, List.replicate 4 0, Nat.zero_le _, rfl, rfl, Nat.zero_le _, by simp, by simp, by simp [val], by rw [← HZL0.out]; exact HB4.out⟩
  clear HS0 HB1 HB2 HB3 HB4
  case round =>
  obtain ⟨j, c, os, hj, rfl, rfl, hc, hol, hob, hv, hB⟩ := hrel
  by_cases hlt : j < 4
  · have q0 := arr_get' (hB.get 3 rfl) j (by rw [W8L.out]; omega)
    have q1 := arr_get' (hB.get 3 rfl) (j + 4) (by rw [W8L.out]; omega)
    have q2 := arr_get' (hB.get 4 rfl) j (by rw [nar_len, hol]; exact hlt)
    have q3 := free_blk (hB.get 4 rfl) j
    rw [W8G.out] at q0 q1
    have x1 := lt_getD WB.out (by decide) j
    have y1 := lt_getD WB.out (by decide) (j + 4)
    have st := fun lo c' hs => times_step 18446744073709551616 j _ _ _ lo c c' (ws.getD j 0) (ws.getD (j + 4) 0) hv hs
    have vm := fun s => val_take_set 18446744073709551616 os j s (by omega)
    have e38 : (ws.drop 4).getD j 0 = ws.getD (j + 4) 0 := by rw [getD_drop, Nat.add_comm]
    have l38 : (ws.drop 4).length = 4 := by rw [List.length_drop, WL.out]
    have v2 := val_take_succ 18446744073709551616 (ws.drop 4) j (by rw [l38]; exact hlt)
    rw [e38] at v2
    rw [← val_take_succ 18446744073709551616 ws j (by rw [WL.out]; omega), ← v2] at st
    clear e38 l38 v2
    generalize ws.getD j 0 = x at q0 x1 st
    generalize ws.getD (j + 4) 0 = y at q1 y1 st
    obtain ⟨m1, m2⟩ := mul_bits (y * 38) c x (p38_le y y1) (by omega) x1
    have M1 := fun w => mul64 y 38 y1 (by decide) w
    have a1 := add64 (y * 38 % 18446744073709551616) c 0 (by omega)
    have a2 := add64 ((y * 38 % 18446744073709551616 + c) % 18446744073709551616) x 0 (by omega)
    rw [Nat.add_zero] at a1 a2
    have e0 : ((0 : Nat) : Int) = 0 := rfl
    have e38 : ((38 : Nat) : Int) = 38 := rfl
    rw [e0] at a1 a2
    rw [e38] at M1
    have k0 : y * 38 / 18446744073709551616 ≤ 37 := by omega
    have k1 : (y * 38 % 18446744073709551616 + c) / 18446744073709551616 ≤ 1 := by omega
    have k2 : ((y * 38 % 18446744073709551616 + c) % 18446744073709551616 + x) / 18446744073709551616 ≤ 1 := by omega
    have k3 : ((y * 38 % 18446744073709551616 + c) % 18446744073709551616 + x) % 18446744073709551616 < 18446744073709551616 := Nat.mod_lt _ (by decide)
    generalize hP : y * 38 = P at M1 a1 a2 k0 k1 k2 k3 m1 m2
    have k4 : P % 18446744073709551616 < 18446744073709551616 := Nat.mod_lt _ (by decide)
    have k5 : (P % 18446744073709551616 + c) % 18446744073709551616 < 18446744073709551616 := Nat.mod_lt _ (by decide)
    generalize P / 18446744073709551616 = h0 at M1 k0 m1 m2
    generalize P % 18446744073709551616 = l0 at M1 a1 a2 k1 k2 k3 k4 k5 m1 m2
    generalize (l0 + c) / 18446744073709551616 = c1 at a1 k1 m1 m2
    generalize (l0 + c) % 18446744073709551616 = s1 at a1 a2 k2 k3 k5 m1 m2
    generalize (s1 + x) / 18446744073709551616 = c2 at a2 k2 m1 m2
    generalize (s1 + x) % 18446744073709551616 = lo at a2 k3 m1
    subst hP
    have hst := st lo (h0 + c1 + c2) (by omega)
    rw [← vm] at hst
    have hb1 := hB.cell 4 rfl j (.int .u64 ((lo : Nat) : Int))
    have e2 : (arr .u64 (nar os)).setIfInBounds j (.int .u64 ((lo : Nat) : Int)) = arr .u64 (nar (os.set j lo)) := by rw [arr_set, ← nar_set]
    have HB1 := Lib.hid (hb1.cast (l' := [(w.heap.size, arr .u64 xs, 56), (w.heap.size + 1, arr .u64 ys, 56), (w.heap.size + 1 + 1, arr .u64 zl, 56), (g5, arr .u64 w8, 105), (g6, arr .u64 (nar (os.set j lo)), 56)]) (by rw [← e2]; rfl))
    have HST := Lib.hid hst
    have HOL : Hid ((os.set j lo).length = 4) := Lib.hid (by rw [List.length_set, hol])
    have HOB : Hid (∀ z ∈ os.set j lo, z < 18446744073709551616) := Lib.hid (lt_set hob j lo k3)
    have hc39 : h0 + c1 + c2 ≤ 39 := by omega
    have HM1 := Lib.hid M1
    clear hb1 e2 hst st vm hB hol hob hv m1 m2 M1 e0 e38
    go_wp2_with (first | ((with_reducible show Calls _ 102 _ _ _); go_at_call 102; refine (HM1.out _).mono ?_; rintro e w8' ⟨rfl, h8⟩; rw [h8]; clear h8 w8'))
    go_roundw
    case rel => exact ⟨j + 1, h0 + c1 + c2, _, by omega, by go_num, by go_num, hc39, HOL.out, HOB.out, HST.out, HB1.out⟩
    case measure => simp [intOf]; omega
  · obtain rfl : j = 4 := by omega
    have l38 : (ws.drop 4).length = 4 := by rw [List.length_drop, WL.out]
    rw [List.take_of_length_le (Nat.le_of_eq hol), List.take_of_length_le (Nat.le_of_eq l38)] at hv
    have hn := val_lt 18446744073709551616 os hob
    rw [hol] at hn
    have hte := times_eq (a * b) _ c _ _ hv WV.out
    have hN : N4 (nar os) (val 18446744073709551616 os) := ⟨congrArg nar (dig_eq 18446744073709551616 (by decide) 4 _ os hol hob rfl), hn⟩
    have HC : c ≤ 1000 := by omega
    have HN := Lib.hid hN
    have HNL := Lib.hid hN.len
    have HTE := Lib.hid hte
    have HB := Lib.hid hB
    obtain ⟨o0, ho0⟩ : ∃ x, x = nar os := ⟨_, rfl⟩
    rw [← ho0] at HN HNL HB
    clear hB hv hn hte hN hol hob l38 ho0 hc
    go_wp2_with (first | ((with_reducible refine aS 50 ?_); refine wpList_load_part rfl 56 _ rfl (g6) 0 _ 56 (0, 0) _ (HB.out.get 4 rfl) rfl .u64 o0 (arr_part _ _) Tryd.underlying56 rfl (lim_i HNL.out) ?_) | ((with_reducible show Calls _ 104 _ _ _); go_at_call 104; refine (fold_any _ c _ HN.out HC).mono ?_; rintro e w5 ⟨z5, rfl, h5, hb5⟩; have HZ5 := Lib.hid h5; have HL5 := Lib.hid h5.len; have HB5 := Lib.hid (HB.out.kept hb5); clear h5 hb5) | ((with_reducible refine aT 4 ?_); refine wpList_store_whole rfl 56 _ _ rfl (w.heap.size + 1 + 1) _ _ 56 (HB5.out.get 2 rfl) rfl rfl (arr_len2 _ _ HL5.out HLzl.out) (lim_s HL5.out) (all_arr _ _) ?_; intro w6 hb6 hk6 hz6; have HB6 := Lib.hid (HB5.out.put 2 rfl hk6 hb6); clear hb6 hk6 hz6))
    (try simp only [Exit.inBlock, Exit.then])
    refine bodyPost_ret (results_cell_row rfl _ _ (w.heap.size + 1 + 1) 56 _ (0, 0) _ rfl (HB6.out.get 2 rfl) Tryd.underlying56 rfl (lim_s HL5.out)) rfl ?_
    exact ⟨_, rfl, HZ5.out.cast HTE.out, HB6.out.below⟩
end Go.Proofs.YtanjhngehfbpbaaDoor.Fp
namespace Go.Proofs.YtanjhngehfbpbaaDoor.Fp
open Go.RowKit Lm

theorem and1w (y : Nat) (h : y < 18446744073709551616) : bits .and .u64 (y : Int) 1 = ((y % 2 : Nat) : Int) := by
  have e : y &&& 1 = y % 2 := Nat.and_two_pow_sub_one_eq_mod y 1
  have h1 : (BitVec.ofInt 64 (y : Int)).toNat = y := by rw [BitVec.ofInt_natCast, BitVec.toNat_ofNat]; exact Nat.mod_eq_of_lt (by omega)
  have h2 : (BitVec.ofInt 64 (1 : Int)).toNat = 1 := by decide
  show IntKind.u64.wrap ((BitVec.ofInt 64 (y : Int) &&& BitVec.ofInt 64 (1 : Int)).toNat : Int) = _
  rw [BitVec.toNat_and, h1, h2, e, IntKind.wrap_u64]
  omega
theorem limb_bit (es : List Int) (v k : Nat) (he : es = nar (dig 18446744073709551616 4 v)) (hk : k < 256) : ∃ y : Nat, es.getD (k / 64) 0 = y ∧ y < 18446744073709551616 ∧ bits .and .u64 ((y : Int) / 2 ^ (k % 64)) 1 = ((v / 2 ^ k % 2 : Nat) : Int) := by
  refine ⟨v / 18446744073709551616 ^ (k / 64) % 18446744073709551616, by rw [he, nar_get, dig_get _ _ _ _ (by omega)], Nat.mod_lt _ (by decide), ?_⟩
  have e1 : ((v / 18446744073709551616 ^ (k / 64) % 18446744073709551616 : Nat) : Int) / 2 ^ (k % 64) = ((v / 18446744073709551616 ^ (k / 64) % 18446744073709551616 / 2 ^ (k % 64) : Nat) : Int) := by
    rw [Int.natCast_ediv, Int.natCast_pow]; rfl
  rw [e1, and1w _ (Nat.lt_of_le_of_lt (Nat.div_le_self _ _) (Nat.mod_lt _ (by decide))), bit_limb]

set_option maxRecDepth 100000 in
set_option maxHeartbeats 2000000 in
theorem bit_any {xs : List Int} (a k b : Nat) (w : World) (hx : N4 xs a) (hk : k < 256) (hb : a / 2 ^ k % 2 = b) : Calls Tryd.prog 61 #[.agg (arr .u64 xs), .int .i64 k] w fun e w' => e = .returned (.int .u64 (b : Int)) ∧ Below w.heap.size w w' := by
  obtain ⟨y, hy, hy2, hbit⟩ := limb_bit xs a k hx.1 hk
  rw [hb] at hbit
  have hl := hx.len
  have HS0 := Blk.one w (arr .u64 xs) 56
  have q0 := arr_get' (HS0.get 0 rfl) (k / 64) (by rw [hl]; omega)
  rw [hy] at q0
  have HB0 := Lib.hid HS0
  clear hb hx hy HS0 hl
  go_enter Tryd.func61, Tryd.ntmps61
  go_wp2_with fail
  (try simp only [Exit.then])
  go_ret
  exact ⟨rfl, HB0.out.below⟩

set_option maxRecDepth 100000 in
set_option maxHeartbeats 2000000 in
theorem nless_any {xs ys : List Int} (a b : Nat) (w : World) (hx : N4 xs a) (hy : N4 ys b) : Calls Tryd.prog 81 #[.agg (arr .u64 xs), .agg (arr .u64 ys)] w fun e w' => e = .returned (.bool (decide (a < b))) ∧ Below w.heap.size w w' := by
  have HX := Lib.hid hx
  have HY := Lib.hid hy
  have HXL := Lib.hid hx.len
  have HYL := Lib.hid hy.len
  obtain ⟨zl, hzl⟩ : ∃ zs : List Int, zs = List.replicate 4 0 := ⟨_, rfl⟩
  have HZzl : Hid (∀ w, (zeroValue 56).run Tryd.prog w = .ok (.agg (arr .u64 zl)) w) := Lib.hid (by intro w; rw [hzl]; exact zero_lim w)
  have HLzl : Hid (zl.length = 4) := Lib.hid (by rw [hzl]; rfl)
  have HS0 := Lib.hid (Blk.two w (arr .u64 xs) (arr .u64 ys) 56 56)
  obtain ⟨c, hc⟩ : ∃ c, c = decide (a < b) := ⟨_, rfl⟩
  rw [← hc]
  have HC := Lib.hid hc
  clear hzl hx hy hc
  go_enter Tryd.func81, Tryd.ntmps81
  go_upto_region 1 with fail
  generalize ((w.alloc (.cells (arr .u64 xs) 56)).alloc (.cells (arr .u64 ys) 56)) = wb at HS0 ⊢
  go_upto_region 2 with (first | ((with_reducible refine aS 8 ?_); refine wpList_load_part rfl 56 _ rfl (w.heap.size) (0) _ 56 (0, 0) _ (HS0.out.get 0 rfl) rfl .u64 xs (arr_part _ _) Tryd.underlying56 rfl (lim_i HXL.out) ?_) | ((with_reducible refine aS 9 ?_); refine wpList_load_part rfl 56 _ rfl (w.heap.size + 1) (0) _ 56 (0, 0) _ (HS0.out.get 1 rfl) rfl .u64 ys (arr_part _ _) Tryd.underlying56 rfl (lim_i HYL.out) ?_) | ((with_reducible show Calls _ 106 #[.agg _, .agg _] _ _); go_at_call 106; refine (lsub4 _ _ _ HX.out HY.out).mono ?_; rintro e w901 ⟨z901, rfl, h901, hb901⟩; have HZ901 := Lib.hid h901; have HL901 := Lib.hid h901.len; clear h901; have HB901 := Lib.hid (HS0.out.kept hb901); clear hb901) | ((with_reducible refine aS 5 ?_); refine wpList_alloc_row rfl 56 rfl _ (HZzl.out _) ?_; have HB902 := Lib.hid (HB901.out.alloc (arr .u64 zl) 56); generalize w901.heap.size = g902 at HB902 ⊢; generalize w901.alloc (.cells (arr .u64 zl) 56) = w902 at HB902 ⊢; clear HB901) | ((with_reducible refine aT 5 (x := (Operand.tmp 11)) ?_); refine wpList_store_whole rfl 56 _ _ rfl (g902) _ _ 56 (HB902.out.get 2 rfl) rfl rfl (arr_len2 _ _ HL901.out HLzl.out) (lim_s HL901.out) (all_arr _ _) ?_; intro w903 hb903 hk903 hz903; have HB903 := Lib.hid (HB902.out.put 2 rfl hk903 hb903); clear hb903 hk903 hz903; clear HB902))
  by_cases hlt : a < b
  · rw [brw_yes hlt]
    have hbv : (((1 : Nat) : Int) != 0) = true := rfl
    have HCC : Hid (true = c) := Lib.hid (by rw [HC.out, decide_eq_true hlt])
    clear hlt
    go_wp2_with fail
    (try simp only [Exit.then])
    go_ret
    exact ⟨congrArg (fun c => Ending.returned (.bool c)) HCC.out, HB903.out.below⟩
  · rw [brw_no hlt]
    have hbv : (((0 : Nat) : Int) != 0) = false := rfl
    have HCC : Hid (false = c) := Lib.hid (by rw [HC.out, decide_eq_false hlt])
    clear hlt
    go_wp2_with fail
    (try simp only [Exit.then])
    go_ret
    exact ⟨congrArg (fun c => Ending.returned (.bool c)) HCC.out, HB903.out.below⟩

set_option maxRecDepth 100000 in
set_option maxHeartbeats 4000000 in
theorem power_any {xs es : List Int} (a v : Nat) (w : World) (hx : N4 xs a) (he : N4 es v) : Calls Tryd.prog 107 #[.agg (arr .u64 xs), .agg (arr .u64 es)] w fun e w' => ∃ zs, e = .returned (.agg (arr .u64 zs)) ∧ N4 zs (fpow a v 256) ∧ Below w.heap.size w w' := by
  have hn1 := n4_small 1 (by decide)
  have hbd := fun w => build_raw 1 w
  obtain ⟨u1, hu1⟩ : ∃ b : List Int, b = [(1 : Int), 0, 0, 0] := ⟨_, rfl⟩
  have hn2 : N4 u1 (fpow a v 0) := by rw [hu1]; exact hn1
  rw [← hu1] at hbd
  have HBD := Lib.hid hbd
  have HU := Lib.hid hn2
  have HUL := Lib.hid hn2.len
  have HX := Lib.hid hx
  have HE := Lib.hid he
  have HXL := Lib.hid hx.len
  have HEL := Lib.hid he.len
  obtain ⟨zl, hzl⟩ : ∃ zs : List Int, zs = List.replicate 4 0 := ⟨_, rfl⟩
  have HZzl : Hid (∀ w, (zeroValue 56).run Tryd.prog w = .ok (.agg (arr .u64 zl)) w) := Lib.hid (by intro w; rw [hzl]; exact zero_lim w)
  have HLzl : Hid (zl.length = 4) := Lib.hid (by rw [hzl]; rfl)
  have HS0 := Lib.hid (Blk.three w (arr .u64 xs) (arr .u64 es) (arr .u64 zl) 56 56 56)
  clear hzl hx he hn1 hn2 hbd hu1
  go_enter Tryd.func107, Tryd.ntmps107
  go_upto_region 1 with (first | ((with_reducible refine aS 4 ?_); refine wpList_alloc_row rfl 56 rfl _ (HZzl.out _) ?_))
  generalize (((w.alloc (.cells (arr .u64 xs) 56)).alloc (.cells (arr .u64 es) 56)).alloc (.cells (arr .u64 zl) 56)) = wb at HS0 ⊢
  go_wp2_with (first | ((with_reducible refine aS 7 ?_); refine wpList_build (by rfl) 56 _ rfl #[(0, .int .u64 1)] rfl _ (HBD.out _) ?_) | ((with_reducible refine aS 5 ?_); refine wpList_alloc_row rfl 56 rfl _ (HZzl.out _) ?_; have HB2 := Lib.hid (HS0.out.alloc (arr .u64 zl) 56); generalize wb.heap.size = gx at HB2 ⊢; generalize wb.alloc (.cells (arr .u64 zl) 56) = w2 at HB2 ⊢) | ((with_reducible refine aT 5 ?_); refine wpList_store_whole rfl 56 _ _ rfl (gx) _ _ 56 (HB2.out.get 3 rfl) rfl rfl (arr_len2 _ _ HUL.out HLzl.out) (lim_s HUL.out) (all_arr _ _) ?_; intro w3 hb3 hk3 hz3; have HB3 := Lib.hid (HB2.out.put 3 rfl hk3 hb3); clear hb3 hk3 hz3))
  go_loopw [6] (fun v' wr => ∃ n : Nat, n ≤ 256 ∧ v' = .int .i64 (255 - (n : Int)) ∧ ∃ cs : List Int, N4 cs (fpow a v n) ∧ Blk w wr [(w.heap.size, arr .u64 xs, 56), (w.heap.size + 1, arr .u64 es, 56), (w.heap.size + 1 + 1, arr .u64 zl, 56), (gx, arr .u64 cs, 56)]) (fun v' _ => (intOf v' + 1).toNat)
  case atStart => exact ⟨0, Nat.zero_le _, rfl, _, HU.out, HB3.out⟩
  clear HS0 HB2 HB3
  case round =>
  obtain ⟨n, hn, rfl, cs, hcs, hB⟩ := hrel
  by_cases hlt : n < 256
  · obtain ⟨i, hi⟩ : ∃ i : Nat, i + n = 255 := ⟨255 - n, by omega⟩
    have hz : (255 : Int) - (n : Int) = (i : Int) := by omega
    have hi2 : i < 256 := by omega
    have hpn := pow_next a v n
    rw [show 255 - n = i by omega] at hpn
    rw [hz]
    have HCS := Lib.hid hcs
    have HCL := Lib.hid hcs.len
    have HB := Lib.hid hB
    have HI := Lib.hid hi
    clear hcs hB hz hi
    have q9 : 0 ≤ (i : Int) := by omega
    rcases (show v / 2 ^ i % 2 = 0 ∨ v / 2 ^ i % 2 = 1 by omega) with hb | hb
    · rw [if_neg (by omega)] at hpn
      have HPN := Lib.hid hpn
      have HBT := Lib.hid hb
      clear hpn hb
      go_wp2_with (first | ((with_reducible refine aS 12 ?_); refine wpList_load_part rfl 56 _ rfl (gx) 0 _ 56 (0, 0) _ (HB.out.get 3 rfl) rfl .u64 cs (arr_part _ _) Tryd.underlying56 rfl (lim_i HCL.out) ?_) | ((with_reducible refine aS 13 ?_); refine wpList_load_part rfl 56 _ rfl (gx) 0 _ 56 (0, 0) _ (HB.out.get 3 rfl) rfl .u64 cs (arr_part _ _) Tryd.underlying56 rfl (lim_i HCL.out) ?_) | ((with_reducible show Calls _ _ #[.agg (arr _ cs), .agg (arr _ cs)] _ _); go_at_call 58; refine (times_any _ _ _ HCS.out HCS.out).mono ?_; rintro e w5 ⟨z5, rfl, h5, hb5⟩; have HZ5 := Lib.hid h5; have HL5 := Lib.hid h5.len; have HB5 := Lib.hid (HB.out.kept hb5); clear h5 hb5) | ((with_reducible refine aT 5 ?_); refine wpList_store_whole rfl 56 _ _ rfl (gx) _ _ 56 (HB5.out.get 3 rfl) rfl rfl (arr_len2 _ _ HL5.out HCL.out) (lim_s HL5.out) (all_arr _ _) ?_; intro w6 hb6 hk6 hz6; have HB6 := Lib.hid (HB5.out.put 3 rfl hk6 hb6); clear hb6 hk6 hz6) | ((with_reducible refine aS 15 ?_); refine wpList_load_part rfl 56 _ rfl (w.heap.size + 1) 0 _ 56 (0, 0) _ (HB6.out.get 1 rfl) rfl .u64 es (arr_part _ _) Tryd.underlying56 rfl (lim_i HEL.out) ?_) | ((with_reducible show Calls _ 61 _ _ _); go_at_call 61; refine (bit_any _ i _ _ HE.out hi2 HBT.out).mono ?_; rintro e w7 ⟨rfl, hb7⟩; have HB7 := Lib.hid (HB6.out.kept hb7); clear hb7))
      go_roundw
      case rel =>
        have e := HI.out
        exact ⟨n + 1, by omega, by congr 1; omega, _, by rw [HPN.out]; exact HZ5.out, HB7.out⟩
      case measure => simp [intOf]
    · rw [if_pos hb] at hpn
      have HPN := Lib.hid hpn
      have HBT := Lib.hid hb
      clear hpn hb
      go_wp2_with (first | ((with_reducible refine aS 12 ?_); refine wpList_load_part rfl 56 _ rfl (gx) 0 _ 56 (0, 0) _ (HB.out.get 3 rfl) rfl .u64 cs (arr_part _ _) Tryd.underlying56 rfl (lim_i HCL.out) ?_) | ((with_reducible refine aS 13 ?_); refine wpList_load_part rfl 56 _ rfl (gx) 0 _ 56 (0, 0) _ (HB.out.get 3 rfl) rfl .u64 cs (arr_part _ _) Tryd.underlying56 rfl (lim_i HCL.out) ?_) | ((with_reducible show Calls _ _ #[.agg (arr _ cs), .agg (arr _ cs)] _ _); go_at_call 58; refine (times_any _ _ _ HCS.out HCS.out).mono ?_; rintro e w5 ⟨z5, rfl, h5, hb5⟩; have HZ5 := Lib.hid h5; have HL5 := Lib.hid h5.len; have HB5 := Lib.hid (HB.out.kept hb5); clear h5 hb5) | (with_reducible refine aT 5 (x := (Operand.tmp 14)) ?_); ((with_reducible refine aT 5 ?_); refine wpList_store_whole rfl 56 _ _ rfl (gx) _ _ 56 (HB5.out.get 3 rfl) rfl rfl (arr_len2 _ _ HL5.out HCL.out) (lim_s HL5.out) (all_arr _ _) ?_; intro w6 hb6 hk6 hz6; have HB6 := Lib.hid (HB5.out.put 3 rfl hk6 hb6); clear hb6 hk6 hz6) | ((with_reducible refine aS 15 ?_); refine wpList_load_part rfl 56 _ rfl (w.heap.size + 1) 0 _ 56 (0, 0) _ (HB6.out.get 1 rfl) rfl .u64 es (arr_part _ _) Tryd.underlying56 rfl (lim_i HEL.out) ?_) | ((with_reducible show Calls _ 61 _ _ _); go_at_call 61; refine (bit_any _ i _ _ HE.out hi2 HBT.out).mono ?_; rintro e w7 ⟨rfl, hb7⟩; have HB7 := Lib.hid (HB6.out.kept hb7); clear hb7) | ((with_reducible refine aS 19 ?_); refine wpList_load_part rfl 56 _ rfl (gx) 0 _ 56 (0, 0) _ (HB7.out.get 3 rfl) rfl .u64 z5 (arr_part _ _) Tryd.underlying56 rfl (lim_i HL5.out) ?_) | ((with_reducible refine aS 20 ?_); refine wpList_load_part rfl 56 _ rfl (w.heap.size) 0 _ 56 (0, 0) _ (HB7.out.get 0 rfl) rfl .u64 xs (arr_part _ _) Tryd.underlying56 rfl (lim_i HXL.out) ?_) | ((with_reducible show Calls _ _ #[.agg (arr _ z5), .agg (arr _ xs)] _ _); go_at_call 58; refine (times_any _ _ _ HZ5.out HX.out).mono ?_; rintro e w8 ⟨z8, rfl, h8, hb8⟩; have HZ8 := Lib.hid h8; have HL8 := Lib.hid h8.len; have HB8 := Lib.hid (HB7.out.kept hb8); clear h8 hb8) | (with_reducible refine aT 5 (x := (Operand.tmp 21)) ?_); ((with_reducible refine aT 5 ?_); refine wpList_store_whole rfl 56 _ _ rfl (gx) _ _ 56 (HB8.out.get 3 rfl) rfl rfl (arr_len2 _ _ HL8.out HL5.out) (lim_s HL8.out) (all_arr _ _) ?_; intro w9 hb9 hk9 hz9; have HB9 := Lib.hid (HB8.out.put 3 rfl hk9 hb9); clear hb9 hk9 hz9))
      go_roundw
      case rel =>
        have e := HI.out
        exact ⟨n + 1, by omega, by congr 1; omega, _, by rw [HPN.out]; exact HZ8.out, HB9.out⟩
      case measure => simp [intOf]
  · obtain rfl : n = 256 := by omega
    have hz : (255 : Int) - ((256 : Nat) : Int) = -1 := by omega
    rw [hz]
    have HCS := Lib.hid hcs
    have HCL := Lib.hid hcs.len
    have HB := Lib.hid hB
    clear hcs hB hz
    go_wp2_with (first | ((with_reducible refine aS 22 ?_); refine wpList_load_part rfl 56 _ rfl (gx) 0 _ 56 (0, 0) _ (HB.out.get 3 rfl) rfl .u64 cs (arr_part _ _) Tryd.underlying56 rfl (lim_i HCL.out) ?_) | ((with_reducible refine aT 4 ?_); refine wpList_store_whole rfl 56 _ _ rfl (w.heap.size + 1 + 1) _ _ 56 (HB.out.get 2 rfl) rfl rfl (arr_len2 _ _ HCL.out HLzl.out) (lim_s HCL.out) (all_arr _ _) ?_; intro w8 hb8 hk8 hz8; have HB8 := Lib.hid (HB.out.put 2 rfl hk8 hb8); clear hb8 hk8 hz8))
    (try simp only [Exit.inBlock, Exit.then])
    refine bodyPost_ret (results_cell_row rfl _ _ (w.heap.size + 1 + 1) 56 _ (0, 0) _ rfl (HB8.out.get 2 rfl) Tryd.underlying56 rfl (lim_s HCL.out)) rfl ?_
    exact ⟨_, rfl, HCS.out, HB8.out.below⟩

theorem p_less2 : (p + 18446744073709551616 ^ 4 - 2) % 18446744073709551616 ^ 4 = p - 2 := by decide +kernel
set_option maxRecDepth 100000 in
set_option maxHeartbeats 2000000 in
theorem inverse_any {xs : List Int} (a : Nat) (w : World) (hx : N4 xs a) : Calls Tryd.prog 62 #[.agg (arr .u64 xs)] w fun e w' => ∃ zs, e = .returned (.agg (arr .u64 zs)) ∧ N4 zs (finv a) ∧ Below w.heap.size w w' := by
  have hn1 := n4_small 2 (by decide)
  have hbd := fun w => build_raw 2 w
  obtain ⟨u1, hu1⟩ : ∃ b : List Int, b = [(2 : Int), 0, 0, 0] := ⟨_, rfl⟩
  have hn2 : N4 u1 2 := by rw [hu1]; exact hn1
  rw [← hu1] at hbd
  have HBD := Lib.hid hbd
  have HU := Lib.hid hn2
  have HUL := Lib.hid hn2.len
  have HX := Lib.hid hx
  have HXL := Lib.hid hx.len
  have HP2 := Lib.hid p_less2
  obtain ⟨zl, hzl⟩ : ∃ zs : List Int, zs = List.replicate 4 0 := ⟨_, rfl⟩
  have HZzl : Hid (∀ w, (zeroValue 56).run Tryd.prog w = .ok (.agg (arr .u64 zl)) w) := Lib.hid (by intro w; rw [hzl]; exact zero_lim w)
  have HLzl : Hid (zl.length = 4) := Lib.hid (by rw [hzl]; rfl)
  have HS0 := Lib.hid (Blk.two w (arr .u64 xs) (arr .u64 zl) 56 56)
  clear hzl hx hn1 hn2 hbd hu1
  go_enter Tryd.func62, Tryd.ntmps62
  go_upto_region 1 with (first | ((with_reducible refine aS 2 ?_); refine wpList_alloc_row rfl 56 rfl _ (HZzl.out _) ?_))
  generalize ((w.alloc (.cells (arr .u64 xs) 56)).alloc (.cells (arr .u64 zl) 56)) = wb at HS0 ⊢
  go_upto_region 2 with (first | ((with_reducible show Calls _ 105 _ _ _); go_at_call 105; refine (prime_any _).mono ?_; rintro e w1 ⟨z1, rfl, h1, hb1⟩; have HZ1 := Lib.hid h1; have HL1 := Lib.hid h1.len; have HB1 := Lib.hid (HS0.out.kept hb1); clear h1 hb1) | ((with_reducible refine aS 7 ?_); refine wpList_build (by rfl) 56 _ rfl #[(0, .int .u64 2)] rfl _ (HBD.out _) ?_) | ((with_reducible show Calls _ 106 _ _ _); go_at_call 106; refine (lsub4 _ _ _ HZ1.out HU.out).mono ?_; rintro e w2 ⟨z2, rfl, h2, hb2⟩; have HZ2 := Lib.hid (h2.cast HP2.out); have HL2 := Lib.hid h2.len; have HB2 := Lib.hid (HB1.out.kept hb2); clear h2 hb2) | ((with_reducible refine aS 3 ?_); refine wpList_alloc_row rfl 56 rfl _ (HZzl.out _) ?_; have HB3 := Lib.hid (HB2.out.alloc (arr .u64 zl) 56); generalize w2.heap.size = gx at HB3 ⊢; generalize w2.alloc (.cells (arr .u64 zl) 56) = w3 at HB3 ⊢) | ((with_reducible refine aT 3 ?_); refine wpList_store_whole rfl 56 _ _ rfl (gx) _ _ 56 (HB3.out.get 2 rfl) rfl rfl (arr_len2 _ _ HL2.out HLzl.out) (lim_s HL2.out) (all_arr _ _) ?_; intro w4 hb4 hk4 hz4; have HB4 := Lib.hid (HB3.out.put 2 rfl hk4 hb4); clear hb4 hk4 hz4))
  go_wp2_with (first | ((with_reducible refine aS 11 ?_); refine wpList_load_part rfl 56 _ rfl (w.heap.size) 0 _ 56 (0, 0) _ (HB4.out.get 0 rfl) rfl .u64 xs (arr_part _ _) Tryd.underlying56 rfl (lim_i HXL.out) ?_) | ((with_reducible refine aS 12 ?_); refine wpList_load_part rfl 56 _ rfl (gx) 0 _ 56 (0, 0) _ (HB4.out.get 2 rfl) rfl .u64 z2 (arr_part _ _) Tryd.underlying56 rfl (lim_i HL2.out) ?_) | ((with_reducible show Calls _ 107 _ _ _); go_at_call 107; refine (power_any _ _ _ HX.out HZ2.out).mono ?_; rintro e w5 ⟨z5, rfl, h5, hb5⟩; have HZ5 := Lib.hid h5; have HL5 := Lib.hid h5.len; have HB5 := Lib.hid (HB4.out.kept hb5); clear h5 hb5) | ((with_reducible refine aT 2 ?_); refine wpList_store_whole rfl 56 _ _ rfl (w.heap.size + 1) _ _ 56 (HB5.out.get 1 rfl) rfl rfl (arr_len2 _ _ HL5.out HLzl.out) (lim_s HL5.out) (all_arr _ _) ?_; intro w6 hb6 hk6 hz6; have HB6 := Lib.hid (HB5.out.put 1 rfl hk6 hb6); clear hb6 hk6 hz6))
  (try simp only [Exit.then])
  refine bodyPost_ret (results_cell_row rfl _ _ (w.heap.size + 1) 56 _ (0, 0) _ rfl (HB6.out.get 1 rfl) Tryd.underlying56 rfl (lim_s HL5.out)) rfl ?_
  exact ⟨_, rfl, HZ5.out, HB6.out.below⟩
end Go.Proofs.YtanjhngehfbpbaaDoor.Fp
namespace Go.Proofs.YtanjhngehfbpbaaDoor.Fp
open Go.RowKit Lm

theorem exec_neq_limb {P : Program} {o : Oper} {ev : Operand → Value} {w : World} (t ty : TypeId) (e : TypeId) (x y : Operand) (ho : o.op = .binOp .neq t x y ty) (n : Nat) (k k' : IntKind)
    (ht : P.underlying t = some (.array n e)) (he : P.underlying e = some (.int k')) (hsz : ∀ w, (sizeOf e).run P w = .ok 1 w) (hm : P.eqGuardType P.depth t = false)
    (xs ys : List Int) (hx : ev x = .agg (arr k xs)) (hy : ev y = .agg (arr k ys)) (lx : xs.length = n) (ly : ys.length = n) (b : Bool) (hb : (!(xs == ys)) = b) :
    (execOp ev o).run P w = .ok (.value (.bool b)) w := by
  simp only [execOp, ho, hx, hy, Sem.run_bind, run_eqGuard_agg w .neq t x y _ _ hm, Result.andThen_ok, run_neq_arr w t e n k k' ht he hsz xs ys lx ly, hb]
  rfl
theorem n4_neq {xs ys : List Int} {a b : Nat} (hx : N4 xs a) (hy : N4 ys b) (c : Bool) (h : decide (a ≠ b) = c) : (!(xs == ys)) = c := by
  rw [N4.inj hx hy, ← h]
  by_cases e : a = b <;> simp [e]
theorem build_eighth (w : World) : (Instr.build 56 #[(0, .int .u64 18446744073709551614), (1, .int .u64 18446744073709551615), (2, .int .u64 18446744073709551615), (3, .int .u64 1152921504606846975)]).run Tryd.prog w = .ok (.agg (arr .u64 (nar (dig 18446744073709551616 4 eighth)))) w := by kernel_rfl
theorem build_im (w : World) : (Instr.build 56 #[(0, .int .u64 14190309331451158704), (1, .int .u64 3405592160176694392), (2, .int .u64 3120150775007532967), (3, .int .u64 3135389899092516619)]).run Tryd.prog w = .ok (.agg (arr .u64 (nar (dig 18446744073709551616 4 im)))) w := by kernel_rfl
theorem build_none (w : World) : (Instr.build 56 #[]).run Tryd.prog w = .ok (.agg (arr .u64 [0, 0, 0, 0])) w := by kernel_rfl
theorem eighth_lt : eighth < 18446744073709551616 ^ 4 := by decide +kernel
theorem im_lt : im < 18446744073709551616 ^ 4 := by decide +kernel
theorem fsqrt_eq (a x y : Nat) (hx : x = fpow a eighth 256) (hy : y = if fmul x x = a then x else fmul x im) : fsqrt a = if fmul y y = a then (if y % 2 = 1 then fsub 0 y else y, true) else (0, false) := by
  subst hx; subst hy; rfl

set_option maxRecDepth 100000 in
set_option maxHeartbeats 8000000 in
theorem square_any {xs : List Int} (a : Nat) (w : World) (hx : N4 xs a) : Calls Tryd.prog 75 #[.agg (arr .u64 xs)] w fun e w' => ∃ zs, e = .returned (.tuple #[.agg (arr .u64 zs), .bool (fsqrt a).2]) ∧ N4 zs (fsqrt a).1 ∧ Below w.heap.size w w' := by
  have he := n4_of eighth eighth_lt
  have hi := n4_of im im_lt
  have hbe := build_eighth
  have hbi := build_im
  have hbz := build_none
  have hz : N4 [0, 0, 0, 0] 0 := n4_small 0 (by decide)
  obtain ⟨es, hes⟩ : ∃ x, x = nar (dig 18446744073709551616 4 eighth) := ⟨_, rfl⟩
  rw [← hes] at he hbe
  obtain ⟨is, his⟩ : ∃ x, x = nar (dig 18446744073709551616 4 im) := ⟨_, rfl⟩
  rw [← his] at hi hbi
  obtain ⟨os, hos⟩ : ∃ x : List Int, x = [0, 0, 0, 0] := ⟨_, rfl⟩
  rw [← hos] at hz hbz
  have HE := Lib.hid he
  have HEL := Lib.hid he.len
  have HI := Lib.hid hi
  have HIL := Lib.hid hi.len
  have HO := Lib.hid hz
  have HOL := Lib.hid hz.len
  have HBE := Lib.hid hbe
  have HBI := Lib.hid hbi
  have HBO := Lib.hid hbz
  have hpw := fun w => power_any a eighth w hx HE.out
  have hxl := fpow_lt a eighth 256
  obtain ⟨x0, hx0⟩ : ∃ x, x = fpow a eighth 256 := ⟨_, rfl⟩
  rw [← hx0] at hpw hxl
  have HPW := Lib.hid hpw
  have HX0 := Lib.hid hxl
  have HRS := Lib.hid (fun y hy => fsqrt_eq a x0 y hx0 hy)
  have HX := Lib.hid hx
  have HXL := Lib.hid hx.len
  obtain ⟨zl, hzl⟩ : ∃ zs : List Int, zs = List.replicate 4 0 := ⟨_, rfl⟩
  have HZzl : Hid (∀ w, (zeroValue 56).run Tryd.prog w = .ok (.agg (arr .u64 zl)) w) := Lib.hid (by intro w; rw [hzl]; exact zero_lim w)
  have HLzl : Hid (zl.length = 4) := Lib.hid (by rw [hzl]; rfl)
  have HS0 := Lib.hid (Blk.two w (arr .u64 xs) (arr .u64 zl) 56 56)
  clear hzl hx he hi hbe hbi hbz hz hes his hos hpw hxl hx0
  go_enter Tryd.func75, Tryd.ntmps75
  go_upto_region 1 with (first | ((with_reducible refine aS 2 ?_); refine wpList_alloc_row rfl 56 rfl _ (HZzl.out _) ?_))
  generalize ((w.alloc (.cells (arr .u64 xs) 56)).alloc (.cells (arr .u64 zl) 56)) = wb at HS0 ⊢
  go_upto_region 2 with (first | ((with_reducible refine aS 7 ?_); refine wpList_build (by rfl) 56 _ rfl #[(0, .int .u64 18446744073709551614), (1, .int .u64 18446744073709551615), (2, .int .u64 18446744073709551615), (3, .int .u64 1152921504606846975)] rfl _ (HBE.out _) ?_) | ((with_reducible refine aS 4 ?_); refine wpList_alloc_row rfl 56 rfl _ (HZzl.out _) ?_; have HB1101 := Lib.hid (HS0.out.alloc (arr .u64 zl) 56); generalize wb.heap.size = g1101 at HB1101 ⊢; generalize wb.alloc (.cells (arr .u64 zl) 56) = w1101 at HB1101 ⊢) | ((with_reducible refine aT 4 (x := (Operand.tmp 7)) ?_); refine wpList_store_whole rfl 56 _ _ rfl (g1101) _ _ 56 (HB1101.out.get 2 rfl) rfl rfl (arr_len2 _ _ HEL.out HLzl.out) (lim_s HEL.out) (all_arr _ _) ?_; intro w1102 hb1102 hk1102 hz1102; have HB1102 := Lib.hid (HB1101.out.put 2 rfl hk1102 hb1102); clear hb1102 hk1102 hz1102; clear HB1101))
  go_upto_region 3 with (first | ((with_reducible refine aS 8 ?_); refine wpList_build (by rfl) 56 _ rfl #[(0, .int .u64 14190309331451158704), (1, .int .u64 3405592160176694392), (2, .int .u64 3120150775007532967), (3, .int .u64 3135389899092516619)] rfl _ (HBI.out _) ?_) | ((with_reducible refine aS 5 ?_); refine wpList_alloc_row rfl 56 rfl _ (HZzl.out _) ?_; have HB1103 := Lib.hid (HB1102.out.alloc (arr .u64 zl) 56); generalize w1102.heap.size = g1103 at HB1103 ⊢; generalize w1102.alloc (.cells (arr .u64 zl) 56) = w1103 at HB1103 ⊢; clear HB1102) | ((with_reducible refine aT 5 (x := (Operand.tmp 8)) ?_); refine wpList_store_whole rfl 56 _ _ rfl (g1103) _ _ 56 (HB1103.out.get 3 rfl) rfl rfl (arr_len2 _ _ HIL.out HLzl.out) (lim_s HIL.out) (all_arr _ _) ?_; intro w1104 hb1104 hk1104 hz1104; have HB1104 := Lib.hid (HB1103.out.put 3 rfl hk1104 hb1104); clear hb1104 hk1104 hz1104; clear HB1103))
  go_upto_region 4 with (first | ((with_reducible refine aS 9 ?_); refine wpList_load_part rfl 56 _ rfl (w.heap.size) (0) _ 56 (0, 0) _ (HB1104.out.get 0 rfl) rfl .u64 xs (arr_part _ _) Tryd.underlying56 rfl (lim_i HXL.out) ?_) | ((with_reducible refine aS 10 ?_); refine wpList_load_part rfl 56 _ rfl (g1101) (0) _ 56 (0, 0) _ (HB1104.out.get 2 rfl) rfl .u64 es (arr_part _ _) Tryd.underlying56 rfl (lim_i HEL.out) ?_) | ((with_reducible show Calls _ 107 #[.agg _, .agg _] _ _); go_at_call 107; refine (HPW.out _).mono ?_; rintro e w1105 ⟨z1105, rfl, h1105, hb1105⟩; have HZ1105 := Lib.hid h1105; have HL1105 := Lib.hid h1105.len; clear h1105; have HB1105 := Lib.hid (HB1104.out.kept hb1105); clear hb1105; clear HB1104) | ((with_reducible refine aS 6 ?_); refine wpList_alloc_row rfl 56 rfl _ (HZzl.out _) ?_; have HB1106 := Lib.hid (HB1105.out.alloc (arr .u64 zl) 56); generalize w1105.heap.size = g1106 at HB1106 ⊢; generalize w1105.alloc (.cells (arr .u64 zl) 56) = w1106 at HB1106 ⊢; clear HB1105) | ((with_reducible refine aT 6 (x := (Operand.tmp 11)) ?_); refine wpList_store_whole rfl 56 _ _ rfl (g1106) _ _ 56 (HB1106.out.get 4 rfl) rfl rfl (arr_len2 _ _ HL1105.out HLzl.out) (lim_s HL1105.out) (all_arr _ _) ?_; intro w1107 hb1107 hk1107 hz1107; have HB1107 := Lib.hid (HB1106.out.put 4 rfl hk1107 hb1107); clear hb1107 hk1107 hz1107; clear HB1106))
  by_cases h1 : fmul x0 x0 = a
  · have HQ : Hid (decide (fmul x0 x0 ≠ a) = false) := Lib.hid (by simp [h1])
    have HYE : Hid (x0 = if fmul x0 x0 = a then x0 else fmul x0 im) := Lib.hid (by rw [if_pos h1])
    have HYL := HX0
    clear h1
    have HK0 := Lib.hid ((Kept.refl (fun _ => False) w1107).drew)
    have HBd := Lib.hid (HB1107.out.drew)
    refine wp_region_held_drew (S := (fun w' => Kept (fun _ => False) w1107 w')) (by kernel_rfl) (HK0.out) (fun hHeld => ?_)
    generalize w1107.drew = wd at HK0 HBd hHeld ⊢
    refine' wpAnyH_take (i := 0) (oi := (⟨some 12, _, _, _, _, none⟩ : Oper)) (v := _) rfl (by kernel_rfl) (by kernel_rfl) (by kernel_rfl) (fun _ _ _ h => h) (yieldsIf_load_mid (by rfl) _ _ rfl _ _ rfl (z1105.map (Value.int .u64)) _ ?hS1108 Tryd.underlying56 rfl (by rw [List.length_map]; exact lim_i HL1105.out)) (by assumption) ?rest1108
    case hS1108 => (intro w hSw; (try dsimp only at hSw); exact range_part (hSw.blk (HB1107.out.get 4 rfl) (fun e => e.elim)) 0 _ (by rw [List.length_map]; exact arr_part _ _))
    (try simp only [Act.put, sA, sZ, sS])
    refine' wpAnyH_take (i := 1) (oi := (⟨some 13, _, _, _, _, none⟩ : Oper)) (v := _) rfl (by kernel_rfl) (by kernel_rfl) (by kernel_rfl) (fun _ _ _ h => h) (yieldsIf_load_mid (by rfl) _ _ rfl _ _ rfl (z1105.map (Value.int .u64)) _ ?hS1109 Tryd.underlying56 rfl (by rw [List.length_map]; exact lim_i HL1105.out)) (by assumption) ?rest1109
    case hS1109 => (intro w hSw; (try dsimp only at hSw); exact range_part (hSw.blk (HB1107.out.get 4 rfl) (fun e => e.elim)) 0 _ (by rw [List.length_map]; exact arr_part _ _))
    (try simp only [Act.put, sA, sZ, sS])
    refine' wpAnyH_take (i := 3) (oi := (⟨some 15, _, _, _, _, none⟩ : Oper)) (v := _) rfl (by kernel_rfl) (by kernel_rfl) (by kernel_rfl) (fun _ _ _ h => h) (yieldsIf_load_mid (by rfl) _ _ rfl _ _ rfl (xs.map (Value.int .u64)) _ ?hS1110 Tryd.underlying56 rfl (by rw [List.length_map]; exact lim_i HXL.out)) (by assumption) ?rest1110
    case hS1110 => (intro w hSw; (try dsimp only at hSw); exact range_part (hSw.blk (HB1107.out.get 0 rfl) (fun e => e.elim)) 0 _ (by rw [List.length_map]; exact arr_part _ _))
    (try simp only [Act.put, sA, sZ, sS])
    refine wpAnyH_ready (rs := [2]) (by kernel_rfl) (by simp) ?_
    refine AllReadyH.cons (o := (⟨some 14, _, _, _, _, none⟩ : Oper)) rfl (fun K hK => ?_) AllReadyH.nil
    go_simp
    go_at_call 58
    refine (times_any _ _ _ HZ1105.out HZ1105.out).mono ?_
    rintro e w1111 ⟨z1111, rfl, h1111, hb1111⟩
    have HZ1111 := Lib.hid h1111
    have HL1111 := Lib.hid h1111.len
    clear h1111
    have HB1111 := Lib.hid (HBd.out.kept hb1111)
    have HK1111 := Lib.hid (HK0.out.trans (Kept.of_below hb1111))
    clear hb1111
    (try dsimp only)
    clear HBd
    clear HK0
    clear hHeld
    refine hK.out _ _ (HK1111.out) (fun hHeld => ?_)
    clear hK K
    (try simp only [Act.put, sA, sZ, sS])
    refine wpAnyH_take (i := 4) (oi := (⟨some 16, _, _, _, _, none⟩ : Oper)) (v := (.bool false)) rfl (by kernel_rfl) (by kernel_rfl) (by kernel_rfl) (fun _ _ _ h => h) (Or.inl ⟨by rfl, ?hy1112⟩) (by assumption) ?rest1112
    case hy1112 => (intro w hSw; (try dsimp only at hSw); exact exec_neq_limb 56 _ _ (.tmp 14) (.tmp 15) rfl 4 .u64 .u64 Tryd.underlying56 Tryd.underlying54 (fun w => by kernel_rfl) (by kernel_rfl) z1111 xs rfl rfl HL1111.out HXL.out _ (n4_neq HZ1111.out HX.out _ HQ.out))
    (try simp only [Act.put, sA, sZ, sS])
    refine wpAnyH_done (by kernel_rfl) ?_ _
    have HBF4 := HB1111
    clear HB1107
    clear HB1111
    clear HQ
    (try simp only [Exit.then])
    go_upto_region 6 with fail
    have HYQ := Lib.hid (HRS.out x0 HYE.out)
    clear HYE
    by_cases h2 : fmul x0 x0 = a
    · have HQ : Hid (decide (fmul x0 x0 ≠ a) = false) := Lib.hid (by simp [h2])
      have hr := HYQ.out
      rw [if_pos h2] at hr
      have HR0 := Lib.hid hr
      clear hr h2 HYQ
      have HK0 := Lib.hid ((Kept.refl (fun _ => False) w1111).drew)
      have HBd := Lib.hid (HBF4.out.drew)
      refine wp_region_held_drew (S := (fun w' => Kept (fun _ => False) w1111 w')) (by kernel_rfl) (HK0.out) (fun hHeld => ?_)
      generalize w1111.drew = wd at HK0 HBd hHeld ⊢
      refine' wpAnyH_take (i := 0) (oi := (⟨some 20, _, _, _, _, none⟩ : Oper)) (v := _) rfl (by kernel_rfl) (by kernel_rfl) (by kernel_rfl) (fun _ _ _ h => h) (yieldsIf_load_mid (by rfl) _ _ rfl _ _ rfl (z1105.map (Value.int .u64)) _ ?hS1113 Tryd.underlying56 rfl (by rw [List.length_map]; exact lim_i HL1105.out)) (by assumption) ?rest1113
      case hS1113 => (intro w hSw; (try dsimp only at hSw); exact range_part (hSw.blk (HBF4.out.get 4 rfl) (fun e => e.elim)) 0 _ (by rw [List.length_map]; exact arr_part _ _))
      (try simp only [Act.put, sA, sZ, sS])
      refine' wpAnyH_take (i := 1) (oi := (⟨some 21, _, _, _, _, none⟩ : Oper)) (v := _) rfl (by kernel_rfl) (by kernel_rfl) (by kernel_rfl) (fun _ _ _ h => h) (yieldsIf_load_mid (by rfl) _ _ rfl _ _ rfl (z1105.map (Value.int .u64)) _ ?hS1114 Tryd.underlying56 rfl (by rw [List.length_map]; exact lim_i HL1105.out)) (by assumption) ?rest1114
      case hS1114 => (intro w hSw; (try dsimp only at hSw); exact range_part (hSw.blk (HBF4.out.get 4 rfl) (fun e => e.elim)) 0 _ (by rw [List.length_map]; exact arr_part _ _))
      (try simp only [Act.put, sA, sZ, sS])
      refine' wpAnyH_take (i := 3) (oi := (⟨some 23, _, _, _, _, none⟩ : Oper)) (v := _) rfl (by kernel_rfl) (by kernel_rfl) (by kernel_rfl) (fun _ _ _ h => h) (yieldsIf_load_mid (by rfl) _ _ rfl _ _ rfl (xs.map (Value.int .u64)) _ ?hS1115 Tryd.underlying56 rfl (by rw [List.length_map]; exact lim_i HXL.out)) (by assumption) ?rest1115
      case hS1115 => (intro w hSw; (try dsimp only at hSw); exact range_part (hSw.blk (HBF4.out.get 0 rfl) (fun e => e.elim)) 0 _ (by rw [List.length_map]; exact arr_part _ _))
      (try simp only [Act.put, sA, sZ, sS])
      refine wpAnyH_ready (rs := [2]) (by kernel_rfl) (by simp) ?_
      refine AllReadyH.cons (o := (⟨some 22, _, _, _, _, none⟩ : Oper)) rfl (fun K hK => ?_) AllReadyH.nil
      go_simp
      go_at_call 58
      refine (times_any _ _ _ HZ1105.out HZ1105.out).mono ?_
      rintro e w1116 ⟨z1116, rfl, h1116, hb1116⟩
      have HZ1116 := Lib.hid h1116
      have HL1116 := Lib.hid h1116.len
      clear h1116
      have HB1116 := Lib.hid (HBd.out.kept hb1116)
      have HK1116 := Lib.hid (HK0.out.trans (Kept.of_below hb1116))
      clear hb1116
      (try dsimp only)
      clear HBd
      clear HK0
      clear hHeld
      refine hK.out _ _ (HK1116.out) (fun hHeld => ?_)
      clear hK K
      (try simp only [Act.put, sA, sZ, sS])
      refine wpAnyH_take (i := 4) (oi := (⟨some 24, _, _, _, _, none⟩ : Oper)) (v := (.bool false)) rfl (by kernel_rfl) (by kernel_rfl) (by kernel_rfl) (fun _ _ _ h => h) (Or.inl ⟨by rfl, ?hy1117⟩) (by assumption) ?rest1117
      case hy1117 => (intro w hSw; (try dsimp only at hSw); exact exec_neq_limb 56 _ _ (.tmp 22) (.tmp 23) rfl 4 .u64 .u64 Tryd.underlying56 Tryd.underlying54 (fun w => by kernel_rfl) (by kernel_rfl) z1116 xs rfl rfl HL1116.out HXL.out _ (n4_neq HZ1116.out HX.out _ HQ.out))
      (try simp only [Act.put, sA, sZ, sS])
      refine wpAnyH_done (by kernel_rfl) ?_ _
      have HBF6 := HB1116
      clear HBF4
      clear HB1116
      clear HQ
      (try simp only [Exit.then])
      rcases (show x0 % 2 = 0 ∨ x0 % 2 = 1 by omega) with hb | hb
      · have hr := HR0.out
        rw [if_neg (by omega)] at hr
        have HR := Lib.hid hr
        have HBT := Lib.hid (fun w => (bit_any x0 0 0 w HZ1105.out (by decide) (by rw [Nat.pow_zero, Nat.div_one]; exact hb) : Calls Tryd.prog 61 #[.agg (arr .u64 z1105), .int .i64 0] w fun e w' => e = .returned (.int .u64 0) ∧ Below w.heap.size w w'))
        clear hr hb HR0
        go_upto_region 10 with (first | ((with_reducible refine aS 26 ?_); refine wpList_load_part rfl 56 _ rfl (g1106) (0) _ 56 (0, 0) _ (HBF6.out.get 4 rfl) rfl .u64 z1105 (arr_part _ _) Tryd.underlying56 rfl (lim_i HL1105.out) ?_) | ((with_reducible show Calls _ 61 #[.agg _, _] _ _); go_at_call 61; refine (HBT.out _).mono ?_; rintro e w1118 ⟨rfl, hb1118⟩; have HB1118 := Lib.hid (HBF6.out.kept hb1118); clear hb1118))
        go_wp2_with (first | ((with_reducible refine aS 32 ?_); refine wpList_load_part rfl 56 _ rfl (g1106) (0) _ 56 (0, 0) _ (HB1118.out.get 4 rfl) rfl .u64 z1105 (arr_part _ _) Tryd.underlying56 rfl (lim_i HL1105.out) ?_) | ((with_reducible refine aT 2 (x := (Operand.tmp 32)) ?_); refine wpList_store_whole rfl 56 _ _ rfl (w.heap.size + 1) _ _ 56 (HB1118.out.get 1 rfl) rfl rfl (arr_len2 _ _ HL1105.out HLzl.out) (lim_s HL1105.out) (all_arr _ _) ?_; intro w1119 hb1119 hk1119 hz1119; have HB1119 := Lib.hid (HB1118.out.put 1 rfl hk1119 hb1119); clear hb1119 hk1119 hz1119; clear HB1118))
        (try simp only [Exit.inBlock, Exit.then])
        refine bodyPost_ret (results_cell_tmp_row rfl _ _ (w.heap.size + 1) 56 _ (0, 0) _ _ rfl (HB1119.out.get 1 rfl) Tryd.underlying56 rfl (lim_s HL1105.out) rfl) rfl ?_
        refine ⟨_, ?_, by rw [HR.out]; exact HZ1105.out, HB1119.out.below⟩
        rw [HR.out]; rfl
      · have hr := HR0.out
        rw [if_pos hb] at hr
        have HR := Lib.hid hr
        have HBT := Lib.hid (fun w => (bit_any x0 0 1 w HZ1105.out (by decide) (by rw [Nat.pow_zero, Nat.div_one]; exact hb) : Calls Tryd.prog 61 #[.agg (arr .u64 z1105), .int .i64 0] w fun e w' => e = .returned (.int .u64 1) ∧ Below w.heap.size w w'))
        clear hr hb HR0
        go_upto_region 9 with (first | ((with_reducible refine aS 26 ?_); refine wpList_load_part rfl 56 _ rfl (g1106) (0) _ 56 (0, 0) _ (HBF6.out.get 4 rfl) rfl .u64 z1105 (arr_part _ _) Tryd.underlying56 rfl (lim_i HL1105.out) ?_) | ((with_reducible show Calls _ 61 #[.agg _, _] _ _); go_at_call 61; refine (HBT.out _).mono ?_; rintro e w1120 ⟨rfl, hb1120⟩; have HB1120 := Lib.hid (HBF6.out.kept hb1120); clear hb1120))
        go_upto_region 10 with (first | ((with_reducible refine aS 29 ?_); refine wpList_build (by rfl) 56 _ rfl #[] rfl _ (HBO.out _) ?_) | ((with_reducible refine aS 30 ?_); refine wpList_load_part rfl 56 _ rfl (g1106) (0) _ 56 (0, 0) _ (HB1120.out.get 4 rfl) rfl .u64 z1105 (arr_part _ _) Tryd.underlying56 rfl (lim_i HL1105.out) ?_) | ((with_reducible show Calls _ 72 #[.agg _, .agg _] _ _); go_at_call 72; refine (minus_any _ _ _ HO.out HZ1105.out p_pos HYL.out).mono ?_; rintro e w1121 ⟨z1121, rfl, h1121, hb1121⟩; have HZ1121 := Lib.hid h1121; have HL1121 := Lib.hid h1121.len; clear h1121; have HB1121 := Lib.hid (HB1120.out.kept hb1121); clear hb1121; clear HB1120) | ((with_reducible refine aT 6 (x := (Operand.tmp 31)) ?_); refine wpList_store_whole rfl 56 _ _ rfl (g1106) _ _ 56 (HB1121.out.get 4 rfl) rfl rfl (arr_len2 _ _ HL1121.out HL1105.out) (lim_s HL1121.out) (all_arr _ _) ?_; intro w1122 hb1122 hk1122 hz1122; have HB1122 := Lib.hid (HB1121.out.put 4 rfl hk1122 hb1122); clear hb1122 hk1122 hz1122; clear HB1121))
        go_wp2_with (first | ((with_reducible refine aS 32 ?_); refine wpList_load_part rfl 56 _ rfl (g1106) (0) _ 56 (0, 0) _ (HB1122.out.get 4 rfl) rfl .u64 z1121 (arr_part _ _) Tryd.underlying56 rfl (lim_i HL1121.out) ?_) | ((with_reducible refine aT 2 (x := (Operand.tmp 32)) ?_); refine wpList_store_whole rfl 56 _ _ rfl (w.heap.size + 1) _ _ 56 (HB1122.out.get 1 rfl) rfl rfl (arr_len2 _ _ HL1121.out HLzl.out) (lim_s HL1121.out) (all_arr _ _) ?_; intro w1123 hb1123 hk1123 hz1123; have HB1123 := Lib.hid (HB1122.out.put 1 rfl hk1123 hb1123); clear hb1123 hk1123 hz1123; clear HB1122))
        (try simp only [Exit.inBlock, Exit.then])
        refine bodyPost_ret (results_cell_tmp_row rfl _ _ (w.heap.size + 1) 56 _ (0, 0) _ _ rfl (HB1123.out.get 1 rfl) Tryd.underlying56 rfl (lim_s HL1121.out) rfl) rfl ?_
        refine ⟨_, ?_, by rw [HR.out]; exact HZ1121.out, HB1123.out.below⟩
        rw [HR.out]; rfl
    · have HQ : Hid (decide (fmul x0 x0 ≠ a) = true) := Lib.hid (by simp [h2])
      have hr := HYQ.out
      rw [if_neg h2] at hr
      have HR0 := Lib.hid hr
      clear hr h2 HYQ
      have HK0 := Lib.hid ((Kept.refl (fun _ => False) w1111).drew)
      have HBd := Lib.hid (HBF4.out.drew)
      refine wp_region_held_drew (S := (fun w' => Kept (fun _ => False) w1111 w')) (by kernel_rfl) (HK0.out) (fun hHeld => ?_)
      generalize w1111.drew = wd at HK0 HBd hHeld ⊢
      refine' wpAnyH_take (i := 0) (oi := (⟨some 20, _, _, _, _, none⟩ : Oper)) (v := _) rfl (by kernel_rfl) (by kernel_rfl) (by kernel_rfl) (fun _ _ _ h => h) (yieldsIf_load_mid (by rfl) _ _ rfl _ _ rfl (z1105.map (Value.int .u64)) _ ?hS1124 Tryd.underlying56 rfl (by rw [List.length_map]; exact lim_i HL1105.out)) (by assumption) ?rest1124
      case hS1124 => (intro w hSw; (try dsimp only at hSw); exact range_part (hSw.blk (HBF4.out.get 4 rfl) (fun e => e.elim)) 0 _ (by rw [List.length_map]; exact arr_part _ _))
      (try simp only [Act.put, sA, sZ, sS])
      refine' wpAnyH_take (i := 1) (oi := (⟨some 21, _, _, _, _, none⟩ : Oper)) (v := _) rfl (by kernel_rfl) (by kernel_rfl) (by kernel_rfl) (fun _ _ _ h => h) (yieldsIf_load_mid (by rfl) _ _ rfl _ _ rfl (z1105.map (Value.int .u64)) _ ?hS1125 Tryd.underlying56 rfl (by rw [List.length_map]; exact lim_i HL1105.out)) (by assumption) ?rest1125
      case hS1125 => (intro w hSw; (try dsimp only at hSw); exact range_part (hSw.blk (HBF4.out.get 4 rfl) (fun e => e.elim)) 0 _ (by rw [List.length_map]; exact arr_part _ _))
      (try simp only [Act.put, sA, sZ, sS])
      refine' wpAnyH_take (i := 3) (oi := (⟨some 23, _, _, _, _, none⟩ : Oper)) (v := _) rfl (by kernel_rfl) (by kernel_rfl) (by kernel_rfl) (fun _ _ _ h => h) (yieldsIf_load_mid (by rfl) _ _ rfl _ _ rfl (xs.map (Value.int .u64)) _ ?hS1126 Tryd.underlying56 rfl (by rw [List.length_map]; exact lim_i HXL.out)) (by assumption) ?rest1126
      case hS1126 => (intro w hSw; (try dsimp only at hSw); exact range_part (hSw.blk (HBF4.out.get 0 rfl) (fun e => e.elim)) 0 _ (by rw [List.length_map]; exact arr_part _ _))
      (try simp only [Act.put, sA, sZ, sS])
      refine wpAnyH_ready (rs := [2]) (by kernel_rfl) (by simp) ?_
      refine AllReadyH.cons (o := (⟨some 22, _, _, _, _, none⟩ : Oper)) rfl (fun K hK => ?_) AllReadyH.nil
      go_simp
      go_at_call 58
      refine (times_any _ _ _ HZ1105.out HZ1105.out).mono ?_
      rintro e w1127 ⟨z1127, rfl, h1127, hb1127⟩
      have HZ1127 := Lib.hid h1127
      have HL1127 := Lib.hid h1127.len
      clear h1127
      have HB1127 := Lib.hid (HBd.out.kept hb1127)
      have HK1127 := Lib.hid (HK0.out.trans (Kept.of_below hb1127))
      clear hb1127
      (try dsimp only)
      clear HBd
      clear HK0
      clear hHeld
      refine hK.out _ _ (HK1127.out) (fun hHeld => ?_)
      clear hK K
      (try simp only [Act.put, sA, sZ, sS])
      refine wpAnyH_take (i := 4) (oi := (⟨some 24, _, _, _, _, none⟩ : Oper)) (v := (.bool true)) rfl (by kernel_rfl) (by kernel_rfl) (by kernel_rfl) (fun _ _ _ h => h) (Or.inl ⟨by rfl, ?hy1128⟩) (by assumption) ?rest1128
      case hy1128 => (intro w hSw; (try dsimp only at hSw); exact exec_neq_limb 56 _ _ (.tmp 22) (.tmp 23) rfl 4 .u64 .u64 Tryd.underlying56 Tryd.underlying54 (fun w => by kernel_rfl) (by kernel_rfl) z1127 xs rfl rfl HL1127.out HXL.out _ (n4_neq HZ1127.out HX.out _ HQ.out))
      (try simp only [Act.put, sA, sZ, sS])
      refine wpAnyH_done (by kernel_rfl) ?_ _
      have HBF6 := HB1127
      clear HBF4
      clear HB1127
      clear HQ
      (try simp only [Exit.then])
      have HR := HR0
      clear HR0
      go_wp2_with (first | ((with_reducible refine aS 25 ?_); refine wpList_build (by rfl) 56 _ rfl #[] rfl _ (HBO.out _) ?_) | ((with_reducible refine aT 2 (x := (Operand.tmp 25)) ?_); refine wpList_store_whole rfl 56 _ _ rfl (w.heap.size + 1) _ _ 56 (HBF6.out.get 1 rfl) rfl rfl (arr_len2 _ _ HOL.out HLzl.out) (lim_s HOL.out) (all_arr _ _) ?_; intro w1129 hb1129 hk1129 hz1129; have HB1129 := Lib.hid (HBF6.out.put 1 rfl hk1129 hb1129); clear hb1129 hk1129 hz1129))
      (try simp only [Exit.inBlock, Exit.then])
      refine bodyPost_ret (results_cell_tmp_row rfl _ _ (w.heap.size + 1) 56 _ (0, 0) _ _ rfl (HB1129.out.get 1 rfl) Tryd.underlying56 rfl (lim_s HOL.out) rfl) rfl ?_
      refine ⟨_, ?_, by rw [HR.out]; exact HO.out, HB1129.out.below⟩
      rw [HR.out]; rfl
  · have HQ : Hid (decide (fmul x0 x0 ≠ a) = true) := Lib.hid (by simp [h1])
    obtain ⟨y0, hy0⟩ : ∃ y, y = fmul x0 im := ⟨_, rfl⟩
    have HYE : Hid (y0 = if fmul x0 x0 = a then x0 else fmul x0 im) := Lib.hid (by rw [if_neg h1]; exact hy0)
    have HYL : Hid (y0 < p) := Lib.hid (by rw [hy0]; exact fmul_lt _ _)
    have HY0 := Lib.hid hy0
    clear hy0
    clear h1
    have HK0 := Lib.hid ((Kept.refl (fun _ => False) w1107).drew)
    have HBd := Lib.hid (HB1107.out.drew)
    refine wp_region_held_drew (S := (fun w' => Kept (fun _ => False) w1107 w')) (by kernel_rfl) (HK0.out) (fun hHeld => ?_)
    generalize w1107.drew = wd at HK0 HBd hHeld ⊢
    refine' wpAnyH_take (i := 0) (oi := (⟨some 12, _, _, _, _, none⟩ : Oper)) (v := _) rfl (by kernel_rfl) (by kernel_rfl) (by kernel_rfl) (fun _ _ _ h => h) (yieldsIf_load_mid (by rfl) _ _ rfl _ _ rfl (z1105.map (Value.int .u64)) _ ?hS1130 Tryd.underlying56 rfl (by rw [List.length_map]; exact lim_i HL1105.out)) (by assumption) ?rest1130
    case hS1130 => (intro w hSw; (try dsimp only at hSw); exact range_part (hSw.blk (HB1107.out.get 4 rfl) (fun e => e.elim)) 0 _ (by rw [List.length_map]; exact arr_part _ _))
    (try simp only [Act.put, sA, sZ, sS])
    refine' wpAnyH_take (i := 1) (oi := (⟨some 13, _, _, _, _, none⟩ : Oper)) (v := _) rfl (by kernel_rfl) (by kernel_rfl) (by kernel_rfl) (fun _ _ _ h => h) (yieldsIf_load_mid (by rfl) _ _ rfl _ _ rfl (z1105.map (Value.int .u64)) _ ?hS1131 Tryd.underlying56 rfl (by rw [List.length_map]; exact lim_i HL1105.out)) (by assumption) ?rest1131
    case hS1131 => (intro w hSw; (try dsimp only at hSw); exact range_part (hSw.blk (HB1107.out.get 4 rfl) (fun e => e.elim)) 0 _ (by rw [List.length_map]; exact arr_part _ _))
    (try simp only [Act.put, sA, sZ, sS])
    refine' wpAnyH_take (i := 3) (oi := (⟨some 15, _, _, _, _, none⟩ : Oper)) (v := _) rfl (by kernel_rfl) (by kernel_rfl) (by kernel_rfl) (fun _ _ _ h => h) (yieldsIf_load_mid (by rfl) _ _ rfl _ _ rfl (xs.map (Value.int .u64)) _ ?hS1132 Tryd.underlying56 rfl (by rw [List.length_map]; exact lim_i HXL.out)) (by assumption) ?rest1132
    case hS1132 => (intro w hSw; (try dsimp only at hSw); exact range_part (hSw.blk (HB1107.out.get 0 rfl) (fun e => e.elim)) 0 _ (by rw [List.length_map]; exact arr_part _ _))
    (try simp only [Act.put, sA, sZ, sS])
    refine wpAnyH_ready (rs := [2]) (by kernel_rfl) (by simp) ?_
    refine AllReadyH.cons (o := (⟨some 14, _, _, _, _, none⟩ : Oper)) rfl (fun K hK => ?_) AllReadyH.nil
    go_simp
    go_at_call 58
    refine (times_any _ _ _ HZ1105.out HZ1105.out).mono ?_
    rintro e w1133 ⟨z1133, rfl, h1133, hb1133⟩
    have HZ1133 := Lib.hid h1133
    have HL1133 := Lib.hid h1133.len
    clear h1133
    have HB1133 := Lib.hid (HBd.out.kept hb1133)
    have HK1133 := Lib.hid (HK0.out.trans (Kept.of_below hb1133))
    clear hb1133
    (try dsimp only)
    clear HBd
    clear HK0
    clear hHeld
    refine hK.out _ _ (HK1133.out) (fun hHeld => ?_)
    clear hK K
    (try simp only [Act.put, sA, sZ, sS])
    refine wpAnyH_take (i := 4) (oi := (⟨some 16, _, _, _, _, none⟩ : Oper)) (v := (.bool true)) rfl (by kernel_rfl) (by kernel_rfl) (by kernel_rfl) (fun _ _ _ h => h) (Or.inl ⟨by rfl, ?hy1134⟩) (by assumption) ?rest1134
    case hy1134 => (intro w hSw; (try dsimp only at hSw); exact exec_neq_limb 56 _ _ (.tmp 14) (.tmp 15) rfl 4 .u64 .u64 Tryd.underlying56 Tryd.underlying54 (fun w => by kernel_rfl) (by kernel_rfl) z1133 xs rfl rfl HL1133.out HXL.out _ (n4_neq HZ1133.out HX.out _ HQ.out))
    (try simp only [Act.put, sA, sZ, sS])
    refine wpAnyH_done (by kernel_rfl) ?_ _
    have HBF4 := HB1133
    clear HB1107
    clear HB1133
    clear HQ
    (try simp only [Exit.then])
    go_upto_region 6 with (first | ((with_reducible refine aS 17 ?_); refine wpList_load_part rfl 56 _ rfl (g1106) (0) _ 56 (0, 0) _ (HBF4.out.get 4 rfl) rfl .u64 z1105 (arr_part _ _) Tryd.underlying56 rfl (lim_i HL1105.out) ?_) | ((with_reducible refine aS 18 ?_); refine wpList_load_part rfl 56 _ rfl (g1103) (0) _ 56 (0, 0) _ (HBF4.out.get 3 rfl) rfl .u64 is (arr_part _ _) Tryd.underlying56 rfl (lim_i HIL.out) ?_) | ((with_reducible show Calls _ 58 #[.agg _, .agg _] _ _); go_at_call 58; refine (times_any _ _ _ HZ1105.out HI.out).mono ?_; rintro e w1135 ⟨z1135, rfl, h1135, hb1135⟩; have HZ1135 := Lib.hid h1135; have HL1135 := Lib.hid h1135.len; clear h1135; have HB1135 := Lib.hid (HBF4.out.kept hb1135); clear hb1135) | ((with_reducible refine aT 6 (x := (Operand.tmp 19)) ?_); refine wpList_store_whole rfl 56 _ _ rfl (g1106) _ _ 56 (HB1135.out.get 4 rfl) rfl rfl (arr_len2 _ _ HL1135.out HL1105.out) (lim_s HL1135.out) (all_arr _ _) ?_; intro w1136 hb1136 hk1136 hz1136; have HB1136 := Lib.hid (HB1135.out.put 4 rfl hk1136 hb1136); clear hb1136 hk1136 hz1136; clear HB1135))
    have HZY := Lib.hid (HZ1135.out.cast HY0.out.symm)
    have HYQ := Lib.hid (HRS.out y0 HYE.out)
    clear HYE
    by_cases h2 : fmul y0 y0 = a
    · have HQ : Hid (decide (fmul y0 y0 ≠ a) = false) := Lib.hid (by simp [h2])
      have hr := HYQ.out
      rw [if_pos h2] at hr
      have HR0 := Lib.hid hr
      clear hr h2 HYQ
      have HK0 := Lib.hid ((Kept.refl (fun _ => False) w1136).drew)
      have HBd := Lib.hid (HB1136.out.drew)
      refine wp_region_held_drew (S := (fun w' => Kept (fun _ => False) w1136 w')) (by kernel_rfl) (HK0.out) (fun hHeld => ?_)
      generalize w1136.drew = wd at HK0 HBd hHeld ⊢
      refine' wpAnyH_take (i := 0) (oi := (⟨some 20, _, _, _, _, none⟩ : Oper)) (v := _) rfl (by kernel_rfl) (by kernel_rfl) (by kernel_rfl) (fun _ _ _ h => h) (yieldsIf_load_mid (by rfl) _ _ rfl _ _ rfl (z1135.map (Value.int .u64)) _ ?hS1137 Tryd.underlying56 rfl (by rw [List.length_map]; exact lim_i HL1135.out)) (by assumption) ?rest1137
      case hS1137 => (intro w hSw; (try dsimp only at hSw); exact range_part (hSw.blk (HB1136.out.get 4 rfl) (fun e => e.elim)) 0 _ (by rw [List.length_map]; exact arr_part _ _))
      (try simp only [Act.put, sA, sZ, sS])
      refine' wpAnyH_take (i := 1) (oi := (⟨some 21, _, _, _, _, none⟩ : Oper)) (v := _) rfl (by kernel_rfl) (by kernel_rfl) (by kernel_rfl) (fun _ _ _ h => h) (yieldsIf_load_mid (by rfl) _ _ rfl _ _ rfl (z1135.map (Value.int .u64)) _ ?hS1138 Tryd.underlying56 rfl (by rw [List.length_map]; exact lim_i HL1135.out)) (by assumption) ?rest1138
      case hS1138 => (intro w hSw; (try dsimp only at hSw); exact range_part (hSw.blk (HB1136.out.get 4 rfl) (fun e => e.elim)) 0 _ (by rw [List.length_map]; exact arr_part _ _))
      (try simp only [Act.put, sA, sZ, sS])
      refine' wpAnyH_take (i := 3) (oi := (⟨some 23, _, _, _, _, none⟩ : Oper)) (v := _) rfl (by kernel_rfl) (by kernel_rfl) (by kernel_rfl) (fun _ _ _ h => h) (yieldsIf_load_mid (by rfl) _ _ rfl _ _ rfl (xs.map (Value.int .u64)) _ ?hS1139 Tryd.underlying56 rfl (by rw [List.length_map]; exact lim_i HXL.out)) (by assumption) ?rest1139
      case hS1139 => (intro w hSw; (try dsimp only at hSw); exact range_part (hSw.blk (HB1136.out.get 0 rfl) (fun e => e.elim)) 0 _ (by rw [List.length_map]; exact arr_part _ _))
      (try simp only [Act.put, sA, sZ, sS])
      refine wpAnyH_ready (rs := [2]) (by kernel_rfl) (by simp) ?_
      refine AllReadyH.cons (o := (⟨some 22, _, _, _, _, none⟩ : Oper)) rfl (fun K hK => ?_) AllReadyH.nil
      go_simp
      go_at_call 58
      refine (times_any _ _ _ HZY.out HZY.out).mono ?_
      rintro e w1140 ⟨z1140, rfl, h1140, hb1140⟩
      have HZ1140 := Lib.hid h1140
      have HL1140 := Lib.hid h1140.len
      clear h1140
      have HB1140 := Lib.hid (HBd.out.kept hb1140)
      have HK1140 := Lib.hid (HK0.out.trans (Kept.of_below hb1140))
      clear hb1140
      (try dsimp only)
      clear HBd
      clear HK0
      clear hHeld
      refine hK.out _ _ (HK1140.out) (fun hHeld => ?_)
      clear hK K
      (try simp only [Act.put, sA, sZ, sS])
      refine wpAnyH_take (i := 4) (oi := (⟨some 24, _, _, _, _, none⟩ : Oper)) (v := (.bool false)) rfl (by kernel_rfl) (by kernel_rfl) (by kernel_rfl) (fun _ _ _ h => h) (Or.inl ⟨by rfl, ?hy1141⟩) (by assumption) ?rest1141
      case hy1141 => (intro w hSw; (try dsimp only at hSw); exact exec_neq_limb 56 _ _ (.tmp 22) (.tmp 23) rfl 4 .u64 .u64 Tryd.underlying56 Tryd.underlying54 (fun w => by kernel_rfl) (by kernel_rfl) z1140 xs rfl rfl HL1140.out HXL.out _ (n4_neq HZ1140.out HX.out _ HQ.out))
      (try simp only [Act.put, sA, sZ, sS])
      refine wpAnyH_done (by kernel_rfl) ?_ _
      have HBF6 := HB1140
      clear HB1136
      clear HB1140
      clear HQ
      (try simp only [Exit.then])
      rcases (show y0 % 2 = 0 ∨ y0 % 2 = 1 by omega) with hb | hb
      · have hr := HR0.out
        rw [if_neg (by omega)] at hr
        have HR := Lib.hid hr
        have HBT := Lib.hid (fun w => (bit_any y0 0 0 w HZY.out (by decide) (by rw [Nat.pow_zero, Nat.div_one]; exact hb) : Calls Tryd.prog 61 #[.agg (arr .u64 z1135), .int .i64 0] w fun e w' => e = .returned (.int .u64 0) ∧ Below w.heap.size w w'))
        clear hr hb HR0
        go_upto_region 10 with (first | ((with_reducible refine aS 26 ?_); refine wpList_load_part rfl 56 _ rfl (g1106) (0) _ 56 (0, 0) _ (HBF6.out.get 4 rfl) rfl .u64 z1135 (arr_part _ _) Tryd.underlying56 rfl (lim_i HL1135.out) ?_) | ((with_reducible show Calls _ 61 #[.agg _, _] _ _); go_at_call 61; refine (HBT.out _).mono ?_; rintro e w1142 ⟨rfl, hb1142⟩; have HB1142 := Lib.hid (HBF6.out.kept hb1142); clear hb1142))
        go_wp2_with (first | ((with_reducible refine aS 32 ?_); refine wpList_load_part rfl 56 _ rfl (g1106) (0) _ 56 (0, 0) _ (HB1142.out.get 4 rfl) rfl .u64 z1135 (arr_part _ _) Tryd.underlying56 rfl (lim_i HL1135.out) ?_) | ((with_reducible refine aT 2 (x := (Operand.tmp 32)) ?_); refine wpList_store_whole rfl 56 _ _ rfl (w.heap.size + 1) _ _ 56 (HB1142.out.get 1 rfl) rfl rfl (arr_len2 _ _ HL1135.out HLzl.out) (lim_s HL1135.out) (all_arr _ _) ?_; intro w1143 hb1143 hk1143 hz1143; have HB1143 := Lib.hid (HB1142.out.put 1 rfl hk1143 hb1143); clear hb1143 hk1143 hz1143; clear HB1142))
        (try simp only [Exit.inBlock, Exit.then])
        refine bodyPost_ret (results_cell_tmp_row rfl _ _ (w.heap.size + 1) 56 _ (0, 0) _ _ rfl (HB1143.out.get 1 rfl) Tryd.underlying56 rfl (lim_s HL1135.out) rfl) rfl ?_
        refine ⟨_, ?_, by rw [HR.out]; exact HZY.out, HB1143.out.below⟩
        rw [HR.out]; rfl
      · have hr := HR0.out
        rw [if_pos hb] at hr
        have HR := Lib.hid hr
        have HBT := Lib.hid (fun w => (bit_any y0 0 1 w HZY.out (by decide) (by rw [Nat.pow_zero, Nat.div_one]; exact hb) : Calls Tryd.prog 61 #[.agg (arr .u64 z1135), .int .i64 0] w fun e w' => e = .returned (.int .u64 1) ∧ Below w.heap.size w w'))
        clear hr hb HR0
        go_upto_region 9 with (first | ((with_reducible refine aS 26 ?_); refine wpList_load_part rfl 56 _ rfl (g1106) (0) _ 56 (0, 0) _ (HBF6.out.get 4 rfl) rfl .u64 z1135 (arr_part _ _) Tryd.underlying56 rfl (lim_i HL1135.out) ?_) | ((with_reducible show Calls _ 61 #[.agg _, _] _ _); go_at_call 61; refine (HBT.out _).mono ?_; rintro e w1144 ⟨rfl, hb1144⟩; have HB1144 := Lib.hid (HBF6.out.kept hb1144); clear hb1144))
        go_upto_region 10 with (first | ((with_reducible refine aS 29 ?_); refine wpList_build (by rfl) 56 _ rfl #[] rfl _ (HBO.out _) ?_) | ((with_reducible refine aS 30 ?_); refine wpList_load_part rfl 56 _ rfl (g1106) (0) _ 56 (0, 0) _ (HB1144.out.get 4 rfl) rfl .u64 z1135 (arr_part _ _) Tryd.underlying56 rfl (lim_i HL1135.out) ?_) | ((with_reducible show Calls _ 72 #[.agg _, .agg _] _ _); go_at_call 72; refine (minus_any _ _ _ HO.out HZY.out p_pos HYL.out).mono ?_; rintro e w1145 ⟨z1145, rfl, h1145, hb1145⟩; have HZ1145 := Lib.hid h1145; have HL1145 := Lib.hid h1145.len; clear h1145; have HB1145 := Lib.hid (HB1144.out.kept hb1145); clear hb1145; clear HB1144) | ((with_reducible refine aT 6 (x := (Operand.tmp 31)) ?_); refine wpList_store_whole rfl 56 _ _ rfl (g1106) _ _ 56 (HB1145.out.get 4 rfl) rfl rfl (arr_len2 _ _ HL1145.out HL1135.out) (lim_s HL1145.out) (all_arr _ _) ?_; intro w1146 hb1146 hk1146 hz1146; have HB1146 := Lib.hid (HB1145.out.put 4 rfl hk1146 hb1146); clear hb1146 hk1146 hz1146; clear HB1145))
        go_wp2_with (first | ((with_reducible refine aS 32 ?_); refine wpList_load_part rfl 56 _ rfl (g1106) (0) _ 56 (0, 0) _ (HB1146.out.get 4 rfl) rfl .u64 z1145 (arr_part _ _) Tryd.underlying56 rfl (lim_i HL1145.out) ?_) | ((with_reducible refine aT 2 (x := (Operand.tmp 32)) ?_); refine wpList_store_whole rfl 56 _ _ rfl (w.heap.size + 1) _ _ 56 (HB1146.out.get 1 rfl) rfl rfl (arr_len2 _ _ HL1145.out HLzl.out) (lim_s HL1145.out) (all_arr _ _) ?_; intro w1147 hb1147 hk1147 hz1147; have HB1147 := Lib.hid (HB1146.out.put 1 rfl hk1147 hb1147); clear hb1147 hk1147 hz1147; clear HB1146))
        (try simp only [Exit.inBlock, Exit.then])
        refine bodyPost_ret (results_cell_tmp_row rfl _ _ (w.heap.size + 1) 56 _ (0, 0) _ _ rfl (HB1147.out.get 1 rfl) Tryd.underlying56 rfl (lim_s HL1145.out) rfl) rfl ?_
        refine ⟨_, ?_, by rw [HR.out]; exact HZ1145.out, HB1147.out.below⟩
        rw [HR.out]; rfl
    · have HQ : Hid (decide (fmul y0 y0 ≠ a) = true) := Lib.hid (by simp [h2])
      have hr := HYQ.out
      rw [if_neg h2] at hr
      have HR0 := Lib.hid hr
      clear hr h2 HYQ
      have HK0 := Lib.hid ((Kept.refl (fun _ => False) w1136).drew)
      have HBd := Lib.hid (HB1136.out.drew)
      refine wp_region_held_drew (S := (fun w' => Kept (fun _ => False) w1136 w')) (by kernel_rfl) (HK0.out) (fun hHeld => ?_)
      generalize w1136.drew = wd at HK0 HBd hHeld ⊢
      refine' wpAnyH_take (i := 0) (oi := (⟨some 20, _, _, _, _, none⟩ : Oper)) (v := _) rfl (by kernel_rfl) (by kernel_rfl) (by kernel_rfl) (fun _ _ _ h => h) (yieldsIf_load_mid (by rfl) _ _ rfl _ _ rfl (z1135.map (Value.int .u64)) _ ?hS1148 Tryd.underlying56 rfl (by rw [List.length_map]; exact lim_i HL1135.out)) (by assumption) ?rest1148
      case hS1148 => (intro w hSw; (try dsimp only at hSw); exact range_part (hSw.blk (HB1136.out.get 4 rfl) (fun e => e.elim)) 0 _ (by rw [List.length_map]; exact arr_part _ _))
      (try simp only [Act.put, sA, sZ, sS])
      refine' wpAnyH_take (i := 1) (oi := (⟨some 21, _, _, _, _, none⟩ : Oper)) (v := _) rfl (by kernel_rfl) (by kernel_rfl) (by kernel_rfl) (fun _ _ _ h => h) (yieldsIf_load_mid (by rfl) _ _ rfl _ _ rfl (z1135.map (Value.int .u64)) _ ?hS1149 Tryd.underlying56 rfl (by rw [List.length_map]; exact lim_i HL1135.out)) (by assumption) ?rest1149
      case hS1149 => (intro w hSw; (try dsimp only at hSw); exact range_part (hSw.blk (HB1136.out.get 4 rfl) (fun e => e.elim)) 0 _ (by rw [List.length_map]; exact arr_part _ _))
      (try simp only [Act.put, sA, sZ, sS])
      refine' wpAnyH_take (i := 3) (oi := (⟨some 23, _, _, _, _, none⟩ : Oper)) (v := _) rfl (by kernel_rfl) (by kernel_rfl) (by kernel_rfl) (fun _ _ _ h => h) (yieldsIf_load_mid (by rfl) _ _ rfl _ _ rfl (xs.map (Value.int .u64)) _ ?hS1150 Tryd.underlying56 rfl (by rw [List.length_map]; exact lim_i HXL.out)) (by assumption) ?rest1150
      case hS1150 => (intro w hSw; (try dsimp only at hSw); exact range_part (hSw.blk (HB1136.out.get 0 rfl) (fun e => e.elim)) 0 _ (by rw [List.length_map]; exact arr_part _ _))
      (try simp only [Act.put, sA, sZ, sS])
      refine wpAnyH_ready (rs := [2]) (by kernel_rfl) (by simp) ?_
      refine AllReadyH.cons (o := (⟨some 22, _, _, _, _, none⟩ : Oper)) rfl (fun K hK => ?_) AllReadyH.nil
      go_simp
      go_at_call 58
      refine (times_any _ _ _ HZY.out HZY.out).mono ?_
      rintro e w1151 ⟨z1151, rfl, h1151, hb1151⟩
      have HZ1151 := Lib.hid h1151
      have HL1151 := Lib.hid h1151.len
      clear h1151
      have HB1151 := Lib.hid (HBd.out.kept hb1151)
      have HK1151 := Lib.hid (HK0.out.trans (Kept.of_below hb1151))
      clear hb1151
      (try dsimp only)
      clear HBd
      clear HK0
      clear hHeld
      refine hK.out _ _ (HK1151.out) (fun hHeld => ?_)
      clear hK K
      (try simp only [Act.put, sA, sZ, sS])
      refine wpAnyH_take (i := 4) (oi := (⟨some 24, _, _, _, _, none⟩ : Oper)) (v := (.bool true)) rfl (by kernel_rfl) (by kernel_rfl) (by kernel_rfl) (fun _ _ _ h => h) (Or.inl ⟨by rfl, ?hy1152⟩) (by assumption) ?rest1152
      case hy1152 => (intro w hSw; (try dsimp only at hSw); exact exec_neq_limb 56 _ _ (.tmp 22) (.tmp 23) rfl 4 .u64 .u64 Tryd.underlying56 Tryd.underlying54 (fun w => by kernel_rfl) (by kernel_rfl) z1151 xs rfl rfl HL1151.out HXL.out _ (n4_neq HZ1151.out HX.out _ HQ.out))
      (try simp only [Act.put, sA, sZ, sS])
      refine wpAnyH_done (by kernel_rfl) ?_ _
      have HBF6 := HB1151
      clear HB1136
      clear HB1151
      clear HQ
      (try simp only [Exit.then])
      have HR := HR0
      clear HR0
      go_wp2_with (first | ((with_reducible refine aS 25 ?_); refine wpList_build (by rfl) 56 _ rfl #[] rfl _ (HBO.out _) ?_) | ((with_reducible refine aT 2 (x := (Operand.tmp 25)) ?_); refine wpList_store_whole rfl 56 _ _ rfl (w.heap.size + 1) _ _ 56 (HBF6.out.get 1 rfl) rfl rfl (arr_len2 _ _ HOL.out HLzl.out) (lim_s HOL.out) (all_arr _ _) ?_; intro w1153 hb1153 hk1153 hz1153; have HB1153 := Lib.hid (HBF6.out.put 1 rfl hk1153 hb1153); clear hb1153 hk1153 hz1153))
      (try simp only [Exit.inBlock, Exit.then])
      refine bodyPost_ret (results_cell_tmp_row rfl _ _ (w.heap.size + 1) 56 _ (0, 0) _ _ rfl (HB1153.out.get 1 rfl) Tryd.underlying56 rfl (lim_s HOL.out) rfl) rfl ?_
      refine ⟨_, ?_, by rw [HR.out]; exact HO.out, HB1153.out.below⟩
      rw [HR.out]; rfl
end Go.Proofs.YtanjhngehfbpbaaDoor.Fp
namespace Go.Proofs.YtanjhngehfbpbaaDoor.Fp
open Go.RowKit Lm

set_option maxRecDepth 100000 in
set_option maxHeartbeats 2000000 in
theorem pick_of {xs ys zs : List Int} (C B M : Int) (w : World) (hx : xs.length = 4) (hy : ys.length = 4) (hz : zs.length = 4) (h1 : bits .and .u64 C 1 = B) (h2 : IntKind.u64.wrap (-B) = M)
    (h3 : ∀ k, k < 4 → bits .xor .u64 (xs.getD k 0) (bits .and .u64 M (bits .xor .u64 (xs.getD k 0) (ys.getD k 0))) = zs.getD k 0) :
    Calls Tryd.prog 98 #[.agg (arr .u64 xs), .agg (arr .u64 ys), .int .u64 C] w fun e w' => e = .returned (.agg (arr .u64 zs)) ∧ Below w.heap.size w w' := by
  obtain ⟨zl, hzl⟩ : ∃ zs : List Int, zs = List.replicate 4 0 := ⟨_, rfl⟩
  have HZzl : Hid (∀ w, (zeroValue 56).run Tryd.prog w = .ok (.agg (arr .u64 zl)) w) := Lib.hid (by intro w; rw [hzl]; exact zero_lim w)
  have HLzl : Hid (zl.length = 4) := Lib.hid (by rw [hzl]; rfl)
  have HX := Lib.hid hx
  have HY := Lib.hid hy
  have HZ := Lib.hid hz
  have H3 := Lib.hid h3
  have HS0 := Lib.hid (Blk.three w (arr .u64 xs) (arr .u64 ys) (arr .u64 zl) 56 56 56)
  clear hx hy hz h3 hzl
  go_enter Tryd.func98, Tryd.ntmps98
  go_wp2_with (first | ((with_reducible refine aS 6 ?_); refine wpList_alloc_row rfl 56 rfl _ (HZzl.out _) ?_))
  clear h1 h2
  go_loopw [12] (fun i wr => ∃ (k : Nat) (cs : List Int), k ≤ 4 ∧ i = .int .i64 k ∧ cs.length = 4 ∧ (∀ j, j < k → cs.getD j 0 = zs.getD j 0) ∧ (∀ j, k ≤ j → cs.getD j 0 = xs.getD j 0) ∧ Blk w wr [(w.heap.size, arr .u64 cs, 56), (w.heap.size + 1, arr .u64 ys, 56), (w.heap.size + 1 + 1, arr .u64 zl, 56)]) (fun i _ => 4 - (intOf i).toNat)
  case atStart => exact ⟨0, xs, Nat.zero_le _, rfl, HX.out, fun j h => absurd h (Nat.not_lt_zero _), fun _ _ => rfl, HS0.out⟩
  clear HS0
  case round =>
  obtain ⟨k, cs, hk, rfl, hcl, ha, hb, hB⟩ := hrel
  by_cases hlt : k < 4
  · have q0 := arr_get' (hB.get 0 rfl) k (by rw [hcl]; exact hlt)
    have q1 := arr_get' (hB.get 1 rfl) k (by rw [HY.out]; exact hlt)
    have q3 := free_blk (hB.get 0 rfl) k
    rw [hb k (Nat.le_refl _)] at q0
    have h3 := H3.out k hlt
    obtain ⟨x, hx⟩ : ∃ x, x = xs.getD k 0 := ⟨_, rfl⟩
    obtain ⟨y, hy⟩ : ∃ y, y = ys.getD k 0 := ⟨_, rfl⟩
    rw [← hx] at q0 h3
    rw [← hy] at q1 h3
    have hb1 := hB.cell 0 rfl k (.int .u64 (bits .xor .u64 x (bits .and .u64 M (bits .xor .u64 x y))))
    have e2 : (arr .u64 cs).setIfInBounds k (.int .u64 (bits .xor .u64 x (bits .and .u64 M (bits .xor .u64 x y)))) = arr .u64 (cs.set k (zs.getD k 0)) := by rw [arr_set, h3]
    have HB1 := Lib.hid (hb1.cast (l' := [(w.heap.size, arr .u64 (cs.set k (zs.getD k 0)), 56), (w.heap.size + 1, arr .u64 ys, 56), (w.heap.size + 1 + 1, arr .u64 zl, 56)]) (by rw [← e2]; rfl))
    have HCL : Hid ((cs.set k (zs.getD k 0)).length = 4) := Lib.hid (by rw [List.length_set, hcl])
    have HA : Hid (∀ j, j < k + 1 → (cs.set k (zs.getD k 0)).getD j 0 = zs.getD j 0) := Lib.hid (by
      intro j hj
      by_cases e : j = k
      · subst e
        simp [List.getD, hcl, hlt]
      · rw [← ha j (by omega)]
        simp [List.getD, Ne.symm e])
    have HBb : Hid (∀ j, k + 1 ≤ j → (cs.set k (zs.getD k 0)).getD j 0 = xs.getD j 0) := Lib.hid (by
      intro j hj
      rw [← hb j (by omega)]
      simp [List.getD, show ¬ k = j by omega])
    clear hB hcl hb1 e2 ha hb h3 hx hy
    go_wp2_with fail
    go_region
    go_wp2_with fail
    go_roundw
    case rel => exact ⟨k + 1, _, by omega, by go_num, HCL.out, HA.out, HBb.out, HB1.out.drew⟩
    case measure => simp [intOf]; omega
  · obtain rfl : k = 4 := by omega
    obtain rfl : cs = zs := by
      apply List.ext_getElem (by rw [hcl, HZ.out])
      intro i h1 h2
      have := ha i (by omega)
      simp only [List.getD, List.getElem?_eq_getElem h1, List.getElem?_eq_getElem h2, Option.getD_some] at this
      exact this
    have HB := Lib.hid hB
    clear hB hcl ha hb
    go_wp2_with (first | ((with_reducible refine aS 30 ?_); refine wpList_load_part rfl 56 _ rfl (w.heap.size) 0 _ 56 (0, 0) _ (HB.out.get 0 rfl) rfl .u64 cs (arr_part _ _) Tryd.underlying56 rfl (lim_i HZ.out) ?_) | ((with_reducible refine aT 6 ?_); refine wpList_store_whole rfl 56 _ _ rfl (w.heap.size + 1 + 1) _ _ 56 (HB.out.get 2 rfl) rfl rfl (arr_len2 _ _ HZ.out HLzl.out) (lim_s HZ.out) (all_arr _ _) ?_; intro w7 hb7 hk7 hz7; have HB7 := Lib.hid (HB.out.put 2 rfl hk7 hb7); clear hb7 hk7 hz7))
    (try simp only [Exit.inBlock, Exit.then])
    refine bodyPost_ret (results_cell_row rfl _ _ (w.heap.size + 1 + 1) 56 _ (0, 0) _ rfl (HB7.out.get 2 rfl) Tryd.underlying56 rfl (lim_s HZ.out)) rfl ?_
    exact ⟨rfl, HB7.out.below⟩

theorem u64_nat (x : Nat) (h : x < 18446744073709551616) : (BitVec.ofInt 64 (x : Int)).toNat = x := by rw [BitVec.ofInt_natCast, BitVec.toNat_ofNat]; exact Nat.mod_eq_of_lt h
theorem wrap_nat (x : Nat) (h : x < 18446744073709551616) : IntKind.u64.wrap (x : Int) = (x : Int) := by rw [IntKind.wrap_u64]; omega
theorem xor_nat (x y : Nat) (hx : x < 18446744073709551616) (hy : y < 18446744073709551616) : bits .xor .u64 (x : Int) (y : Int) = ((x ^^^ y : Nat) : Int) ∧ x ^^^ y < 18446744073709551616 := by
  have h := Nat.xor_lt_two_pow (n := 64) hx hy
  refine ⟨?_, h⟩
  show IntKind.u64.wrap ((BitVec.ofInt 64 (x : Int) ^^^ BitVec.ofInt 64 (y : Int)).toNat : Int) = _
  rw [BitVec.toNat_xor, u64_nat x hx, u64_nat y hy, wrap_nat _ h]
theorem and_zero (y : Int) : bits .and .u64 0 y = 0 := by
  show IntKind.u64.wrap ((BitVec.ofInt 64 (0 : Int) &&& BitVec.ofInt 64 y).toNat : Int) = _
  rw [show BitVec.ofInt 64 (0 : Int) = 0#64 from rfl, BitVec.zero_and]
  rfl
theorem and_ones (y : Nat) (hy : y < 18446744073709551616) : bits .and .u64 18446744073709551615 (y : Int) = (y : Int) := by
  show IntKind.u64.wrap ((BitVec.ofInt 64 (18446744073709551615 : Int) &&& BitVec.ofInt 64 (y : Int)).toNat : Int) = _
  rw [show BitVec.ofInt 64 (18446744073709551615 : Int) = BitVec.allOnes 64 by decide, BitVec.allOnes_and, u64_nat y hy, wrap_nat y hy]
/-- The one, or the other, by a bit. -/
theorem pick_any {xs ys : List Int} (a b c : Nat) (w : World) (hx : N4 xs a) (hy : N4 ys b) (hc : c = 0 ∨ c = 1) :
    Calls Tryd.prog 98 #[.agg (arr .u64 xs), .agg (arr .u64 ys), .int .u64 (c : Int)] w fun e w' => ∃ zs, e = .returned (.agg (arr .u64 zs)) ∧ N4 zs (if c = 1 then b else a) ∧ Below w.heap.size w w' := by
  have hg : ∀ (us : List Int) (v : Nat), N4 us v → ∀ k, ∃ u : Nat, us.getD k 0 = u ∧ u < 18446744073709551616 := by
    rintro us v ⟨rfl, h⟩ k
    exact ⟨(dig 18446744073709551616 4 v).getD k 0, nar_get _ _, lt_getD (dig_lt _ (by decide) _ _) (by decide) k⟩
  rcases hc with rfl | rfl
  · refine (pick_of (zs := xs) 0 0 0 w hx.len hy.len hx.len (by decide) (by decide) (fun k _ => ?_)).mono ?_
    · obtain ⟨x, e1, h1⟩ := hg xs a hx k
      rw [and_zero, e1]
      have := (xor_nat x 0 h1 (by decide)).1
      rw [Nat.xor_zero] at this
      exact this
    · rintro e w' ⟨rfl, hb⟩
      exact ⟨_, rfl, by rw [if_neg (by decide)]; exact hx, hb⟩
  · refine (pick_of (zs := ys) 1 1 18446744073709551615 w hx.len hy.len hy.len (by decide) (by decide) (fun k _ => ?_)).mono ?_
    · obtain ⟨x, e1, h1⟩ := hg xs a hx k
      obtain ⟨y, e2, h2⟩ := hg ys b hy k
      rw [e1, e2]
      obtain ⟨e3, h3⟩ := xor_nat x y h1 h2
      rw [e3, and_ones _ h3, (xor_nat x _ h1 h3).1, ← Nat.xor_assoc, Nat.xor_self, Nat.zero_xor]
    · rintro e w' ⟨rfl, hb⟩
      exact ⟨_, rfl, by rw [if_pos rfl]; exact hy, hb⟩
end Go.Proofs.YtanjhngehfbpbaaDoor.Fp
