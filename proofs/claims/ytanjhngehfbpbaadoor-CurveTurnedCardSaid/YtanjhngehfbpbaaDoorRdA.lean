/- The document's carry, in, add, sub, one: what they answer. Condition: sixteen digits. -/
import Derived.Test.YtanjhngehfbpbaaDoorMa
import Derived.Test.YtanjhngehfbpbaaDoorRdO
namespace Go.Proofs.YtanjhngehfbpbaaDoor.Rd
open Go.RowKit Lm Fp

theorem zero_el (w : World) : (zeroValue 64).run Tryd.prog w = .ok (.agg (arr .i64 (List.replicate 16 0))) w := by kernel_rfl
theorem size_el : (Tryd.prog.info? 64).map (·.size) = some 16 := by kernel_rfl
theorem el_s {xs : List Int} (h : xs.length = 16) : (Tryd.prog.info? 64).map (·.size) = some (arr .i64 xs).size := by rw [arr_size, h]; exact size_el
theorem el_i {xs : List Int} (h : xs.length = 16) : (Tryd.prog.info? 64).map (·.size) = some xs.length := by rw [h]; exact size_el
theorem zero_num (w : World) : (zeroValue 23).run Tryd.prog w = .ok (.agg (arr .u8 (List.replicate 32 0))) w := by kernel_rfl
theorem size_num : (Tryd.prog.info? 23).map (·.size) = some 32 := by kernel_rfl
theorem num_s {xs : List Int} (h : xs.length = 32) : (Tryd.prog.info? 23).map (·.size) = some (arr .u8 xs).size := by rw [arr_size, h]; exact size_num
theorem num_i {xs : List Int} (h : xs.length = 32) : (Tryd.prog.info? 23).map (·.size) = some xs.length := by rw [h]; exact size_num

set_option maxRecDepth 100000 in
set_option maxHeartbeats 2000000 in
theorem carry_code (xs : List Int) (w : World) (hl : xs.length = 16) (hb : ∀ x ∈ xs, -1152921504606846976 ≤ x ∧ x ≤ 1152921504606846976) :
    Calls Tryd.prog 112 #[.agg (arr .i64 xs)] w fun e w' => e = .returned (.agg (arr .i64 (carry xs))) ∧ Below w.heap.size w w' := by
  obtain ⟨zs, hzs⟩ : ∃ zs : List Int, zs = List.replicate 16 0 := ⟨_, rfl⟩
  have hz : ∀ w, (zeroValue 64).run Tryd.prog w = .ok (.agg (arr .i64 zs)) w := by intro w; rw [hzs]; exact zero_el w
  have hzl : zs.length = 16 := by rw [hzs]; rfl
  have hgb := getD_bound xs 1152921504606846976 hb (by decide)
  have hcb := cr_bound xs 1152921504606846976 17593000000000 hgb (by decide) (by decide)
  have S0 := Blk.two w (arr .i64 xs) (arr .i64 zs) 64 64
  have HS0 := Lib.hid S0
  have HZ := Lib.hid hz
  have HZL := Lib.hid hzl
  have HL := Lib.hid hl
  have HGB := Lib.hid hgb
  have HCB := Lib.hid hcb
  clear S0 hz hzl hzs hl hb hgb hcb
  go_enter Tryd.func112, Tryd.ntmps112
  go_wp2_with (first | ((with_reducible refine aS 2 ?_); refine wpList_alloc_row rfl 64 rfl _ (HZ.out _) ?_))
  go_loopw [3] (fun v wr => ∃ i : Nat, i ≤ 16 ∧ v = .int .i64 i ∧ ∃ cs : List Int, cs = (if i < 16 then mid xs i else carry xs) ∧ Blk w wr [(w.heap.size, arr .i64 cs, 64), (w.heap.size + 1, arr .i64 zs, 64)]) (fun v _ => 16 - (intOf v).toNat)
  case atStart => exact ⟨0, Nat.zero_le _, rfl, _, by rw [if_pos (by decide), mid_zero xs HL.out], HS0.out⟩
  clear HS0
  case round =>
  obtain ⟨i, hi, rfl, cs, hcs, hB⟩ := hrel
  by_cases hlt : i < 16
  · rw [if_pos hlt] at hcs
    have cl : cs.length = 16 := by rw [hcs]; exact tb_len _ _
    have q0 := arr_get' (hB.get 0 rfl) i (by rw [cl]; exact hlt)
    have q3 := free_blk (hB.get 0 rfl) i
    have e0 := mid_get xs i hlt
    rw [hcs, e0] at q0
    have c0 := HCB.out i
    have g0 := HGB.out i
    by_cases h15 : i < 15
    · have q1 := arr_get' (hB.get 0 rfl) (i + 1) (by rw [cl]; omega)
      have q4 := free_blk (hB.get 0 rfl) (i + 1)
      have e1 := mid_next xs i (i + 1) (by omega) (by omega)
      rw [hcs, e1] at q1
      have st := fun x hx => mid_step xs i x h15 hx
      have g1 := HGB.out (i + 1)
      generalize hx : xs.getD i 0 + cr xs i = x at q0 st
      have st := st x rfl
      generalize xs.getD (i + 1) 0 = y at q1 st g1
      have hx2 : -1152939097606846976 ≤ x ∧ x ≤ 1152939097606846976 := by omega
      have n1 : x - x / 65536 * 65536 = x % 65536 := by omega
      have hb1 := (hB.cell 0 rfl i (.int .i64 (x - x / 65536 * 65536))).cell 0 rfl (i + 1) (.int .i64 (y + x / 65536))
      have e2 : (((arr .i64 cs).setIfInBounds i (.int .i64 (x - x / 65536 * 65536))).setIfInBounds (i + 1) (.int .i64 (y + x / 65536))) = arr .i64 (mid xs (i + 1)) := by rw [n1, arr_set, arr_set, hcs, st]
      have HB := Lib.hid (hb1.cast (l' := [(w.heap.size, arr .i64 (mid xs (i + 1)), 64), (w.heap.size + 1, arr .i64 zs, 64)]) (by rw [← e2]; rfl))
      clear n1 hb1 e2 hcs hB st e0 e1 hx c0 g0
      go_wp2_with fail
      go_roundw
      case rel => exact ⟨i + 1, by omega, by go_num, _, by rw [if_pos (by omega)], HB.out⟩
      case measure => simp [intOf]; omega
    · obtain rfl : i = 15 := by omega
      have q1 := arr_get' (hB.get 0 rfl) 0 (by rw [cl]; omega)
      have q4 := free_blk (hB.get 0 rfl) 0
      have st := fun x hx => mid_end xs x hx
      generalize hx : xs.getD 15 0 + cr xs 15 = x at q0 st
      have st := st x rfl
      have ef : cs.getD 0 0 = (xs.getD 0 0 + cr xs 0) % 65536 := by rw [hcs, mid, tb_get _ _ _ (by decide), if_pos (by decide)]
      rw [ef] at q1
      generalize hy : (xs.getD 0 0 + cr xs 0) % 65536 = y at q1 st
      have hy2 : 0 ≤ y ∧ y ≤ 65535 := by omega
      have hx2 : -1152939097606846976 ≤ x ∧ x ≤ 1152939097606846976 := by omega
      have n1 : x - x / 65536 * 65536 = x % 65536 := by omega
      have hb1 := (hB.cell 0 rfl 15 (.int .i64 (x - x / 65536 * 65536))).cell 0 rfl 0 (.int .i64 (y + 38 * (x / 65536)))
      have e2 : (((arr .i64 cs).setIfInBounds 15 (.int .i64 (x - x / 65536 * 65536))).setIfInBounds 0 (.int .i64 (y + 38 * (x / 65536)))) = arr .i64 (carry xs) := by rw [n1, arr_set, arr_set, hcs, st]
      have HB := Lib.hid (hb1.cast (l' := [(w.heap.size, arr .i64 (carry xs), 64), (w.heap.size + 1, arr .i64 zs, 64)]) (by rw [← e2]; rfl))
      clear n1 hb1 e2 hcs hB st e0 ef hx c0 g0 hy
      go_wp2_with fail
      go_roundw
      case rel => exact ⟨16, by omega, by go_num, _, by rw [if_neg (by omega)], HB.out⟩
      case measure => simp [intOf]
  · obtain rfl : i = 16 := by omega
    rw [if_neg (by decide)] at hcs
    subst hcs
    have cl := carry_len xs
    obtain ⟨rs, hrs⟩ : ∃ rs, rs = carry xs := ⟨_, rfl⟩
    rw [← hrs] at hB cl ⊢
    have HB := Lib.hid hB
    have HOL := Lib.hid cl
    have HRS := Lib.hid hrs
    clear hB cl hrs
    go_wp2_with (first | ((with_reducible refine aS 38 ?_); refine wpList_load_part rfl 64 _ rfl w.heap.size 0 _ 64 (0, 0) _ (HB.out.get 0 rfl) rfl .i64 rs (arr_part _ _) Tryd.underlying64 rfl (el_i HOL.out) ?_) | ((with_reducible show wpList _ _ _ (Oper.mk none _ _ _ _ _ :: _) _ _); refine wpList_store_whole rfl 64 _ _ rfl (w.heap.size + 1) _ _ 64 (HB.out.get 1 rfl) rfl rfl (arr_len2 _ _ HOL.out HZL.out) (el_s HOL.out) (all_arr _ _) ?_; intro w7 hb7 hk7 hz7; have HB7 := Lib.hid (HB.out.put 1 rfl hk7 hb7); clear hb7 hk7 hz7))
    (try simp only [Exit.inBlock, Exit.then])
    refine bodyPost_ret (results_cell_row rfl _ _ (w.heap.size + 1) 64 _ (0, 0) _ rfl (HB7.out.get 1 rfl) Tryd.underlying64 rfl (el_s HOL.out)) rfl ?_
    exact ⟨by rw [HRS.out], HB7.out.below⟩
end Go.Proofs.YtanjhngehfbpbaaDoor.Rd
