/- The document's whole: what it answers. Condition: 17 places, each below 2^45, a number below 2^131. -/
import Derived.Test.YtdaaigodpglnnaaPorB
namespace Go.Proofs.Ytdaaigodpglnnaa.Po
open Go.RowKit Lm

/-- The row in the midst of an addition of c: the first i places are carried. -/
def midc (c : Nat) (hs : List Nat) (i : Nat) : List Nat := dig 256 i (val 256 (hs.take i) + c) ++ hs.drop i
theorem midc_zero (c : Nat) (hs : List Nat) : midc c hs 0 = hs := by simp [midc, dig]
theorem midc_len (c : Nat) (hs : List Nat) (i : Nat) (h : i ≤ hs.length) : (midc c hs i).length = hs.length := by simp [midc, dig_len]; omega
theorem midc_get (c : Nat) (hs : List Nat) (i : Nat) : (midc c hs i).getD i 0 = hs.getD i 0 := by
  simp only [midc, List.getD]
  rw [List.getElem?_append_right (by rw [dig_len]; exact Nat.le_refl _), dig_len, Nat.sub_self, List.getElem?_drop, Nat.add_zero]
theorem midc_step (c : Nat) (hs : List Nat) (i u : Nat) (h : i < hs.length) (hu : u = (val 256 (hs.take i) + c) / 256 ^ i) :
    (midc c hs i).set i ((u + hs.getD i 0) % 256) = midc c hs (i + 1) ∧ (u + hs.getD i 0) / 256 = (val 256 (hs.take (i + 1)) + c) / 256 ^ (i + 1) := by
  have hv := val_take_succ 256 hs i h
  have hp : 0 < 256 ^ i := Nat.pow_pos (by decide)
  have hv2 : val 256 (hs.take (i + 1)) + c = (val 256 (hs.take i) + c) + 256 ^ i * hs.getD i 0 := by rw [hv]; omega
  have hq : (val 256 (hs.take (i + 1)) + c) / 256 ^ i = u + hs.getD i 0 := by rw [hv2, Nat.add_mul_div_left _ _ hp, ← hu]
  constructor
  · rw [midc, midc, dig_snoc, hq, hv2, dig_add 256 (by decide), List.set_append_right _ _ (by rw [dig_len]; exact Nat.le_refl _), dig_len, Nat.sub_self, List.append_assoc]
    congr 1
    rw [List.drop_eq_getElem_cons h, List.set_cons_zero]
    rfl
  · rw [← hq, Nat.pow_succ, Nat.div_div_eq_div_mul]
theorem whole_ge (x : Nat) (h1 : 2 ^ 130 ≤ x) (h2 : x < 2 ^ 131) : (dig 256 17 x).set 16 ((dig 256 17 x).getD 16 0 - 4) = dig 256 17 (x - 2 ^ 130) := by
  have e1 : dig 256 17 x = dig 256 16 x ++ [x / 256 ^ 16 % 256] := dig_snoc 256 16 x
  have e2 : dig 256 17 (x - 2 ^ 130) = dig 256 16 (x - 2 ^ 130) ++ [(x - 2 ^ 130) / 256 ^ 16 % 256] := dig_snoc 256 16 _
  have e3 : dig 256 16 x = dig 256 16 (x - 2 ^ 130) := by
    rw [← dig_add 256 (by decide) 16 (x - 2 ^ 130) 4]
    congr 1
    omega
  rw [dig_get _ _ _ _ (by decide), e1, e2, e3, List.set_append_right _ _ (by rw [dig_len]; exact Nat.le_refl _), dig_len, Nat.sub_self, List.set_cons_zero]
  congr 2
  omega

set_option maxRecDepth 100000 in
set_option maxHeartbeats 2000000 in
theorem whole_any (hs : List Nat) (w : World) (hl : hs.length = 17) (hb : ∀ x ∈ hs, x < 2 ^ 45) (hv : val 256 hs < 2 ^ 131) :
    Calls Try.prog 73 #[.agg (arr .i64 (nar hs))] w fun e w' => e = .returned (.agg (arr .i64 (nar (dig 256 17 (val 256 hs % (2 ^ 130 - 5)))))) ∧ Below w.heap.size w w' := by
  obtain ⟨zs, hzs⟩ : ∃ zs : List Nat, zs = List.replicate 17 0 := ⟨_, rfl⟩
  have hz : ∀ w, (zeroValue 102).run Try.prog w = .ok (.agg (arr .i64 (nar zs))) w := by intro w; rw [hzs, nar_zeros]; exact zero17 w
  have hzl : zs.length = 17 := by rw [hzs]; rfl
  have hC := fun w => carried_any hs w hl hb
  obtain ⟨-, hvl⟩ := fold_lt3 _ hv
  have hmod : fold (fold (val 256 hs)) % (2 ^ 130 - 5) = val 256 hs % (2 ^ 130 - 5) := by rw [fold_mod, fold_mod]
  generalize fold (fold (val 256 hs)) = v at hC hvl hmod
  rw [pk_dig v hvl] at hC
  rw [← hmod]
  obtain ⟨vs, hvs⟩ : ∃ vs, vs = dig 256 17 v := ⟨_, rfl⟩
  have vl : vs.length = 17 := by rw [hvs, dig_len]
  have vb : ∀ x ∈ vs, x < 256 := by rw [hvs]; exact dig_lt _ (by decide) _ _
  have vv : val 256 vs = v := by rw [hvs, val_dig]; exact Nat.mod_eq_of_lt (by omega)
  rw [← hvs] at hC
  obtain ⟨rs, hrs⟩ : ∃ rs, rs = dig 256 17 (v % (2 ^ 130 - 5)) := ⟨_, rfl⟩
  have rl : rs.length = 17 := by rw [hrs, dig_len]
  have hend : midc 5 vs 17 = dig 256 17 (v + 5) := by rw [midc, List.take_of_length_le (by omega), vv, List.drop_of_length_le (by omega), List.append_nil]
  have hg16 : (dig 256 17 (v + 5)).getD 16 0 = (v + 5) / 256 ^ 16 := by rw [dig_get _ _ _ _ (by decide)]; omega
  have hlo : (v + 5) / 256 ^ 16 < 4 → rs = vs := by intro h; rw [hrs, hvs, Nat.mod_eq_of_lt (by omega)]
  have hhi : 4 ≤ (v + 5) / 256 ^ 16 → (midc 5 vs 17).set 16 ((v + 5) / 256 ^ 16 - 4) = rs := by
    intro h
    rw [hend, ← hg16, whole_ge (v + 5) (by omega) (by omega), hrs]
    refine congrArg (dig 256 17) ?_
    omega
  rw [← hrs]
  have S0 := B2.start w (arr .i64 (nar hs)) (arr .i64 (nar zs)) 102 102
  obtain ⟨d, hd⟩ : ∃ d, d = (v + 5) / 256 ^ 16 := ⟨_, rfl⟩
  have hd2 : d < 1152921504606846976 := by omega
  rw [← hd] at hg16 hlo hhi
  rw [← hend] at hg16
  have HS0 := Lib.hid S0
  have HL := Lib.hid hl
  have HZ := Lib.hid hz
  have HZL := Lib.hid hzl
  have HC := Lib.hid hC
  have VL := Lib.hid vl
  have VB := Lib.hid vb
  have RL := Lib.hid rl
  have G16 := Lib.hid hg16
  have HLO := Lib.hid hlo
  have HHI := Lib.hid hhi
  clear S0 hl hz hzl hC vl vb rl hg16 hlo hhi hend vv hmod hvs hrs hzs hd hb hv hvl
  go_enter Try.func73, Try.ntmps73
  go_wp2_with (first | ((with_reducible show wpList _ _ _ (Oper.mk (some 2) _ _ _ _ _ :: _) _ _); refine wpList_alloc_row rfl 102 rfl _ (HZ.out _) ?_) | ((with_reducible show wpList _ _ _ (Oper.mk (some 6) _ _ _ _ _ :: _) _ _); refine wpList_load_part rfl 102 _ rfl w.heap.size 0 _ 102 (0, 0) _ HS0.out.b0 rfl .i64 (nar hs) (arr_part _ _) Try.underlying102 rfl (nar17i hs HL.out) ?_) | ((with_reducible show Calls _ _ _ _ _); go_at_call 75; refine (HC.out _).mono ?_; rintro e w5 ⟨rfl, hbw⟩; have HB5 := Lib.hid (HS0.out.after hbw); clear hbw) | ((with_reducible show wpList _ _ _ (Oper.mk none (Op.store _ (Operand.tmp 1) _) _ _ _ _ :: _) _ _); refine wpList_store_whole rfl 102 _ _ rfl w.heap.size _ _ 102 HB5.out.b0 rfl rfl ((nar17 vs VL.out).trans (nar17 hs HL.out).symm) (nar17s vs VL.out) (all_arr _ _) ?_; intro w6 hb6 hk6 hz6; have HB6 := Lib.hid (HB5.out.put0 hk6 hb6); have hl6 := blk_lt HB6.out.b1; clear hb6 hk6 hz6) | ((with_reducible show wpList _ _ _ (Oper.mk (some 8) _ _ _ _ _ :: _) _ _); refine wpList_load_part rfl 102 _ rfl w.heap.size 0 _ 102 (0, 0) _ HB6.out.b0 rfl .i64 (nar vs) (arr_part _ _) Try.underlying102 rfl (nar17i vs VL.out) ?_) | ((with_reducible show wpList _ _ _ (Oper.mk (some 3) _ _ _ _ _ :: _) _ _); refine wpList_alloc_row rfl 102 rfl _ (HZ.out _) ?_; go_simp) | ((with_reducible show wpList _ _ _ (Oper.mk none (Op.store _ (Operand.tmp 3) _) _ _ _ _ :: _) _ _); refine wpList_store_whole rfl 102 _ _ rfl w6.heap.size _ _ 102 (blk_new _ _) rfl rfl ((nar17 vs VL.out).trans (nar17 zs HZL.out).symm) (nar17s vs VL.out) (all_arr _ _) ?_; intro w7 hb7 hk7 hz7; have HB7 := Lib.hid ((HB6.out.alloc (.cells (arr .i64 (nar zs)) 102)).farK hk7 (by rintro i rfl; omega)); have HG7 := Lib.hid hb7; clear hb7 hk7 hz7))
  obtain ⟨g, hg⟩ : ∃ g, g = w6.heap.size := ⟨_, rfl⟩
  rw [← hg] at HG7 hl6 ⊢
  clear hg
  (try simp only [Act.put])
  go_loopw [4, 5] (fun uv iv wr => ∃ i u : Nat, i ≤ 17 ∧ iv = .int .i64 i ∧ uv = .int .i64 u ∧ u ≤ 5 ∧ u = (val 256 (vs.take i) + 5) / 256 ^ i ∧ wr.heap[g]? = some (.cells (arr .i64 (nar (midc 5 vs i))) 102 (0, 0)) ∧ B2 w wr (arr .i64 (nar vs)) (arr .i64 (nar zs)) 102 102) (fun _ iv _ => 17 - (intOf iv).toNat)
  case atStart => exact ⟨0, 5, Nat.zero_le _, rfl, rfl, Nat.le_refl _, by simp [val], by rw [midc_zero]; exact HG7.out, HB7.out⟩
  case round =>
    obtain ⟨i, u, hi, rfl, rfl, hu2, hu, hG, hB⟩ := hrel
    have ml := midc_len 5 vs i (by rw [VL.out]; omega)
    rw [VL.out] at ml
    by_cases hli : i < 17
    · obtain ⟨m1, m2⟩ := midc_step 5 vs i u (by rw [VL.out]; omega) hu
      have q0 := blk_arr' hG i (by rw [nar_len, ml]; omega)
      have q3 := free_blk hG i
      rw [nar_get, midc_get] at q0
      have hx2 := lt_getD VB.out (by decide) i
      generalize vs.getD i 0 = x at q0 m1 m2 hx2
      have hand := and255 (u + x) (by omega)
      rw [Int.natCast_add] at hand
      have hg1 : (wr.setCell ⟨g, i, none⟩ (.int .i64 (bits .and .i64 ((u : Int) + (x : Int)) 255))).heap[g]? = some (.cells (arr .i64 (nar (midc 5 vs (i + 1)))) 102 (0, 0)) := by
        rw [hand, blk_setCell hG, arr_set, ← nar_set, m1]
      have HG1 := Lib.hid hg1
      have HB1 := Lib.hid (hB.far g i (.int .i64 (bits .and .i64 ((u : Int) + (x : Int)) 255)) (by omega))
      have M2 := Lib.hid m2
      clear m1 m2 hg1 hB hG hu ml hand
      go_wp2_with fail
      go_roundw
      case rel => exact ⟨i + 1, (u + x) / 256, by omega, by go_num, rfl, by omega, M2.out, HG1.out, HB1.out⟩
      case measure => simp [intOf]; omega
    · have ei : i = 17 := by omega
      rw [ei] at hu hG ml
      have q0 := blk_arr' hG 16 (by rw [nar_len, ml]; omega)
      have q3 := free_blk hG 16
      rw [nar_get, G16.out] at q0
      by_cases hc : 4 ≤ d
      · have hg1 : (wr.setCell ⟨g, 16, none⟩ (.int .i64 ((d : Int) - 4))).heap[g]? = some (.cells (arr .i64 (nar rs)) 102 (0, 0)) := by
          rw [show (d : Int) - 4 = ((d - 4 : Nat) : Int) by omega, blk_setCell hG, arr_set, ← nar_set, HHI.out hc]
        have HG1 := Lib.hid hg1
        have HB1 := Lib.hid (hB.far g 16 (.int .i64 ((d : Int) - 4)) (by omega))
        have hc2 : 4 ≤ (d : Int) := by omega
        clear hg1 hB hG hu ml ei hc
        go_wp2_with (first | ((with_reducible show wpList _ _ _ (Oper.mk (some 31) _ _ _ _ _ :: _) _ _); refine wpList_load_part rfl 102 _ rfl g 0 _ 102 (0, 0) _ HG1.out rfl .i64 (nar rs) (arr_part _ _) Try.underlying102 rfl (nar17i rs RL.out) ?_) | ((with_reducible show wpList _ _ _ (Oper.mk none (Op.store _ (Operand.tmp 2) _) _ _ _ _ :: _) _ _); refine wpList_store_whole rfl 102 _ _ rfl (w.heap.size + 1) _ _ 102 HB1.out.b1 rfl rfl ((nar17 rs RL.out).trans (nar17 zs HZL.out).symm) (nar17s rs RL.out) (all_arr _ _) ?_; intro w8 hb8 hk8 hz8; have HB8 := Lib.hid (HB1.out.put1 hk8 hb8); clear hb8 hk8 hz8))
        (try simp only [Exit.inBlock, Exit.then])
        refine bodyPost_ret (results_cell_row rfl _ _ (w.heap.size + 1) 102 _ (0, 0) _ rfl HB8.out.b1 Try.underlying102 rfl (nar17s rs RL.out)) rfl ?_
        exact ⟨rfl, HB8.out.below⟩
      · have hrv := HLO.out (by omega)
        have HB1 := Lib.hid hB
        have hc2 : (d : Int) < 4 := by omega
        have HRV := Lib.hid hrv
        clear hB hG hu ml ei hc hrv
        go_wp2_with (first | ((with_reducible show wpList _ _ _ (Oper.mk (some 32) _ _ _ _ _ :: _) _ _); refine wpList_load_part rfl 102 _ rfl w.heap.size 0 _ 102 (0, 0) _ HB1.out.b0 rfl .i64 (nar vs) (arr_part _ _) Try.underlying102 rfl (nar17i vs VL.out) ?_) | ((with_reducible show wpList _ _ _ (Oper.mk none (Op.store _ (Operand.tmp 2) _) _ _ _ _ :: _) _ _); refine wpList_store_whole rfl 102 _ _ rfl (w.heap.size + 1) _ _ 102 HB1.out.b1 rfl rfl ((nar17 vs VL.out).trans (nar17 zs HZL.out).symm) (nar17s vs VL.out) (all_arr _ _) ?_; intro w8 hb8 hk8 hz8; have HB8 := Lib.hid (HB1.out.put1 hk8 hb8); clear hb8 hk8 hz8))
        (try simp only [Exit.inBlock, Exit.then])
        refine bodyPost_ret (results_cell_row rfl _ _ (w.heap.size + 1) 102 _ (0, 0) _ rfl HB8.out.b1 Try.underlying102 rfl (nar17s vs VL.out)) rfl ?_
        exact ⟨by rw [HRV.out], HB8.out.below⟩
end Go.Proofs.Ytdaaigodpglnnaa.Po
