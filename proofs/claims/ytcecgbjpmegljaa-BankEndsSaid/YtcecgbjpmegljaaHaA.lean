/- sha: its turned words, its numbers, the state that it begins with. No condition. -/
import Derived.Test.YtcecgbjpmegljaaHaP
import Derived.Test.YtcecgbjpmegljaaLong
import Derived.Deep.LoopGhost
import Derived.ScopeJumps
import Derived.StillTailTactics
namespace Go.Proofs.Ytcecgbjpmegljaa.Ha
open Go.RowKit

def stC (h b : List Int) (n l : Int) : Array Value := (h.map (Value.int .u32) ++ (K.map (Value.int .u32) ++ (b.map (Value.int .u8) ++ [Value.int .i64 n, Value.int .u64 l]))).toArray
/-- Block p is a state. -/
structure IsSt (w : World) (p : Nat) (h b : List Int) (n l : Int) : Prop where
  blk : w.heap[p]? = some (.cells (stC h b n l) 109 (0, 0))
  hl : h.length = 8
  bl : b.length = 64
theorem IsSt.fr {w : World} {p : Nat} {h b : List Int} {n l : Int} (s : IsSt w p h b n l) (o : Nat) : w.frozen? ⟨p, o, none⟩ = false := free_blk s.blk o
theorem IsSt.kept {T : Nat → Prop} {w w' : World} {p : Nat} {h b : List Int} {n l : Int} (s : IsSt w p h b n l) (k : Kept T w w') (hp : ¬ T p) : IsSt w' p h b n l := ⟨k.blk s.blk hp, s.hl, s.bl⟩
theorem IsSt.below {w w' : World} {p : Nat} {h b : List Int} {n l : Int} (s : IsSt w p h b n l) (k : Below w.heap.size w w') : IsSt w' p h b n l := ⟨Below.blk k s.blk (blk_lt s.blk), s.hl, s.bl⟩
theorem IsSt.drewN {w : World} {p : Nat} {h b : List Int} {n l : Int} (s : IsSt w p h b n l) (k : Nat) : IsSt (w.drewN k) p h b n l := ⟨s.blk, s.hl, s.bl⟩
theorem IsSt.drew {w : World} {p : Nat} {h b : List Int} {n l : Int} (s : IsSt w p h b n l) : IsSt w.drew p h b n l := ⟨s.blk, s.hl, s.bl⟩
theorem IsSt.alloc {w : World} {p : Nat} {h b : List Int} {n l : Int} (s : IsSt w p h b n l) (o : Obj) : IsSt (w.alloc o) p h b n l := ⟨blk_alloc s.blk o, s.hl, s.bl⟩
theorem mapget (k : IntKind) (xs : List Int) (i : Nat) (hi : i < xs.length) : (xs.map (Value.int k))[i]? = some (.int k (xs.getD i 0)) := by simp [List.getD, hi]
theorem stC_h {h b : List Int} (n l : Int) (hl : h.length = 8) (i : Nat) (hi : i < 8) : (stC h b n l)[i]? = some (.int .u32 (h.getD i 0)) := by
  unfold stC
  rw [List.getElem?_toArray, List.getElem?_append_left (by simp; omega), mapget _ _ _ (by omega)]
theorem stC_k {h b : List Int} (n l : Int) (hl : h.length = 8) (i : Nat) (hi : i < 64) : (stC h b n l)[8 + i]? = some (.int .u32 (K.getD i 0)) := by
  unfold stC
  have kl := K_len
  rw [List.getElem?_toArray, List.getElem?_append_right (by simp; omega), List.getElem?_append_left (by simp; omega), List.length_map, hl, Nat.add_sub_cancel_left, mapget _ _ _ (by omega)]
theorem stC_b {h b : List Int} (n l : Int) (hl : h.length = 8) (bl : b.length = 64) (i : Nat) (hi : i < 64) : (stC h b n l)[72 + i]? = some (.int .u8 (b.getD i 0)) := by
  unfold stC
  have kl := K_len
  rw [List.getElem?_toArray, List.getElem?_append_right (by simp; omega), List.getElem?_append_right (by simp; omega), List.getElem?_append_left (by simp; omega), List.length_map, List.length_map, hl, kl, show 72 + i - 8 - 64 = i by omega, mapget _ _ _ (by omega)]
theorem stC_n {h b : List Int} (n l : Int) (hl : h.length = 8) (bl : b.length = 64) : (stC h b n l)[136]? = some (.int .i64 n) ∧ (stC h b n l)[137]? = some (.int .u64 l) := by
  unfold stC
  have kl := K_len
  constructor <;> rw [List.getElem?_toArray, List.getElem?_append_right (by simp; omega), List.getElem?_append_right (by simp; omega), List.getElem?_append_right (by simp; omega)] <;> simp [hl, kl, bl]
theorem stC_size {h b : List Int} (n l : Int) (hl : h.length = 8) (bl : b.length = 64) : (stC h b n l).size = 138 := by
  have kl := K_len
  simp [stC, hl, kl, bl]
theorem stC_toList (h b : List Int) (n l : Int) : (stC h b n l).toList = h.map (Value.int .u32) ++ (K.map (Value.int .u32) ++ (b.map (Value.int .u8) ++ [Value.int .i64 n, Value.int .u64 l])) := rfl
theorem setA (cs : List Value) (i : Nat) (v : Value) : cs.toArray.setIfInBounds i v = (cs.set i v).toArray := by simp
theorem stC_seth {h b : List Int} (n l : Int) (hl : h.length = 8) (i : Nat) (hi : i < 8) (x : Int) : (stC h b n l).setIfInBounds i (.int .u32 x) = stC (h.set i x) b n l := by
  unfold stC
  rw [setA, List.set_append_left _ _ (by simp; omega), List.map_set]
theorem stC_setb {h b : List Int} (n l : Int) (hl : h.length = 8) (bl : b.length = 64) (i : Nat) (hi : i < 64) (x : Int) : (stC h b n l).setIfInBounds (72 + i) (.int .u8 x) = stC h (b.set i x) n l := by
  unfold stC
  have kl := K_len
  rw [setA, List.set_append_right _ _ (by simp; omega), List.set_append_right _ _ (by simp; omega), List.set_append_left _ _ (by simp; omega), List.map_set, List.length_map, List.length_map, hl, kl, show 72 + i - 8 - 64 = i by omega]
theorem stC_setn {h b : List Int} (n l : Int) (hl : h.length = 8) (bl : b.length = 64) (x : Int) : (stC h b n l).setIfInBounds 136 (.int .i64 x) = stC h b x l ∧ (stC h b n l).setIfInBounds 137 (.int .u64 x) = stC h b n x := by
  unfold stC
  have kl := K_len
  constructor <;> rw [setA, List.set_append_right _ _ (by simp; omega), List.set_append_right _ _ (by simp; omega), List.set_append_right _ _ (by simp; omega)] <;> simp [hl, kl, bl]
theorem IsSt.at_h {w : World} {p : Nat} {h b : List Int} {n l : Int} (s : IsSt w p h b n l) (i : Nat) (hi : i < 8) : w.cell? ⟨p, i, none⟩ = some (.int .u32 (h.getD i 0)) := by rw [cell_blk s.blk, stC_h n l s.hl i hi]
theorem IsSt.at_k {w : World} {p : Nat} {h b : List Int} {n l : Int} (s : IsSt w p h b n l) (i : Nat) (hi : i < 64) : w.cell? ⟨p, 8 + i, none⟩ = some (.int .u32 (K.getD i 0)) := by rw [cell_blk s.blk, stC_k n l s.hl i hi]
theorem IsSt.at_b {w : World} {p : Nat} {h b : List Int} {n l : Int} (s : IsSt w p h b n l) (i : Nat) (hi : i < 64) : w.cell? ⟨p, 72 + i, none⟩ = some (.int .u8 (b.getD i 0)) := by rw [cell_blk s.blk, stC_b n l s.hl s.bl i hi]
theorem IsSt.at_n {w : World} {p : Nat} {h b : List Int} {n l : Int} (s : IsSt w p h b n l) : w.cell? ⟨p, 136, none⟩ = some (.int .i64 n) := by rw [cell_blk s.blk, (stC_n n l s.hl s.bl).1]
theorem IsSt.at_l {w : World} {p : Nat} {h b : List Int} {n l : Int} (s : IsSt w p h b n l) : w.cell? ⟨p, 137, none⟩ = some (.int .u64 l) := by rw [cell_blk s.blk, (stC_n n l s.hl s.bl).2]
theorem IsSt.set_h {w : World} {p : Nat} {h b : List Int} {n l : Int} (s : IsSt w p h b n l) (i : Nat) (hi : i < 8) (x : Int) : IsSt (w.setCell ⟨p, i, none⟩ (.int .u32 x)) p (h.set i x) b n l :=
  ⟨by rw [blk_setCell s.blk, stC_seth n l s.hl i hi], by rw [List.length_set]; exact s.hl, s.bl⟩
theorem IsSt.set_b {w : World} {p : Nat} {h b : List Int} {n l : Int} (s : IsSt w p h b n l) (i : Nat) (hi : i < 64) (x : Int) : IsSt (w.setCell ⟨p, 72 + i, none⟩ (.int .u8 x)) p h (b.set i x) n l :=
  ⟨by rw [blk_setCell s.blk, stC_setb n l s.hl s.bl i hi], s.hl, by rw [List.length_set]; exact s.bl⟩
theorem IsSt.set_n {w : World} {p : Nat} {h b : List Int} {n l : Int} (s : IsSt w p h b n l) (x : Int) : IsSt (w.setCell ⟨p, 136, none⟩ (.int .i64 x)) p h b x l :=
  ⟨by rw [blk_setCell s.blk, (stC_setn n l s.hl s.bl x).1], s.hl, s.bl⟩
theorem IsSt.set_l {w : World} {p : Nat} {h b : List Int} {n l : Int} (s : IsSt w p h b n l) (x : Int) : IsSt (w.setCell ⟨p, 137, none⟩ (.int .u64 x)) p h b n x :=
  ⟨by rw [blk_setCell s.blk, (stC_setn n l s.hl s.bl x).2], s.hl, s.bl⟩

theorem rl_2 (x : Int) (w : World) : Calls Try.prog 58 #[.int .u32 x, .int .i64 (-2)] w fun e w' => e = .returned (.int .u32 (rot x 4 1073741824)) ∧ w = w' := by
  have hb : bits .and .u64 (IntKind.u64.wrap (-2)) 31 = 30 := by decide +kernel
  go_enter Try.func58, Try.ntmps58
  go_wp2
  go_ret
  exact ⟨rfl, rfl⟩
theorem rl_6 (x : Int) (w : World) : Calls Try.prog 58 #[.int .u32 x, .int .i64 (-6)] w fun e w' => e = .returned (.int .u32 (rot x 64 67108864)) ∧ w = w' := by
  have hb : bits .and .u64 (IntKind.u64.wrap (-6)) 31 = 26 := by decide +kernel
  go_enter Try.func58, Try.ntmps58
  go_wp2
  go_ret
  exact ⟨rfl, rfl⟩
theorem rl_7 (x : Int) (w : World) : Calls Try.prog 58 #[.int .u32 x, .int .i64 (-7)] w fun e w' => e = .returned (.int .u32 (rot x 128 33554432)) ∧ w = w' := by
  have hb : bits .and .u64 (IntKind.u64.wrap (-7)) 31 = 25 := by decide +kernel
  go_enter Try.func58, Try.ntmps58
  go_wp2
  go_ret
  exact ⟨rfl, rfl⟩
theorem rl_11 (x : Int) (w : World) : Calls Try.prog 58 #[.int .u32 x, .int .i64 (-11)] w fun e w' => e = .returned (.int .u32 (rot x 2048 2097152)) ∧ w = w' := by
  have hb : bits .and .u64 (IntKind.u64.wrap (-11)) 31 = 21 := by decide +kernel
  go_enter Try.func58, Try.ntmps58
  go_wp2
  go_ret
  exact ⟨rfl, rfl⟩
theorem rl_13 (x : Int) (w : World) : Calls Try.prog 58 #[.int .u32 x, .int .i64 (-13)] w fun e w' => e = .returned (.int .u32 (rot x 8192 524288)) ∧ w = w' := by
  have hb : bits .and .u64 (IntKind.u64.wrap (-13)) 31 = 19 := by decide +kernel
  go_enter Try.func58, Try.ntmps58
  go_wp2
  go_ret
  exact ⟨rfl, rfl⟩
theorem rl_17 (x : Int) (w : World) : Calls Try.prog 58 #[.int .u32 x, .int .i64 (-17)] w fun e w' => e = .returned (.int .u32 (rot x 131072 32768)) ∧ w = w' := by
  have hb : bits .and .u64 (IntKind.u64.wrap (-17)) 31 = 15 := by decide +kernel
  go_enter Try.func58, Try.ntmps58
  go_wp2
  go_ret
  exact ⟨rfl, rfl⟩
theorem rl_18 (x : Int) (w : World) : Calls Try.prog 58 #[.int .u32 x, .int .i64 (-18)] w fun e w' => e = .returned (.int .u32 (rot x 262144 16384)) ∧ w = w' := by
  have hb : bits .and .u64 (IntKind.u64.wrap (-18)) 31 = 14 := by decide +kernel
  go_enter Try.func58, Try.ntmps58
  go_wp2
  go_ret
  exact ⟨rfl, rfl⟩
theorem rl_19 (x : Int) (w : World) : Calls Try.prog 58 #[.int .u32 x, .int .i64 (-19)] w fun e w' => e = .returned (.int .u32 (rot x 524288 8192)) ∧ w = w' := by
  have hb : bits .and .u64 (IntKind.u64.wrap (-19)) 31 = 13 := by decide +kernel
  go_enter Try.func58, Try.ntmps58
  go_wp2
  go_ret
  exact ⟨rfl, rfl⟩
theorem rl_22 (x : Int) (w : World) : Calls Try.prog 58 #[.int .u32 x, .int .i64 (-22)] w fun e w' => e = .returned (.int .u32 (rot x 4194304 1024)) ∧ w = w' := by
  have hb : bits .and .u64 (IntKind.u64.wrap (-22)) 31 = 10 := by decide +kernel
  go_enter Try.func58, Try.ntmps58
  go_wp2
  go_ret
  exact ⟨rfl, rfl⟩
theorem rl_25 (x : Int) (w : World) : Calls Try.prog 58 #[.int .u32 x, .int .i64 (-25)] w fun e w' => e = .returned (.int .u32 (rot x 33554432 128)) ∧ w = w' := by
  have hb : bits .and .u64 (IntKind.u64.wrap (-25)) 31 = 7 := by decide +kernel
  go_enter Try.func58, Try.ntmps58
  go_wp2
  go_ret
  exact ⟨rfl, rfl⟩

theorem zeroR (w : World) : (zeroValue 106).run Try.prog w = .ok (.agg (arr .u32 (List.replicate 64 0))) w := by kernel_rfl
theorem sizeR : (Try.prog.info? 106).map (·.size) = some 64 := by kernel_rfl
theorem size8 : (Try.prog.info? 105).map (·.size) = some 8 := by kernel_rfl
theorem sizeB : (Try.prog.info? 107).map (·.size) = some 64 := by kernel_rfl
theorem size_u8 (w : World) : (sizeOf 5).run Try.prog w = .ok 1 w := by kernel_rfl
def KV : Array (Nat × Value) := ((K.map (Value.int .u32)).zipIdx.map fun x => (x.2, x.1)).toArray
theorem build_K (w : World) : (Instr.build 106 KV).run Try.prog w = .ok (.agg (arr .u32 K)) w := by kernel_rfl
theorem build_st (w : World) : (Instr.build 109 #[(0, .agg (arr .u32 H0)), (1, .agg (arr .u32 K))]).run Try.prog w = .ok (.agg (stC H0 (List.replicate 64 0) 0 0)) w := by kernel_rfl

set_option maxRecDepth 100000 in
set_option maxHeartbeats 1600000 in
theorem consts_any (w : World) : Calls Try.prog 55 #[] w fun e w' => e = .returned (.agg (arr .u32 K)) ∧ Below w.heap.size w w' := by
  have z1 : (Try.prog.info? 106).map (·.size) = some (arr .u32 K).size := by rw [arr_size, K_len]; exact sizeR
  have s1 : (arr .u32 K).size = (arr .u32 (List.replicate 64 0)).size := by rw [arr_size, arr_size, K_len, List.length_replicate]
  have b1 : (w.alloc (.cells (arr .u32 (List.replicate 64 0)) 106)).heap[w.heap.size]? = some (.cells (arr .u32 (List.replicate 64 0)) 106 (0, 0)) := blk_new w _
  have Z1 := Lib.hid z1
  have S1 := Lib.hid s1
  have B1 := Lib.hid b1
  clear z1 s1 b1
  go_enter Try.func55, Try.ntmps55
  go_wp2_with (first | ((with_reducible show wpList _ _ _ (Oper.mk (some 0) _ _ _ _ _ :: _) _ _); refine wpList_alloc_row rfl 106 rfl _ (zeroR _) ?_) | ((with_reducible show wpList _ _ _ (Oper.mk (some 1) _ _ _ _ _ :: _) _ _); refine wpList_build rfl 106 _ rfl KV (by kernel_rfl) _ (build_K _) ?_) | ((with_reducible show wpList _ _ _ (Oper.mk none _ _ _ _ _ :: _) _ _); refine wpList_store_whole rfl 106 _ _ rfl w.heap.size _ _ 106 B1.out rfl rfl S1.out Z1.out (all_arr _ _) ?_; intro w2 hb2 hk2 hz2; have HB2 := Lib.hid hb2; have HK2 := Lib.hid hk2; clear hb2 hk2 hz2))
  (try simp only [Exit.inBlock, Exit.then])
  refine bodyPost_ret (results_cell_row rfl _ _ w.heap.size 106 _ (0, 0) _ rfl HB2.out Try.underlying106 rfl Z1.out) rfl ?_
  exact ⟨rfl, (((Kept.refl (fun i => i = w.heap.size) w).alloc _).trans HK2.out).toBelow (Nat.le_refl _) (by rintro i rfl; exact Nat.le_refl _)⟩

set_option maxRecDepth 100000 in
set_option maxHeartbeats 1600000 in
theorem begin_any (w : World) : Calls Try.prog 53 #[] w fun e w' => ∃ p, e = .returned (.pointer (some ⟨p, 0, none⟩)) ∧ IsSt w' p H0 (List.replicate 64 0) 0 0 ∧ w.heap.size ≤ p ∧ Below w.heap.size w w' := by
  go_enter Try.func53, Try.ntmps53
  go_wp2_with (first | (go_at_call 55; refine (consts_any _).mono ?_; rintro e w1 ⟨rfl, hb1⟩) | ((with_reducible show wpList _ _ _ (Oper.mk (some 3) _ _ _ _ _ :: _) _ _); refine wpList_build rfl 109 _ rfl #[(0, .agg (arr .u32 H0)), (1, .agg (arr .u32 K))] rfl _ (build_st _) ?_))
  go_ret
  refine ⟨w1.heap.size, rfl, ⟨blk_new _ _, rfl, by simp⟩, hb1.size, hb1.alloc hb1.size _⟩

end Go.Proofs.Ytcecgbjpmegljaa.Ha
