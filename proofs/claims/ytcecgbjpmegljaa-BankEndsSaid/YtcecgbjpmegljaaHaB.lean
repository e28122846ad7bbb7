/- sha.schedule: the words of a block. Condition: the state lies there whole. -/
import Derived.Test.YtcecgbjpmegljaaHaA
import Derived.BigRegion
namespace Go.Proofs.Ytcecgbjpmegljaa.Ha
open Go.RowKit

theorem arr_set (k : IntKind) (xs : List Int) (i : Nat) (v : Int) : (arr k xs).setIfInBounds i (.int k v) = arr k (xs.set i v) := by
  unfold arr
  rw [setA, List.map_set]
theorem stC_partb {h b : List Int} (n l : Int) (hl : h.length = 8) : ((stC h b n l).toList.drop 72).take b.length = b.map (Value.int .u8) := by
  have kl := K_len
  rw [stC_toList, ← List.append_assoc, List.drop_append_of_le_length (by simp [hl, kl]), List.drop_eq_nil_of_le (by simp [hl, kl])]
  simp
theorem stC_parth (h b : List Int) (n l : Int) : ((stC h b n l).toList.drop 0).take h.length = h.map (Value.int .u32) := by
  rw [stC_toList]
  simp
theorem blk_arr {w : World} {g : Nat} {k : IntKind} {xs : List Int} {t : TypeId} {fr : Nat × Nat} (h : w.heap[g]? = some (.cells (arr k xs) t fr)) (i : Nat) (hi : i < xs.length) : w.cell? ⟨g, i, none⟩ = some (.int k (xs.getD i 0)) := by
  rw [cell_blk h, arr_get _ _ _ hi]
theorem blk_arr_set {w : World} {g : Nat} {k : IntKind} {xs : List Int} {t : TypeId} (h : w.heap[g]? = some (.cells (arr k xs) t (0, 0))) (i : Nat) (v : Int) : (w.setCell ⟨g, i, none⟩ (.int k v)).heap[g]? = some (.cells (arr k (xs.set i v)) t (0, 0)) := by
  rw [blk_setCell h, arr_set]
theorem byte_at {b : List Int} (hb : ∀ x ∈ b, 0 ≤ x ∧ x ≤ 255) (j : Nat) : 0 ≤ b.getD j 0 ∧ b.getD j 0 ≤ 255 := by
  simp only [List.getD]
  cases e : b[j]? with
  | none => simp
  | some y => simpa using hb y (List.mem_of_getElem? e)

theorem flat4 (a b c d : Int) : (a + b + c + d) % 4294967296 = add (add (add a b) c) d := by
  simp only [add, IntKind.wrap_u32]
  omega

set_option maxRecDepth 100000 in
set_option maxHeartbeats 3200000 in
theorem sched_any (p : Nat) (h b : List Int) (n l : Int) (w : World) (s : IsSt w p h b n l) (hb : ∀ x ∈ b, 0 ≤ x ∧ x ≤ 255) :
    Calls Try.prog 57 #[.pointer (some ⟨p, 0, none⟩)] w fun e w' => e = .returned (.agg (arr .u32 (sched b 48))) ∧ Below w.heap.size w w' := by
  have hs2 := ((s.alloc (.cells (arr .u32 (List.replicate 64 0)) 106)).alloc (.cells (arr .u32 (List.replicate 64 0)) 106)).blk
  have hp2 := stC_partb (b := b) n l s.hl
  have hz2 : (Try.prog.info? 107).map (·.size) = some b.length := by rw [s.bl]; exact sizeB
  have hst : ((w.alloc (.cells (arr .u32 (List.replicate 64 0)) 106)).alloc (.cells (arr .u32 (List.replicate 64 0)) 106)).heap[w.heap.size + 1]? = some (.cells (arr .u32 (pre b 0)) 106 (0, 0)) ∧
      ((w.alloc (.cells (arr .u32 (List.replicate 64 0)) 106)).alloc (.cells (arr .u32 (List.replicate 64 0)) 106)).heap[w.heap.size]? = some (.cells (arr .u32 (List.replicate 64 0)) 106 (0, 0)) ∧
      Below w.heap.size w ((w.alloc (.cells (arr .u32 (List.replicate 64 0)) 106)).alloc (.cells (arr .u32 (List.replicate 64 0)) 106)) := by
    refine ⟨?_, blk_alloc (blk_new w _) _, ((Below.refl _ w).alloc (Nat.le_refl _) _).alloc (by simp) _⟩
    have := blk_new (w.alloc (.cells (arr .u32 (List.replicate 64 0)) 106)) (.cells (arr .u32 (List.replicate 64 0)) 106)
    rw [show (w.alloc (.cells (arr .u32 (List.replicate 64 0)) 106)).heap.size = w.heap.size + 1 by simp] at this
    rw [pre_zero]
    exact this
  have hix := fun (j : Nat) (hj : j < 64) (w : World) => run_index_arr (P := Try.prog) w 107 5 64 .u8 .u8 .i64 Try.underlying107 Try.underlying5 size_u8 b s.bl j hj
  have HS2 := Lib.hid hs2
  have HP2 := Lib.hid hp2
  have HZ2 := Lib.hid hz2
  have HST := Lib.hid hst
  have HIX := Lib.hid hix
  clear hs2 hp2 hz2 hst hix s
  go_enter Try.func57, Try.ntmps57
  go_wp2_with (first | ((with_reducible show wpList _ _ _ (Oper.mk (some 2) _ _ _ _ _ :: _) _ _); refine wpList_alloc_row rfl 106 rfl _ (zeroR _) ?_) | ((with_reducible show wpList _ _ _ (Oper.mk (some 3) _ _ _ _ _ :: _) _ _); refine wpList_alloc_row rfl 106 rfl _ (zeroR _) ?_) | ((with_reducible show wpList _ _ _ (Oper.mk (some 14) _ _ _ _ _ :: _) _ _); refine wpList_load_part rfl 107 _ rfl p 72 _ 109 (0, 0) _ HS2.out rfl .u8 b HP2.out Try.underlying107 rfl HZ2.out ?_))
  go_loopw [15] (fun i wr => ∃ j : Nat, j ≤ 64 ∧ i = .int .i64 j ∧ wr.heap[w.heap.size + 1]? = some (.cells (arr .u32 (pre b j)) 106 (0, 0)) ∧ wr.heap[w.heap.size]? = some (.cells (arr .u32 (List.replicate 64 0)) 106 (0, 0)) ∧ Below w.heap.size w wr) (fun i _ => 64 - (intOf i).toNat)
  case atStart => exact ⟨0, Nat.zero_le _, rfl, HST.out.1, HST.out.2.1, HST.out.2.2⟩
  case round =>
    obtain ⟨j, hj, rfl, g1, g2, hbw⟩ := hrel
    by_cases hlt : j < 64
    · have x0 := HIX.out j hlt
      have x1 := blk_arr g1 (j / 4) (by rw [pre_len]; omega)
      have x2 := free_blk g1 (j / 4)
      obtain ⟨b0, b1⟩ := byte_at hb j
      have G1 := Lib.hid (blk_arr_set g1 (j / 4) (bits .or .u32 (IntKind.u32.wrap ((pre b j).getD (j / 4) 0 * 256)) (b.getD j 0)))
      rw [← pre_succ b j hlt] at G1
      have G2 := Lib.hid g2
      have HBW := Lib.hid hbw
      clear g1 g2 hbw
      generalize (pre b j).getD (j / 4) 0 = y at x1 G1
      generalize b.getD j 0 = x at x0 b0 b1 G1
      go_wp2
      go_roundw
      case rel => exact ⟨j + 1, by omega, by go_num, G1.out, blk_setCell_ne G2.out _ (by omega), HBW.out.setCell (p := ⟨w.heap.size + 1, j / 4, none⟩) (by simp) _⟩
      case measure => simp [intOf]; omega
    · have ej : j = 64 := by omega
      obtain ⟨wo, rfl⟩ : ∃ wo : World, wo = wr := ⟨_, rfl⟩
      rw [ej] at g1
      clear ej
      have G1 := Lib.hid g1
      have G2 := Lib.hid g2
      have HBW := Lib.hid hbw
      clear g1 g2 hbw
      go_wp2_with fail
      go_loopw [6] (fun i wr => ∃ t : Nat, 16 ≤ t ∧ t ≤ 64 ∧ i = .int .i64 t ∧ wr.heap[w.heap.size + 1]? = some (.cells (arr .u32 (sched b (t - 16))) 106 (0, 0)) ∧ wr.heap[w.heap.size]? = some (.cells (arr .u32 (List.replicate 64 0)) 106 (0, 0)) ∧ Below w.heap.size w wr) (fun i _ => 64 - (intOf i).toNat)
      case atStart => exact ⟨16, by omega, by omega, rfl, G1.out, G2.out, HBW.out⟩
      case round =>
        obtain ⟨t, h16, ht, rfl, g1, g2, hbw⟩ := hrel
        by_cases hlt : t < 64
        · have hsl := sched_len b (t - 16)
          have x2 := blk_arr g1 (t - 2) (by omega)
          have x7 := blk_arr g1 (t - 7) (by omega)
          have x15 := blk_arr g1 (t - 15) (by omega)
          have x16 := blk_arr g1 (t - 16) (by omega)
          have xt := blk_arr g1 t (by omega)
          have xf := free_blk g1 t
          have hnx : sched b (t - 16 + 1) = (sched b (t - 16)).set t (next (sched b (t - 16)) t) := by
            have := sched_succ b (t - 16)
            rwa [show 16 + (t - 16) = t by omega] at this
          have g1' := blk_arr_set g1 t (next (sched b (t - 16)) t)
          rw [← hnx, show t - 16 + 1 = t + 1 - 16 by omega] at g1'
          have G1 : Hid (∀ v, v = next (sched b (t - 16)) t → (wr.setCell ⟨w.heap.size + 1, t, none⟩ (.int .u32 v)).heap[w.heap.size + 1]? = some (.cells (arr .u32 (sched b (t + 1 - 16))) 106 (0, 0))) := Lib.hid (by rintro v rfl; exact g1')
          have G2 := Lib.hid g2
          have HBW := Lib.hid hbw
          clear g1 g1' g2 hbw hsl hnx
          unfold next at G1
          generalize (sched b (t - 16)).getD (t - 2) 0 = y2 at x2 G1
          generalize (sched b (t - 16)).getD (t - 7) 0 = y7 at x7 G1
          generalize (sched b (t - 16)).getD (t - 15) 0 = y15 at x15 G1
          generalize (sched b (t - 16)).getD (t - 16) 0 = y16 at x16 G1
          have i15 : IntKind.i64.wrap ((t : Int) - 15) = (t : Int) - 15 := IntWalk.i64_in _ (by omega)
          have i2 : IntKind.i64.wrap ((t : Int) - 2) = (t : Int) - 2 := IntWalk.i64_in _ (by omega)
          have i7 : IntKind.i64.wrap ((t : Int) - 7) = (t : Int) - 7 := IntWalk.i64_in _ (by omega)
          have i16 : IntKind.i64.wrap ((t : Int) - 16) = (t : Int) - 16 := IntWalk.i64_in _ (by omega)
          have n15 : ((t : Int) - 15).toNat = t - 15 := by omega
          have n2 : ((t : Int) - 2).toNat = t - 2 := by omega
          have n7 : ((t : Int) - 7).toNat = t - 7 := by omega
          have n16 : ((t : Int) - 16).toNat = t - 16 := by omega
          go_wp2_with fail
          go_region
          go_wp2_with (go_at_call 58; first | ((with_reducible refine (rl_7 _ _).mono ?_); rintro e w' ⟨rfl, rfl⟩) | ((with_reducible refine (rl_17 _ _).mono ?_); rintro e w' ⟨rfl, rfl⟩) | ((with_reducible refine (rl_18 _ _).mono ?_); rintro e w' ⟨rfl, rfl⟩) | ((with_reducible refine (rl_19 _ _).mono ?_); rintro e w' ⟨rfl, rfl⟩))
          go_region
          clear i15 i2 i7 i16 n15 n2 n7 n16
          go_wp2_with fail
          go_roundw
          case rel => exact ⟨t + 1, by omega, by omega, by go_num, G1.out _ (flat4 (s1 y2) y7 (s0 y15) y16), blk_setCell_ne G2.out _ (by omega), ((HBW.out.setCell (p := ⟨w.heap.size + 1, t, none⟩) (by simp) _).drew).drew⟩
          case measure => simp [intOf]; omega
        · obtain rfl : t = 64 := by omega
          have z1 : (Try.prog.info? 106).map (·.size) = some (sched b 48).length := by rw [sched_len]; exact sizeR
          have z2 : (Try.prog.info? 106).map (·.size) = some (arr .u32 (sched b 48)).size := by rw [arr_size, sched_len]; exact sizeR
          have z3 : (arr .u32 (sched b 48)).size = (arr .u32 (List.replicate 64 0)).size := by rw [arr_size, arr_size, sched_len, List.length_replicate]
          have z4 : ((arr .u32 (sched b 48)).toList.drop 0).take (sched b 48).length = (sched b 48).map (Value.int .u32) := by rw [arr_toList, List.drop_zero, List.take_of_length_le (by simp)]
          have G1 := Lib.hid g1
          have G2 := Lib.hid g2
          have HBW := Lib.hid hbw
          have Z1 := Lib.hid z1
          have Z2 := Lib.hid z2
          have Z3 := Lib.hid z3
          have Z4 := Lib.hid z4
          clear g1 g2 hbw z1 z2 z3 z4
          go_wp2_with (first | ((with_reducible show wpList _ _ _ (Oper.mk (some 74) _ _ _ _ _ :: _) _ _); refine wpList_load_part rfl 106 _ rfl (w.heap.size + 1) 0 _ 106 (0, 0) _ G1.out rfl .u32 (sched b 48) Z4.out Try.underlying106 rfl Z1.out ?_) | ((with_reducible show wpList _ _ _ (Oper.mk none _ _ _ _ _ :: _) _ _); refine wpList_store_whole rfl 106 _ _ rfl w.heap.size _ _ 106 G2.out rfl rfl Z3.out Z2.out (all_arr _ _) ?_; intro w2 hb2 hk2 hz2; have HB2 := Lib.hid hb2; have HK2 := Lib.hid hk2; clear hb2 hk2 hz2))
          (try simp only [Exit.inBlock, Exit.then])
          refine bodyPost_ret (results_cell_row rfl _ _ w.heap.size 106 _ (0, 0) _ rfl HB2.out Try.underlying106 rfl Z2.out) rfl ?_
          exact ⟨rfl, HBW.out.trans (HK2.out.toBelow HBW.out.size (by rintro i rfl; exact Nat.le_refl _))⟩

end Go.Proofs.Ytcecgbjpmegljaa.Ha
