/- The document's clamped: what it answers. Condition: 32 bytes. -/
import Derived.Test.YtanjhngehfbpbaaDoorRpC
import Derived.Test.YtanjhngehfbpbaaDoorRpL
namespace Go.Proofs.YtanjhngehfbpbaaDoor.Rd
open Go.RowKit Lm Fp Cu

set_option maxRecDepth 100000 in
set_option maxHeartbeats 4000000 in
theorem clamped_any (v : Nat) (w : World) (hv : v < 2 ^ 256) :
    Calls Tryd.prog 65 #[.agg (arr .u8 (nar (dig 256 32 v)))] w fun e w' => e = .returned (.agg (arr .u8 (nar (dig 256 32 (clamp v))))) ∧ Below w.heap.size w w' := by
  have hcs := clamp_set v hv
  obtain ⟨t1, t2⟩ := top_byte256 v hv
  have l1 := low_byte v
  have g0 : (nar (dig 256 32 v)).getD 0 0 = ((v % 256 : Nat) : Int) := by rw [nar_get, l1]
  have g31 : (nar (dig 256 32 v)).getD 31 0 = ((v / 256 ^ 31 : Nat) : Int) := by rw [nar_get, t1]
  have a0 := and248 (v % 256) (Nat.mod_lt _ (by decide))
  have a1 := or64 (v / 256 ^ 31) t2
  have hfin : ((nar (dig 256 32 v)).set 0 ((v % 256 / 8 * 8 : Nat) : Int)).set 31 ((v / 256 ^ 31 % 64 + 64 : Nat) : Int) = nar (dig 256 32 (clamp v)) := by rw [← nar_set, ← nar_set, hcs]
  obtain ⟨ns, hns⟩ : ∃ x, x = nar (dig 256 32 v) := ⟨_, rfl⟩
  obtain ⟨rs, hrs⟩ : ∃ x, x = nar (dig 256 32 (clamp v)) := ⟨_, rfl⟩
  have HNL : Hid (ns.length = 32) := Lib.hid (by rw [hns, nar_len, dig_len])
  have HRL : Hid (rs.length = 32) := Lib.hid (by rw [hrs, nar_len, dig_len])
  rw [← hns] at g0 g31 hfin ⊢
  rw [← hrs] at hfin
  generalize v / 256 ^ 31 = t at g31 a1 hfin t2
  generalize hx : v % 256 = x at g0 a0 hfin
  have hx2 : x < 256 := by omega
  obtain ⟨zn, hzn⟩ : ∃ zs : List Int, zs = List.replicate 32 0 := ⟨_, rfl⟩
  have HZzn : Hid (∀ w, (zeroValue 23).run Tryd.prog w = .ok (.agg (arr .u8 zn)) w) := Lib.hid (by intro w; rw [hzn]; exact zero_num w)
  have HLzn : Hid (zn.length = 32) := Lib.hid (by rw [hzn]; rfl)
  have HS0 := Lib.hid (Blk.two w (arr .u8 ns) (arr .u8 zn) 23 23)
  have e2 : ((arr .u8 ns).setIfInBounds 0 (.int .u8 (bits .and .u8 (x : Int) 248))).setIfInBounds 31 (.int .u8 (bits .or .u8 (bits .and .u8 (t : Int) 127) 64)) = arr .u8 rs := by rw [a0, a1, arr_set, arr_set, hfin]
  have HE2 := Lib.hid e2
  have HRS := Lib.hid hrs
  have HG0 := Lib.hid g0
  have HG31 := Lib.hid g31
  clear hzn hns hrs hcs t1 l1 g0 g31 a0 a1 hfin e2 hx
  go_enter Tryd.func65, Tryd.ntmps65
  go_upto_region 1 with (first | ((with_reducible refine aS 2 ?_); refine wpList_alloc_row rfl 23 rfl _ (HZzn.out _) ?_))
  (try simp only [World.size_alloc, Act.put, sA, sZ, sS])
  generalize ((w.alloc (.cells (arr .u8 ns) 23)).alloc (.cells (arr .u8 zn) 23)) = wb at HS0 ⊢
  have q0 := arr_get' (HS0.out.get 0 rfl) 0 (by rw [HNL.out]; decide)
  have q1 := arr_get' (HS0.out.get 0 rfl) 31 (by rw [HNL.out]; decide)
  have q2 := free_blk (HS0.out.get 0 rfl) 0
  have q3 := free_blk (HS0.out.get 0 rfl) 31
  rw [HG0.out] at q0
  rw [HG31.out] at q1
  have hb1 := (HS0.out.cell 0 rfl 0 (.int .u8 (bits .and .u8 (x : Int) 248))).cell 0 rfl 31 (.int .u8 (bits .or .u8 (bits .and .u8 (t : Int) 127) 64))
  have HS1 := Lib.hid (hb1.cast (l' := [(w.heap.size, arr .u8 rs, 23), (w.heap.size + 1, arr .u8 zn, 23)]) (by rw [← HE2.out]; rfl))
  clear hb1
  go_upto_region 3 with fail
  go_wp2_with (first | ((with_reducible refine aS 12 ?_); refine wpList_load_part rfl 23 _ rfl (w.heap.size) 0 _ 23 (0, 0) _ (HS1.out.get 0 rfl) rfl .u8 rs (arr_part _ _) Tryd.underlying23 rfl (num_i HRL.out) ?_) | ((with_reducible refine aT 2 ?_); refine wpList_store_whole rfl 23 _ _ rfl (w.heap.size + 1) _ _ 23 (HS1.out.get 1 rfl) rfl rfl (arr_len2 _ _ HRL.out HLzn.out) (num_s HRL.out) (all_arr _ _) ?_; intro w3 hb3 hk3 hz3; have HB3 := Lib.hid (HS1.out.put 1 rfl hk3 hb3); clear hb3 hk3 hz3))
  (try simp only [Exit.then])
  refine bodyPost_ret (results_cell_row rfl _ _ (w.heap.size + 1) 23 _ (0, 0) _ rfl (HB3.out.get 1 rfl) Tryd.underlying23 rfl (num_s HRL.out)) rfl ?_
  exact ⟨by rw [HRS.out], HB3.out.below⟩
end Go.Proofs.YtanjhngehfbpbaaDoor.Rd
