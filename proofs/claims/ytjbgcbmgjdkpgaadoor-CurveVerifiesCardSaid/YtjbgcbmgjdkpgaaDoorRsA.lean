/- The document's less, Reduce: what they answer. Condition: a number below 256^33; 64 bytes; the table holds what its text lays. -/
import Derived.Test.YtjbgcbmgjdkpgaaDoorRpD
import Derived.Test.YtjbgcbmgjdkpgaaDoorScP
namespace Go.Proofs.YtjbgcbmgjdkpgaaDoor.Rd
open Go.RowKit Lm Sc

theorem zero_33 (w : World) : (zeroValue 137).run Tryd.prog w = .ok (.agg (arr .i64 (List.replicate 33 0))) w := by kernel_rfl
theorem size_33 : (Tryd.prog.info? 137).map (·.size) = some 33 := by kernel_rfl
theorem t33_s {xs : List Int} (h : xs.length = 33) : (Tryd.prog.info? 137).map (·.size) = some (arr .i64 xs).size := by rw [arr_size, h]; exact size_33
theorem t33_i {xs : List Int} (h : xs.length = 33) : (Tryd.prog.info? 137).map (·.size) = some xs.length := by rw [h]; exact size_33
def qL : List Int := [0xed, 0xd3, 0xf5, 0x5c, 0x1a, 0x63, 0x12, 0x58, 0xd6, 0x9c, 0xf7, 0xa2, 0xde, 0xf9, 0xde, 0x14, 0, 0, 0, 0, 0, 0, 0, 0, 0, 0, 0, 0, 0, 0, 0, 0x10]
theorem qL_eq : qL = nar (dig 256 32 q) := by decide +kernel
def TabQ (w : World) : Prop := ∀ t, t < 32 → w.cell? ⟨1, t, none⟩ = some (.int .i64 (qL.getD t 0))
theorem TabQ.below {a b : World} (h : TabQ a) (k : Below a.heap.size a b) : TabQ b := fun t ht => (Kept.of_below k (T := fun _ => False)).cellX (h t ht) id
theorem q33 (k : Nat) (h : k < 33) : (dig 256 33 q).getD k 0 = if k < 32 then (dig 256 32 q).getD k 0 else 0 := by
  rw [dig_get _ _ _ _ h]
  split
  · rename_i h2; rw [dig_get _ _ _ _ h2]
  · obtain rfl : k = 32 := by omega
    decide +kernel
theorem val33 : val 256 (dig 256 33 q) = q := by decide +kernel
theorem qL_get (k : Nat) (h : k < 32) : qL.getD k 0 = (((dig 256 33 q).getD k 0 : Nat) : Int) := by rw [q33 k (by omega), if_pos h, qL_eq, nar_get]
theorem sub33 (N S c : Nat) (h : S + q = N + 256 ^ 33 * c) (hS : S < 256 ^ 33) (_hN : N < 256 ^ 33) (hc : c ≤ 1) : (c = 1 ∧ N < q) ∨ (c = 0 ∧ ¬ N < q ∧ S = N - q) := by
  have hq : q < 256 ^ 33 := by decide +kernel
  rcases (show c = 0 ∨ c = 1 by omega) with rfl | rfl
  · right; omega
  · left; omega

set_option maxRecDepth 100000 in
set_option maxHeartbeats 4000000 in
theorem less_any (N : Nat) (w : World) (hN : N < 256 ^ 33) (hT : TabQ w) :
    Calls Tryd.prog 113 #[.agg (arr .i64 (nar (dig 256 33 N)))] w fun e w' => e = .returned (.agg (arr .i64 (nar (dig 256 33 (if N < q then N else N - q))))) ∧ Below w.heap.size w w' := by
  obtain ⟨rs, hrs⟩ : ∃ r, r = dig 256 33 N := ⟨_, rfl⟩
  have rl : rs.length = 33 := by rw [hrs, dig_len]
  have rb : ∀ x ∈ rs, x < 256 := by rw [hrs]; exact dig_lt 256 (by decide) _ _
  have rv : val 256 rs = N := by rw [hrs, val_dig, Nat.mod_eq_of_lt hN]
  obtain ⟨qs, hqs⟩ : ∃ r, r = dig 256 33 q := ⟨_, rfl⟩
  have ql : qs.length = 33 := by rw [hqs, dig_len]
  have qb : ∀ x ∈ qs, x < 256 := by rw [hqs]; exact dig_lt 256 (by decide) _ _
  have qv : val 256 qs = q := by rw [hqs]; exact val33
  have qg : ∀ k, k < 32 → qL.getD k 0 = ((qs.getD k 0 : Nat) : Int) := fun k h => by rw [hqs]; exact qL_get k h
  have q32 : qs.getD 32 0 = 0 := by rw [hqs, q33 32 (by decide), if_neg (by decide)]
  have hfin := fun S c h1 h2 h3 => sub33 N S c h1 h2 hN h3
  rw [← hrs]
  obtain ⟨V, hV⟩ : ∃ V, V = if N < q then N else N - q := ⟨_, rfl⟩
  rw [← hV]
  have HV := Lib.hid hV
  have RL := Lib.hid rl
  have RB := Lib.hid rb
  have RV := Lib.hid rv
  have QL := Lib.hid ql
  have QB := Lib.hid qb
  have QV := Lib.hid qv
  have QG := Lib.hid qg
  have Q32 := Lib.hid q32
  have HF := Lib.hid hfin
  have HT := Lib.hid hT
  have HRS := Lib.hid hrs
  obtain ⟨zr, hzr⟩ : ∃ zs : List Int, zs = List.replicate 33 0 := ⟨_, rfl⟩
  have HZzr : Hid (∀ w, (zeroValue 137).run Tryd.prog w = .ok (.agg (arr .i64 zr)) w) := Lib.hid (by intro w; rw [hzr]; exact zero_33 w)
  have HLzr : Hid (zr.length = 33) := Lib.hid (by rw [hzr]; rfl)
  obtain ⟨r0, hr0⟩ : ∃ x, x = nar rs := ⟨_, rfl⟩
  have HR0 : Hid (r0 = nar rs) := Lib.hid hr0
  have HRL : Hid (r0.length = 33) := Lib.hid (by rw [hr0, nar_len, rl])
  rw [← hr0]
  have HSa := Lib.hid (Blk.two w (arr .i64 r0) (arr .i64 zr) 137 137)
  clear hzr rl rb rv ql qb qv qg q32 hfin hT hrs hqs hr0 hV
  go_enter Tryd.func113, Tryd.ntmps113
  go_upto_region 1 with (first | ((with_reducible refine aS 2 ?_); refine wpList_alloc_row rfl 137 rfl _ (HZzr.out _) ?_))
  (try simp only [World.size_alloc, Act.put, sA, sZ, sS])
  generalize ((w.alloc (.cells (arr .i64 r0) 137)).alloc (.cells (arr .i64 zr) 137)) = wb at HSa ⊢
  go_wp2_with (first | ((with_reducible refine aS 7 ?_); refine wpList_load_part rfl 137 _ rfl (w.heap.size) 0 _ 137 (0, 0) _ (HSa.out.get 0 rfl) rfl .i64 r0 (arr_part _ _) Tryd.underlying137 rfl (t33_i HRL.out) ?_) | ((with_reducible refine aS 3 ?_); refine wpList_alloc_row rfl 137 rfl _ (HZzr.out _) ?_; have HS0 := Lib.hid (HSa.out.alloc (arr .i64 zr) 137); generalize wb.heap.size = gm at HS0 ⊢; generalize wb.alloc (.cells (arr .i64 zr) 137) = wm at HS0 ⊢) | ((with_reducible refine aT 3 ?_); refine wpList_store_whole rfl 137 _ _ rfl (gm) _ _ 137 (HS0.out.get 2 rfl) rfl rfl (arr_len2 _ _ HRL.out HLzr.out) (t33_s HRL.out) (all_arr _ _) ?_; intro w1 hb1 hk1 hz1; have HB1 := Lib.hid (HS0.out.put 2 rfl hk1 hb1); clear hb1 hk1 hz1))
  go_loopw [4, 5, 6] (fun cv kv xv wr => ∃ (k c : Nat) (ms : List Nat), k ≤ 33 ∧ kv = .int .i64 k ∧ cv = .int .i64 c ∧ c ≤ 1 ∧ ms.length = 33 ∧ (∀ x ∈ ms, x < 256) ∧ (∀ j, k ≤ j → ms.getD j 0 = rs.getD j 0) ∧ val 256 (ms.take k) + val 256 (qs.take k) = val 256 (rs.take k) + 256 ^ k * c ∧ Blk w wr [(w.heap.size, arr .i64 r0, 137), (w.heap.size + 1, arr .i64 zr, 137), (gm, arr .i64 (nar ms), 137)]) (fun _ kv _ _ => 33 - (intOf kv).toNat)
  case atStart => exact ⟨0, 0, rs, Nat.zero_le _, rfl, rfl, Nat.zero_le _, RL.out, RB.out, (fun _ _ => rfl), by simp [val], by rw [← HR0.out]; exact HB1.out⟩
  clear HSa HS0 HB1
  case round =>
  obtain ⟨k, c, ms, hk, rfl, rfl, hc, hml, hmb, hmr, hv, hB⟩ := hrel
  by_cases hlt : k < 33
  · have q0 := arr_get' (hB.get 0 rfl) k (by rw [HRL.out]; exact hlt)
    have q2 := arr_get' (hB.get 2 rfl) k (by rw [nar_len, hml]; exact hlt)
    have q3 := free_blk (hB.get 2 rfl) k
    rw [HR0.out, nar_get] at q0
    have r1 := lt_getD RB.out (by decide) k
    have y1 := lt_getD QB.out (by decide) k
    have st := fun s c' hs => sub_step 256 k _ _ _ (rs.getD k 0) (qs.getD k 0) c s c' hv hs
    have vm := fun s => val_take_set 256 ms k s (by omega)
    rw [← val_take_succ 256 qs k (by rw [QL.out]; exact hlt), ← val_take_succ 256 rs k (by rw [RL.out]; exact hlt)] at st
    have hq32 : k = 32 → qs.getD k 0 = 0 := fun e => by rw [e]; exact Q32.out
    have hqt : k < 32 → wr.cell? ⟨1, k, none⟩ = some (.int .i64 ((qs.getD k 0 : Nat) : Int)) := fun e => by
      have := HT.out.below hB.below k e
      rwa [QG.out k e] at this
    generalize rs.getD k 0 = r at q0 r1 st
    generalize qs.getD k 0 = y at y1 st hq32 hqt
    by_cases h32 : k < 32
    · by_cases hbr : r < y + c
      · skip
        have qt := hqt h32
        have hneg : (r : Int) - (c : Int) - (y : Int) < 0 := by omega
        have hst := st (r + 256 - c - y) 1 (by omega)
        rw [← vm] at hst
        have hb1 := hB.cell 2 rfl k (.int .i64 ((r : Int) - (c : Int) - (y : Int) + 256))
        have e2 : (arr .i64 (nar ms)).setIfInBounds k (.int .i64 ((r : Int) - (c : Int) - (y : Int) + 256)) = arr .i64 (nar (ms.set k (r + 256 - c - y))) := by rw [show ((r : Int) - (c : Int) - (y : Int) + 256) = (((r + 256 - c - y) : Nat) : Int) by omega, arr_set, ← nar_set]
        have HB1 := Lib.hid (hb1.cast (l' := [(w.heap.size, arr .i64 r0, 137), (w.heap.size + 1, arr .i64 zr, 137), (gm, arr .i64 (nar (ms.set k (r + 256 - c - y))), 137)]) (by rw [← e2]; rfl))
        have HST := Lib.hid hst
        have HML : Hid ((ms.set k (r + 256 - c - y)).length = 33) := Lib.hid (by rw [List.length_set, hml])
        have HMB : Hid (∀ x ∈ ms.set k (r + 256 - c - y), x < 256) := Lib.hid (lt_set hmb _ _ (by omega))
        have HMR : Hid (∀ j, k + 1 ≤ j → (ms.set k (r + 256 - c - y)).getD j 0 = rs.getD j 0) := Lib.hid (by intro j hj; have e := hmr j (by omega); simp only [List.getD] at e ⊢; rw [List.getElem?_set_ne (by omega)]; exact e)
        clear hb1 e2 hst st vm hB hml hmb hmr hv hqt hq32
        go_wp2_with fail
        go_roundw
        case rel => exact ⟨k + 1, 1, _, by omega, by go_num, rfl, by omega, HML.out, HMB.out, HMR.out, HST.out, HB1.out⟩
        case measure => simp [intOf]; omega
      · skip
        have qt := hqt h32
        have hneg : ¬ (r : Int) - (c : Int) - (y : Int) < 0 := by omega
        have hst := st (r - c - y) 0 (by omega)
        rw [← vm] at hst
        have hb1 := hB.cell 2 rfl k (.int .i64 ((r : Int) - (c : Int) - (y : Int)))
        have e2 : (arr .i64 (nar ms)).setIfInBounds k (.int .i64 ((r : Int) - (c : Int) - (y : Int))) = arr .i64 (nar (ms.set k (r - c - y))) := by rw [show ((r : Int) - (c : Int) - (y : Int)) = (((r - c - y) : Nat) : Int) by omega, arr_set, ← nar_set]
        have HB1 := Lib.hid (hb1.cast (l' := [(w.heap.size, arr .i64 r0, 137), (w.heap.size + 1, arr .i64 zr, 137), (gm, arr .i64 (nar (ms.set k (r - c - y))), 137)]) (by rw [← e2]; rfl))
        have HST := Lib.hid hst
        have HML : Hid ((ms.set k (r - c - y)).length = 33) := Lib.hid (by rw [List.length_set, hml])
        have HMB : Hid (∀ x ∈ ms.set k (r - c - y), x < 256) := Lib.hid (lt_set hmb _ _ (by omega))
        have HMR : Hid (∀ j, k + 1 ≤ j → (ms.set k (r - c - y)).getD j 0 = rs.getD j 0) := Lib.hid (by intro j hj; have e := hmr j (by omega); simp only [List.getD] at e ⊢; rw [List.getElem?_set_ne (by omega)]; exact e)
        clear hb1 e2 hst st vm hB hml hmb hmr hv hqt hq32
        go_wp2_with fail
        go_roundw
        case rel => exact ⟨k + 1, 0, _, by omega, by go_num, rfl, by omega, HML.out, HMB.out, HMR.out, HST.out, HB1.out⟩
        case measure => simp [intOf]; omega
    · by_cases hbr : r < y + c
      · skip
        have y0 := hq32 (by omega)
        have hneg : (r : Int) - (c : Int) < 0 := by omega
        have hst := st (r + 256 - c - y) 1 (by omega)
        rw [← vm] at hst
        have hb1 := hB.cell 2 rfl k (.int .i64 ((r : Int) - (c : Int) + 256))
        have e2 : (arr .i64 (nar ms)).setIfInBounds k (.int .i64 ((r : Int) - (c : Int) + 256)) = arr .i64 (nar (ms.set k (r + 256 - c - y))) := by rw [show ((r : Int) - (c : Int) + 256) = (((r + 256 - c - y) : Nat) : Int) by omega, arr_set, ← nar_set]
        have HB1 := Lib.hid (hb1.cast (l' := [(w.heap.size, arr .i64 r0, 137), (w.heap.size + 1, arr .i64 zr, 137), (gm, arr .i64 (nar (ms.set k (r + 256 - c - y))), 137)]) (by rw [← e2]; rfl))
        have HST := Lib.hid hst
        have HML : Hid ((ms.set k (r + 256 - c - y)).length = 33) := Lib.hid (by rw [List.length_set, hml])
        have HMB : Hid (∀ x ∈ ms.set k (r + 256 - c - y), x < 256) := Lib.hid (lt_set hmb _ _ (by omega))
        have HMR : Hid (∀ j, k + 1 ≤ j → (ms.set k (r + 256 - c - y)).getD j 0 = rs.getD j 0) := Lib.hid (by intro j hj; have e := hmr j (by omega); simp only [List.getD] at e ⊢; rw [List.getElem?_set_ne (by omega)]; exact e)
        clear hb1 e2 hst st vm hB hml hmb hmr hv hqt hq32
        go_wp2_with fail
        go_roundw
        case rel => exact ⟨k + 1, 1, _, by omega, by go_num, rfl, by omega, HML.out, HMB.out, HMR.out, HST.out, HB1.out⟩
        case measure => simp [intOf]; omega
      · skip
        have y0 := hq32 (by omega)
        have hneg : ¬ (r : Int) - (c : Int) < 0 := by omega
        have hst := st (r - c - y) 0 (by omega)
        rw [← vm] at hst
        have hb1 := hB.cell 2 rfl k (.int .i64 ((r : Int) - (c : Int)))
        have e2 : (arr .i64 (nar ms)).setIfInBounds k (.int .i64 ((r : Int) - (c : Int))) = arr .i64 (nar (ms.set k (r - c - y))) := by rw [show ((r : Int) - (c : Int)) = (((r - c - y) : Nat) : Int) by omega, arr_set, ← nar_set]
        have HB1 := Lib.hid (hb1.cast (l' := [(w.heap.size, arr .i64 r0, 137), (w.heap.size + 1, arr .i64 zr, 137), (gm, arr .i64 (nar (ms.set k (r - c - y))), 137)]) (by rw [← e2]; rfl))
        have HST := Lib.hid hst
        have HML : Hid ((ms.set k (r - c - y)).length = 33) := Lib.hid (by rw [List.length_set, hml])
        have HMB : Hid (∀ x ∈ ms.set k (r - c - y), x < 256) := Lib.hid (lt_set hmb _ _ (by omega))
        have HMR : Hid (∀ j, k + 1 ≤ j → (ms.set k (r - c - y)).getD j 0 = rs.getD j 0) := Lib.hid (by intro j hj; have e := hmr j (by omega); simp only [List.getD] at e ⊢; rw [List.getElem?_set_ne (by omega)]; exact e)
        clear hb1 e2 hst st vm hB hml hmb hmr hv hqt hq32
        go_wp2_with fail
        go_roundw
        case rel => exact ⟨k + 1, 0, _, by omega, by go_num, rfl, by omega, HML.out, HMB.out, HMR.out, HST.out, HB1.out⟩
        case measure => simp [intOf]; omega
  · obtain rfl : k = 33 := by omega
    rw [List.take_of_length_le (Nat.le_of_eq hml), List.take_of_length_le (Nat.le_of_eq QL.out), List.take_of_length_le (Nat.le_of_eq RL.out), QV.out, RV.out] at hv
    have hS := val_lt 256 ms hmb
    rw [hml] at hS
    have hdm := dig_eq 256 (by decide) 33 _ ms hml hmb rfl
    have hml' : (nar ms).length = 33 := by rw [nar_len, hml]
    rcases HF.out _ c hv hS hc with ⟨rfl, h1⟩ | ⟨rfl, h1, h2⟩
    · have HB := Lib.hid hB
      have H1 := Lib.hid h1
      clear hB hv hS hmb hmr hdm hml hml' h1
      go_wp2_with (first | ((with_reducible refine aS 33 ?_); refine wpList_load_part rfl 137 _ rfl (w.heap.size) 0 _ 137 (0, 0) _ (HB.out.get 0 rfl) rfl .i64 r0 (arr_part _ _) Tryd.underlying137 rfl (t33_i HRL.out) ?_) | ((with_reducible refine aT 2 ?_); refine wpList_store_whole rfl 137 _ _ rfl (w.heap.size + 1) _ _ 137 (HB.out.get 1 rfl) rfl rfl (arr_len2 _ _ HRL.out HLzr.out) (t33_s HRL.out) (all_arr _ _) ?_; intro w7 hb7 hk7 hz7; have HB7 := Lib.hid (HB.out.put 1 rfl hk7 hb7); clear hb7 hk7 hz7))
      (try simp only [Exit.inBlock, Exit.then])
      refine bodyPost_ret (results_cell_row rfl _ _ (w.heap.size + 1) 137 _ (0, 0) _ rfl (HB7.out.get 1 rfl) Tryd.underlying137 rfl (t33_s HRL.out)) rfl ?_
      exact ⟨by rw [HR0.out, HRS.out, HV.out, if_pos H1.out], HB7.out.below⟩
    · rw [h2] at hdm
      obtain ⟨m0, hm0⟩ : ∃ x, x = nar ms := ⟨_, rfl⟩
      rw [← hm0] at hB hml'
      have HB := Lib.hid hB
      have H1 := Lib.hid h1
      have HML := Lib.hid hml'
      have HM0 : Hid (m0 = nar (dig 256 33 (N - q))) := Lib.hid (by rw [hm0, ← hdm])
      clear hB hv hS hmb hmr hdm hml hml' h1 h2 hm0
      go_wp2_with (first | ((with_reducible refine aS 34 ?_); refine wpList_load_part rfl 137 _ rfl (gm) 0 _ 137 (0, 0) _ (HB.out.get 2 rfl) rfl .i64 m0 (arr_part _ _) Tryd.underlying137 rfl (t33_i HML.out) ?_) | ((with_reducible refine aT 2 ?_); refine wpList_store_whole rfl 137 _ _ rfl (w.heap.size + 1) _ _ 137 (HB.out.get 1 rfl) rfl rfl (arr_len2 _ _ HML.out HLzr.out) (t33_s HML.out) (all_arr _ _) ?_; intro w7 hb7 hk7 hz7; have HB7 := Lib.hid (HB.out.put 1 rfl hk7 hb7); clear hb7 hk7 hz7))
      (try simp only [Exit.inBlock, Exit.then])
      refine bodyPost_ret (results_cell_row rfl _ _ (w.heap.size + 1) 137 _ (0, 0) _ rfl (HB7.out.get 1 rfl) Tryd.underlying137 rfl (t33_s HML.out)) rfl ?_
      exact ⟨by rw [HM0.out, HV.out, if_neg H1.out], HB7.out.below⟩
end Go.Proofs.YtjbgcbmgjdkpgaaDoor.Rd
