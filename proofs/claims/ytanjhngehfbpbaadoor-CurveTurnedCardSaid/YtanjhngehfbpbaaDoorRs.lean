/- The document's less, Reduce: what they answer. Condition: a number below 256^33; 64 bytes; the table holds what its text lays. The document's Reduce: what it answers. Condition: 64 bytes; the table holds what its text lays. The document's AddQ: what it answers. Condition: 32 bytes each; the table holds what its text lays. The document's MulQ: what it answers. Condition: 32 bytes each; the table holds what its text lays. -/
import Derived.Test.YtanjhngehfbpbaaDoorRpC
import Derived.Test.YtanjhngehfbpbaaDoorScP
namespace Go.Proofs.YtanjhngehfbpbaaDoor.Rd
open Go.RowKit Lm Sc

theorem zero_33 (w : World) : (zeroValue 140).run Tryd.prog w = .ok (.agg (arr .i64 (List.replicate 33 0))) w := by kernel_rfl
theorem size_33 : (Tryd.prog.info? 140).map (·.size) = some 33 := by kernel_rfl
theorem t33_s {xs : List Int} (h : xs.length = 33) : (Tryd.prog.info? 140).map (·.size) = some (arr .i64 xs).size := by rw [arr_size, h]; exact size_33
theorem t33_i {xs : List Int} (h : xs.length = 33) : (Tryd.prog.info? 140).map (·.size) = some xs.length := by rw [h]; exact size_33
def qL : List Int := [0xed, 0xd3, 0xf5, 0x5c, 0x1a, 0x63, 0x12, 0x58, 0xd6, 0x9c, 0xf7, 0xa2, 0xde, 0xf9, 0xde, 0x14, 0, 0, 0, 0, 0, 0, 0, 0, 0, 0, 0, 0, 0, 0, 0, 0x10]
theorem qL_eq : qL = nar (dig 256 32 q) := by decide +kernel
def TabQ (w : World) : Prop := ∀ t, t < 32 → w.cell? ⟨3, t, none⟩ = some (.int .i64 (qL.getD t 0))
theorem TabQ.below {a b : World} (h : TabQ a) (k : Below a.heap.size a b) : TabQ b := fun t ht => (Kept.of_below k (T := fun _ => False)).cellX (h t ht) id
theorem q33 (k : Nat) (h : k < 33) : (dig 256 33 q).getD k 0 = if k < 32 then (dig 256 32 q).getD k 0 else 0 := by
  rw [dig_get _ _ _ _ h]
  split
  · rename_i h2; rw [dig_get _ _ _ _ h2]
  · obtain rfl : k = 32 := by omega
    decide +kernel
theorem val33 : val 256 (dig 256 33 q) = q := by decide +kernel
theorem qL_get (k : Nat) (h : k < 32) : qL.getD k 0 = (((dig 256 33 q).getD k 0 : Nat) : Int) := by rw [q33 k (by omega), if_pos h, qL_eq, nar_get]
theorem sub33 (N S c : Nat) (h : S + q = N + 256 ^ 33 * c) (hS : S < 256 ^ 33) (_hN : N < 256 ^ 33) (hc : c ≤ 1) : (c = 1 ∧ N < q) ∨ (c = 0 ∧ ¬ N < q ∧ S = N - q) := by
  have hq : q < 256 ^ 33 := by decide +kernel
  rcases (show c = 0 ∨ c = 1 by omega) with rfl | rfl
  · right; omega
  · left; omega

set_option maxRecDepth 100000 in
set_option maxHeartbeats 4000000 in
theorem less_any (N : Nat) (w : World) (hN : N < 256 ^ 33) (hT : TabQ w) :
    Calls Tryd.prog 113 #[.agg (arr .i64 (nar (dig 256 33 N)))] w fun e w' => e = .returned (.agg (arr .i64 (nar (dig 256 33 (if N < q then N else N - q))))) ∧ Below w.heap.size w w' := by
  obtain ⟨rs, hrs⟩ : ∃ r, r = dig 256 33 N := ⟨_, rfl⟩
  have rl : rs.length = 33 := by rw [hrs, dig_len]
  have rb : ∀ x ∈ rs, x < 256 := by rw [hrs]; exact dig_lt 256 (by decide) _ _
  have rv : val 256 rs = N := by rw [hrs, val_dig, Nat.mod_eq_of_lt hN]
  obtain ⟨qs, hqs⟩ : ∃ r, r = dig 256 33 q := ⟨_, rfl⟩
  have ql : qs.length = 33 := by rw [hqs, dig_len]
  have qb : ∀ x ∈ qs, x < 256 := by rw [hqs]; exact dig_lt 256 (by decide) _ _
  have qv : val 256 qs = q := by rw [hqs]; exact val33
  have qg : ∀ k, k < 32 → qL.getD k 0 = ((qs.getD k 0 : Nat) : Int) := fun k h => by rw [hqs]; exact qL_get k h
  have q32 : qs.getD 32 0 = 0 := by rw [hqs, q33 32 (by decide), if_neg (by decide)]
  have hfin := fun S c h1 h2 h3 => sub33 N S c h1 h2 hN h3
  rw [← hrs]
  obtain ⟨V, hV⟩ : ∃ V, V = if N < q then N else N - q := ⟨_, rfl⟩
  rw [← hV]
  have HV := Lib.hid hV
  have RL := Lib.hid rl
  have RB := Lib.hid rb
  have RV := Lib.hid rv
  have QL := Lib.hid ql
  have QB := Lib.hid qb
  have QV := Lib.hid qv
  have QG := Lib.hid qg
  have Q32 := Lib.hid q32
  have HF := Lib.hid hfin
  have HT := Lib.hid hT
  have HRS := Lib.hid hrs
  obtain ⟨zr, hzr⟩ : ∃ zs : List Int, zs = List.replicate 33 0 := ⟨_, rfl⟩
  have HZzr : Hid (∀ w, (zeroValue 140).run Tryd.prog w = .ok (.agg (arr .i64 zr)) w) := Lib.hid (by intro w; rw [hzr]; exact zero_33 w)
  have HLzr : Hid (zr.length = 33) := Lib.hid (by rw [hzr]; rfl)
  obtain ⟨r0, hr0⟩ : ∃ x, x = nar rs := ⟨_, rfl⟩
  have HR0 : Hid (r0 = nar rs) := Lib.hid hr0
  have HRL : Hid (r0.length = 33) := Lib.hid (by rw [hr0, nar_len, rl])
  rw [← hr0]
  have HSa := Lib.hid (Blk.two w (arr .i64 r0) (arr .i64 zr) 140 140)
  clear hzr rl rb rv ql qb qv qg q32 hfin hT hrs hqs hr0 hV
  go_enter Tryd.func113, Tryd.ntmps113
  go_upto_region 1 with (first | ((with_reducible refine aS 2 ?_); refine wpList_alloc_row rfl 140 rfl _ (HZzr.out _) ?_))
  (try simp only [World.size_alloc, Act.put, sA, sZ, sS])
  generalize ((w.alloc (.cells (arr .i64 r0) 140)).alloc (.cells (arr .i64 zr) 140)) = wb at HSa ⊢
  go_wp2_with (first | ((with_reducible refine aS 7 ?_); refine wpList_load_part rfl 140 _ rfl (w.heap.size) 0 _ 140 (0, 0) _ (HSa.out.get 0 rfl) rfl .i64 r0 (arr_part _ _) Tryd.underlying140 rfl (t33_i HRL.out) ?_) | ((with_reducible refine aS 3 ?_); refine wpList_alloc_row rfl 140 rfl _ (HZzr.out _) ?_; have HS0 := Lib.hid (HSa.out.alloc (arr .i64 zr) 140); generalize wb.heap.size = gm at HS0 ⊢; generalize wb.alloc (.cells (arr .i64 zr) 140) = wm at HS0 ⊢) | ((with_reducible refine aT 3 ?_); refine wpList_store_whole rfl 140 _ _ rfl (gm) _ _ 140 (HS0.out.get 2 rfl) rfl rfl (arr_len2 _ _ HRL.out HLzr.out) (t33_s HRL.out) (all_arr _ _) ?_; intro w1 hb1 hk1 hz1; have HB1 := Lib.hid (HS0.out.put 2 rfl hk1 hb1); clear hb1 hk1 hz1))
  go_loopw [4, 5, 6] (fun cv kv xv wr => ∃ (k c : Nat) (ms : List Nat), k ≤ 33 ∧ kv = .int .i64 k ∧ cv = .int .i64 c ∧ c ≤ 1 ∧ ms.length = 33 ∧ (∀ x ∈ ms, x < 256) ∧ (∀ j, k ≤ j → ms.getD j 0 = rs.getD j 0) ∧ val 256 (ms.take k) + val 256 (qs.take k) = val 256 (rs.take k) + 256 ^ k * c ∧ Blk w wr [(w.heap.size, arr .i64 r0, 140), (w.heap.size + 1, arr .i64 zr, 140), (gm, arr .i64 (nar ms), 140)]) (fun _ kv _ _ => 33 - (intOf kv).toNat)
  case atStart => exact ⟨0, 0, rs, Nat.zero_le _, rfl, rfl, Nat.zero_le _, RL.out, RB.out, (fun _ _ => rfl), by simp [val], by rw [← HR0.out]; exact HB1.out⟩
  clear HSa HS0 HB1
  case round =>
  obtain ⟨k, c, ms, hk, rfl, rfl, hc, hml, hmb, hmr, hv, hB⟩ := hrel
  by_cases hlt : k < 33
  · have q0 := arr_get' (hB.get 0 rfl) k (by rw [HRL.out]; exact hlt)
    have q2 := arr_get' (hB.get 2 rfl) k (by rw [nar_len, hml]; exact hlt)
    have q3 := free_blk (hB.get 2 rfl) k
    rw [HR0.out, nar_get] at q0
    have r1 := lt_getD RB.out (by decide) k
    have y1 := lt_getD QB.out (by decide) k
    have st := fun s c' hs => sub_step 256 k _ _ _ (rs.getD k 0) (qs.getD k 0) c s c' hv hs
    have vm := fun s => val_take_set 256 ms k s (by omega)
    rw [← val_take_succ 256 qs k (by rw [QL.out]; exact hlt), ← val_take_succ 256 rs k (by rw [RL.out]; exact hlt)] at st
    have hq32 : k = 32 → qs.getD k 0 = 0 := fun e => by rw [e]; exact Q32.out
    have hqt : k < 32 → wr.cell? ⟨3, k, none⟩ = some (.int .i64 ((qs.getD k 0 : Nat) : Int)) := fun e => by
      have := HT.out.below hB.below k e
      rwa [QG.out k e] at this
    generalize rs.getD k 0 = r at q0 r1 st
    generalize qs.getD k 0 = y at y1 st hq32 hqt
    by_cases h32 : k < 32
    · by_cases hbr : r < y + c
      · skip
        have qt := hqt h32
        have hneg : (r : Int) - (c : Int) - (y : Int) < 0 := by omega
        have hst := st (r + 256 - c - y) 1 (by omega)
        rw [← vm] at hst
        have hb1 := hB.cell 2 rfl k (.int .i64 ((r : Int) - (c : Int) - (y : Int) + 256))
        have e2 : (arr .i64 (nar ms)).setIfInBounds k (.int .i64 ((r : Int) - (c : Int) - (y : Int) + 256)) = arr .i64 (nar (ms.set k (r + 256 - c - y))) := by rw [show ((r : Int) - (c : Int) - (y : Int) + 256) = (((r + 256 - c - y) : Nat) : Int) by omega, arr_set, ← nar_set]
        have HB1 := Lib.hid (hb1.cast (l' := [(w.heap.size, arr .i64 r0, 140), (w.heap.size + 1, arr .i64 zr, 140), (gm, arr .i64 (nar (ms.set k (r + 256 - c - y))), 140)]) (by rw [← e2]; rfl))
        have HST := Lib.hid hst
        have HML : Hid ((ms.set k (r + 256 - c - y)).length = 33) := Lib.hid (by rw [List.length_set, hml])
        have HMB : Hid (∀ x ∈ ms.set k (r + 256 - c - y), x < 256) := Lib.hid (lt_set hmb _ _ (by omega))
        have HMR : Hid (∀ j, k + 1 ≤ j → (ms.set k (r + 256 - c - y)).getD j 0 = rs.getD j 0) := Lib.hid (by intro j hj; have e := hmr j (by omega); simp only [List.getD] at e ⊢; rw [List.getElem?_set_ne (by omega)]; exact e)
        clear hb1 e2 hst st vm hB hml hmb hmr hv hqt hq32
        go_wp2_with fail
        go_roundw
        case rel => exact ⟨k + 1, 1, _, by omega, by go_num, rfl, by omega, HML.out, HMB.out, HMR.out, HST.out, HB1.out⟩
        case measure => simp [intOf]; omega
      · skip
        have qt := hqt h32
        have hneg : ¬ (r : Int) - (c : Int) - (y : Int) < 0 := by omega
        have hst := st (r - c - y) 0 (by omega)
        rw [← vm] at hst
        have hb1 := hB.cell 2 rfl k (.int .i64 ((r : Int) - (c : Int) - (y : Int)))
        have e2 : (arr .i64 (nar ms)).setIfInBounds k (.int .i64 ((r : Int) - (c : Int) - (y : Int))) = arr .i64 (nar (ms.set k (r - c - y))) := by rw [show ((r : Int) - (c : Int) - (y : Int)) = (((r - c - y) : Nat) : Int) by omega, arr_set, ← nar_set]
        have HB1 := Lib.hid (hb1.cast (l' := [(w.heap.size, arr .i64 r0, 140), (w.heap.size + 1, arr .i64 zr, 140), (gm, arr .i64 (nar (ms.set k (r - c - y))), 140)]) (by rw [← e2]; rfl))
        have HST := Lib.hid hst
        have HML : Hid ((ms.set k (r - c - y)).length = 33) := Lib.hid (by rw [List.length_set, hml])
        have HMB : Hid (∀ x ∈ ms.set k (r - c - y), x < 256) := Lib.hid (lt_set hmb _ _ (by omega))
        have HMR : Hid (∀ j, k + 1 ≤ j → (ms.set k (r - c - y)).getD j 0 = rs.getD j 0) := Lib.hid (by intro j hj; have e := hmr j (by omega); simp only [List.getD] at e ⊢; rw [List.getElem?_set_ne (by omega)]; exact e)
        clear hb1 e2 hst st vm hB hml hmb hmr hv hqt hq32
        go_wp2_with fail
        go_roundw
        case rel => exact ⟨k + 1, 0, _, by omega, by go_num, rfl, by omega, HML.out, HMB.out, HMR.out, HST.out, HB1.out⟩
        case measure => simp [intOf]; omega
    · by_cases hbr : r < y + c
      · skip
        have y0 := hq32 (by omega)
        have hneg : (r : Int) - (c : Int) < 0 := by omega
        have hst := st (r + 256 - c - y) 1 (by omega)
        rw [← vm] at hst
        have hb1 := hB.cell 2 rfl k (.int .i64 ((r : Int) - (c : Int) + 256))
        have e2 : (arr .i64 (nar ms)).setIfInBounds k (.int .i64 ((r : Int) - (c : Int) + 256)) = arr .i64 (nar (ms.set k (r + 256 - c - y))) := by rw [show ((r : Int) - (c : Int) + 256) = (((r + 256 - c - y) : Nat) : Int) by omega, arr_set, ← nar_set]
        have HB1 := Lib.hid (hb1.cast (l' := [(w.heap.size, arr .i64 r0, 140), (w.heap.size + 1, arr .i64 zr, 140), (gm, arr .i64 (nar (ms.set k (r + 256 - c - y))), 140)]) (by rw [← e2]; rfl))
        have HST := Lib.hid hst
        have HML : Hid ((ms.set k (r + 256 - c - y)).length = 33) := Lib.hid (by rw [List.length_set, hml])
        have HMB : Hid (∀ x ∈ ms.set k (r + 256 - c - y), x < 256) := Lib.hid (lt_set hmb _ _ (by omega))
        have HMR : Hid (∀ j, k + 1 ≤ j → (ms.set k (r + 256 - c - y)).getD j 0 = rs.getD j 0) := Lib.hid (by intro j hj; have e := hmr j (by omega); simp only [List.getD] at e ⊢; rw [List.getElem?_set_ne (by omega)]; exact e)
        clear hb1 e2 hst st vm hB hml hmb hmr hv hqt hq32
        go_wp2_with fail
        go_roundw
        case rel => exact ⟨k + 1, 1, _, by omega, by go_num, rfl, by omega, HML.out, HMB.out, HMR.out, HST.out, HB1.out⟩
        case measure => simp [intOf]; omega
      · skip
        have y0 := hq32 (by omega)
        have hneg : ¬ (r : Int) - (c : Int) < 0 := by omega
        have hst := st (r - c - y) 0 (by omega)
        rw [← vm] at hst
        have hb1 := hB.cell 2 rfl k (.int .i64 ((r : Int) - (c : Int)))
        have e2 : (arr .i64 (nar ms)).setIfInBounds k (.int .i64 ((r : Int) - (c : Int))) = arr .i64 (nar (ms.set k (r - c - y))) := by rw [show ((r : Int) - (c : Int)) = (((r - c - y) : Nat) : Int) by omega, arr_set, ← nar_set]
        have HB1 := Lib.hid (hb1.cast (l' := [(w.heap.size, arr .i64 r0, 140), (w.heap.size + 1, arr .i64 zr, 140), (gm, arr .i64 (nar (ms.set k (r - c - y))), 140)]) (by rw [← e2]; rfl))
        have HST := Lib.hid hst
        have HML : Hid ((ms.set k (r - c - y)).length = 33) := Lib.hid (by rw [List.length_set, hml])
        have HMB : Hid (∀ x ∈ ms.set k (r - c - y), x < 256) := Lib.hid (lt_set hmb _ _ (by omega))
        have HMR : Hid (∀ j, k + 1 ≤ j → (ms.set k (r - c - y)).getD j 0 = rs.getD j 0) := Lib.hid (by intro j hj; have e := hmr j (by omega); simp only [List.getD] at e ⊢; rw [List.getElem?_set_ne (by omega)]; exact e)
        clear hb1 e2 hst st vm hB hml hmb hmr hv hqt hq32
        go_wp2_with fail
        go_roundw
        case rel => exact ⟨k + 1, 0, _, by omega, by go_num, rfl, by omega, HML.out, HMB.out, HMR.out, HST.out, HB1.out⟩
        case measure => simp [intOf]; omega
  · obtain rfl : k = 33 := by omega
    rw [List.take_of_length_le (Nat.le_of_eq hml), List.take_of_length_le (Nat.le_of_eq QL.out), List.take_of_length_le (Nat.le_of_eq RL.out), QV.out, RV.out] at hv
    have hS := val_lt 256 ms hmb
    rw [hml] at hS
    have hdm := dig_eq 256 (by decide) 33 _ ms hml hmb rfl
    have hml' : (nar ms).length = 33 := by rw [nar_len, hml]
    rcases HF.out _ c hv hS hc with ⟨rfl, h1⟩ | ⟨rfl, h1, h2⟩
    · have HB := Lib.hid hB
      have H1 := Lib.hid h1
      clear hB hv hS hmb hmr hdm hml hml' h1
      go_wp2_with (first | ((with_reducible refine aS 33 ?_); refine wpList_load_part rfl 140 _ rfl (w.heap.size) 0 _ 140 (0, 0) _ (HB.out.get 0 rfl) rfl .i64 r0 (arr_part _ _) Tryd.underlying140 rfl (t33_i HRL.out) ?_) | ((with_reducible refine aT 2 ?_); refine wpList_store_whole rfl 140 _ _ rfl (w.heap.size + 1) _ _ 140 (HB.out.get 1 rfl) rfl rfl (arr_len2 _ _ HRL.out HLzr.out) (t33_s HRL.out) (all_arr _ _) ?_; intro w7 hb7 hk7 hz7; have HB7 := Lib.hid (HB.out.put 1 rfl hk7 hb7); clear hb7 hk7 hz7))
      (try simp only [Exit.inBlock, Exit.then])
      refine bodyPost_ret (results_cell_row rfl _ _ (w.heap.size + 1) 140 _ (0, 0) _ rfl (HB7.out.get 1 rfl) Tryd.underlying140 rfl (t33_s HRL.out)) rfl ?_
      exact ⟨by rw [HR0.out, HRS.out, HV.out, if_pos H1.out], HB7.out.below⟩
    · rw [h2] at hdm
      obtain ⟨m0, hm0⟩ : ∃ x, x = nar ms := ⟨_, rfl⟩
      rw [← hm0] at hB hml'
      have HB := Lib.hid hB
      have H1 := Lib.hid h1
      have HML := Lib.hid hml'
      have HM0 : Hid (m0 = nar (dig 256 33 (N - q))) := Lib.hid (by rw [hm0, ← hdm])
      clear hB hv hS hmb hmr hdm hml hml' h1 h2 hm0
      go_wp2_with (first | ((with_reducible refine aS 34 ?_); refine wpList_load_part rfl 140 _ rfl (gm) 0 _ 140 (0, 0) _ (HB.out.get 2 rfl) rfl .i64 m0 (arr_part _ _) Tryd.underlying140 rfl (t33_i HML.out) ?_) | ((with_reducible refine aT 2 ?_); refine wpList_store_whole rfl 140 _ _ rfl (w.heap.size + 1) _ _ 140 (HB.out.get 1 rfl) rfl rfl (arr_len2 _ _ HML.out HLzr.out) (t33_s HML.out) (all_arr _ _) ?_; intro w7 hb7 hk7 hz7; have HB7 := Lib.hid (HB.out.put 1 rfl hk7 hb7); clear hb7 hk7 hz7))
      (try simp only [Exit.inBlock, Exit.then])
      refine bodyPost_ret (results_cell_row rfl _ _ (w.heap.size + 1) 140 _ (0, 0) _ rfl (HB7.out.get 1 rfl) Tryd.underlying140 rfl (t33_s HML.out)) rfl ?_
      exact ⟨by rw [HM0.out, HV.out, if_neg H1.out], HB7.out.below⟩
end Go.Proofs.YtanjhngehfbpbaaDoor.Rd
namespace Go.Proofs.YtanjhngehfbpbaaDoor.Rd
open Go.RowKit Lm Sc

theorem and1i (y : Nat) (h : y < 9223372036854775808) : bits .and .i64 (y : Int) 1 = ((y % 2 : Nat) : Int) := by
  have e : y &&& 1 = y % 2 := Nat.and_two_pow_sub_one_eq_mod y 1
  have h1 : (BitVec.ofInt 64 (y : Int)).toNat = y := by rw [BitVec.ofInt_natCast, BitVec.toNat_ofNat]; exact Nat.mod_eq_of_lt (by omega)
  have h2 : (BitVec.ofInt 64 (1 : Int)).toNat = 1 := by decide
  show IntKind.i64.wrap ((BitVec.ofInt 64 (y : Int) &&& BitVec.ofInt 64 (1 : Int)).toNat : Int) = _
  rw [BitVec.toNat_and, h1, h2, e, IntKind.wrap_i64]
  omega
theorem and255i (x : Nat) (hx : x < 9223372036854775808) : bits .and .i64 (x : Int) 255 = ((x % 256 : Nat) : Int) := by
  have e : x &&& 255 = x % 256 := Nat.and_two_pow_sub_one_eq_mod x 8
  have h1 : (BitVec.ofInt 64 (x : Int)).toNat = x := by rw [BitVec.ofInt_natCast, BitVec.toNat_ofNat]; exact Nat.mod_eq_of_lt (by omega)
  have h2 : (BitVec.ofInt 64 (255 : Int)).toNat = 255 := by decide
  show IntKind.i64.wrap ((BitVec.ofInt 64 (x : Int) &&& BitVec.ofInt 64 (255 : Int)).toNat : Int) = _
  rw [BitVec.toNat_and, h1, h2, e, IntKind.wrap_i64]
  omega
theorem code_bit64 (V k : Nat) (hk : k < 512) : ∃ y : Nat, (nar (dig 256 64 V)).getD (k / 8) 0 = y ∧ y < 256 ∧ bits .and .i64 ((y : Int) / 2 ^ (k % 8)) 1 = ((V / 2 ^ k % 2 : Nat) : Int) := by
  refine ⟨V / 256 ^ (k / 8) % 256, by rw [nar_get, dig_get _ _ _ _ (by omega)], Nat.mod_lt _ (by decide), ?_⟩
  have e1 : ((V / 256 ^ (k / 8) % 256 : Nat) : Int) / 2 ^ (k % 8) = ((V / 256 ^ (k / 8) % 256 / 2 ^ (k % 8) : Nat) : Int) := by
    rw [Int.natCast_ediv, Int.natCast_pow]; rfl
  rw [e1, and1i _ (Nat.lt_of_le_of_lt (Nat.div_le_self _ _) (Nat.lt_trans (Nat.mod_lt _ (by decide)) (by decide))), bit_byte]
theorem dig33_zero : List.replicate 33 (0 : Int) = nar (dig 256 33 0) := by decide +kernel
def lows (N i : Nat) : List Int := tb 32 fun j => if j < i then ((N / 256 ^ j % 256 : Nat) : Int) else 0
theorem lows_zero (N : Nat) : List.replicate 32 0 = lows N 0 := by
  rw [tb_zero]
  exact tb_congr _ _ _ fun j _ => by rw [if_neg (by omega)]
theorem lows_step (N i : Nat) : (lows N i).set i ((N / 256 ^ i % 256 : Nat) : Int) = lows N (i + 1) := by
  rw [lows, tb_set]
  refine tb_congr _ _ _ fun j _ => ?_
  by_cases e : j = i
  · subst e; rw [if_pos rfl, if_pos (show j < j + 1 by omega)]
  · rw [if_neg e]
    by_cases e3 : j < i
    · rw [if_pos e3, if_pos (show j < i + 1 by omega)]
    · rw [if_neg e3, if_neg (show ¬ j < i + 1 by omega)]
theorem lows_all (N : Nat) : lows N 32 = nar (dig 256 32 N) := by
  rw [tb_of 32 (nar (dig 256 32 N)) (by rw [nar_len, dig_len])]
  exact tb_congr _ _ _ fun j hj => by rw [if_pos hj, nar_get, dig_get _ _ _ _ hj]
theorem dbl_lt (P b : Nat) (hP : P < q) (hb : b ≤ 1) : 2 * P + b < 256 ^ 33 := by
  have hq : 2 * q < 256 ^ 33 := by decide +kernel
  omega

set_option maxRecDepth 100000 in
set_option maxHeartbeats 8000000 in
theorem reduce_any (sa : Option Addr) (cp V : Nat) (w : World) (hs : Src w sa 64 (nar (dig 256 64 V))) (hV : V < 2 ^ 512) (hT : TabQ w) :
    Calls Tryd.prog 80 #[.slice sa 64 cp] w fun e w' => e = .returned (.agg (arr .u8 (nar (dig 256 32 (V % q))))) ∧ Below w.heap.size w w' := by
  obtain ⟨ad, rfl, -⟩ := hs.cell 0 (by decide)
  have hcell : ∀ i, i < 64 → w.cell? (ad.add i) = some (.int .u8 ((nar (dig 256 64 V)).getD i 0)) := fun i hi => by
    obtain ⟨a, h1, h2⟩ := hs.cell i hi
    cases h1
    exact h2
  have HCELL := Lib.hid hcell
  have HT := Lib.hid hT
  have HV := Lib.hid hV
  obtain ⟨ro, hro⟩ : ∃ r, r = nar (dig 256 32 (V % q)) := ⟨_, rfl⟩
  have HRO : Hid (lows (V % q) 32 = ro) := Lib.hid (by rw [hro]; exact lows_all _)
  have HROL : Hid (ro.length = 32) := Lib.hid (by rw [hro, nar_len, dig_len])
  rw [← hro]
  obtain ⟨zn, hzn⟩ : ∃ zs : List Int, zs = List.replicate 32 0 := ⟨_, rfl⟩
  have HZzn : Hid (∀ w, (zeroValue 23).run Tryd.prog w = .ok (.agg (arr .u8 zn)) w) := Lib.hid (by intro w; rw [hzn]; exact zero_num w)
  have HLzn : Hid (zn.length = 32) := Lib.hid (by rw [hzn]; rfl)
  obtain ⟨zr, hzr⟩ : ∃ zs : List Int, zs = List.replicate 33 0 := ⟨_, rfl⟩
  have HZzr : Hid (∀ w, (zeroValue 140).run Tryd.prog w = .ok (.agg (arr .i64 zr)) w) := Lib.hid (by intro w; rw [hzr]; exact zero_33 w)
  have HLzr : Hid (zr.length = 33) := Lib.hid (by rw [hzr]; rfl)
  have HZ0 : Hid (zr = nar (dig 256 33 0)) := Lib.hid (by rw [hzr]; exact dig33_zero)
  have HZN : Hid (zn = lows (V % q) 0) := Lib.hid (by rw [hzn]; exact lows_zero _)
  have HS0 := Lib.hid (Blk.two w (arr .u8 zn) (arr .i64 zr) 23 140)
  clear hzn hzr hs hcell hT hV hro
  go_enter Tryd.func80, Tryd.ntmps80
  go_upto_region 4 with (first | ((with_reducible refine aS 2 ?_); refine wpList_alloc_row rfl 23 rfl _ (HZzn.out _) ?_) | ((with_reducible refine aS 3 ?_); refine wpList_alloc_row rfl 140 rfl _ (HZzr.out _) ?_))
  (try simp only [World.size_alloc, Act.put, sA, sZ, sS])
  generalize w.heap.size + 1 = g3 at HS0 ⊢
  generalize ((w.alloc (.cells (arr .u8 zn) 23)).alloc (.cells (arr .i64 zr) 140)) = wb at HS0 ⊢
  go_wp2_with fail
  go_loopw [4] (fun v wr => ∃ n : Nat, n ≤ 512 ∧ v = .int .i64 (511 - (n : Int)) ∧ Blk w wr [(w.heap.size, arr .u8 zn, 23), (g3, arr .i64 (nar (dig 256 33 (upq V (512 - n)))), 140)]) (fun v _ => (intOf v + 1).toNat)
  case atStart => exact ⟨0, Nat.zero_le _, rfl, by rw [show 512 - 0 = 512 from rfl, upq_top V 512 HV.out, ← HZ0.out]; exact HS0.out⟩
  case round =>
  obtain ⟨n, hn, rfl, hB⟩ := hrel
  by_cases hlt : n < 512
  · obtain ⟨i, hi⟩ : ∃ i : Nat, i + n = 511 := ⟨511 - n, by omega⟩
    have hz : (511 : Int) - (n : Int) = (i : Int) := by omega
    have hi2 : i < 512 := by omega
    obtain ⟨y, hy, hy2, hbit⟩ := code_bit64 V i hi2
    have q0 := below_cell hB.below (HCELL.out (i / 8) (by omega))
    rw [hy] at q0
    rw [show 512 - n = i + 1 by omega] at hB
    rw [hz]
    have hps := fun m => upq_step V i m
    have hpl := upq_lt V (i + 1)
    generalize upq V (i + 1) = P at hB hps hpl
    have hbl : V / 2 ^ i % 2 ≤ 1 := by omega
    generalize V / 2 ^ i % 2 = b at hbit hps hbl
    obtain ⟨rs, hrs⟩ : ∃ r, r = dig 256 33 P := ⟨_, rfl⟩
    have hdl := dbl_lt P b hpl hbl
    have rl : rs.length = 33 := by rw [hrs, dig_len]
    have rb : ∀ x ∈ rs, x < 256 := by rw [hrs]; exact dig_lt 256 (by decide) _ _
    have rv : val 256 rs = P := by rw [hrs, val_dig]; exact Nat.mod_eq_of_lt (by omega)
    rw [← hrs] at hB
    have HB := Lib.hid hB
    have HI := Lib.hid hi
    have HPS := Lib.hid hps
    have HDL := Lib.hid hdl
    have RL := Lib.hid rl
    have RB := Lib.hid rb
    have RV := Lib.hid rv
    have q9 : 0 ≤ (i : Int) := by omega
    clear hB hy hz hi hps hpl hrs hdl rl rb rv
    go_wp2_with fail
    clear q0 hbit
    go_loopw [5, 6] (fun cv kv wr2 => ∃ (k c : Nat) (us : List Nat), k ≤ 33 ∧ kv = .int .i64 k ∧ cv = .int .i64 c ∧ c ≤ 1 ∧ us.length = 33 ∧ (∀ x ∈ us, x < 256) ∧ (∀ j, k ≤ j → us.getD j 0 = rs.getD j 0) ∧ val 256 (us.take k) + 256 ^ k * c = val 256 (rs.take k) + (val 256 (rs.take k) + b) ∧ Blk w wr2 [(w.heap.size, arr .u8 zn, 23), (g3, arr .i64 (nar us), 140)]) (fun _ kv _ => 33 - (intOf kv).toNat)
    case atStart => exact ⟨0, b, rs, Nat.zero_le _, rfl, rfl, hbl, RL.out, RB.out, (fun _ _ => rfl), by simp [val], HB.out⟩
    case round =>
      obtain ⟨k, c, us, hk, rfl, rfl, hc, hul, hub, hur, huv, hU⟩ := hrel
      by_cases hlk : k < 33
      · have q2 := arr_get' (hU.get 1 rfl) k (by rw [nar_len, hul]; exact hlk)
        have q3 := free_blk (hU.get 1 rfl) k
        rw [nar_get, hur k (Nat.le_refl _)] at q2
        have r1 := lt_getD RB.out (by decide) k
        have st := fun s c' hs => add_step 256 k _ _ _ (rs.getD k 0) (rs.getD k 0) c s c' huv hs
        have vm := fun s => val_take_set 256 us k s (by omega)
        have vr := val_take_succ 256 rs k (by rw [RL.out]; exact hlk)
        generalize rs.getD k 0 = r at q2 r1 st vr
        have hst := st ((2 * r + c) % 256) ((2 * r + c) / 256) (by omega)
        rw [← vm] at hst
        have hst2 : val 256 ((us.set k ((2 * r + c) % 256)).take (k + 1)) + 256 ^ (k + 1) * ((2 * r + c) / 256) = val 256 (rs.take (k + 1)) + (val 256 (rs.take (k + 1)) + b) := by rw [hst, vr]; omega
        have ha := and255i (2 * r + c) (by omega)
        rw [show ((2 * r + c : Nat) : Int) = 2 * (r : Int) + (c : Int) by omega] at ha
        have hb1 := hU.cell 1 rfl k (.int .i64 (bits .and .i64 (2 * (r : Int) + (c : Int)) 255))
        have e2 : (arr .i64 (nar us)).setIfInBounds k (.int .i64 (bits .and .i64 (2 * (r : Int) + (c : Int)) 255)) = arr .i64 (nar (us.set k ((2 * r + c) % 256))) := by rw [ha, arr_set, ← nar_set]
        have HU1 := Lib.hid (hb1.cast (l' := [(w.heap.size, arr .u8 zn, 23), (g3, arr .i64 (nar (us.set k ((2 * r + c) % 256))), 140)]) (by rw [← e2]; rfl))
        have HST := Lib.hid hst2
        have HUL : Hid ((us.set k ((2 * r + c) % 256)).length = 33) := Lib.hid (by rw [List.length_set, hul])
        have HUB : Hid (∀ x ∈ us.set k ((2 * r + c) % 256), x < 256) := Lib.hid (lt_set hub _ _ (by omega))
        have HUR : Hid (∀ j, k + 1 ≤ j → (us.set k ((2 * r + c) % 256)).getD j 0 = rs.getD j 0) := Lib.hid (by intro j hj; have e := hur j (by omega); simp only [List.getD] at e ⊢; rw [List.getElem?_set_ne (by omega)]; exact e)
        clear hb1 e2 hst hst2 st vm vr ha hU hul hub hur huv
        go_wp2_with fail
        go_roundw
        case rel => exact ⟨k + 1, (2 * r + c) / 256, _, by omega, by go_num, by go_num, by omega, HUL.out, HUB.out, HUR.out, HST.out, HU1.out⟩
        case measure => simp [intOf]; omega
      · obtain rfl : k = 33 := by omega
        rw [List.take_of_length_le (Nat.le_of_eq hul), List.take_of_length_le (Nat.le_of_eq RL.out), RV.out] at huv
        have hlv := val_lt 256 us hub
        rw [hul] at hlv
        have hdl := HDL.out
        have hc0 : c = 0 := by
          rcases (show c = 0 ∨ c = 1 by omega) with h | h
          · exact h
          · subst h; omega
        subst hc0
        have hdig := dig_eq 256 (by decide) 33 (2 * P + b) us hul hub (by omega)
        have hl := fun w h => less_any (2 * P + b) w hdl h
        rw [HPS.out _ rfl, ← hdig] at hl
        have hul' : (nar us).length = 33 := by rw [nar_len, hul]
        have HTb := Lib.hid (HT.out.below hU.below)
        obtain ⟨u0, hu0⟩ : ∃ x, x = nar us := ⟨_, rfl⟩
        rw [← hu0] at hU hl hul'
        obtain ⟨v0, hv0⟩ : ∃ x, x = nar (dig 256 33 (upq V i)) := ⟨_, rfl⟩
        rw [← hv0] at hl
        have HL := Lib.hid hl
        have HUL := Lib.hid hul'
        have HU := Lib.hid hU
        have HVL : Hid (v0.length = 33) := Lib.hid (by rw [hv0, nar_len, dig_len])
        have HV0 := Lib.hid hv0
        clear hU hul hub hur huv hlv hdl hc hdig hl hul' hu0 hv0 HB
        go_wp2_with (first | ((with_reducible refine aS 50 ?_); refine wpList_load_part rfl 140 _ rfl (g3) 0 _ 140 (0, 0) _ (HU.out.get 1 rfl) rfl .i64 u0 (arr_part _ _) Tryd.underlying140 rfl (t33_i HUL.out) ?_) | ((with_reducible show Calls _ 113 _ _ _); go_at_call 113; refine (HL.out _ HTb.out).mono ?_; rintro e w6 ⟨rfl, hb6⟩; have HU6 := Lib.hid (HU.out.kept hb6); clear hb6) | ((with_reducible refine aT 3 ?_); refine wpList_store_whole rfl 140 _ _ rfl (g3) _ _ 140 (HU6.out.get 1 rfl) rfl rfl (arr_len2 _ _ HVL.out HUL.out) (t33_s HVL.out) (all_arr _ _) ?_; intro w7 hb7 hk7 hz7; have HU7 := Lib.hid (HU6.out.put 1 rfl hk7 hb7); clear hb7 hk7 hz7))
        go_roundw
        case rel =>
          have e := HI.out
          exact ⟨n + 1, by omega, by congr 1; omega, by rw [show 512 - (n + 1) = i by omega, ← HV0.out]; exact HU7.out⟩
        case measure => simp [intOf]
  · obtain rfl : n = 512 := by omega
    rw [show 512 - 512 = 0 from rfl, upq_zero] at hB
    have hz : (511 : Int) - ((512 : Nat) : Int) = -1 := by omega
    rw [hz]
    have rl : (nar (dig 256 33 (V % q))).length = 33 := by rw [nar_len, dig_len]
    have rg : ∀ j, j < 32 → (nar (dig 256 33 (V % q))).getD j 0 = ((V % q / 256 ^ j % 256 : Nat) : Int) := fun j hj => by rw [nar_get, dig_get _ _ _ _ (by omega)]
    have HB := Lib.hid (hB.alloc (arr .u8 zn) 23)
    generalize nar (dig 256 33 (V % q)) = r0 at rl rg HB
    have RL := Lib.hid rl
    have RG := Lib.hid rg
    clear hz hB rl rg HS0
    go_wp2_with (first | ((with_reducible refine aS 8 ?_); refine wpList_alloc_row rfl 23 rfl _ (HZzn.out _) ?_))
    generalize wr.heap.size = gn at HB ⊢
    go_loopw [9] (fun v wq => ∃ j : Nat, j ≤ 32 ∧ v = .int .i64 j ∧ ∃ os : List Int, os = lows (V % q) j ∧ Blk w wq [(w.heap.size, arr .u8 zn, 23), (g3, arr .i64 r0, 140), (gn, arr .u8 os, 23)]) (fun v _ => 32 - (intOf v).toNat)
    case atStart => exact ⟨0, Nat.zero_le _, rfl, _, HZN.out, HB.out⟩
    case round =>
      obtain ⟨j, hj, rfl, os, hos, hQ⟩ := hrel
      have ol : os.length = 32 := by rw [hos]; exact tb_len _ _
      by_cases hlo : j < 32
      · have q0 := arr_get' (hQ.get 1 rfl) j (by rw [RL.out]; omega)
        have q2 := arr_get' (hQ.get 2 rfl) j (by rw [ol]; omega)
        have q3 := free_blk (hQ.get 2 rfl) j
        rw [RG.out j hlo] at q0
        have st := lows_step (V % q) j
        have hz2 : V % q / 256 ^ j % 256 < 256 := Nat.mod_lt _ (by decide)
        generalize V % q / 256 ^ j % 256 = z at q0 st hz2
        have hb1 := hQ.cell 2 rfl j (.int .u8 (z : Int))
        have e2 : (arr .u8 os).setIfInBounds j (.int .u8 (z : Int)) = arr .u8 (lows (V % q) (j + 1)) := by rw [arr_set, hos, st]
        have HQ1 := Lib.hid (hb1.cast (l' := [(w.heap.size, arr .u8 zn, 23), (g3, arr .i64 r0, 140), (gn, arr .u8 (lows (V % q) (j + 1)), 23)]) (by rw [← e2]; rfl))
        clear hb1 e2 hos hQ st ol
        go_wp2_with fail
        go_roundw
        case rel => exact ⟨j + 1, by omega, by go_num, _, rfl, HQ1.out⟩
        case measure => simp [intOf]; omega
      · obtain rfl : j = 32 := by omega
        rw [HRO.out] at hos
        subst hos
        have HQ := Lib.hid hQ
        have HOL := Lib.hid ol
        clear hQ ol HB
        go_wp2_with (first | ((with_reducible refine aS 62 ?_); refine wpList_load_part rfl 23 _ rfl (gn) 0 _ 23 (0, 0) _ (HQ.out.get 2 rfl) rfl .u8 os (arr_part _ _) Tryd.underlying23 rfl (num_i HOL.out) ?_) | ((with_reducible refine aT 2 ?_); refine wpList_store_whole rfl 23 _ _ rfl (w.heap.size) _ _ 23 (HQ.out.get 0 rfl) rfl rfl (arr_len2 _ _ HOL.out HLzn.out) (num_s HOL.out) (all_arr _ _) ?_; intro w8 hb8 hk8 hz8; have HQ8 := Lib.hid (HQ.out.put 0 rfl hk8 hb8); clear hb8 hk8 hz8))
        (try simp only [Exit.inBlock, Exit.then])
        refine bodyPost_ret (results_cell_row rfl _ _ (w.heap.size) 23 _ (0, 0) _ rfl (HQ8.out.get 0 rfl) Tryd.underlying23 rfl (num_s HOL.out)) rfl ?_
        exact ⟨rfl, HQ8.out.below⟩
end Go.Proofs.YtanjhngehfbpbaaDoor.Rd
namespace Go.Proofs.YtanjhngehfbpbaaDoor.Rd
open Go.RowKit Lm Sc

theorem zero_b64 (w : World) : (zeroValue 29).run Tryd.prog w = .ok (.agg (arr .u8 (List.replicate 64 0))) w := by kernel_rfl
theorem src_arr' {w : World} {g : Nat} {xs : List Int} {t : TypeId} {fr : Nat × Nat} (h : w.heap[g]? = some (.cells (arr .u8 xs) t fr)) (m : Nat) (hm : xs.length = m) : Src w (some ⟨g, 0, none⟩) m xs :=
  src_row h (by rw [arr_toList, Nat.mul_one, List.take_of_length_le (by rw [List.length_map]; exact Nat.le_refl _)]) hm
theorem lt_pow {a b : Nat} (ha : a < 256 ^ 32) (hb : b < 256 ^ 32) (n : Nat) (hn : 257 ≤ n) : a + b < 2 ^ n := by
  obtain ⟨k, rfl⟩ : ∃ k, n = 256 + (k + 1) := ⟨n - 257, by omega⟩
  rw [Nat.pow_add]
  have h2 : 2 ≤ 2 ^ (k + 1) := by
    rw [Nat.pow_succ]
    have := Nat.one_le_two_pow (n := k)
    omega
  exact Nat.lt_of_lt_of_le (Nat.add_lt_add ha hb) (Nat.le_trans (show 256 ^ 32 + 256 ^ 32 ≤ 2 ^ 256 * 2 by decide) (Nat.mul_le_mul_left _ h2))
theorem dig33_of32 (A k : Nat) (hA : A < 256 ^ 32) (hk : k < 33) : (dig 256 33 A).getD k 0 = if k < 32 then (dig 256 32 A).getD k 0 else 0 := by
  rw [dig_get _ _ _ _ hk]
  split
  · rename_i h; rw [dig_get _ _ _ _ h]
  · obtain rfl : k = 32 := by omega
    rw [Nat.div_eq_of_lt hA]
theorem val_tail (n k : Nat) (xs : List Nat) (hl : xs.length = n) (hk : k ≤ n) (hz : ∀ j, k ≤ j → xs.getD j 0 = 0) : val 256 xs = val 256 (xs.take k) := by
  have e : xs = xs.take k ++ xs.drop k := (List.take_append_drop k xs).symm
  have hd : xs.drop k = List.replicate (n - k) 0 := by
    apply List.ext_getElem
    · simp [hl]
    · intro i h1 h2
      have := hz (k + i) (by omega)
      simp only [List.length_drop] at h1
      rw [List.getD, List.getElem?_eq_getElem (by omega)] at this
      simpa using this
  rw [e, val_append, hd, val_zeros, Nat.mul_zero, Nat.add_zero, ← hd, ← e]

set_option maxRecDepth 100000 in
set_option maxHeartbeats 4000000 in
theorem addq_any (a b : Nat) (w : World) (ha : a < 256 ^ 32) (hb : b < 256 ^ 32) (hT : TabQ w) :
    Calls Tryd.prog 39 #[.agg (arr .u8 (nar (dig 256 32 a))), .agg (arr .u8 (nar (dig 256 32 b)))] w fun e w' => e = .returned (.agg (arr .u8 (nar (dig 256 32 ((a + b) % q))))) ∧ Below w.heap.size w w' := by
  have hred := fun w' ad cp (hs : Src w' ad 64 (nar (dig 256 64 (a + b)))) hT' => reduce_any ad cp (a + b) w' hs (lt_pow ha hb 512 (by decide)) hT'
  obtain ⟨xs, hxs⟩ : ∃ r, r = dig 256 33 a := ⟨_, rfl⟩
  obtain ⟨ys, hys⟩ : ∃ r, r = dig 256 33 b := ⟨_, rfl⟩
  have XL : Hid (xs.length = 33) := Lib.hid (by rw [hxs, dig_len])
  have YL : Hid (ys.length = 33) := Lib.hid (by rw [hys, dig_len])
  have XB : Hid (∀ x ∈ xs, x < 256) := Lib.hid (by rw [hxs]; exact dig_lt 256 (by decide) _ _)
  have YB : Hid (∀ x ∈ ys, x < 256) := Lib.hid (by rw [hys]; exact dig_lt 256 (by decide) _ _)
  have XV : Hid (val 256 xs = a) := Lib.hid (by rw [hxs, val_dig]; exact Nat.mod_eq_of_lt (Nat.lt_of_lt_of_le ha (by decide)))
  have YV : Hid (val 256 ys = b) := Lib.hid (by rw [hys, val_dig]; exact Nat.mod_eq_of_lt (Nat.lt_of_lt_of_le hb (by decide)))
  have XG : Hid (∀ k, k < 33 → (if k < 32 then (dig 256 32 a).getD k 0 else 0) = xs.getD k 0) := Lib.hid (fun k h => by rw [hxs]; exact (dig33_of32 a k ha h).symm)
  have YG : Hid (∀ k, k < 33 → (if k < 32 then (dig 256 32 b).getD k 0 else 0) = ys.getD k 0) := Lib.hid (fun k h => by rw [hys]; exact (dig33_of32 b k hb h).symm)
  have HAB : Hid (a + b < 256 ^ 33) := Lib.hid (Nat.lt_of_lt_of_le (Nat.add_lt_add ha hb) (by decide))
  obtain ⟨x0, hx0⟩ : ∃ r, r = nar (dig 256 32 a) := ⟨_, rfl⟩
  obtain ⟨y0, hy0⟩ : ∃ r, r = nar (dig 256 32 b) := ⟨_, rfl⟩
  have X0L : Hid (x0.length = 32) := Lib.hid (by rw [hx0, nar_len, dig_len])
  have Y0L : Hid (y0.length = 32) := Lib.hid (by rw [hy0, nar_len, dig_len])
  have X0G : Hid (∀ k, x0.getD k 0 = (((dig 256 32 a).getD k 0 : Nat) : Int)) := Lib.hid (fun k => by rw [hx0, nar_get])
  have Y0G : Hid (∀ k, y0.getD k 0 = (((dig 256 32 b).getD k 0 : Nat) : Int)) := Lib.hid (fun k => by rw [hy0, nar_get])
  rw [← hx0, ← hy0]
  obtain ⟨ro, hro⟩ : ∃ r, r = nar (dig 256 32 ((a + b) % q)) := ⟨_, rfl⟩
  have HROL : Hid (ro.length = 32) := Lib.hid (by rw [hro, nar_len, dig_len])
  rw [← hro] at hred ⊢
  obtain ⟨so, hso⟩ : ∃ r, r = nar (dig 256 64 (a + b)) := ⟨_, rfl⟩
  have HS64 : Hid (so.length = 64) := Lib.hid (by rw [hso, nar_len, dig_len])
  have HSO := Lib.hid hso
  rw [← hso] at hred
  have HRED : Hid (∀ (w' : World) {ad : Option Addr} {cp : Nat}, Src w' ad 64 so → TabQ w' → Calls Tryd.prog 80 #[.slice ad 64 cp] w' fun e w'' => e = .returned (.agg (arr .u8 ro)) ∧ Below w'.heap.size w' w'') := Lib.hid (fun w' ad cp h1 h2 => hred w' ad cp h1 h2)
  have HT := Lib.hid hT
  obtain ⟨zn, hzn⟩ : ∃ zs : List Int, zs = List.replicate 32 0 := ⟨_, rfl⟩
  have HZzn : Hid (∀ w, (zeroValue 23).run Tryd.prog w = .ok (.agg (arr .u8 zn)) w) := Lib.hid (by intro w; rw [hzn]; exact zero_num w)
  have HLzn : Hid (zn.length = 32) := Lib.hid (by rw [hzn]; rfl)
  obtain ⟨zs, hzs⟩ : ∃ zs : List Int, zs = List.replicate 64 0 := ⟨_, rfl⟩
  have HZzs : Hid (∀ w, (zeroValue 29).run Tryd.prog w = .ok (.agg (arr .u8 zs)) w) := Lib.hid (by intro w; rw [hzs]; exact zero_b64 w)
  have HLzs : Hid (zs.length = 64) := Lib.hid (by rw [hzs]; rfl)
  have HZS : Hid (zs = nar (List.replicate 64 0)) := Lib.hid (by rw [hzs, nar_zeros])
  have HS0 := Lib.hid (Blk.four w (arr .u8 x0) (arr .u8 y0) (arr .u8 zn) (arr .u8 zs) 23 23 23 29)
  clear hzn hzs hred hxs hys hx0 hy0 hro hso hT ha hb
  go_enter Tryd.func39, Tryd.ntmps39
  go_wp2_with (first | ((with_reducible refine aS 4 ?_); refine wpList_alloc_row rfl 23 rfl _ (HZzn.out _) ?_) | ((with_reducible refine aS 5 ?_); refine wpList_alloc_row rfl 29 rfl _ (HZzs.out _) ?_))
  go_loopw [6, 7] (fun cv iv wr => ∃ (i c : Nat) (ss : List Nat), i ≤ 33 ∧ iv = .int .i64 i ∧ cv = .int .i64 c ∧ c ≤ 1 ∧ ss.length = 64 ∧ (∀ x ∈ ss, x < 256) ∧ (∀ j, i ≤ j → ss.getD j 0 = 0) ∧ val 256 (ss.take i) + 256 ^ i * c = val 256 (xs.take i) + val 256 (ys.take i) ∧ Blk w wr [(w.heap.size, arr .u8 x0, 23), (w.heap.size + 1, arr .u8 y0, 23), (w.heap.size + 1 + 1, arr .u8 zn, 23), (w.heap.size + 1 + 1 + 1, arr .u8 (nar ss), 29)]) (fun _ iv _ => 33 - (intOf iv).toNat)
  case atStart => exact ⟨0, 0, List.replicate 64 0, Nat.zero_le _, rfl, rfl, Nat.zero_le _, by simp, by simp, (fun k _ => by simp only [List.getD, List.getElem?_replicate]; split <;> rfl), by simp [val], by rw [← HZS.out]; exact HS0.out⟩
  clear HS0
  case round =>
  obtain ⟨i, c, ss, hi, rfl, rfl, hc, hsl, hsb, hsz, hv, hB⟩ := hrel
  by_cases hlt : i < 33
  · have q2 := arr_get' (hB.get 3 rfl) i (by rw [nar_len, hsl]; omega)
    have q3 := free_blk (hB.get 3 rfl) i
    have x1 := lt_getD XB.out (by decide) i
    have y1 := lt_getD YB.out (by decide) i
    have st := fun s c' hs => add_step 256 i _ _ _ (xs.getD i 0) (ys.getD i 0) c s c' hv hs
    have vm := fun s => val_take_set 256 ss i s (by omega)
    rw [← val_take_succ 256 xs i (by rw [XL.out]; exact hlt), ← val_take_succ 256 ys i (by rw [YL.out]; exact hlt)] at st
    have xg := XG.out i hlt
    have yg := YG.out i hlt
    have q0 : i < 32 → wr.cell? ⟨w.heap.size, i, none⟩ = some (.int .u8 ((xs.getD i 0 : Nat) : Int)) := fun e => by
      rw [arr_get' (hB.get 0 rfl) i (by rw [X0L.out]; exact e), X0G.out, ← xg, if_pos e]
    have q1 : i < 32 → wr.cell? ⟨w.heap.size + 1, i, none⟩ = some (.int .u8 ((ys.getD i 0 : Nat) : Int)) := fun e => by
      rw [arr_get' (hB.get 1 rfl) i (by rw [Y0L.out]; exact e), Y0G.out, ← yg, if_pos e]
    have xz : ¬ i < 32 → xs.getD i 0 = 0 := fun e => by rw [← xg, if_neg e]
    have yz : ¬ i < 32 → ys.getD i 0 = 0 := fun e => by rw [← yg, if_neg e]
    clear xg yg
    generalize xs.getD i 0 = x at q0 x1 st xz
    generalize ys.getD i 0 = y at q1 y1 st yz
    by_cases h32 : i < 32
    · skip
      have q0 := q0 h32
      have q1 := q1 h32
      have ha := and255i (x + y + c) (by omega)
      rw [show ((x + y + c : Nat) : Int) = (c : Int) + (x : Int) + (y : Int) by omega] at ha
      have hst := st ((x + y + c) % 256) ((x + y + c) / 256) (by omega)
      rw [← vm] at hst
      have hb1 := hB.cell 3 rfl i (.int .u8 (bits .and .i64 ((c : Int) + (x : Int) + (y : Int)) 255 % 256))
      have e2 : (arr .u8 (nar ss)).setIfInBounds i (.int .u8 (bits .and .i64 ((c : Int) + (x : Int) + (y : Int)) 255 % 256)) = arr .u8 (nar (ss.set i ((x + y + c) % 256))) := by rw [ha, show (((((x + y + c) % 256) : Nat) : Int) % 256) = ((((x + y + c) % 256) : Nat) : Int) by omega, arr_set, ← nar_set]
      have HB1 := Lib.hid (hb1.cast (l' := [(w.heap.size, arr .u8 x0, 23), (w.heap.size + 1, arr .u8 y0, 23), (w.heap.size + 1 + 1, arr .u8 zn, 23), (w.heap.size + 1 + 1 + 1, arr .u8 (nar (ss.set i ((x + y + c) % 256))), 29)]) (by rw [← e2]; rfl))
      have HST := Lib.hid hst
      have HSL : Hid ((ss.set i ((x + y + c) % 256)).length = 64) := Lib.hid (by rw [List.length_set, hsl])
      have HSB : Hid (∀ z ∈ ss.set i ((x + y + c) % 256), z < 256) := Lib.hid (lt_set hsb i ((x + y + c) % 256) (Nat.mod_lt _ (by decide)))
      have HSZ : Hid (∀ j, i + 1 ≤ j → (ss.set i ((x + y + c) % 256)).getD j 0 = 0) := Lib.hid (by intro j hj; have e := hsz j (by omega); simp only [List.getD] at e ⊢; rw [List.getElem?_set_ne (by omega)]; exact e)
      clear hb1 e2 hst st vm hB hsl hsb hsz hv ha xz yz
      go_wp2_with fail
      go_region
      go_wp2_with fail
      go_roundw
      case rel => exact ⟨i + 1, ((x + y + c) / 256), _, by omega, by go_num, by go_num, by omega, HSL.out, HSB.out, HSZ.out, HST.out, HB1.out.drew⟩
      case measure => simp [intOf]; omega
    · skip
      obtain rfl := xz h32
      obtain rfl := yz h32
      have ha := and255i c (by omega)
      have hst := st (c % 256) (c / 256) (by omega)
      rw [← vm] at hst
      have hb1 := hB.cell 3 rfl i (.int .u8 (bits .and .i64 (c : Int) 255 % 256))
      have e2 : (arr .u8 (nar ss)).setIfInBounds i (.int .u8 (bits .and .i64 (c : Int) 255 % 256)) = arr .u8 (nar (ss.set i (c % 256))) := by rw [ha, show ((((c % 256) : Nat) : Int) % 256) = (((c % 256) : Nat) : Int) by omega, arr_set, ← nar_set]
      have HB1 := Lib.hid (hb1.cast (l' := [(w.heap.size, arr .u8 x0, 23), (w.heap.size + 1, arr .u8 y0, 23), (w.heap.size + 1 + 1, arr .u8 zn, 23), (w.heap.size + 1 + 1 + 1, arr .u8 (nar (ss.set i (c % 256))), 29)]) (by rw [← e2]; rfl))
      have HST := Lib.hid hst
      have HSL : Hid ((ss.set i (c % 256)).length = 64) := Lib.hid (by rw [List.length_set, hsl])
      have HSB : Hid (∀ z ∈ ss.set i (c % 256), z < 256) := Lib.hid (lt_set hsb i (c % 256) (Nat.mod_lt _ (by decide)))
      have HSZ : Hid (∀ j, i + 1 ≤ j → (ss.set i (c % 256)).getD j 0 = 0) := Lib.hid (by intro j hj; have e := hsz j (by omega); simp only [List.getD] at e ⊢; rw [List.getElem?_set_ne (by omega)]; exact e)
      clear hb1 e2 hst st vm hB hsl hsb hsz hv ha xz yz q0 q1
      go_wp2_with fail
      go_roundw
      case rel => exact ⟨i + 1, (c / 256), _, by omega, by go_num, by go_num, by omega, HSL.out, HSB.out, HSZ.out, HST.out, HB1.out⟩
      case measure => simp [intOf]; omega
  · obtain rfl : i = 33 := by omega
    rw [List.take_of_length_le (Nat.le_of_eq XL.out), List.take_of_length_le (Nat.le_of_eq YL.out), XV.out, YV.out] at hv
    have hvt := val_tail 64 33 ss hsl (by decide) hsz
    have hab := HAB.out
    have hc0 : c = 0 := by
      rcases (show c = 0 ∨ c = 1 by omega) with h | h
      · exact h
      · subst h; omega
    subst hc0
    rw [Nat.mul_zero, Nat.add_zero, ← hvt] at hv
    have hd := dig_eq 256 (by decide) 64 (a + b) ss hsl hsb hv
    rw [hd, ← HSO.out] at hB
    have HB := Lib.hid hB
    clear hB hv hvt hab hd hsl hsb hsz hc
    go_wp2_with (first | ((with_reducible show Calls _ 80 _ _ _); go_at_call 80; refine (HRED.out _ (src_arr' (HB.out.get 3 rfl) 64 HS64.out) (HT.out.below HB.out.below)).mono ?_; rintro e w6 ⟨rfl, hb6⟩; have HB6 := Lib.hid (HB.out.kept hb6); clear hb6) | ((with_reducible refine aT 4 ?_); refine wpList_store_whole rfl 23 _ _ rfl (w.heap.size + 1 + 1) _ _ 23 (HB6.out.get 2 rfl) rfl rfl (arr_len2 _ _ HROL.out HLzn.out) (num_s HROL.out) (all_arr _ _) ?_; intro w7 hb7 hk7 hz7; have HB7 := Lib.hid (HB6.out.put 2 rfl hk7 hb7); clear hb7 hk7 hz7))
    (try simp only [Exit.inBlock, Exit.then])
    refine bodyPost_ret (results_cell_row rfl _ _ (w.heap.size + 1 + 1) 23 _ (0, 0) _ rfl (HB7.out.get 2 rfl) Tryd.underlying23 rfl (num_s HROL.out)) rfl ?_
    exact ⟨rfl, HB7.out.below⟩
end Go.Proofs.YtanjhngehfbpbaaDoor.Rd
namespace Go.Proofs.YtanjhngehfbpbaaDoor.Rd
open Go.RowKit Lm Sc

theorem zero_i64 (w : World) : (zeroValue 107).run Tryd.prog w = .ok (.agg (arr .i64 (List.replicate 64 0))) w := by kernel_rfl
theorem mulq_step (xs ys us : List Nat) (i k B : Nat) (hk : k < ys.length) (hl : i + k < us.length) (hv : val 256 us = val 256 (xs.take i) * B + 256 ^ i * xs.getD i 0 * val 256 (ys.take k)) :
    val 256 (us.set (i + k) (us.getD (i + k) 0 + xs.getD i 0 * ys.getD k 0)) = val 256 (xs.take i) * B + 256 ^ i * xs.getD i 0 * val 256 (ys.take (k + 1)) := by
  have h := val_set 256 us (i + k) (us.getD (i + k) 0 + xs.getD i 0 * ys.getD k 0) hl
  rw [val_take_succ _ _ _ hk, Nat.mul_add, ← Nat.add_assoc, ← hv]
  have e : 256 ^ (i + k) * (us.getD (i + k) 0 + xs.getD i 0 * ys.getD k 0) = 256 ^ (i + k) * us.getD (i + k) 0 + 256 ^ i * xs.getD i 0 * (256 ^ k * ys.getD k 0) := by
    rw [Nat.mul_add, Nat.pow_add]
    grind
  omega
theorem mulq_bound (xs ys us : List Nat) (i k : Nat) (hx : ∀ x ∈ xs, x < 256) (hy : ∀ x ∈ ys, x < 256) (hl : i + k < us.length) (hb : ∀ n, us.getD n 0 ≤ 65025 * (i + if i ≤ n ∧ n < i + k then 1 else 0)) :
    ∀ n, (us.set (i + k) (us.getD (i + k) 0 + xs.getD i 0 * ys.getD k 0)).getD n 0 ≤ 65025 * (i + if i ≤ n ∧ n < i + (k + 1) then 1 else 0) := by
  intro n
  have h1 := lt_getD hx (by decide) i
  have h2 := lt_getD hy (by decide) k
  have h3 : xs.getD i 0 * ys.getD k 0 ≤ 255 * 255 := Nat.mul_le_mul (by omega) (by omega)
  by_cases e : n = i + k
  · subst e
    have h := hb (i + k)
    have eg : (us.set (i + k) (us.getD (i + k) 0 + xs.getD i 0 * ys.getD k 0)).getD (i + k) 0 = us.getD (i + k) 0 + xs.getD i 0 * ys.getD k 0 := by simp [List.getD, hl]
    rw [eg]
    rw [if_neg (by omega)] at h
    rw [if_pos (by omega)]
    omega
  · have h := hb n
    have eg : (us.set (i + k) (us.getD (i + k) 0 + xs.getD i 0 * ys.getD k 0)).getD n 0 = us.getD n 0 := by
      simp only [List.getD]
      rw [List.getElem?_set_ne (fun e' => e e'.symm)]
    rw [eg]
    by_cases e2 : i ≤ n ∧ n < i + k
    · rw [if_pos e2] at h
      rw [if_pos (by omega)]
      exact h
    · rw [if_neg e2] at h
      rw [if_neg (by omega)]
      exact h
theorem mul_lt64 {a b : Nat} (ha : a < 256 ^ 32) (hb : b < 256 ^ 32) : a * b < 256 ^ 64 := by
  rw [show (64 : Nat) = 32 + 32 from rfl, Nat.pow_add]
  exact Nat.mul_lt_mul_of_lt_of_lt ha hb
theorem carry_step (k S c X t s c' : Nat) (h : S + 256 ^ k * c = X) (hs : s + 256 * c' = c + t) : (S + 256 ^ k * s) + 256 ^ (k + 1) * c' = X + 256 ^ k * t := by
  have e : 256 ^ k * (s + 256 * c') = 256 ^ k * (c + t) := by rw [hs]
  rw [Nat.pow_succ]
  grind

set_option maxRecDepth 100000 in
set_option maxHeartbeats 8000000 in
theorem mulq_any (a b : Nat) (w : World) (ha : a < 256 ^ 32) (hb : b < 256 ^ 32) (hT : TabQ w) :
    Calls Tryd.prog 40 #[.agg (arr .u8 (nar (dig 256 32 a))), .agg (arr .u8 (nar (dig 256 32 b)))] w fun e w' => e = .returned (.agg (arr .u8 (nar (dig 256 32 (a * b % q))))) ∧ Below w.heap.size w w' := by
  have hab := mul_lt64 ha hb
  have hp64 : ∀ V, V < 256 ^ 64 → V < 2 ^ 512 := fun V h => by rw [show (256 : Nat) = 2 ^ 8 from rfl, ← Nat.pow_mul, show 8 * 64 = 512 from rfl] at h; exact h
  have hred := fun w' ad cp (hs : Src w' ad 64 (nar (dig 256 64 (a * b)))) hT' => reduce_any ad cp (a * b) w' hs (hp64 _ hab) hT'
  obtain ⟨xs, hxs⟩ : ∃ r, r = dig 256 32 a := ⟨_, rfl⟩
  obtain ⟨ys, hys⟩ : ∃ r, r = dig 256 32 b := ⟨_, rfl⟩
  have XL : Hid (xs.length = 32) := Lib.hid (by rw [hxs, dig_len])
  have YL : Hid (ys.length = 32) := Lib.hid (by rw [hys, dig_len])
  have XB : Hid (∀ x ∈ xs, x < 256) := Lib.hid (by rw [hxs]; exact dig_lt 256 (by decide) _ _)
  have YB : Hid (∀ x ∈ ys, x < 256) := Lib.hid (by rw [hys]; exact dig_lt 256 (by decide) _ _)
  have XV : Hid (val 256 xs = a) := Lib.hid (by rw [hxs, val32 a ha])
  have YV : Hid (val 256 ys = b) := Lib.hid (by rw [hys, val32 b hb])
  have HAB := Lib.hid hab
  obtain ⟨x0, hx0⟩ : ∃ r, r = nar xs := ⟨_, rfl⟩
  obtain ⟨y0, hy0⟩ : ∃ r, r = nar ys := ⟨_, rfl⟩
  have X0L : Hid (x0.length = 32) := Lib.hid (by rw [hx0, nar_len, XL.out])
  have Y0L : Hid (y0.length = 32) := Lib.hid (by rw [hy0, nar_len, YL.out])
  have X0G : Hid (∀ k, x0.getD k 0 = ((xs.getD k 0 : Nat) : Int)) := Lib.hid (fun k => by rw [hx0, nar_get])
  have Y0G : Hid (∀ k, y0.getD k 0 = ((ys.getD k 0 : Nat) : Int)) := Lib.hid (fun k => by rw [hy0, nar_get])
  rw [← hxs, ← hys, ← hx0, ← hy0]
  obtain ⟨ro, hro⟩ : ∃ r, r = nar (dig 256 32 (a * b % q)) := ⟨_, rfl⟩
  have HROL : Hid (ro.length = 32) := Lib.hid (by rw [hro, nar_len, dig_len])
  rw [← hro] at hred ⊢
  obtain ⟨so, hso⟩ : ∃ r, r = nar (dig 256 64 (a * b)) := ⟨_, rfl⟩
  have HS64 : Hid (so.length = 64) := Lib.hid (by rw [hso, nar_len, dig_len])
  have HSO := Lib.hid hso
  rw [← hso] at hred
  have HRED : Hid (∀ (w' : World) {ad : Option Addr} {cp : Nat}, Src w' ad 64 so → TabQ w' → Calls Tryd.prog 80 #[.slice ad 64 cp] w' fun e w'' => e = .returned (.agg (arr .u8 ro)) ∧ Below w'.heap.size w' w'') := Lib.hid (fun w' ad cp h1 h2 => hred w' ad cp h1 h2)
  have HT := Lib.hid hT
  obtain ⟨zn, hzn⟩ : ∃ zs : List Int, zs = List.replicate 32 0 := ⟨_, rfl⟩
  have HZzn : Hid (∀ w, (zeroValue 23).run Tryd.prog w = .ok (.agg (arr .u8 zn)) w) := Lib.hid (by intro w; rw [hzn]; exact zero_num w)
  have HLzn : Hid (zn.length = 32) := Lib.hid (by rw [hzn]; rfl)
  obtain ⟨zs, hzs⟩ : ∃ zs : List Int, zs = List.replicate 64 0 := ⟨_, rfl⟩
  have HZzs : Hid (∀ w, (zeroValue 29).run Tryd.prog w = .ok (.agg (arr .u8 zs)) w) := Lib.hid (by intro w; rw [hzs]; exact zero_b64 w)
  have HLzs : Hid (zs.length = 64) := Lib.hid (by rw [hzs]; rfl)
  obtain ⟨zt, hzt⟩ : ∃ zs : List Int, zs = List.replicate 64 0 := ⟨_, rfl⟩
  have HZzt : Hid (∀ w, (zeroValue 107).run Tryd.prog w = .ok (.agg (arr .i64 zt)) w) := Lib.hid (by intro w; rw [hzt]; exact zero_i64 w)
  have HZS : Hid (zs = nar (List.replicate 64 0)) := Lib.hid (by rw [hzs, nar_zeros])
  have HZT : Hid (zt = nar (List.replicate 64 0)) := Lib.hid (by rw [hzt, nar_zeros])
  have HS0 := Lib.hid (Blk.four w (arr .u8 x0) (arr .u8 y0) (arr .u8 zn) (arr .i64 zt) 23 23 23 107)
  have hg0 : ∀ k, (List.replicate 64 (0 : Nat)).getD k 0 = 0 := fun k => by simp only [List.getD, List.getElem?_replicate]; split <;> rfl
  have HG0 := Lib.hid hg0
  clear hzn hzs hzt hred hx0 hy0 hxs hys hro hso hT ha hb hg0 hab hp64
  go_enter Tryd.func40, Tryd.ntmps40
  go_wp2_with (first | ((with_reducible refine aS 4 ?_); refine wpList_alloc_row rfl 23 rfl _ (HZzn.out _) ?_) | ((with_reducible refine aS 5 ?_); refine wpList_alloc_row rfl 107 rfl _ (HZzt.out _) ?_))
  go_loopw [6] (fun v wr => ∃ i : Nat, i ≤ 32 ∧ v = .int .i64 i ∧ ∃ ts : List Nat, ts.length = 64 ∧ (∀ n, ts.getD n 0 ≤ 65025 * i) ∧ val 256 ts = val 256 (xs.take i) * b ∧ Blk w wr [(w.heap.size, arr .u8 x0, 23), (w.heap.size + 1, arr .u8 y0, 23), (w.heap.size + 1 + 1, arr .u8 zn, 23), (w.heap.size + 1 + 1 + 1, arr .i64 (nar ts), 107)]) (fun v _ => 32 - (intOf v).toNat)
  case atStart => exact ⟨0, Nat.zero_le _, rfl, List.replicate 64 0, by simp, (fun n => by rw [HG0.out n]; omega), (by rw [val_zeros, List.take_zero]; simp [val]), by rw [← HZT.out]; exact HS0.out⟩
  clear HS0
  case round =>
  obtain ⟨i, hi, rfl, ts, tl, tb0, tv, hB⟩ := hrel
  by_cases hlt : i < 32
  · have HB := Lib.hid hB
    have HTL := Lib.hid tl
    have HTB := Lib.hid tb0
    have HTV := Lib.hid tv
    clear hB tl tb0 tv
    go_wp2_with fail
    generalize Value.bool (decide ((i : Int) < 32)) = ub'
    go_loopw [7] (fun v wr => ∃ k : Nat, k ≤ 32 ∧ v = .int .i64 k ∧ ∃ us : List Nat, us.length = 64 ∧ (∀ n, us.getD n 0 ≤ 65025 * (i + if i ≤ n ∧ n < i + k then 1 else 0)) ∧ val 256 us = val 256 (xs.take i) * b + 256 ^ i * xs.getD i 0 * val 256 (ys.take k) ∧ Blk w wr [(w.heap.size, arr .u8 x0, 23), (w.heap.size + 1, arr .u8 y0, 23), (w.heap.size + 1 + 1, arr .u8 zn, 23), (w.heap.size + 1 + 1 + 1, arr .i64 (nar us), 107)]) (fun v _ => 32 - (intOf v).toNat)
    case atStart => exact ⟨0, Nat.zero_le _, rfl, ts, HTL.out, (by intro n; rw [if_neg (by omega)]; exact HTB.out n), (by rw [HTV.out, List.take_zero]; simp [val]), HB.out⟩
    case round =>
      obtain ⟨k, hk, rfl, us, ul, ub, uv, hU⟩ := hrel
      by_cases hlk : k < 32
      · have q0 := arr_get' (hU.get 0 rfl) i (by rw [X0L.out]; exact hlt)
        have q1 := arr_get' (hU.get 1 rfl) k (by rw [Y0L.out]; exact hlk)
        have q2 := arr_get' (hU.get 3 rfl) (i + k) (by rw [nar_len, ul]; omega)
        have q3 := free_blk (hU.get 3 rfl) (i + k)
        rw [X0G.out] at q0
        rw [Y0G.out] at q1
        rw [nar_get] at q2
        have pb := mulq_bound xs ys us i k XB.out YB.out (by omega) ub
        have ps := mulq_step xs ys us i k b (by rw [YL.out]; exact hlk) (by omega) uv
        have ub0 := ub (i + k)
        rw [if_neg (by omega)] at ub0
        have x1 := lt_getD XB.out (by decide) i
        have y1 := lt_getD YB.out (by decide) k
        have hp : xs.getD i 0 * ys.getD k 0 ≤ 255 * 255 := Nat.mul_le_mul (by omega) (by omega)
        have HPB := Lib.hid pb
        have HPS := Lib.hid ps
        obtain ⟨vs, hvs⟩ : ∃ vs, vs = us.set (i + k) (us.getD (i + k) 0 + xs.getD i 0 * ys.getD k 0) := ⟨_, rfl⟩
        have HPL : Hid (vs.length = 64) := Lib.hid (by rw [hvs, List.length_set, ul])
        rw [← hvs] at HPB HPS
        have hpi : ((xs.getD i 0 * ys.getD k 0 : Nat) : Int) = (xs.getD i 0 : Int) * (ys.getD k 0 : Int) := Int.natCast_mul _ _
        have hb1 := hU.cell 3 rfl (i + k) (.int .i64 ((us.getD (i + k) 0 : Int) + (xs.getD i 0 : Int) * (ys.getD k 0 : Int)))
        have e2 : (arr .i64 (nar us)).setIfInBounds (i + k) (.int .i64 ((us.getD (i + k) 0 : Int) + (xs.getD i 0 : Int) * (ys.getD k 0 : Int))) = arr .i64 (nar vs) := by rw [← hpi, ← Int.natCast_add, arr_set, ← nar_set, hvs]
        have HU1 := Lib.hid (hb1.cast (l' := [(w.heap.size, arr .u8 x0, 23), (w.heap.size + 1, arr .u8 y0, 23), (w.heap.size + 1 + 1, arr .u8 zn, 23), (w.heap.size + 1 + 1 + 1, arr .i64 (nar vs), 107)]) (by rw [← e2]; rfl))
        clear hb1 e2 hvs hU ul ub uv pb ps
        generalize us.getD (i + k) 0 = u at q2 ub0 HU1
        generalize xs.getD i 0 = x at q0 hp hpi HPS HU1 x1
        generalize ys.getD k 0 = y at q1 hp hpi HU1 y1
        have hr1 : 0 ≤ (x : Int) * (y : Int) ∧ (x : Int) * (y : Int) ≤ 65025 := by rw [← hpi]; omega
        clear hp hpi
        go_wp2_with fail
        go_region
        go_wp2_with fail
        go_roundw
        case rel => exact ⟨k + 1, by omega, by go_num, vs, HPL.out, HPB.out, HPS.out, HU1.out.drew⟩
        case measure => simp [intOf]; omega
      · obtain rfl : k = 32 := by omega
        rw [List.take_of_length_le (Nat.le_of_eq YL.out), YV.out] at uv
        have HU := Lib.hid hU
        have HUL := Lib.hid ul
        have HUB : Hid (∀ n, us.getD n 0 ≤ 65025 * (i + 1)) := Lib.hid (by
          intro n
          have := ub n
          by_cases e : i ≤ n ∧ n < i + 32
          · rw [if_pos e] at this; omega
          · rw [if_neg e] at this; omega)
        have HUV : Hid (val 256 us = val 256 (xs.take (i + 1)) * b) := Lib.hid (by rw [uv, val_take_succ 256 xs i (by rw [XL.out]; exact hlt), Nat.add_mul])
        clear hU ul ub uv HB HTL HTB HTV
        go_wp2_with fail
        go_roundw
        case rel => exact ⟨i + 1, by omega, by go_num, us, HUL.out, HUB.out, HUV.out, HU.out⟩
        case measure => simp [intOf]; omega
  · obtain rfl : i = 32 := by omega
    rw [List.take_of_length_le (Nat.le_of_eq XL.out), XV.out] at tv
    have HB := Lib.hid (hB.alloc (arr .u8 zs) 29)
    have HTL := Lib.hid tl
    have HTB := Lib.hid tb0
    have HTV := Lib.hid tv
    clear hB tl tb0 tv
    go_wp2_with (first | ((with_reducible refine aS 8 ?_); refine wpList_alloc_row rfl 29 rfl _ (HZzs.out _) ?_))
    generalize wr.heap.size = gs at HB ⊢
    go_loopw [9, 10] (fun cv jv wq => ∃ (j c : Nat) (ss : List Nat), j ≤ 64 ∧ jv = .int .i64 j ∧ cv = .int .i64 c ∧ c ≤ 10000 ∧ ss.length = 64 ∧ (∀ x ∈ ss, x < 256) ∧ val 256 (ss.take j) + 256 ^ j * c = val 256 (ts.take j) ∧ Blk w wq [(w.heap.size, arr .u8 x0, 23), (w.heap.size + 1, arr .u8 y0, 23), (w.heap.size + 1 + 1, arr .u8 zn, 23), (w.heap.size + 1 + 1 + 1, arr .i64 (nar ts), 107), (gs, arr .u8 (nar ss), 29)]) (fun _ jv _ => 64 - (intOf jv).toNat)
    case atStart => exact ⟨0, 0, List.replicate 64 0, Nat.zero_le _, rfl, rfl, Nat.zero_le _, by simp, by simp, by simp [val], by rw [← HZS.out]; exact HB.out⟩
    case round =>
      obtain ⟨j, c, ss, hj, rfl, rfl, hc, hsl, hsb, hv, hQ⟩ := hrel
      by_cases hlj : j < 64
      · have q0 := arr_get' (hQ.get 3 rfl) j (by rw [nar_len, HTL.out]; exact hlj)
        have q2 := arr_get' (hQ.get 4 rfl) j (by rw [nar_len, hsl]; exact hlj)
        have q3 := free_blk (hQ.get 4 rfl) j
        rw [nar_get] at q0
        have t1 := HTB.out j
        have st := fun s c' hs => carry_step j _ c _ (ts.getD j 0) s c' hv hs
        have vm := fun s => val_take_set 256 ss j s (by omega)
        rw [← val_take_succ 256 ts j (by rw [HTL.out]; exact hlj)] at st
        generalize ts.getD j 0 = t at q0 t1 st
        have hst := st ((c + t) % 256) ((c + t) / 256) (by omega)
        rw [← vm] at hst
        have ha := and255i (c + t) (by omega)
        rw [Int.natCast_add] at ha
        have hb1 := hQ.cell 4 rfl j (.int .u8 (bits .and .i64 ((c : Int) + (t : Int)) 255 % 256))
        have e2 : (arr .u8 (nar ss)).setIfInBounds j (.int .u8 (bits .and .i64 ((c : Int) + (t : Int)) 255 % 256)) = arr .u8 (nar (ss.set j ((c + t) % 256))) := by rw [ha, show ((((c + t) % 256 : Nat) : Int) % 256) = (((c + t) % 256 : Nat) : Int) by omega, arr_set, ← nar_set]
        have HQ1 := Lib.hid (hb1.cast (l' := [(w.heap.size, arr .u8 x0, 23), (w.heap.size + 1, arr .u8 y0, 23), (w.heap.size + 1 + 1, arr .u8 zn, 23), (w.heap.size + 1 + 1 + 1, arr .i64 (nar ts), 107), (gs, arr .u8 (nar (ss.set j ((c + t) % 256))), 29)]) (by rw [← e2]; rfl))
        have HST := Lib.hid hst
        have HSL : Hid ((ss.set j ((c + t) % 256)).length = 64) := Lib.hid (by rw [List.length_set, hsl])
        have HSB : Hid (∀ z ∈ ss.set j ((c + t) % 256), z < 256) := Lib.hid (lt_set hsb j ((c + t) % 256) (Nat.mod_lt _ (by decide)))
        clear hb1 e2 hst st vm hQ hsl hsb hv ha
        go_wp2_with fail
        go_roundw
        case rel => exact ⟨j + 1, (c + t) / 256, _, by omega, by go_num, by go_num, by omega, HSL.out, HSB.out, HST.out, HQ1.out⟩
        case measure => simp [intOf]; omega
      · obtain rfl : j = 64 := by omega
        rw [List.take_of_length_le (Nat.le_of_eq hsl), List.take_of_length_le (Nat.le_of_eq HTL.out), HTV.out] at hv
        have hab := HAB.out
        have hc0 : c = 0 := by
          rcases Nat.eq_zero_or_pos c with h | h
          · exact h
          · have : 256 ^ 64 * 1 ≤ 256 ^ 64 * c := Nat.mul_le_mul_left _ h
            omega
        subst hc0
        rw [Nat.mul_zero, Nat.add_zero] at hv
        have hd := dig_eq 256 (by decide) 64 (a * b) ss hsl hsb hv
        rw [hd, ← HSO.out] at hQ
        have HQ := Lib.hid hQ
        clear hQ hv hab hd hsl hsb hc HB
        go_wp2_with (first | ((with_reducible show Calls _ 80 _ _ _); go_at_call 80; refine (HRED.out _ (src_arr' (HQ.out.get 4 rfl) 64 HS64.out) (HT.out.below HQ.out.below)).mono ?_; rintro e w6 ⟨rfl, hb6⟩; have HB6 := Lib.hid (HQ.out.kept hb6); clear hb6) | ((with_reducible refine aT 4 ?_); refine wpList_store_whole rfl 23 _ _ rfl (w.heap.size + 1 + 1) _ _ 23 (HB6.out.get 2 rfl) rfl rfl (arr_len2 _ _ HROL.out HLzn.out) (num_s HROL.out) (all_arr _ _) ?_; intro w7 hb7 hk7 hz7; have HB7 := Lib.hid (HB6.out.put 2 rfl hk7 hb7); clear hb7 hk7 hz7))
        (try simp only [Exit.inBlock, Exit.then])
        refine bodyPost_ret (results_cell_row rfl _ _ (w.heap.size + 1 + 1) 23 _ (0, 0) _ rfl (HB7.out.get 2 rfl) Tryd.underlying23 rfl (num_s HROL.out)) rfl ?_
        exact ⟨rfl, HB7.out.below⟩
end Go.Proofs.YtanjhngehfbpbaaDoor.Rd
