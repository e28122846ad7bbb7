/- The document's times: what it answers. Condition: 17 places, those of the one below 2^20, those of the other below 256. -/
import Derived.Test.YtdaaigodpglnnaaPorA
import Derived.BigRegion
namespace Go.Proofs.Ytdaaigodpglnnaa.Po
open Go.RowKit Lm

theorem conv_part (h r : Nat → Nat) (i j : Nat) (hh : ∀ j, j < 17 → h j < 2 ^ 20) (hr : ∀ j, j < 17 → r j < 256) (hi : i < 17) (hj : j ≤ 17) : sm j (fun j => h j * rot r j i) ≤ 17 * (2 ^ 20 * (320 * 256)) :=
  Nat.le_trans (sm_le j (2 ^ 20 * (320 * 256)) _ (fun j' hj' => by
    refine Nat.mul_le_mul (Nat.le_of_lt (hh j' (by omega))) ?_
    unfold rot
    split
    · have := hr (i - j') (by omega); omega
    · have := hr (i + 17 - j') (by omega); omega)) (Nat.mul_le_mul hj (Nat.le_refl _))

set_option maxRecDepth 100000 in
set_option maxHeartbeats 2000000 in
theorem times_any (hs rs : List Nat) (w : World) (hl : hs.length = 17) (rl : rs.length = 17) (hb : ∀ x ∈ hs, x < 2 ^ 20) (rb : ∀ x ∈ rs, x < 256) :
    Calls Try.prog 72 #[.agg (arr .i64 (nar hs)), .agg (arr .i64 (nar rs))] w fun e w' => (∃ v, e = .returned (.agg (arr .i64 (nar (pk v)))) ∧ v < 2 ^ 131 ∧ fold v % (2 ^ 130 - 5) = val 256 hs * val 256 rs % (2 ^ 130 - 5)) ∧ Below w.heap.size w w' := by
  obtain ⟨zs, hzs⟩ : ∃ zs : List Nat, zs = List.replicate 17 0 := ⟨_, rfl⟩
  have hz : ∀ w, (zeroValue 102).run Try.prog w = .ok (.agg (arr .i64 (nar zs))) w := by intro w; rw [hzs, nar_zeros]; exact zero17 w
  have hzl : zs.length = 17 := by rw [hzs]; rfl
  obtain ⟨h, hh⟩ : ∃ h : Nat → Nat, h = fun i => hs.getD i 0 := ⟨_, rfl⟩
  obtain ⟨r, hr⟩ : ∃ r : Nat → Nat, r = fun i => rs.getD i 0 := ⟨_, rfl⟩
  have hh1 : ∀ j, j < 17 → h j < 2 ^ 20 := fun j _ => by rw [hh]; exact lt_getD hb (by decide) j
  have hr1 : ∀ j, j < 17 → r j < 256 := fun j _ => by rw [hr]; exact lt_getD rb (by decide) j
  have hgh : ∀ j, hs.getD j 0 = h j := fun j => by rw [hh]
  have hgr : ∀ j, rs.getD j 0 = r j := fun j => by rw [hr]
  have hC := fun w => carried_any (tabl 17 (conv h r)) w (tabl_len _ _) (tabl_lt _ _ _ (fun i hi => conv_lt h r i hh1 hr1 hi))
  have hcm : val 256 (tabl 17 (conv h r)) % (2 ^ 130 - 5) = val 256 hs * val 256 rs % (2 ^ 130 - 5) := by
    rw [conv_mod, hh, hr, ← tabl_of 17 hs hl, ← tabl_of 17 rs rl]
  have hcl := val17 _ (tabl_len 17 (conv h r)) (tabl_lt _ _ _ (fun i hi => conv_lt h r i hh1 hr1 hi))
  obtain ⟨v, hv⟩ : ∃ v, v = fold (fold (val 256 (tabl 17 (conv h r)))) := ⟨_, rfl⟩
  have hv1 : v < 2 ^ 131 := by rw [hv]; have := (fold_lt3 _ (fold_lt2 _ hcl)).1; omega
  have hv2 : fold v % (2 ^ 130 - 5) = val 256 hs * val 256 rs % (2 ^ 130 - 5) := by rw [fold_mod, hv, fold_mod, fold_mod, hcm]
  rw [← hv] at hC
  have hup : upto (conv h r) 17 17 = tabl 17 (conv h r) := upto_all _ _
  rw [← hup] at hC
  have S0 := B4.start w (arr .i64 (nar hs)) (arr .i64 (nar rs)) (arr .i64 (nar zs)) (arr .i64 (nar zs)) 102 102 102 102
  have hz0 : zs = upto (conv h r) 17 0 := by rw [upto_zero, hzs]
  obtain ⟨fv, hfv⟩ : ∃ fv, fv = pk v := ⟨_, rfl⟩
  have hfl : fv.length = 17 := by rw [hfv, pk_len]
  rw [← hfv] at hC
  have HS0 := Lib.hid S0
  have HZ := Lib.hid hz
  have HZL := Lib.hid hzl
  have HZ0 := Lib.hid hz0
  have HL := Lib.hid hl
  have RL := Lib.hid rl
  have HH := Lib.hid hh1
  have HR := Lib.hid hr1
  have GH := Lib.hid hgh
  have GR := Lib.hid hgr
  have HC := Lib.hid hC
  have HV2 := Lib.hid hv2
  have HFV := Lib.hid hfv
  have HFL := Lib.hid hfl
  clear S0 hz hzl hz0 hl rl hh1 hr1 hgh hgr hC hcm hcl hv hv2 hup hzs hh hr hb rb hfv hfl
  go_enter Try.func72, Try.ntmps72
  go_wp2_with (first | ((with_reducible show wpList _ _ _ (Oper.mk (some 4) _ _ _ _ _ :: _) _ _); refine wpList_alloc_row rfl 102 rfl _ (HZ.out _) ?_) | ((with_reducible show wpList _ _ _ (Oper.mk (some 5) _ _ _ _ _ :: _) _ _); refine wpList_alloc_row rfl 102 rfl _ (HZ.out _) ?_))
  go_loopw [6] (fun iv wr => ∃ i : Nat, i ≤ 17 ∧ iv = .int .i64 i ∧ B4 w wr (arr .i64 (nar hs)) (arr .i64 (nar rs)) (arr .i64 (nar zs)) (arr .i64 (nar (upto (conv h r) 17 i))) 102 102 102 102) (fun iv _ => 17 - (intOf iv).toNat)
  case atStart => exact ⟨0, Nat.zero_le _, rfl, by rw [← HZ0.out]; exact HS0.out⟩
  clear HS0
  case round =>
  obtain ⟨i, hi, rfl, hB⟩ := hrel
  by_cases hlt : i < 17
  · have HB := Lib.hid hB
    clear hB
    go_wp2_with fail
    generalize Value.bool (decide ((i : Int) < 17)) = u11'
    go_loopw [7, 8] (fun uv jv wr => ∃ j u : Nat, j ≤ i + 1 ∧ jv = .int .i64 j ∧ uv = .int .i64 u ∧ u = sm j (fun j => h j * rot r j i) ∧ B4 w wr (arr .i64 (nar hs)) (arr .i64 (nar rs)) (arr .i64 (nar zs)) (arr .i64 (nar (upto (conv h r) 17 i))) 102 102 102 102) (fun _ jv _ => i + 1 - (intOf jv).toNat)
    case atStart => exact ⟨0, 0, Nat.zero_le _, rfl, rfl, rfl, HB.out⟩
    case round =>
      obtain ⟨j, u, hj, rfl, rfl, hu, hB⟩ := hrel
      by_cases hlj : j ≤ i
      · have q0 := blk_arr' hB.b0 j (by rw [nar_len, HL.out]; omega)
        have q1 := blk_arr' hB.b1 (i - j) (by rw [nar_len, RL.out]; omega)
        rw [nar_get, GH.out] at q0
        rw [nar_get, GR.out] at q1
        have hub := conv_part h r i j HH.out HR.out hlt (by omega)
        rw [← hu] at hub
        have hst : u + h j * r (i - j) = sm (j + 1) (fun j => h j * rot r j i) := by
          rw [sm, ← hu]
          congr 2
          unfold rot
          rw [if_pos hlj]
        have hx := HH.out j (by omega)
        have hy := HR.out (i - j) (by omega)
        have hxy : h j * r (i - j) ≤ 2 ^ 20 * 256 := Nat.mul_le_mul (Nat.le_of_lt hx) (Nat.le_of_lt hy)
        generalize h j = x at q0 hst hx hxy
        generalize r (i - j) = y at q1 hst hy hxy
        obtain ⟨z, hz⟩ : ∃ z, z = x * y := ⟨_, rfl⟩
        have hm : (x : Int) * (y : Int) = (z : Int) := by rw [hz, Int.natCast_mul]
        rw [← hz] at hst hxy
        have j1 : IntKind.i64.wrap ((i : Int) - (j : Int)) = (i : Int) - (j : Int) := IntWalk.i64_in _ (by omega)
        have n1 : ((i : Int) - (j : Int)).toNat = i - j := by omega
        have p1 : 0 ≤ (i : Int) - (j : Int) := by omega
        have p2 : (i : Int) - (j : Int) < 17 := by omega
        have HB1 := Lib.hid hB
        have HST := Lib.hid hst
        clear hB hu hst hz
        go_wp2_with fail
        go_region
        clear j1 n1 p1 p2 hm q0 q1
        go_wp2_with fail
        go_roundw
        case rel => exact ⟨j + 1, u + z, by omega, by go_num, by go_num, HST.out, HB1.out.drew⟩
        case measure => simp [intOf]; omega
      · have ej : j = i + 1 := by omega
        rw [ej] at hu
        have HU := Lib.hid hu
        have HB1 := Lib.hid hB
        clear hu hB
        go_wp2_with fail
        generalize Value.bool (decide ((j : Int) ≤ i)) = u16'
        go_loopw [7, 9] (fun uv jv wr => ∃ j u : Nat, i + 1 ≤ j ∧ j ≤ 17 ∧ jv = .int .i64 j ∧ uv = .int .i64 u ∧ u = sm j (fun j => h j * rot r j i) ∧ B4 w wr (arr .i64 (nar hs)) (arr .i64 (nar rs)) (arr .i64 (nar zs)) (arr .i64 (nar (upto (conv h r) 17 i))) 102 102 102 102) (fun _ jv _ => 17 - (intOf jv).toNat)
        case atStart => exact ⟨i + 1, u, by omega, by omega, by go_num, rfl, HU.out, HB1.out⟩
        case round =>
          obtain ⟨j, u, hj0, hj, rfl, rfl, hu, hB⟩ := hrel
          by_cases hlj : j < 17
          · have q0 := blk_arr' hB.b0 j (by rw [nar_len, HL.out]; omega)
            have q1 := blk_arr' hB.b1 (i + 17 - j) (by rw [nar_len, RL.out]; omega)
            rw [nar_get, GH.out] at q0
            rw [nar_get, GR.out] at q1
            have hub := conv_part h r i j HH.out HR.out hlt (by omega)
            rw [← hu] at hub
            have hst : u + h j * (320 * r (i + 17 - j)) = sm (j + 1) (fun j => h j * rot r j i) := by
              rw [sm, ← hu]
              congr 2
              unfold rot
              rw [if_neg (by omega)]
            have hx := HH.out j (by omega)
            have hy := HR.out (i + 17 - j) (by omega)
            have hxy : h j * (320 * r (i + 17 - j)) ≤ 2 ^ 20 * (320 * 256) := Nat.mul_le_mul (Nat.le_of_lt hx) (by omega)
            generalize h j = x at q0 hst hx hxy
            generalize r (i + 17 - j) = y at q1 hst hy hxy
            obtain ⟨z, hz⟩ : ∃ z, z = x * (320 * y) := ⟨_, rfl⟩
            have hm : 320 * (x : Int) * (y : Int) = (z : Int) := by rw [hz, Int.natCast_mul, Int.natCast_mul, Int.mul_comm 320, Int.mul_assoc]; rfl
            rw [← hz] at hst hxy
            have j0 : IntKind.i64.wrap ((i : Int) + 17) = (i : Int) + 17 := IntWalk.i64_in _ (by omega)
            have j1 : IntKind.i64.wrap ((i : Int) + 17 - (j : Int)) = (i : Int) + 17 - (j : Int) := IntWalk.i64_in _ (by omega)
            have n1 : ((i : Int) + 17 - (j : Int)).toNat = i + 17 - j := by omega
            have p1 : 0 ≤ (i : Int) + 17 - (j : Int) := by omega
            have p2 : (i : Int) + 17 - (j : Int) < 17 := by omega
            have HB2 := Lib.hid hB
            have HST := Lib.hid hst
            clear hB hu hst hz
            go_wp2_with fail
            go_region
            clear j0 j1 n1 p1 p2 hm q0 q1
            go_wp2_with fail
            go_roundw
            case rel => exact ⟨j + 1, u + z, by omega, by omega, by go_num, by go_num, HST.out, HB2.out.drew⟩
            case measure => simp [intOf]; omega
          · have ej : j = 17 := by omega
            rw [ej] at hu
            have hb1 := hB.set3 i (.int .i64 ((u : Nat) : Int))
            have hu2 : u = conv h r i := hu
            rw [arr_set, ← nar_set, hu2, upto_set] at hb1
            rw [← hu2] at hb1
            have q2 := blk_arr' hB.b3 i (by rw [nar_len, upto_len]; omega)
            have q3 := free_blk hB.b3 i
            have HB2 := Lib.hid hb1
            clear hu hB hb1 ej hu2
            go_wp2_with fail
            go_roundw
            case rel => exact ⟨i + 1, by omega, by go_num, HB2.out⟩
            case measure => simp [intOf]; omega
  · have e4 : i = 17 := by omega
    rw [e4] at hB
    have HB := Lib.hid hB
    obtain ⟨cs, hcs⟩ : ∃ cs, cs = upto (conv h r) 17 17 := ⟨_, rfl⟩
    have HCL : Hid (cs.length = 17) := Lib.hid (by rw [hcs, upto_len])
    rw [← hcs] at HB HC
    clear hB e4 hcs
    go_wp2_with (first | ((with_reducible show wpList _ _ _ (Oper.mk (some 52) _ _ _ _ _ :: _) _ _); refine wpList_load_part rfl 102 _ rfl (w.heap.size + 1 + 1 + 1) 0 _ 102 (0, 0) _ HB.out.b3 rfl .i64 (nar cs) (arr_part _ _) Try.underlying102 rfl (nar17i cs HCL.out) ?_) | ((with_reducible show Calls _ _ _ _ _); go_at_call 75; refine (HC.out _).mono ?_; rintro e w5 ⟨rfl, hbw⟩; have HB5 := Lib.hid (HB.out.after hbw); clear hbw) | ((with_reducible show wpList _ _ _ (Oper.mk none _ _ _ _ _ :: _) _ _); refine wpList_store_whole rfl 102 _ _ rfl (w.heap.size + 1 + 1) _ _ 102 HB5.out.b2 rfl rfl ((nar17 fv HFL.out).trans (nar17 zs HZL.out).symm) (nar17s fv HFL.out) (all_arr _ _) ?_; intro w7 hb7 hk7 hz7; have HB7 := Lib.hid (HB5.out.put2 hk7 hb7); clear hb7 hk7 hz7))
    (try simp only [Exit.inBlock, Exit.then])
    refine bodyPost_ret (results_cell_row rfl _ _ (w.heap.size + 1 + 1) 102 _ (0, 0) _ rfl HB7.out.b2 Try.underlying102 rfl (nar17s fv HFL.out)) rfl ?_
    exact ⟨⟨v, by rw [HFV.out], hv1, HV2.out⟩, HB7.out.below⟩
end Go.Proofs.Ytdaaigodpglnnaa.Po
