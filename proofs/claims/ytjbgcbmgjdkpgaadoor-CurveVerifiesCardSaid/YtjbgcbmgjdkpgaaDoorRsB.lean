/- The document's Reduce: what it answers. Condition: 64 bytes; the table holds what its text lays. -/
import Derived.Test.YtjbgcbmgjdkpgaaDoorRsA
namespace Go.Proofs.YtjbgcbmgjdkpgaaDoor.Rd
open Go.RowKit Lm Sc

theorem and1i (y : Nat) (h : y < 9223372036854775808) : bits .and .i64 (y : Int) 1 = ((y % 2 : Nat) : Int) := by
  have e : y &&& 1 = y % 2 := Nat.and_two_pow_sub_one_eq_mod y 1
  have h1 : (BitVec.ofInt 64 (y : Int)).toNat = y := by rw [BitVec.ofInt_natCast, BitVec.toNat_ofNat]; exact Nat.mod_eq_of_lt (by omega)
  have h2 : (BitVec.ofInt 64 (1 : Int)).toNat = 1 := by decide
  show IntKind.i64.wrap ((BitVec.ofInt 64 (y : Int) &&& BitVec.ofInt 64 (1 : Int)).toNat : Int) = _
  rw [BitVec.toNat_and, h1, h2, e, IntKind.wrap_i64]
  omega
theorem and255i (x : Nat) (hx : x < 9223372036854775808) : bits .and .i64 (x : Int) 255 = ((x % 256 : Nat) : Int) := by
  have e : x &&& 255 = x % 256 := Nat.and_two_pow_sub_one_eq_mod x 8
  have h1 : (BitVec.ofInt 64 (x : Int)).toNat = x := by rw [BitVec.ofInt_natCast, BitVec.toNat_ofNat]; exact Nat.mod_eq_of_lt (by omega)
  have h2 : (BitVec.ofInt 64 (255 : Int)).toNat = 255 := by decide
  show IntKind.i64.wrap ((BitVec.ofInt 64 (x : Int) &&& BitVec.ofInt 64 (255 : Int)).toNat : Int) = _
  rw [BitVec.toNat_and, h1, h2, e, IntKind.wrap_i64]
  omega
theorem code_bit64 (V k : Nat) (hk : k < 512) : ∃ y : Nat, (nar (dig 256 64 V)).getD (k / 8) 0 = y ∧ y < 256 ∧ bits .and .i64 ((y : Int) / 2 ^ (k % 8)) 1 = ((V / 2 ^ k % 2 : Nat) : Int) := by
  refine ⟨V / 256 ^ (k / 8) % 256, by rw [nar_get, dig_get _ _ _ _ (by omega)], Nat.mod_lt _ (by decide), ?_⟩
  have e1 : ((V / 256 ^ (k / 8) % 256 : Nat) : Int) / 2 ^ (k % 8) = ((V / 256 ^ (k / 8) % 256 / 2 ^ (k % 8) : Nat) : Int) := by
    rw [Int.natCast_ediv, Int.natCast_pow]; rfl
  rw [e1, and1i _ (Nat.lt_of_le_of_lt (Nat.div_le_self _ _) (Nat.lt_trans (Nat.mod_lt _ (by decide)) (by decide))), bit_byte]
theorem dig33_zero : List.replicate 33 (0 : Int) = nar (dig 256 33 0) := by decide +kernel
def lows (N i : Nat) : List Int := tb 32 fun j => if j < i then ((N / 256 ^ j % 256 : Nat) : Int) else 0
theorem lows_zero (N : Nat) : List.replicate 32 0 = lows N 0 := by
  rw [tb_zero]
  exact tb_congr _ _ _ fun j _ => by rw [if_neg (by omega)]
theorem lows_step (N i : Nat) : (lows N i).set i ((N / 256 ^ i % 256 : Nat) : Int) = lows N (i + 1) := by
  rw [lows, tb_set]
  refine tb_congr _ _ _ fun j _ => ?_
  by_cases e : j = i
  · subst e; rw [if_pos rfl, if_pos (show j < j + 1 by omega)]
  · rw [if_neg e]
    by_cases e3 : j < i
    · rw [if_pos e3, if_pos (show j < i + 1 by omega)]
    · rw [if_neg e3, if_neg (show ¬ j < i + 1 by omega)]
theorem lows_all (N : Nat) : lows N 32 = nar (dig 256 32 N) := by
  rw [tb_of 32 (nar (dig 256 32 N)) (by rw [nar_len, dig_len])]
  exact tb_congr _ _ _ fun j hj => by rw [if_pos hj, nar_get, dig_get _ _ _ _ hj]
theorem dbl_lt (P b : Nat) (hP : P < q) (hb : b ≤ 1) : 2 * P + b < 256 ^ 33 := by
  have hq : 2 * q < 256 ^ 33 := by decide +kernel
  omega

set_option maxRecDepth 100000 in
set_option maxHeartbeats 8000000 in
theorem reduce_any (sa : Option Addr) (cp V : Nat) (w : World) (hs : Src w sa 64 (nar (dig 256 64 V))) (hV : V < 2 ^ 512) (hT : TabQ w) :
    Calls Tryd.prog 80 #[.slice sa 64 cp] w fun e w' => e = .returned (.agg (arr .u8 (nar (dig 256 32 (V % q))))) ∧ Below w.heap.size w w' := by
  obtain ⟨ad, rfl, -⟩ := hs.cell 0 (by decide)
  have hcell : ∀ i, i < 64 → w.cell? (ad.add i) = some (.int .u8 ((nar (dig 256 64 V)).getD i 0)) := fun i hi => by
    obtain ⟨a, h1, h2⟩ := hs.cell i hi
    cases h1
    exact h2
  have HCELL := Lib.hid hcell
  have HT := Lib.hid hT
  have HV := Lib.hid hV
  obtain ⟨ro, hro⟩ : ∃ r, r = nar (dig 256 32 (V % q)) := ⟨_, rfl⟩
  have HRO : Hid (lows (V % q) 32 = ro) := Lib.hid (by rw [hro]; exact lows_all _)
  have HROL : Hid (ro.length = 32) := Lib.hid (by rw [hro, nar_len, dig_len])
  rw [← hro]
  obtain ⟨zn, hzn⟩ : ∃ zs : List Int, zs = List.replicate 32 0 := ⟨_, rfl⟩
  have HZzn : Hid (∀ w, (zeroValue 23).run Tryd.prog w = .ok (.agg (arr .u8 zn)) w) := Lib.hid (by intro w; rw [hzn]; exact zero_num w)
  have HLzn : Hid (zn.length = 32) := Lib.hid (by rw [hzn]; rfl)
  obtain ⟨zr, hzr⟩ : ∃ zs : List Int, zs = List.replicate 33 0 := ⟨_, rfl⟩
  have HZzr : Hid (∀ w, (zeroValue 137).run Tryd.prog w = .ok (.agg (arr .i64 zr)) w) := Lib.hid (by intro w; rw [hzr]; exact zero_33 w)
  have HLzr : Hid (zr.length = 33) := Lib.hid (by rw [hzr]; rfl)
  have HZ0 : Hid (zr = nar (dig 256 33 0)) := Lib.hid (by rw [hzr]; exact dig33_zero)
  have HZN : Hid (zn = lows (V % q) 0) := Lib.hid (by rw [hzn]; exact lows_zero _)
  have HS0 := Lib.hid (Blk.two w (arr .u8 zn) (arr .i64 zr) 23 137)
  clear hzn hzr hs hcell hT hV hro
  go_enter Tryd.func80, Tryd.ntmps80
  go_upto_region 4 with (first | ((with_reducible refine aS 2 ?_); refine wpList_alloc_row rfl 23 rfl _ (HZzn.out _) ?_) | ((with_reducible refine aS 3 ?_); refine wpList_alloc_row rfl 137 rfl _ (HZzr.out _) ?_))
  (try simp only [World.size_alloc, Act.put, sA, sZ, sS])
  generalize w.heap.size + 1 = g3 at HS0 ⊢
  generalize ((w.alloc (.cells (arr .u8 zn) 23)).alloc (.cells (arr .i64 zr) 137)) = wb at HS0 ⊢
  go_wp2_with fail
  go_loopw [4] (fun v wr => ∃ n : Nat, n ≤ 512 ∧ v = .int .i64 (511 - (n : Int)) ∧ Blk w wr [(w.heap.size, arr .u8 zn, 23), (g3, arr .i64 (nar (dig 256 33 (upq V (512 - n)))), 137)]) (fun v _ => (intOf v + 1).toNat)
  case atStart => exact ⟨0, Nat.zero_le _, rfl, by rw [show 512 - 0 = 512 from rfl, upq_top V 512 HV.out, ← HZ0.out]; exact HS0.out⟩
  case round =>
  obtain ⟨n, hn, rfl, hB⟩ := hrel
  by_cases hlt : n < 512
  · obtain ⟨i, hi⟩ : ∃ i : Nat, i + n = 511 := ⟨511 - n, by omega⟩
    have hz : (511 : Int) - (n : Int) = (i : Int) := by omega
    have hi2 : i < 512 := by omega
    obtain ⟨y, hy, hy2, hbit⟩ := code_bit64 V i hi2
    have q0 := below_cell hB.below (HCELL.out (i / 8) (by omega))
    rw [hy] at q0
    rw [show 512 - n = i + 1 by omega] at hB
    rw [hz]
    have hps := fun m => upq_step V i m
    have hpl := upq_lt V (i + 1)
    generalize upq V (i + 1) = P at hB hps hpl
    have hbl : V / 2 ^ i % 2 ≤ 1 := by omega
    generalize V / 2 ^ i % 2 = b at hbit hps hbl
    obtain ⟨rs, hrs⟩ : ∃ r, r = dig 256 33 P := ⟨_, rfl⟩
    have hdl := dbl_lt P b hpl hbl
    have rl : rs.length = 33 := by rw [hrs, dig_len]
    have rb : ∀ x ∈ rs, x < 256 := by rw [hrs]; exact dig_lt 256 (by decide) _ _
    have rv : val 256 rs = P := by rw [hrs, val_dig]; exact Nat.mod_eq_of_lt (by omega)
    rw [← hrs] at hB
    have HB := Lib.hid hB
    have HI := Lib.hid hi
    have HPS := Lib.hid hps
    have HDL := Lib.hid hdl
    have RL := Lib.hid rl
    have RB := Lib.hid rb
    have RV := Lib.hid rv
    have q9 : 0 ≤ (i : Int) := by omega
    clear hB hy hz hi hps hpl hrs hdl rl rb rv
    go_wp2_with fail
    clear q0 hbit
    go_loopw [5, 6] (fun cv kv wr2 => ∃ (k c : Nat) (us : List Nat), k ≤ 33 ∧ kv = .int .i64 k ∧ cv = .int .i64 c ∧ c ≤ 1 ∧ us.length = 33 ∧ (∀ x ∈ us, x < 256) ∧ (∀ j, k ≤ j → us.getD j 0 = rs.getD j 0) ∧ val 256 (us.take k) + 256 ^ k * c = val 256 (rs.take k) + (val 256 (rs.take k) + b) ∧ Blk w wr2 [(w.heap.size, arr .u8 zn, 23), (g3, arr .i64 (nar us), 137)]) (fun _ kv _ => 33 - (intOf kv).toNat)
    case atStart => exact ⟨0, b, rs, Nat.zero_le _, rfl, rfl, hbl, RL.out, RB.out, (fun _ _ => rfl), by simp [val], HB.out⟩
    case round =>
      obtain ⟨k, c, us, hk, rfl, rfl, hc, hul, hub, hur, huv, hU⟩ := hrel
      by_cases hlk : k < 33
      · have q2 := arr_get' (hU.get 1 rfl) k (by rw [nar_len, hul]; exact hlk)
        have q3 := free_blk (hU.get 1 rfl) k
        rw [nar_get, hur k (Nat.le_refl _)] at q2
        have r1 := lt_getD RB.out (by decide) k
        have st := fun s c' hs => add_step 256 k _ _ _ (rs.getD k 0) (rs.getD k 0) c s c' huv hs
        have vm := fun s => val_take_set 256 us k s (by omega)
        have vr := val_take_succ 256 rs k (by rw [RL.out]; exact hlk)
        generalize rs.getD k 0 = r at q2 r1 st vr
        have hst := st ((2 * r + c) % 256) ((2 * r + c) / 256) (by omega)
        rw [← vm] at hst
        have hst2 : val 256 ((us.set k ((2 * r + c) % 256)).take (k + 1)) + 256 ^ (k + 1) * ((2 * r + c) / 256) = val 256 (rs.take (k + 1)) + (val 256 (rs.take (k + 1)) + b) := by rw [hst, vr]; omega
        have ha := and255i (2 * r + c) (by omega)
        rw [show ((2 * r + c : Nat) : Int) = 2 * (r : Int) + (c : Int) by omega] at ha
        have hb1 := hU.cell 1 rfl k (.int .i64 (bits .and .i64 (2 * (r : Int) + (c : Int)) 255))
        have e2 : (arr .i64 (nar us)).setIfInBounds k (.int .i64 (bits .and .i64 (2 * (r : Int) + (c : Int)) 255)) = arr .i64 (nar (us.set k ((2 * r + c) % 256))) := by rw [ha, arr_set, ← nar_set]
        have HU1 := Lib.hid (hb1.cast (l' := [(w.heap.size, arr .u8 zn, 23), (g3, arr .i64 (nar (us.set k ((2 * r + c) % 256))), 137)]) (by rw [← e2]; rfl))
        have HST := Lib.hid hst2
        have HUL : Hid ((us.set k ((2 * r + c) % 256)).length = 33) := Lib.hid (by rw [List.length_set, hul])
        have HUB : Hid (∀ x ∈ us.set k ((2 * r + c) % 256), x < 256) := Lib.hid (lt_set hub _ _ (by omega))
        have HUR : Hid (∀ j, k + 1 ≤ j → (us.set k ((2 * r + c) % 256)).getD j 0 = rs.getD j 0) := Lib.hid (by intro j hj; have e := hur j (by omega); simp only [List.getD] at e ⊢; rw [List.getElem?_set_ne (by omega)]; exact e)
        clear hb1 e2 hst hst2 st vm vr ha hU hul hub hur huv
        go_wp2_with fail
        go_roundw
        case rel => exact ⟨k + 1, (2 * r + c) / 256, _, by omega, by go_num, by go_num, by omega, HUL.out, HUB.out, HUR.out, HST.out, HU1.out⟩
        case measure => simp [intOf]; omega
      · obtain rfl : k = 33 := by omega
        rw [List.take_of_length_le (Nat.le_of_eq hul), List.take_of_length_le (Nat.le_of_eq RL.out), RV.out] at huv
        have hlv := val_lt 256 us hub
        rw [hul] at hlv
        have hdl := HDL.out
        have hc0 : c = 0 := by
          rcases (show c = 0 ∨ c = 1 by omega) with h | h
          · exact h
          · subst h; omega
        subst hc0
        have hdig := dig_eq 256 (by decide) 33 (2 * P + b) us hul hub (by omega)
        have hl := fun w h => less_any (2 * P + b) w hdl h
        rw [HPS.out _ rfl, ← hdig] at hl
        have hul' : (nar us).length = 33 := by rw [nar_len, hul]
        have HTb := Lib.hid (HT.out.below hU.below)
        obtain ⟨u0, hu0⟩ : ∃ x, x = nar us := ⟨_, rfl⟩
        rw [← hu0] at hU hl hul'
        obtain ⟨v0, hv0⟩ : ∃ x, x = nar (dig 256 33 (upq V i)) := ⟨_, rfl⟩
        rw [← hv0] at hl
        have HL := Lib.hid hl
        have HUL := Lib.hid hul'
        have HU := Lib.hid hU
        have HVL : Hid (v0.length = 33) := Lib.hid (by rw [hv0, nar_len, dig_len])
        have HV0 := Lib.hid hv0
        clear hU hul hub hur huv hlv hdl hc hdig hl hul' hu0 hv0 HB
        go_wp2_with (first | ((with_reducible refine aS 50 ?_); refine wpList_load_part rfl 137 _ rfl (g3) 0 _ 137 (0, 0) _ (HU.out.get 1 rfl) rfl .i64 u0 (arr_part _ _) Tryd.underlying137 rfl (t33_i HUL.out) ?_) | ((with_reducible show Calls _ 113 _ _ _); go_at_call 113; refine (HL.out _ HTb.out).mono ?_; rintro e w6 ⟨rfl, hb6⟩; have HU6 := Lib.hid (HU.out.kept hb6); clear hb6) | ((with_reducible refine aT 3 ?_); refine wpList_store_whole rfl 137 _ _ rfl (g3) _ _ 137 (HU6.out.get 1 rfl) rfl rfl (arr_len2 _ _ HVL.out HUL.out) (t33_s HVL.out) (all_arr _ _) ?_; intro w7 hb7 hk7 hz7; have HU7 := Lib.hid (HU6.out.put 1 rfl hk7 hb7); clear hb7 hk7 hz7))
        go_roundw
        case rel =>
          have e := HI.out
          exact ⟨n + 1, by omega, by congr 1; omega, by rw [show 512 - (n + 1) = i by omega, ← HV0.out]; exact HU7.out⟩
        case measure => simp [intOf]
  · obtain rfl : n = 512 := by omega
    rw [show 512 - 512 = 0 from rfl, upq_zero] at hB
    have hz : (511 : Int) - ((512 : Nat) : Int) = -1 := by omega
    rw [hz]
    have rl : (nar (dig 256 33 (V % q))).length = 33 := by rw [nar_len, dig_len]
    have rg : ∀ j, j < 32 → (nar (dig 256 33 (V % q))).getD j 0 = ((V % q / 256 ^ j % 256 : Nat) : Int) := fun j hj => by rw [nar_get, dig_get _ _ _ _ (by omega)]
    have HB := Lib.hid (hB.alloc (arr .u8 zn) 23)
    generalize nar (dig 256 33 (V % q)) = r0 at rl rg HB
    have RL := Lib.hid rl
    have RG := Lib.hid rg
    clear hz hB rl rg HS0
    go_wp2_with (first | ((with_reducible refine aS 8 ?_); refine wpList_alloc_row rfl 23 rfl _ (HZzn.out _) ?_))
    generalize wr.heap.size = gn at HB ⊢
    go_loopw [9] (fun v wq => ∃ j : Nat, j ≤ 32 ∧ v = .int .i64 j ∧ ∃ os : List Int, os = lows (V % q) j ∧ Blk w wq [(w.heap.size, arr .u8 zn, 23), (g3, arr .i64 r0, 137), (gn, arr .u8 os, 23)]) (fun v _ => 32 - (intOf v).toNat)
    case atStart => exact ⟨0, Nat.zero_le _, rfl, _, HZN.out, HB.out⟩
    case round =>
      obtain ⟨j, hj, rfl, os, hos, hQ⟩ := hrel
      have ol : os.length = 32 := by rw [hos]; exact tb_len _ _
      by_cases hlo : j < 32
      · have q0 := arr_get' (hQ.get 1 rfl) j (by rw [RL.out]; omega)
        have q2 := arr_get' (hQ.get 2 rfl) j (by rw [ol]; omega)
        have q3 := free_blk (hQ.get 2 rfl) j
        rw [RG.out j hlo] at q0
        have st := lows_step (V % q) j
        have hz2 : V % q / 256 ^ j % 256 < 256 := Nat.mod_lt _ (by decide)
        generalize V % q / 256 ^ j % 256 = z at q0 st hz2
        have hb1 := hQ.cell 2 rfl j (.int .u8 (z : Int))
        have e2 : (arr .u8 os).setIfInBounds j (.int .u8 (z : Int)) = arr .u8 (lows (V % q) (j + 1)) := by rw [arr_set, hos, st]
        have HQ1 := Lib.hid (hb1.cast (l' := [(w.heap.size, arr .u8 zn, 23), (g3, arr .i64 r0, 137), (gn, arr .u8 (lows (V % q) (j + 1)), 23)]) (by rw [← e2]; rfl))
        clear hb1 e2 hos hQ st ol
        go_wp2_with fail
        go_roundw
        case rel => exact ⟨j + 1, by omega, by go_num, _, rfl, HQ1.out⟩
        case measure => simp [intOf]; omega
      · obtain rfl : j = 32 := by omega
        rw [HRO.out] at hos
        subst hos
        have HQ := Lib.hid hQ
        have HOL := Lib.hid ol
        clear hQ ol HB
        go_wp2_with (first | ((with_reducible refine aS 62 ?_); refine wpList_load_part rfl 23 _ rfl (gn) 0 _ 23 (0, 0) _ (HQ.out.get 2 rfl) rfl .u8 os (arr_part _ _) Tryd.underlying23 rfl (num_i HOL.out) ?_) | ((with_reducible refine aT 2 ?_); refine wpList_store_whole rfl 23 _ _ rfl (w.heap.size) _ _ 23 (HQ.out.get 0 rfl) rfl rfl (arr_len2 _ _ HOL.out HLzn.out) (num_s HOL.out) (all_arr _ _) ?_; intro w8 hb8 hk8 hz8; have HQ8 := Lib.hid (HQ.out.put 0 rfl hk8 hb8); clear hb8 hk8 hz8))
        (try simp only [Exit.inBlock, Exit.then])
        refine bodyPost_ret (results_cell_row rfl _ _ (w.heap.size) 23 _ (0, 0) _ rfl (HQ8.out.get 0 rfl) Tryd.underlying23 rfl (num_s HOL.out)) rfl ?_
        exact ⟨rfl, HQ8.out.below⟩
end Go.Proofs.YtjbgcbmgjdkpgaaDoor.Rd
