/- The document's MulQ: what it answers. Condition: 32 bytes each; the table holds what its text lays. -/
import Derived.Test.YtjbgcbmgjdkpgaaDoorRsC
namespace Go.Proofs.YtjbgcbmgjdkpgaaDoor.Rd
open Go.RowKit Lm Sc

theorem zero_i64 (w : World) : (zeroValue 105).run Tryd.prog w = .ok (.agg (arr .i64 (List.replicate 64 0))) w := by kernel_rfl
theorem mulq_step (xs ys us : List Nat) (i k B : Nat) (hk : k < ys.length) (hl : i + k < us.length) (hv : val 256 us = val 256 (xs.take i) * B + 256 ^ i * xs.getD i 0 * val 256 (ys.take k)) :
    val 256 (us.set (i + k) (us.getD (i + k) 0 + xs.getD i 0 * ys.getD k 0)) = val 256 (xs.take i) * B + 256 ^ i * xs.getD i 0 * val 256 (ys.take (k + 1)) := by
  have h := val_set 256 us (i + k) (us.getD (i + k) 0 + xs.getD i 0 * ys.getD k 0) hl
  rw [val_take_succ _ _ _ hk, Nat.mul_add, ← Nat.add_assoc, ← hv]
  have e : 256 ^ (i + k) * (us.getD (i + k) 0 + xs.getD i 0 * ys.getD k 0) = 256 ^ (i + k) * us.getD (i + k) 0 + 256 ^ i * xs.getD i 0 * (256 ^ k * ys.getD k 0) := by
    rw [Nat.mul_add, Nat.pow_add]
    grind
  omega
theorem mulq_bound (xs ys us : List Nat) (i k : Nat) (hx : ∀ x ∈ xs, x < 256) (hy : ∀ x ∈ ys, x < 256) (hl : i + k < us.length) (hb : ∀ n, us.getD n 0 ≤ 65025 * (i + if i ≤ n ∧ n < i + k then 1 else 0)) :
    ∀ n, (us.set (i + k) (us.getD (i + k) 0 + xs.getD i 0 * ys.getD k 0)).getD n 0 ≤ 65025 * (i + if i ≤ n ∧ n < i + (k + 1) then 1 else 0) := by
  intro n
  have h1 := lt_getD hx (by decide) i
  have h2 := lt_getD hy (by decide) k
  have h3 : xs.getD i 0 * ys.getD k 0 ≤ 255 * 255 := Nat.mul_le_mul (by omega) (by omega)
  by_cases e : n = i + k
  · subst e
    have h := hb (i + k)
    have eg : (us.set (i + k) (us.getD (i + k) 0 + xs.getD i 0 * ys.getD k 0)).getD (i + k) 0 = us.getD (i + k) 0 + xs.getD i 0 * ys.getD k 0 := by simp [List.getD, hl]
    rw [eg]
    rw [if_neg (by omega)] at h
    rw [if_pos (by omega)]
    omega
  · have h := hb n
    have eg : (us.set (i + k) (us.getD (i + k) 0 + xs.getD i 0 * ys.getD k 0)).getD n 0 = us.getD n 0 := by
      simp only [List.getD]
      rw [List.getElem?_set_ne (fun e' => e e'.symm)]
    rw [eg]
    by_cases e2 : i ≤ n ∧ n < i + k
    · rw [if_pos e2] at h
      rw [if_pos (by omega)]
      exact h
    · rw [if_neg e2] at h
      rw [if_neg (by omega)]
      exact h
theorem mul_lt64 {a b : Nat} (ha : a < 256 ^ 32) (hb : b < 256 ^ 32) : a * b < 256 ^ 64 := by
  rw [show (64 : Nat) = 32 + 32 from rfl, Nat.pow_add]
  exact Nat.mul_lt_mul_of_lt_of_lt ha hb
theorem carry_step (k S c X t s c' : Nat) (h : S + 256 ^ k * c = X) (hs : s + 256 * c' = c + t) : (S + 256 ^ k * s) + 256 ^ (k + 1) * c' = X + 256 ^ k * t := by
  have e : 256 ^ k * (s + 256 * c') = 256 ^ k * (c + t) := by rw [hs]
  rw [Nat.pow_succ]
  grind

set_option maxRecDepth 100000 in
set_option maxHeartbeats 8000000 in
theorem mulq_any (a b : Nat) (w : World) (ha : a < 256 ^ 32) (hb : b < 256 ^ 32) (hT : TabQ w) :
    Calls Tryd.prog 40 #[.agg (arr .u8 (nar (dig 256 32 a))), .agg (arr .u8 (nar (dig 256 32 b)))] w fun e w' => e = .returned (.agg (arr .u8 (nar (dig 256 32 (a * b % q))))) ∧ Below w.heap.size w w' := by
  have hab := mul_lt64 ha hb
  have hp64 : ∀ V, V < 256 ^ 64 → V < 2 ^ 512 := fun V h => by rw [show (256 : Nat) = 2 ^ 8 from rfl, ← Nat.pow_mul, show 8 * 64 = 512 from rfl] at h; exact h
  have hred := fun w' ad cp (hs : Src w' ad 64 (nar (dig 256 64 (a * b)))) hT' => reduce_any ad cp (a * b) w' hs (hp64 _ hab) hT'
  obtain ⟨xs, hxs⟩ : ∃ r, r = dig 256 32 a := ⟨_, rfl⟩
  obtain ⟨ys, hys⟩ : ∃ r, r = dig 256 32 b := ⟨_, rfl⟩
  have XL : Hid (xs.length = 32) := Lib.hid (by rw [hxs, dig_len])
  have YL : Hid (ys.length = 32) := Lib.hid (by rw [hys, dig_len])
  have XB : Hid (∀ x ∈ xs, x < 256) := Lib.hid (by rw [hxs]; exact dig_lt 256 (by decide) _ _)
  have YB : Hid (∀ x ∈ ys, x < 256) := Lib.hid (by rw [hys]; exact dig_lt 256 (by decide) _ _)
  have XV : Hid (val 256 xs = a) := Lib.hid (by rw [hxs, val32 a ha])
  have YV : Hid (val 256 ys = b) := Lib.hid (by rw [hys, val32 b hb])
  have HAB := Lib.hid hab
  obtain ⟨x0, hx0⟩ : ∃ r, r = nar xs := ⟨_, rfl⟩
  obtain ⟨y0, hy0⟩ : ∃ r, r = nar ys := ⟨_, rfl⟩
  have X0L : Hid (x0.length = 32) := Lib.hid (by rw [hx0, nar_len, XL.out])
  have Y0L : Hid (y0.length = 32) := Lib.hid (by rw [hy0, nar_len, YL.out])
  have X0G : Hid (∀ k, x0.getD k 0 = ((xs.getD k 0 : Nat) : Int)) := Lib.hid (fun k => by rw [hx0, nar_get])
  have Y0G : Hid (∀ k, y0.getD k 0 = ((ys.getD k 0 : Nat) : Int)) := Lib.hid (fun k => by rw [hy0, nar_get])
  rw [← hxs, ← hys, ← hx0, ← hy0]
  obtain ⟨ro, hro⟩ : ∃ r, r = nar (dig 256 32 (a * b % q)) := ⟨_, rfl⟩
  have HROL : Hid (ro.length = 32) := Lib.hid (by rw [hro, nar_len, dig_len])
  rw [← hro] at hred ⊢
  obtain ⟨so, hso⟩ : ∃ r, r = nar (dig 256 64 (a * b)) := ⟨_, rfl⟩
  have HS64 : Hid (so.length = 64) := Lib.hid (by rw [hso, nar_len, dig_len])
  have HSO := Lib.hid hso
  rw [← hso] at hred
  have HRED : Hid (∀ (w' : World) {ad : Option Addr} {cp : Nat}, Src w' ad 64 so → TabQ w' → Calls Tryd.prog 80 #[.slice ad 64 cp] w' fun e w'' => e = .returned (.agg (arr .u8 ro)) ∧ Below w'.heap.size w' w'') := Lib.hid (fun w' ad cp h1 h2 => hred w' ad cp h1 h2)
  have HT := Lib.hid hT
  obtain ⟨zn, hzn⟩ : ∃ zs : List Int, zs = List.replicate 32 0 := ⟨_, rfl⟩
  have HZzn : Hid (∀ w, (zeroValue 23).run Tryd.prog w = .ok (.agg (arr .u8 zn)) w) := Lib.hid (by intro w; rw [hzn]; exact zero_num w)
  have HLzn : Hid (zn.length = 32) := Lib.hid (by rw [hzn]; rfl)
  obtain ⟨zs, hzs⟩ : ∃ zs : List Int, zs = List.replicate 64 0 := ⟨_, rfl⟩
  have HZzs : Hid (∀ w, (zeroValue 24).run Tryd.prog w = .ok (.agg (arr .u8 zs)) w) := Lib.hid (by intro w; rw [hzs]; exact zero_b64 w)
  have HLzs : Hid (zs.length = 64) := Lib.hid (by rw [hzs]; rfl)
  obtain ⟨zt, hzt⟩ : ∃ zs : List Int, zs = List.replicate 64 0 := ⟨_, rfl⟩
  have HZzt : Hid (∀ w, (zeroValue 105).run Tryd.prog w = .ok (.agg (arr .i64 zt)) w) := Lib.hid (by intro w; rw [hzt]; exact zero_i64 w)
  have HZS : Hid (zs = nar (List.replicate 64 0)) := Lib.hid (by rw [hzs, nar_zeros])
  have HZT : Hid (zt = nar (List.replicate 64 0)) := Lib.hid (by rw [hzt, nar_zeros])
  have HS0 := Lib.hid (Blk.four w (arr .u8 x0) (arr .u8 y0) (arr .u8 zn) (arr .i64 zt) 23 23 23 105)
  have hg0 : ∀ k, (List.replicate 64 (0 : Nat)).getD k 0 = 0 := fun k => by simp only [List.getD, List.getElem?_replicate]; split <;> rfl
  have HG0 := Lib.hid hg0
  clear hzn hzs hzt hred hx0 hy0 hxs hys hro hso hT ha hb hg0 hab hp64
  go_enter Tryd.func40, Tryd.ntmps40
  go_wp2_with (first | ((with_reducible refine aS 4 ?_); refine wpList_alloc_row rfl 23 rfl _ (HZzn.out _) ?_) | ((with_reducible refine aS 5 ?_); refine wpList_alloc_row rfl 105 rfl _ (HZzt.out _) ?_))
  go_loopw [6] (fun v wr => ∃ i : Nat, i ≤ 32 ∧ v = .int .i64 i ∧ ∃ ts : List Nat, ts.length = 64 ∧ (∀ n, ts.getD n 0 ≤ 65025 * i) ∧ val 256 ts = val 256 (xs.take i) * b ∧ Blk w wr [(w.heap.size, arr .u8 x0, 23), (w.heap.size + 1, arr .u8 y0, 23), (w.heap.size + 1 + 1, arr .u8 zn, 23), (w.heap.size + 1 + 1 + 1, arr .i64 (nar ts), 105)]) (fun v _ => 32 - (intOf v).toNat)
  case atStart => exact ⟨0, Nat.zero_le _, rfl, List.replicate 64 0, by simp, (fun n => by rw [HG0.out n]; omega), (by rw [val_zeros, List.take_zero]; simp [val]), by rw [← HZT.out]; exact HS0.out⟩
  clear HS0
  case round =>
  obtain ⟨i, hi, rfl, ts, tl, tb0, tv, hB⟩ := hrel
  by_cases hlt : i < 32
  · have HB := Lib.hid hB
    have HTL := Lib.hid tl
    have HTB := Lib.hid tb0
    have HTV := Lib.hid tv
    clear hB tl tb0 tv
    go_wp2_with fail
    generalize Value.bool (decide ((i : Int) < 32)) = ub'
    go_loopw [7] (fun v wr => ∃ k : Nat, k ≤ 32 ∧ v = .int .i64 k ∧ ∃ us : List Nat, us.length = 64 ∧ (∀ n, us.getD n 0 ≤ 65025 * (i + if i ≤ n ∧ n < i + k then 1 else 0)) ∧ val 256 us = val 256 (xs.take i) * b + 256 ^ i * xs.getD i 0 * val 256 (ys.take k) ∧ Blk w wr [(w.heap.size, arr .u8 x0, 23), (w.heap.size + 1, arr .u8 y0, 23), (w.heap.size + 1 + 1, arr .u8 zn, 23), (w.heap.size + 1 + 1 + 1, arr .i64 (nar us), 105)]) (fun v _ => 32 - (intOf v).toNat)
    case atStart => exact ⟨0, Nat.zero_le _, rfl, ts, HTL.out, (by intro n; rw [if_neg (by omega)]; exact HTB.out n), (by rw [HTV.out, List.take_zero]; simp [val]), HB.out⟩
    case round =>
      obtain ⟨k, hk, rfl, us, ul, ub, uv, hU⟩ := hrel
      by_cases hlk : k < 32
      · have q0 := arr_get' (hU.get 0 rfl) i (by rw [X0L.out]; exact hlt)
        have q1 := arr_get' (hU.get 1 rfl) k (by rw [Y0L.out]; exact hlk)
        have q2 := arr_get' (hU.get 3 rfl) (i + k) (by rw [nar_len, ul]; omega)
        have q3 := free_blk (hU.get 3 rfl) (i + k)
        rw [X0G.out] at q0
        rw [Y0G.out] at q1
        rw [nar_get] at q2
        have pb := mulq_bound xs ys us i k XB.out YB.out (by omega) ub
        have ps := mulq_step xs ys us i k b (by rw [YL.out]; exact hlk) (by omega) uv
        have ub0 := ub (i + k)
        rw [if_neg (by omega)] at ub0
        have x1 := lt_getD XB.out (by decide) i
        have y1 := lt_getD YB.out (by decide) k
        have hp : xs.getD i 0 * ys.getD k 0 ≤ 255 * 255 := Nat.mul_le_mul (by omega) (by omega)
        have HPB := Lib.hid pb
        have HPS := Lib.hid ps
        obtain ⟨vs, hvs⟩ : ∃ vs, vs = us.set (i + k) (us.getD (i + k) 0 + xs.getD i 0 * ys.getD k 0) := ⟨_, rfl⟩
        have HPL : Hid (vs.length = 64) := Lib.hid (by rw [hvs, List.length_set, ul])
        rw [← hvs] at HPB HPS
        have hpi : ((xs.getD i 0 * ys.getD k 0 : Nat) : Int) = (xs.getD i 0 : Int) * (ys.getD k 0 : Int) := Int.natCast_mul _ _
        have hb1 := hU.cell 3 rfl (i + k) (.int .i64 ((us.getD (i + k) 0 : Int) + (xs.getD i 0 : Int) * (ys.getD k 0 : Int)))
        have e2 : (arr .i64 (nar us)).setIfInBounds (i + k) (.int .i64 ((us.getD (i + k) 0 : Int) + (xs.getD i 0 : Int) * (ys.getD k 0 : Int))) = arr .i64 (nar vs) := by rw [← hpi, ← Int.natCast_add, arr_set, ← nar_set, hvs]
        have HU1 := Lib.hid (hb1.cast (l' := [(w.heap.size, arr .u8 x0, 23), (w.heap.size + 1, arr .u8 y0, 23), (w.heap.size + 1 + 1, arr .u8 zn, 23), (w.heap.size + 1 + 1 + 1, arr .i64 (nar vs), 105)]) (by rw [← e2]; rfl))
        clear hb1 e2 hvs hU ul ub uv pb ps
        generalize us.getD (i + k) 0 = u at q2 ub0 HU1
        generalize xs.getD i 0 = x at q0 hp hpi HPS HU1 x1
        generalize ys.getD k 0 = y at q1 hp hpi HU1 y1
        have hr1 : 0 ≤ (x : Int) * (y : Int) ∧ (x : Int) * (y : Int) ≤ 65025 := by rw [← hpi]; omega
        clear hp hpi
        go_wp2_with fail
        go_region
        go_wp2_with fail
        go_roundw
        case rel => exact ⟨k + 1, by omega, by go_num, vs, HPL.out, HPB.out, HPS.out, HU1.out.drew⟩
        case measure => simp [intOf]; omega
      · obtain rfl : k = 32 := by omega
        rw [List.take_of_length_le (Nat.le_of_eq YL.out), YV.out] at uv
        have HU := Lib.hid hU
        have HUL := Lib.hid ul
        have HUB : Hid (∀ n, us.getD n 0 ≤ 65025 * (i + 1)) := Lib.hid (by
          intro n
          have := ub n
          by_cases e : i ≤ n ∧ n < i + 32
          · rw [if_pos e] at this; omega
          · rw [if_neg e] at this; omega)
        have HUV : Hid (val 256 us = val 256 (xs.take (i + 1)) * b) := Lib.hid (by rw [uv, val_take_succ 256 xs i (by rw [XL.out]; exact hlt), Nat.add_mul])
        clear hU ul ub uv HB HTL HTB HTV
        go_wp2_with fail
        go_roundw
        case rel => exact ⟨i + 1, by omega, by go_num, us, HUL.out, HUB.out, HUV.out, HU.out⟩
        case measure => simp [intOf]; omega
  · obtain rfl : i = 32 := by omega
    rw [List.take_of_length_le (Nat.le_of_eq XL.out), XV.out] at tv
    have HB := Lib.hid (hB.alloc (arr .u8 zs) 24)
    have HTL := Lib.hid tl
    have HTB := Lib.hid tb0
    have HTV := Lib.hid tv
    clear hB tl tb0 tv
    go_wp2_with (first | ((with_reducible refine aS 8 ?_); refine wpList_alloc_row rfl 24 rfl _ (HZzs.out _) ?_))
    generalize wr.heap.size = gs at HB ⊢
    go_loopw [9, 10] (fun cv jv wq => ∃ (j c : Nat) (ss : List Nat), j ≤ 64 ∧ jv = .int .i64 j ∧ cv = .int .i64 c ∧ c ≤ 10000 ∧ ss.length = 64 ∧ (∀ x ∈ ss, x < 256) ∧ val 256 (ss.take j) + 256 ^ j * c = val 256 (ts.take j) ∧ Blk w wq [(w.heap.size, arr .u8 x0, 23), (w.heap.size + 1, arr .u8 y0, 23), (w.heap.size + 1 + 1, arr .u8 zn, 23), (w.heap.size + 1 + 1 + 1, arr .i64 (nar ts), 105), (gs, arr .u8 (nar ss), 24)]) (fun _ jv _ => 64 - (intOf jv).toNat)
    case atStart => exact ⟨0, 0, List.replicate 64 0, Nat.zero_le _, rfl, rfl, Nat.zero_le _, by simp, by simp, by simp [val], by rw [← HZS.out]; exact HB.out⟩
    case round =>
      obtain ⟨j, c, ss, hj, rfl, rfl, hc, hsl, hsb, hv, hQ⟩ := hrel
      by_cases hlj : j < 64
      · have q0 := arr_get' (hQ.get 3 rfl) j (by rw [nar_len, HTL.out]; exact hlj)
        have q2 := arr_get' (hQ.get 4 rfl) j (by rw [nar_len, hsl]; exact hlj)
        have q3 := free_blk (hQ.get 4 rfl) j
        rw [nar_get] at q0
        have t1 := HTB.out j
        have st := fun s c' hs => carry_step j _ c _ (ts.getD j 0) s c' hv hs
        have vm := fun s => val_take_set 256 ss j s (by omega)
        rw [← val_take_succ 256 ts j (by rw [HTL.out]; exact hlj)] at st
        generalize ts.getD j 0 = t at q0 t1 st
        have hst := st ((c + t) % 256) ((c + t) / 256) (by omega)
        rw [← vm] at hst
        have ha := and255i (c + t) (by omega)
        rw [Int.natCast_add] at ha
        have hb1 := hQ.cell 4 rfl j (.int .u8 (bits .and .i64 ((c : Int) + (t : Int)) 255 % 256))
        have e2 : (arr .u8 (nar ss)).setIfInBounds j (.int .u8 (bits .and .i64 ((c : Int) + (t : Int)) 255 % 256)) = arr .u8 (nar (ss.set j ((c + t) % 256))) := by rw [ha, show ((((c + t) % 256 : Nat) : Int) % 256) = (((c + t) % 256 : Nat) : Int) by omega, arr_set, ← nar_set]
        have HQ1 := Lib.hid (hb1.cast (l' := [(w.heap.size, arr .u8 x0, 23), (w.heap.size + 1, arr .u8 y0, 23), (w.heap.size + 1 + 1, arr .u8 zn, 23), (w.heap.size + 1 + 1 + 1, arr .i64 (nar ts), 105), (gs, arr .u8 (nar (ss.set j ((c + t) % 256))), 24)]) (by rw [← e2]; rfl))
        have HST := Lib.hid hst
        have HSL : Hid ((ss.set j ((c + t) % 256)).length = 64) := Lib.hid (by rw [List.length_set, hsl])
        have HSB : Hid (∀ z ∈ ss.set j ((c + t) % 256), z < 256) := Lib.hid (lt_set hsb j ((c + t) % 256) (Nat.mod_lt _ (by decide)))
        clear hb1 e2 hst st vm hQ hsl hsb hv ha
        go_wp2_with fail
        go_roundw
        case rel => exact ⟨j + 1, (c + t) / 256, _, by omega, by go_num, by go_num, by omega, HSL.out, HSB.out, HST.out, HQ1.out⟩
        case measure => simp [intOf]; omega
      · obtain rfl : j = 64 := by omega
        rw [List.take_of_length_le (Nat.le_of_eq hsl), List.take_of_length_le (Nat.le_of_eq HTL.out), HTV.out] at hv
        have hab := HAB.out
        have hc0 : c = 0 := by
          rcases Nat.eq_zero_or_pos c with h | h
          · exact h
          · have : 256 ^ 64 * 1 ≤ 256 ^ 64 * c := Nat.mul_le_mul_left _ h
            omega
        subst hc0
        rw [Nat.mul_zero, Nat.add_zero] at hv
        have hd := dig_eq 256 (by decide) 64 (a * b) ss hsl hsb hv
        rw [hd, ← HSO.out] at hQ
        have HQ := Lib.hid hQ
        clear hQ hv hab hd hsl hsb hc HB
        go_wp2_with (first | ((with_reducible show Calls _ 80 _ _ _); go_at_call 80; refine (HRED.out _ (src_arr' (HQ.out.get 4 rfl) 64 HS64.out) (HT.out.below HQ.out.below)).mono ?_; rintro e w6 ⟨rfl, hb6⟩; have HB6 := Lib.hid (HQ.out.kept hb6); clear hb6) | ((with_reducible refine aT 4 ?_); refine wpList_store_whole rfl 23 _ _ rfl (w.heap.size + 1 + 1) _ _ 23 (HB6.out.get 2 rfl) rfl rfl (arr_len2 _ _ HROL.out HLzn.out) (num_s HROL.out) (all_arr _ _) ?_; intro w7 hb7 hk7 hz7; have HB7 := Lib.hid (HB6.out.put 2 rfl hk7 hb7); clear hb7 hk7 hz7))
        (try simp only [Exit.inBlock, Exit.then])
        refine bodyPost_ret (results_cell_row rfl _ _ (w.heap.size + 1 + 1) 23 _ (0, 0) _ rfl (HB7.out.get 2 rfl) Tryd.underlying23 rfl (num_s HROL.out)) rfl ?_
        exact ⟨rfl, HB7.out.below⟩
end Go.Proofs.YtjbgcbmgjdkpgaaDoor.Rd
