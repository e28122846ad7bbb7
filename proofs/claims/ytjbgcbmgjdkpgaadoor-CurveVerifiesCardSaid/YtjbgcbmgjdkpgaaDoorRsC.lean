/- The document's AddQ: what it answers. Condition: 32 bytes each; the table holds what its text lays. -/
import Derived.Test.YtjbgcbmgjdkpgaaDoorRsB
namespace Go.Proofs.YtjbgcbmgjdkpgaaDoor.Rd
open Go.RowKit Lm Sc

theorem zero_b64 (w : World) : (zeroValue 24).run Tryd.prog w = .ok (.agg (arr .u8 (List.replicate 64 0))) w := by kernel_rfl
theorem src_arr' {w : World} {g : Nat} {xs : List Int} {t : TypeId} {fr : Nat × Nat} (h : w.heap[g]? = some (.cells (arr .u8 xs) t fr)) (m : Nat) (hm : xs.length = m) : Src w (some ⟨g, 0, none⟩) m xs :=
  src_row h (by rw [arr_toList, Nat.mul_one, List.take_of_length_le (by rw [List.length_map]; exact Nat.le_refl _)]) hm
theorem lt_pow {a b : Nat} (ha : a < 256 ^ 32) (hb : b < 256 ^ 32) (n : Nat) (hn : 257 ≤ n) : a + b < 2 ^ n := by
  obtain ⟨k, rfl⟩ : ∃ k, n = 256 + (k + 1) := ⟨n - 257, by omega⟩
  rw [Nat.pow_add]
  have h2 : 2 ≤ 2 ^ (k + 1) := by
    rw [Nat.pow_succ]
    have := Nat.one_le_two_pow (n := k)
    omega
  exact Nat.lt_of_lt_of_le (Nat.add_lt_add ha hb) (Nat.le_trans (show 256 ^ 32 + 256 ^ 32 ≤ 2 ^ 256 * 2 by decide) (Nat.mul_le_mul_left _ h2))
theorem dig33_of32 (A k : Nat) (hA : A < 256 ^ 32) (hk : k < 33) : (dig 256 33 A).getD k 0 = if k < 32 then (dig 256 32 A).getD k 0 else 0 := by
  rw [dig_get _ _ _ _ hk]
  split
  · rename_i h; rw [dig_get _ _ _ _ h]
  · obtain rfl : k = 32 := by omega
    rw [Nat.div_eq_of_lt hA]
theorem val_tail (n k : Nat) (xs : List Nat) (hl : xs.length = n) (hk : k ≤ n) (hz : ∀ j, k ≤ j → xs.getD j 0 = 0) : val 256 xs = val 256 (xs.take k) := by
  have e : xs = xs.take k ++ xs.drop k := (List.take_append_drop k xs).symm
  have hd : xs.drop k = List.replicate (n - k) 0 := by
    apply List.ext_getElem
    · simp [hl]
    · intro i h1 h2
      have := hz (k + i) (by omega)
      simp only [List.length_drop] at h1
      rw [List.getD, List.getElem?_eq_getElem (by omega)] at this
      simpa using this
  rw [e, val_append, hd, val_zeros, Nat.mul_zero, Nat.add_zero, ← hd, ← e]

set_option maxRecDepth 100000 in
set_option maxHeartbeats 4000000 in
theorem addq_any (a b : Nat) (w : World) (ha : a < 256 ^ 32) (hb : b < 256 ^ 32) (hT : TabQ w) :
    Calls Tryd.prog 39 #[.agg (arr .u8 (nar (dig 256 32 a))), .agg (arr .u8 (nar (dig 256 32 b)))] w fun e w' => e = .returned (.agg (arr .u8 (nar (dig 256 32 ((a + b) % q))))) ∧ Below w.heap.size w w' := by
  have hred := fun w' ad cp (hs : Src w' ad 64 (nar (dig 256 64 (a + b)))) hT' => reduce_any ad cp (a + b) w' hs (lt_pow ha hb 512 (by decide)) hT'
  obtain ⟨xs, hxs⟩ : ∃ r, r = dig 256 33 a := ⟨_, rfl⟩
  obtain ⟨ys, hys⟩ : ∃ r, r = dig 256 33 b := ⟨_, rfl⟩
  have XL : Hid (xs.length = 33) := Lib.hid (by rw [hxs, dig_len])
  have YL : Hid (ys.length = 33) := Lib.hid (by rw [hys, dig_len])
  have XB : Hid (∀ x ∈ xs, x < 256) := Lib.hid (by rw [hxs]; exact dig_lt 256 (by decide) _ _)
  have YB : Hid (∀ x ∈ ys, x < 256) := Lib.hid (by rw [hys]; exact dig_lt 256 (by decide) _ _)
  have XV : Hid (val 256 xs = a) := Lib.hid (by rw [hxs, val_dig]; exact Nat.mod_eq_of_lt (Nat.lt_of_lt_of_le ha (by decide)))
  have YV : Hid (val 256 ys = b) := Lib.hid (by rw [hys, val_dig]; exact Nat.mod_eq_of_lt (Nat.lt_of_lt_of_le hb (by decide)))
  have XG : Hid (∀ k, k < 33 → (if k < 32 then (dig 256 32 a).getD k 0 else 0) = xs.getD k 0) := Lib.hid (fun k h => by rw [hxs]; exact (dig33_of32 a k ha h).symm)
  have YG : Hid (∀ k, k < 33 → (if k < 32 then (dig 256 32 b).getD k 0 else 0) = ys.getD k 0) := Lib.hid (fun k h => by rw [hys]; exact (dig33_of32 b k hb h).symm)
  have HAB : Hid (a + b < 256 ^ 33) := Lib.hid (Nat.lt_of_lt_of_le (Nat.add_lt_add ha hb) (by decide))
  obtain ⟨x0, hx0⟩ : ∃ r, r = nar (dig 256 32 a) := ⟨_, rfl⟩
  obtain ⟨y0, hy0⟩ : ∃ r, r = nar (dig 256 32 b) := ⟨_, rfl⟩
  have X0L : Hid (x0.length = 32) := Lib.hid (by rw [hx0, nar_len, dig_len])
  have Y0L : Hid (y0.length = 32) := Lib.hid (by rw [hy0, nar_len, dig_len])
  have X0G : Hid (∀ k, x0.getD k 0 = (((dig 256 32 a).getD k 0 : Nat) : Int)) := Lib.hid (fun k => by rw [hx0, nar_get])
  have Y0G : Hid (∀ k, y0.getD k 0 = (((dig 256 32 b).getD k 0 : Nat) : Int)) := Lib.hid (fun k => by rw [hy0, nar_get])
  rw [← hx0, ← hy0]
  obtain ⟨ro, hro⟩ : ∃ r, r = nar (dig 256 32 ((a + b) % q)) := ⟨_, rfl⟩
  have HROL : Hid (ro.length = 32) := Lib.hid (by rw [hro, nar_len, dig_len])
  rw [← hro] at hred ⊢
  obtain ⟨so, hso⟩ : ∃ r, r = nar (dig 256 64 (a + b)) := ⟨_, rfl⟩
  have HS64 : Hid (so.length = 64) := Lib.hid (by rw [hso, nar_len, dig_len])
  have HSO := Lib.hid hso
  rw [← hso] at hred
  have HRED : Hid (∀ (w' : World) {ad : Option Addr} {cp : Nat}, Src w' ad 64 so → TabQ w' → Calls Tryd.prog 80 #[.slice ad 64 cp] w' fun e w'' => e = .returned (.agg (arr .u8 ro)) ∧ Below w'.heap.size w' w'') := Lib.hid (fun w' ad cp h1 h2 => hred w' ad cp h1 h2)
  have HT := Lib.hid hT
  obtain ⟨zn, hzn⟩ : ∃ zs : List Int, zs = List.replicate 32 0 := ⟨_, rfl⟩
  have HZzn : Hid (∀ w, (zeroValue 23).run Tryd.prog w = .ok (.agg (arr .u8 zn)) w) := Lib.hid (by intro w; rw [hzn]; exact zero_num w)
  have HLzn : Hid (zn.length = 32) := Lib.hid (by rw [hzn]; rfl)
  obtain ⟨zs, hzs⟩ : ∃ zs : List Int, zs = List.replicate 64 0 := ⟨_, rfl⟩
  have HZzs : Hid (∀ w, (zeroValue 24).run Tryd.prog w = .ok (.agg (arr .u8 zs)) w) := Lib.hid (by intro w; rw [hzs]; exact zero_b64 w)
  have HLzs : Hid (zs.length = 64) := Lib.hid (by rw [hzs]; rfl)
  have HZS : Hid (zs = nar (List.replicate 64 0)) := Lib.hid (by rw [hzs, nar_zeros])
  have HS0 := Lib.hid (Blk.four w (arr .u8 x0) (arr .u8 y0) (arr .u8 zn) (arr .u8 zs) 23 23 23 24)
  clear hzn hzs hred hxs hys hx0 hy0 hro hso hT ha hb
  go_enter Tryd.func39, Tryd.ntmps39
  go_wp2_with (first | ((with_reducible refine aS 4 ?_); refine wpList_alloc_row rfl 23 rfl _ (HZzn.out _) ?_) | ((with_reducible refine aS 5 ?_); refine wpList_alloc_row rfl 24 rfl _ (HZzs.out _) ?_))
  go_loopw [6, 7] (fun cv iv wr => ∃ (i c : Nat) (ss : List Nat), i ≤ 33 ∧ iv = .int .i64 i ∧ cv = .int .i64 c ∧ c ≤ 1 ∧ ss.length = 64 ∧ (∀ x ∈ ss, x < 256) ∧ (∀ j, i ≤ j → ss.getD j 0 = 0) ∧ val 256 (ss.take i) + 256 ^ i * c = val 256 (xs.take i) + val 256 (ys.take i) ∧ Blk w wr [(w.heap.size, arr .u8 x0, 23), (w.heap.size + 1, arr .u8 y0, 23), (w.heap.size + 1 + 1, arr .u8 zn, 23), (w.heap.size + 1 + 1 + 1, arr .u8 (nar ss), 24)]) (fun _ iv _ => 33 - (intOf iv).toNat)
  case atStart => exact ⟨0, 0, List.replicate 64 0, Nat.zero_le _, rfl, rfl, Nat.zero_le _, by simp, by simp, (fun k _ => by simp only [List.getD, List.getElem?_replicate]; split <;> rfl), by simp [val], by rw [← HZS.out]; exact HS0.out⟩
  clear HS0
  case round =>
  obtain ⟨i, c, ss, hi, rfl, rfl, hc, hsl, hsb, hsz, hv, hB⟩ := hrel
  by_cases hlt : i < 33
  · have q2 := arr_get' (hB.get 3 rfl) i (by rw [nar_len, hsl]; omega)
    have q3 := free_blk (hB.get 3 rfl) i
    have x1 := lt_getD XB.out (by decide) i
    have y1 := lt_getD YB.out (by decide) i
    have st := fun s c' hs => add_step 256 i _ _ _ (xs.getD i 0) (ys.getD i 0) c s c' hv hs
    have vm := fun s => val_take_set 256 ss i s (by omega)
    rw [← val_take_succ 256 xs i (by rw [XL.out]; exact hlt), ← val_take_succ 256 ys i (by rw [YL.out]; exact hlt)] at st
    have xg := XG.out i hlt
    have yg := YG.out i hlt
    have q0 : i < 32 → wr.cell? ⟨w.heap.size, i, none⟩ = some (.int .u8 ((xs.getD i 0 : Nat) : Int)) := fun e => by
      rw [arr_get' (hB.get 0 rfl) i (by rw [X0L.out]; exact e), X0G.out, ← xg, if_pos e]
    have q1 : i < 32 → wr.cell? ⟨w.heap.size + 1, i, none⟩ = some (.int .u8 ((ys.getD i 0 : Nat) : Int)) := fun e => by
      rw [arr_get' (hB.get 1 rfl) i (by rw [Y0L.out]; exact e), Y0G.out, ← yg, if_pos e]
    have xz : ¬ i < 32 → xs.getD i 0 = 0 := fun e => by rw [← xg, if_neg e]
    have yz : ¬ i < 32 → ys.getD i 0 = 0 := fun e => by rw [← yg, if_neg e]
    clear xg yg
    generalize xs.getD i 0 = x at q0 x1 st xz
    generalize ys.getD i 0 = y at q1 y1 st yz
    by_cases h32 : i < 32
    · skip
      have q0 := q0 h32
      have q1 := q1 h32
      have ha := and255i (x + y + c) (by omega)
      rw [show ((x + y + c : Nat) : Int) = (c : Int) + (x : Int) + (y : Int) by omega] at ha
      have hst := st ((x + y + c) % 256) ((x + y + c) / 256) (by omega)
      rw [← vm] at hst
      have hb1 := hB.cell 3 rfl i (.int .u8 (bits .and .i64 ((c : Int) + (x : Int) + (y : Int)) 255 % 256))
      have e2 : (arr .u8 (nar ss)).setIfInBounds i (.int .u8 (bits .and .i64 ((c : Int) + (x : Int) + (y : Int)) 255 % 256)) = arr .u8 (nar (ss.set i ((x + y + c) % 256))) := by rw [ha, show (((((x + y + c) % 256) : Nat) : Int) % 256) = ((((x + y + c) % 256) : Nat) : Int) by omega, arr_set, ← nar_set]
      have HB1 := Lib.hid (hb1.cast (l' := [(w.heap.size, arr .u8 x0, 23), (w.heap.size + 1, arr .u8 y0, 23), (w.heap.size + 1 + 1, arr .u8 zn, 23), (w.heap.size + 1 + 1 + 1, arr .u8 (nar (ss.set i ((x + y + c) % 256))), 24)]) (by rw [← e2]; rfl))
      have HST := Lib.hid hst
      have HSL : Hid ((ss.set i ((x + y + c) % 256)).length = 64) := Lib.hid (by rw [List.length_set, hsl])
      have HSB : Hid (∀ z ∈ ss.set i ((x + y + c) % 256), z < 256) := Lib.hid (lt_set hsb i ((x + y + c) % 256) (Nat.mod_lt _ (by decide)))
      have HSZ : Hid (∀ j, i + 1 ≤ j → (ss.set i ((x + y + c) % 256)).getD j 0 = 0) := Lib.hid (by intro j hj; have e := hsz j (by omega); simp only [List.getD] at e ⊢; rw [List.getElem?_set_ne (by omega)]; exact e)
      clear hb1 e2 hst st vm hB hsl hsb hsz hv ha xz yz
      go_wp2_with fail
      go_region
      go_wp2_with fail
      go_roundw
      case rel => exact ⟨i + 1, ((x + y + c) / 256), _, by omega, by go_num, by go_num, by omega, HSL.out, HSB.out, HSZ.out, HST.out, HB1.out.drew⟩
      case measure => simp [intOf]; omega
    · skip
      obtain rfl := xz h32
      obtain rfl := yz h32
      have ha := and255i c (by omega)
      have hst := st (c % 256) (c / 256) (by omega)
      rw [← vm] at hst
      have hb1 := hB.cell 3 rfl i (.int .u8 (bits .and .i64 (c : Int) 255 % 256))
      have e2 : (arr .u8 (nar ss)).setIfInBounds i (.int .u8 (bits .and .i64 (c : Int) 255 % 256)) = arr .u8 (nar (ss.set i (c % 256))) := by rw [ha, show ((((c % 256) : Nat) : Int) % 256) = (((c % 256) : Nat) : Int) by omega, arr_set, ← nar_set]
      have HB1 := Lib.hid (hb1.cast (l' := [(w.heap.size, arr .u8 x0, 23), (w.heap.size + 1, arr .u8 y0, 23), (w.heap.size + 1 + 1, arr .u8 zn, 23), (w.heap.size + 1 + 1 + 1, arr .u8 (nar (ss.set i (c % 256))), 24)]) (by rw [← e2]; rfl))
      have HST := Lib.hid hst
      have HSL : Hid ((ss.set i (c % 256)).length = 64) := Lib.hid (by rw [List.length_set, hsl])
      have HSB : Hid (∀ z ∈ ss.set i (c % 256), z < 256) := Lib.hid (lt_set hsb i (c % 256) (Nat.mod_lt _ (by decide)))
      have HSZ : Hid (∀ j, i + 1 ≤ j → (ss.set i (c % 256)).getD j 0 = 0) := Lib.hid (by intro j hj; have e := hsz j (by omega); simp only [List.getD] at e ⊢; rw [List.getElem?_set_ne (by omega)]; exact e)
      clear hb1 e2 hst st vm hB hsl hsb hsz hv ha xz yz q0 q1
      go_wp2_with fail
      go_roundw
      case rel => exact ⟨i + 1, (c / 256), _, by omega, by go_num, by go_num, by omega, HSL.out, HSB.out, HSZ.out, HST.out, HB1.out⟩
      case measure => simp [intOf]; omega
  · obtain rfl : i = 33 := by omega
    rw [List.take_of_length_le (Nat.le_of_eq XL.out), List.take_of_length_le (Nat.le_of_eq YL.out), XV.out, YV.out] at hv
    have hvt := val_tail 64 33 ss hsl (by decide) hsz
    have hab := HAB.out
    have hc0 : c = 0 := by
      rcases (show c = 0 ∨ c = 1 by omega) with h | h
      · exact h
      · subst h; omega
    subst hc0
    rw [Nat.mul_zero, Nat.add_zero, ← hvt] at hv
    have hd := dig_eq 256 (by decide) 64 (a + b) ss hsl hsb hv
    rw [hd, ← HSO.out] at hB
    have HB := Lib.hid hB
    clear hB hv hvt hab hd hsl hsb hsz hc
    go_wp2_with (first | ((with_reducible show Calls _ 80 _ _ _); go_at_call 80; refine (HRED.out _ (src_arr' (HB.out.get 3 rfl) 64 HS64.out) (HT.out.below HB.out.below)).mono ?_; rintro e w6 ⟨rfl, hb6⟩; have HB6 := Lib.hid (HB.out.kept hb6); clear hb6) | ((with_reducible refine aT 4 ?_); refine wpList_store_whole rfl 23 _ _ rfl (w.heap.size + 1 + 1) _ _ 23 (HB6.out.get 2 rfl) rfl rfl (arr_len2 _ _ HROL.out HLzn.out) (num_s HROL.out) (all_arr _ _) ?_; intro w7 hb7 hk7 hz7; have HB7 := Lib.hid (HB6.out.put 2 rfl hk7 hb7); clear hb7 hk7 hz7))
    (try simp only [Exit.inBlock, Exit.then])
    refine bodyPost_ret (results_cell_row rfl _ _ (w.heap.size + 1 + 1) 23 _ (0, 0) _ rfl (HB7.out.get 2 rfl) Tryd.underlying23 rfl (num_s HROL.out)) rfl ?_
    exact ⟨rfl, HB7.out.below⟩
end Go.Proofs.YtjbgcbmgjdkpgaaDoor.Rd
