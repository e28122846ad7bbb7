/- (*poly.state).turn: what it makes of the state. Condition: the state lies there whole. -/
import Derived.Test.YtoljnogpegemjaaM3
import Derived.Laws.Cover3
namespace Go.Proofs.Ytoljnogpegemjaa.Po
open Go.RowKit Lm

theorem zero32' (w : World) : (zeroValue 23).run Try.prog w = .ok (.agg (arr .u8 (List.replicate 32 0))) w := by kernel_rfl
theorem kval (b : List Nat) (n k : Nat) : val 256 (b.take n ++ 1 :: List.replicate k 0) = val 256 (b.take n ++ [1]) := by
  rw [val_append, val_append, val, val, val_zeros, val]
theorem kset (b : List Nat) (n : Nat) (hb : b.length = 16) (hn : n ≤ 16) : (b.take n ++ List.replicate (32 - n) 0).set n 1 = b.take n ++ 1 :: List.replicate (31 - n) 0 := by
  have hl : (b.take n).length = n := by rw [List.length_take]; omega
  rw [List.set_append_right _ _ (by omega), hl, Nat.sub_self, show 32 - n = (31 - n) + 1 by omega, List.replicate_succ, List.set_cons_zero]
theorem klen (b : List Nat) (n : Nat) (hb : b.length = 16) (hn : n ≤ 16) : (b.take n ++ 1 :: List.replicate (31 - n) 0).length = 32 := by
  rw [List.length_append, List.length_take, List.length_cons, List.length_replicate]; omega
theorem kbytes (b : List Nat) (n : Nat) (hb : ∀ x ∈ b, x < 256) : ∀ x ∈ b.take n ++ 1 :: List.replicate (31 - n) 0, x < 256 := by
  intro x hx
  rw [List.mem_append, List.mem_cons, List.mem_replicate] at hx
  rcases hx with hx | rfl | ⟨-, rfl⟩
  · exact hb x (List.mem_of_mem_take hx)
  · decide
  · decide
theorem kv_lt (b : List Nat) (n : Nat) (hb : b.length = 16) (hby : ∀ x ∈ b, x < 256) (hn : n ≤ 16) : val 256 (b.take n ++ [1]) < 2 ^ 129 := by
  have h1 := val_lt 256 (b.take n) (fun x hx => hby x (List.mem_of_mem_take hx))
  have hl : (b.take n).length = n := by rw [List.length_take]; omega
  rw [val_append, hl]
  rw [hl] at h1
  have h2 : 256 ^ n ≤ 256 ^ 16 := Nat.pow_le_pow_right (by decide) hn
  simp only [val]
  omega
theorem ksplice (b : List Nat) (n : Nat) (hb : b.length = 16) (hn : n ≤ 16) : (Go.splice ((nar (List.replicate 32 0)).map (Value.int .u8)) 0 ((nar (b.take n)).map (Value.int .u8))).toArray = arr .u8 (nar (b.take n ++ List.replicate (32 - n) 0)) := by
  have hl : (b.take n).length = n := by rw [List.length_take]; omega
  unfold Go.splice arr
  rw [List.take_zero, List.nil_append, Nat.zero_add, List.length_map, nar_len, hl, ← List.map_drop, ← List.map_append]
  congr 2
  rw [nar, nar, nar, List.map_append, ← List.map_drop, List.drop_replicate]

set_option maxRecDepth 100000 in
set_option maxHeartbeats 4000000 in
theorem turn_any (p : Nat) (h r n : Nat) (b : List Nat) (w : World) (hs : IsSt w p (dig 18446744073709551616 4 h) (dig 18446744073709551616 4 r) b n) (hh : h < 2 ^ 131) (hr : r < 2 ^ 124) (hn : n ≤ 16) (hb : ∀ x ∈ b, x < 256) :
    Calls Try.prog 61 #[.pointer (some ⟨p, 0, none⟩)] w fun e w' => e = .returned (.tuple #[]) ∧ IsSt w' p (dig 18446744073709551616 4 (fold ((h + val 256 (b.take n ++ [1])) * r))) (dig 18446744073709551616 4 r) b 0 ∧ Kept (fun x => x = p) w w' := by
  have bl := hs.bl
  have hp := blk_lt hs.blk
  obtain ⟨v, hv⟩ : ∃ v, v = val 256 (b.take n ++ [1]) := ⟨_, rfl⟩
  have hv1 : v < 2 ^ 129 := by rw [hv]; exact kv_lt b n bl hb hn
  have hX := turn_lt h v r hh hv1 hr
  rw [← hv]
  obtain ⟨ks, hks⟩ : ∃ ks, ks = b.take n ++ 1 :: List.replicate (31 - n) 0 := ⟨_, rfl⟩
  have hkl : ks.length = 32 := by rw [hks]; exact klen b n bl hn
  have hkb : ∀ x ∈ ks, x < 256 := by rw [hks]; exact kbytes b n hb
  have hkv : val 256 ks = v := by rw [hks, kval, hv]
  have M1 := fun w => of_any ks w hkl hkb
  rw [hkv] at M1
  have M2 := fun w => ladd_any (dig 18446744073709551616 4 h) (dig 18446744073709551616 4 v) w (dig_len _ _ _) (dig_len _ _ _) (dig_lt _ (by decide) _ _) (dig_lt _ (by decide) _ _)
  rw [val_dig, val_dig, Nat.mod_eq_of_lt (show h < 18446744073709551616 ^ 4 by omega), Nat.mod_eq_of_lt (show v < 18446744073709551616 ^ 4 by omega), Nat.mod_eq_of_lt (show h + v < 18446744073709551616 ^ 4 by omega)] at M2
  have M3 := fun w => lmul_any (dig 18446744073709551616 4 (h + v)) (dig 18446744073709551616 4 r) w (dig_len _ _ _) (dig_len _ _ _) (dig_lt _ (by decide) _ _) (dig_lt _ (by decide) _ _)
  rw [val_dig, val_dig, Nat.mod_eq_of_lt (show r < 18446744073709551616 ^ 4 by omega), Nat.mod_eq_of_lt (show h + v < 18446744073709551616 ^ 4 by omega)] at M3
  have M4 := fun w => fold_any (dig 18446744073709551616 4 ((h + v) * r)) w (dig_len _ _ _) (dig_lt _ (by decide) _ _)
  rw [val_dig, Nat.mod_eq_of_lt (show (h + v) * r < 18446744073709551616 ^ 4 by simpa using hX)] at M4
  generalize (h + v) * r = X at M3 M4 hX ⊢
  have ht8 : (nar (dig 18446744073709551616 8 X)).take 4 = nar (dig 18446744073709551616 4 X) := by rw [nar, ← List.map_take, dig_take 18446744073709551616 4 4]; rfl
  obtain ⟨h4, hh4⟩ : ∃ h4, h4 = dig 18446744073709551616 4 h := ⟨_, rfl⟩
  obtain ⟨r4, hr4⟩ : ∃ r4, r4 = dig 18446744073709551616 4 r := ⟨_, rfl⟩
  obtain ⟨v4, hv4⟩ : ∃ v4, v4 = dig 18446744073709551616 4 v := ⟨_, rfl⟩
  obtain ⟨s4, hs4⟩ : ∃ s4, s4 = dig 18446744073709551616 4 (h + v) := ⟨_, rfl⟩
  obtain ⟨x8, hx8⟩ : ∃ x8, x8 = dig 18446744073709551616 8 X := ⟨_, rfl⟩
  obtain ⟨x4, hx4⟩ : ∃ x4, x4 = dig 18446744073709551616 4 X := ⟨_, rfl⟩
  obtain ⟨f4, hf4⟩ : ∃ f4, f4 = dig 18446744073709551616 4 (fold X) := ⟨_, rfl⟩
  have l4 : s4.length = 4 := by rw [hs4, dig_len]
  have l8 : x8.length = 8 := by rw [hx8, dig_len]
  have lx : x4.length = 4 := by rw [hx4, dig_len]
  have lf : f4.length = 4 := by rw [hf4, dig_len]
  rw [← hh4, ← hr4] at hs
  rw [← hv4] at M1
  rw [← hh4, ← hv4, ← hs4] at M2
  rw [← hs4, ← hr4, ← hx8] at M3
  rw [← hx4, ← hf4] at M4
  rw [← hx8, ← hx4] at ht8
  rw [← hf4, ← hr4]
  clear hh4 hr4 hv4 hs4 hx8 hx4 hf4 hX
  obtain ⟨zs, hzs⟩ : ∃ zs : List Nat, zs = List.replicate 4 0 := ⟨_, rfl⟩
  have hz : ∀ w, (zeroValue 99).run Try.prog w = .ok (.agg (arr .u64 (nar zs))) w := by intro w; rw [hzs, nar_zeros]; exact zero4 w
  have hzl : zs.length = 4 := by rw [hzs]; rfl
  obtain ⟨z8, hz8⟩ : ∃ zs : List Nat, zs = List.replicate 8 0 := ⟨_, rfl⟩
  have hy8 : ∀ w, (zeroValue 110).run Try.prog w = .ok (.agg (arr .u64 (nar z8))) w := by intro w; rw [hz8, nar_zeros]; exact zero8 w
  have hz8l : z8.length = 8 := by rw [hz8]; rfl
  obtain ⟨zb, hzb⟩ : ∃ zs : List Nat, zs = List.replicate 32 0 := ⟨_, rfl⟩
  have hyb : ∀ w, (zeroValue 23).run Try.prog w = .ok (.agg (arr .u8 (nar zb))) w := by intro w; rw [hzb, nar_zeros]; exact zero32' w
  have hzbl : zb.length = 32 := by rw [hzb]; rfl
  obtain ⟨cs, hcs⟩ : ∃ cs, cs = (nar (b.take n)).map (Value.int .u8) := ⟨_, rfl⟩
  have hcl : cs.length = n := by rw [hcs, List.length_map, nar_len, List.length_take]; omega
  have hco : ∀ v ∈ cs, v.oneCell' = true := by
    rw [hcs]; intro v hv; obtain ⟨y, _, rfl⟩ := List.mem_map.1 hv; rfl
  have hspl : (Go.splice ((nar zb).map (Value.int .u8)) 0 cs).toArray = arr .u8 (nar (b.take n ++ List.replicate (32 - n) 0)) := by rw [hzb, hcs]; exact ksplice b n bl hn
  have hks2 : (b.take n ++ List.replicate (32 - n) 0).set n 1 = ks := by rw [hks]; exact kset b n bl hn
  have hrng : ∀ w', IsSt w' p h4 r4 b n → ∀ j v, cs[j]? = some v → w'.cell? (Addr.add ⟨p, 8, none⟩ j) = some v := by
    intro w' hs' j v hj
    have := range_part hs'.blk 8 cs (by rw [hcl, hcs]; exact stC_partb n hs'.hl hs'.rl hs'.bl n hn)
    have e : Addr.add ⟨p, 8, none⟩ j = ⟨p, 8 + j, none⟩ := by
      unfold Addr.add
      split
      · rename_i h0; rw [h0]
      · rfl
    rw [e]
    exact this j v hj
  have b0 := blk_new w (.cells (arr .u8 (nar zb)) 23)
  have w0 : Below w.heap.size w (w.alloc (.cells (arr .u8 (nar zb)) 23)) := (Below.refl _ w).alloc (Nat.le_refl _) _
  have s0 := hs.alloc (.cells (arr .u8 (nar zb)) 23)
  have n0 := s0.at_n
  generalize hW : w.alloc (.cells (arr .u8 (nar zb)) 23) = wA at b0 w0 s0 n0
  have hn2 : (n : Int) ≤ 16 := by omega
  have HW := Lib.hid hW
  have HS := Lib.hid hs
  have HS0 := Lib.hid s0
  have HB0 := Lib.hid b0
  have HW0 := Lib.hid w0
  have HM1 := Lib.hid M1
  have HM2 := Lib.hid M2
  have HM3 := Lib.hid M3
  have HM4 := Lib.hid M4
  have HZ := Lib.hid hz
  have HZL := Lib.hid hzl
  have HY8 := Lib.hid hy8
  have HZ8 := Lib.hid hz8l
  have HYB := Lib.hid hyb
  have HZB := Lib.hid hzbl
  have HCL := Lib.hid hcl
  have HCO := Lib.hid hco
  have HSPL := Lib.hid hspl
  have HKS2 := Lib.hid hks2
  have HRNG := Lib.hid hrng
  have HKL := Lib.hid hkl
  have L4 := Lib.hid l4
  have L8 := Lib.hid l8
  have LX := Lib.hid lx
  have LF := Lib.hid lf
  have HT8 := Lib.hid ht8
  have BL := Lib.hid bl
  clear hW hs s0 b0 w0 M1 M2 M3 M4 hz hzl hy8 hz8l hyb hzbl hcl hco hspl hks2 hrng hkl l4 l8 lx lf ht8 bl hzs hz8 hzb hcs hks hkv hv hkb hb hh hr hv1
  go_enter Try.func61, Try.ntmps61
  go_wp2_with (first | ((with_reducible show wpList _ _ _ (Oper.mk (some 2) _ _ _ _ _ :: _) _ _); refine wpList_alloc_row rfl 23 rfl _ (HYB.out _) ?_; rw [HW.out]))
  go_still_tail 9, (by kernel_rfl)
  change wpList _ _ _ _ _ wA.drew
  have HS1 := Lib.hid HS0.out.drew
  have HB1 : Hid (wA.drew.heap[w.heap.size]? = some (.cells (arr .u8 (nar zb)) 23 (0, 0))) := Lib.hid HB0.out
  have HW1 := Lib.hid (show Below w.heap.size w wA.drew from ⟨HW0.out.os, HW0.out.tape, HW0.out.output, HW0.out.size, HW0.out.block⟩)
  clear n0
  generalize wA.drew = w2 at HS1 HB1 HW1 ⊢
  go_upto_region 2 with (first | ((with_reducible show wpList _ _ _ (Oper.mk (some 15) _ _ _ _ _ :: _) _ _); refine wpList_copy_splice rfl (.tmp 6) (.tmp 14) 24 24 rfl 5 Try.underlying24 size_u8 _ _ _ _ _ _ rfl rfl w.heap.size 0 ((nar zb).map (Value.int .u8)) 23 HB1.out cs (by rw [HCL.out]; exact (Nat.min_eq_left (by omega)).symm) (fun _ => ⟨rfl, ⟨p, 8, none⟩, rfl, HRNG.out _ HS1.out⟩) (by rw [HCL.out, List.length_map, nar_len, HZB.out]; omega) HCO.out w.heap.size w HW1.out (Nat.le_refl _) ?_; intro w3 hb3 hw3; have hb3' := hb3.out; rw [HSPL.out] at hb3'; have HB3 := Lib.hid hb3'; have HW3 := Lib.hid hw3; clear hb3 hb3' hw3))
  have n3 := (HS.out.below HW3.out).at_n
  have kz : n < (nar (b.take n ++ List.replicate (32 - n) 0)).length := by rw [nar_len, List.length_append, List.length_take, List.length_replicate, BL.out]; omega
  have q3 := blk_arr' HB3.out n kz
  have f3 := free_blk HB3.out n
  have hb4 : (w3.setCell ⟨w.heap.size, n, none⟩ (.int .u8 1)).heap[w.heap.size]? = some (.cells (arr .u8 (nar ks)) 23 (0, 0)) := by
    rw [blk_setCell HB3.out, show (1 : Int) = ((1 : Nat) : Int) from rfl, arr_set, ← nar_set, HKS2.out]
  have HB4 := Lib.hid hb4
  have HW4 := Lib.hid (HW3.out.setCell (p := ⟨w.heap.size, n, none⟩) (Nat.le_refl _) (.int .u8 1))
  have hn3 : (n : Int) < 32 := by omega
  clear hb4 kz
  go_upto_region 3 with fail
  clear n3 q3 f3 hn3
  generalize w3.setCell ⟨w.heap.size, n, none⟩ (.int .u8 1) = wq at HB4 HW4 ⊢
  have HS4 := Lib.hid (HS.out.below HW4.out)
  go_cut [3] (fun u3 wx => ∃ g, u3 = .pointer (some ⟨g, 0, none⟩) ∧ wq.heap.size ≤ g ∧ wx.heap[g]? = some (.cells (arr .u64 (nar s4)) 99 (0, 0)) ∧ Below wq.heap.size wq wx)
  case first =>
    have HB0 := Lib.hid (show Below wq.heap.size wq wq.drew from ⟨rfl, rfl, rfl, Nat.le_refl _, fun _ _ => rfl⟩)
    refine wp_region_held_drew (S := (fun w' => Go.RowKit.Below wq.heap.size wq w')) (by kernel_rfl) (HB0.out) (fun hHeld => ?_)
    refine wpAnyH_take (i := 0) (oi := ({ dst := some 22, op := Op.move (Operand.tmp 0), type := 97, pos := "poly.go:45", after := #[], guard := none } : Oper)) (v := ?v1) rfl (by kernel_rfl) (by kernel_rfl) (by kernel_rfl) (fun _ _ _ h => h) (Or.inl ⟨by rfl, ?hy1⟩) (by assumption) ?rest1
    case hy1 => (intro w hSw; (try dsimp only at hSw); go_simp; try (with_reducible rfl))
    (try simp only [Act.put, List.setIfInBounds_toArray, List.set_cons_zero, List.set_cons_succ])
    refine wpAnyH_take (i := 1) (oi := ({ dst := some 23, op := Op.nilCheck (Operand.tmp 22), type := 0, pos := "poly.go:45", after := #[{ on := 0, ground := Ground.data }], guard := none } : Oper)) (v := ?v2) rfl (by kernel_rfl) (by kernel_rfl) (by kernel_rfl) (fun _ _ _ h => h) (Or.inl ⟨by rfl, ?hy2⟩) (by assumption) ?rest2
    case hy2 => (intro w hSw; (try dsimp only at hSw); go_simp; try (with_reducible rfl))
    (try simp only [Act.put, List.setIfInBounds_toArray, List.set_cons_zero, List.set_cons_succ])
    refine wpAnyH_take (i := 2) (oi := ({ dst := some 24, op := Op.fieldAddr 102 (Operand.tmp 23) 0, type := 0, pos := "poly.go:45", after := #[{ on := 1, ground := Ground.data }], guard := none } : Oper)) (v := ?v3) rfl (by kernel_rfl) (by kernel_rfl) (by kernel_rfl) (fun _ _ _ h => h) (Or.inl ⟨by rfl, ?hy3⟩) (by assumption) ?rest3
    case hy3 => (intro w hSw; (try dsimp only at hSw); go_simp; try (with_reducible rfl))
    (try simp only [Act.put, List.setIfInBounds_toArray, List.set_cons_zero, List.set_cons_succ])
    refine' wpAnyH_take (i := 3) (oi := ({ dst := some 25, op := Op.load 99 (Operand.tmp 24), type := 99, pos := "poly.go:45", after := #[{ on := 2, ground := Ground.data }], guard := none } : Oper)) (v := _) rfl (by kernel_rfl) (by kernel_rfl) (by kernel_rfl) (fun _ _ _ h => h) (yieldsIf_load_mid (by rfl) _ _ rfl _ _ rfl ((nar h4).map (Value.int .u64)) _ ?hS4 Try.underlying99 rfl (by rw [List.length_map]; exact nar4i h4 HS4.out.hl)) (by assumption) ?rest4
    case hS4 => (intro w hSw; exact range_part (Below.blk hSw HS4.out.blk (blk_lt HS4.out.blk)) 0 _ (by rw [List.length_map]; exact stC_parth n))
    (try simp only [Act.put, List.setIfInBounds_toArray, List.set_cons_zero, List.set_cons_succ])
    refine' wpAnyH_take (i := 4) (oi := ({ dst := some 26, op := Op.load 23 (Operand.tmp 2), type := 23, pos := "poly.go:45", after := #[], guard := none } : Oper)) (v := _) rfl (by kernel_rfl) (by kernel_rfl) (by kernel_rfl) (fun _ _ _ h => h) (yieldsIf_load_mid (by rfl) _ _ rfl _ _ rfl ((nar ks).map (Value.int .u8)) _ ?hS5 Try.underlying23 rfl (by rw [List.length_map]; exact nar32i ks HKL.out)) (by assumption) ?rest5
    case hS5 => (intro w hSw; exact range_part (Below.blk hSw HB4.out (blk_lt HB4.out)) 0 _ (by rw [List.length_map]; exact arr_part _ _))
    (try simp only [Act.put, List.setIfInBounds_toArray, List.set_cons_zero, List.set_cons_succ])
    refine wpAnyH_ready (rs := [5, 10]) (by kernel_rfl) (by simp) ?_
    refine AllReadyH.cons (o := ({ dst := some 27, op := Op.call { callee := Callee.value (Operand.func 65), args := #[Operand.tmp 26], argTypes := #[23] }, type := 99, pos := "poly.go:45", after := #[{ on := 4, ground := Ground.data }], guard := none } : Oper)) rfl (fun K hK => ?_) ?_
    · go_simp
      go_at_call 65
      refine (HM1.out _).mono ?_
      rintro e w6 ⟨rfl, hb6⟩
      have HB6 := Lib.hid (HB0.out.trans (hb6.mono HB0.out.size))
      clear hb6
      (try dsimp only)
      refine hK.out _ _ (HB6.out) (fun hHeld => ?_)
      clear hK K
      (try simp only [Act.put, List.setIfInBounds_toArray, List.set_cons_zero, List.set_cons_succ])
      refine wpAnyH_ready (rs := [6, 10]) (by kernel_rfl) (by simp) ?_
      refine AllReadyH.cons (o := ({ dst := some 28, op := Op.call { callee := Callee.value (Operand.func 66), args := #[Operand.tmp 25, Operand.tmp 27], argTypes := #[99, 99] }, type := 105, pos := "poly.go:45", after := #[{ on := 3, ground := Ground.data }, { on := 5, ground := Ground.data }, { on := 5, ground := Ground.chain }], guard := none } : Oper)) rfl (fun K hK => ?_) ?_
      · go_simp
        go_at_call 66
        refine (HM2.out _).mono ?_
        rintro e w7 ⟨rfl, hb7⟩
        have HB7 := Lib.hid (HB6.out.trans (hb7.mono HB6.out.size))
        clear hb7
        (try dsimp only)
        refine hK.out _ _ (HB7.out) (fun hHeld => ?_)
        clear hK K
        (try simp only [Act.put, List.setIfInBounds_toArray, List.set_cons_zero, List.set_cons_succ])
        refine wpAnyH_take (i := 7) (oi := ({ dst := some 21, op := Op.move (Operand.tmp 28), type := 105, pos := "poly.go:45", after := #[{ on := 6, ground := Ground.data }], guard := none } : Oper)) (v := ?v8) rfl (by kernel_rfl) (by kernel_rfl) (by kernel_rfl) (fun _ _ _ h => h) (Or.inl ⟨by rfl, ?hy8⟩) (by assumption) ?rest8
        case hy8 => (intro w hSw; (try dsimp only at hSw); go_simp; try (with_reducible rfl))
        (try simp only [Act.put, List.setIfInBounds_toArray, List.set_cons_zero, List.set_cons_succ])
        refine wpAnyH_take (i := 8) (oi := ({ dst := some 29, op := Op.extract (Operand.tmp 21) 0, type := 99, pos := "poly.go:45", after := #[{ on := 7, ground := Ground.data }], guard := none } : Oper)) (v := ?v9) rfl (by kernel_rfl) (by kernel_rfl) (by kernel_rfl) (fun _ _ _ h => h) (Or.inl ⟨by rfl, ?hy9⟩) (by assumption) ?rest9
        case hy9 => (intro w hSw; (try dsimp only at hSw); go_simp; try (with_reducible rfl))
        (try simp only [Act.put, List.setIfInBounds_toArray, List.set_cons_zero, List.set_cons_succ])
        refine wpAnyH_take (i := 9) (oi := ({ dst := some 30, op := Op.extract (Operand.tmp 21) 1, type := 82, pos := "poly.go:45", after := #[{ on := 7, ground := Ground.data }, { on := 11, ground := Ground.gcOnly Departure.lateStores }], guard := none } : Oper)) (v := ?v10) rfl (by kernel_rfl) (by kernel_rfl) (by kernel_rfl) (fun _ _ _ h => h) (Or.inl ⟨by rfl, ?hy10⟩) (by assumption) ?rest10
        case hy10 => (intro w hSw; (try dsimp only at hSw); go_simp; try (with_reducible rfl))
        (try simp only [Act.put, List.setIfInBounds_toArray, List.set_cons_zero, List.set_cons_succ])
        refine wpAnyH_ready (rs := [10]) (by kernel_rfl) (by simp) ?_
        refine AllReadyH.cons (o := ({ dst := some 3, op := Op.alloc 99, type := 0, pos := "poly.go:45", after := #[], guard := none } : Oper)) rfl (fun K hK => ?_) AllReadyH.nil
        refine step_alloc_row rfl 99 rfl _ (HZ.out _) ?_
        have HB11 := Lib.hid (HB7.out.alloc HB7.out.size (.cells (arr .u64 (nar zs)) 99))
        have HG11_3 := Lib.hid (blk_new (w7) (.cells (arr .u64 (nar zs)) 99))
        refine hK.out _ _ (HB11.out) (fun hHeld => ?_)
        clear hK K
        (try simp only [Act.put, List.setIfInBounds_toArray, List.set_cons_zero, List.set_cons_succ])
        refine wpAnyH_ready (rs := [11]) (by kernel_rfl) (by simp) ?_
        refine AllReadyH.cons (o := ({ dst := none, op := Op.store 99 (Operand.tmp 3) (Operand.tmp 29), type := 0, pos := "poly.go:45", after := #[{ on := 10, ground := Ground.data }, { on := 8, ground := Ground.data }, { on := 6, ground := Ground.chain }, { on := 0, ground := Ground.phase }, { on := 1, ground := Ground.phase }, { on := 2, ground := Ground.phase }, { on := 3, ground := Ground.phase }, { on := 4, ground := Ground.phase }, { on := 5, ground := Ground.phase }, { on := 6, ground := Ground.phase }, { on := 7, ground := Ground.phase }, { on := 8, ground := Ground.phase }, { on := 9, ground := Ground.textOnly Departure.lateStores }, { on := 10, ground := Ground.phase }], guard := none } : Oper)) rfl (fun K hK => ?_) AllReadyH.nil
        refine step_store_whole rfl 99 (.tmp 3) (.tmp 29) rfl (w7).heap.size _ _ _ HG11_3.out rfl rfl ((nar4 s4 L4.out).trans (nar4 zs HZL.out).symm) (nar4s s4 L4.out) (all_arr _ _) ?_
        intro w12 hb12 hk12 hz12
        have HB12 := Lib.hid (HB11.out.trans (hk12.toBelow HB11.out.size (by rintro i rfl; exact HB7.out.size)))
        have HG12_3 := Lib.hid hb12
        clear hb12 hk12 hz12
        refine hK.out _ _ (HB12.out) (fun hHeld => ?_)
        clear hK K
        (try simp only [Act.put])
        refine wpAnyH_take (i := 12) (oi := ({ dst := some 4, op := Op.assign (Operand.tmp 30), type := 82, pos := "poly.go:45", after := #[{ on := 9, ground := Ground.data }, { on := 11, ground := Ground.chain }, { on := 0, ground := Ground.phase }, { on := 1, ground := Ground.phase }, { on := 2, ground := Ground.phase }, { on := 3, ground := Ground.phase }, { on := 4, ground := Ground.phase }, { on := 5, ground := Ground.phase }, { on := 6, ground := Ground.phase }, { on := 7, ground := Ground.phase }, { on := 8, ground := Ground.phase }, { on := 9, ground := Ground.phase }, { on := 10, ground := Ground.phase }, { on := 11, ground := Ground.phase }], guard := none } : Oper)) (v := ?v13) rfl (by kernel_rfl) (by kernel_rfl) (by kernel_rfl) (fun _ _ _ h => h) (Or.inl ⟨by rfl, ?hy13⟩) (by assumption) ?rest13
        case hy13 => (intro w hSw; (try dsimp only at hSw); go_simp; try (with_reducible rfl))
        (try simp only [Act.put, List.setIfInBounds_toArray, List.set_cons_zero, List.set_cons_succ])
        refine wpAnyH_done (by kernel_rfl) ?_ _
        go_wp2_with fail
        go_meet
        exact ⟨_, rfl, HB7.out.size, HG12_3.out, HB12.out⟩
      refine AllReadyH.cons (o := ({ dst := some 3, op := Op.alloc 99, type := 0, pos := "poly.go:45", after := #[], guard := none } : Oper)) rfl (fun K hK => ?_) ?_
      · refine step_alloc_row rfl 99 rfl _ (HZ.out _) ?_
        have HB14 := Lib.hid (HB6.out.alloc HB6.out.size (.cells (arr .u64 (nar zs)) 99))
        have HG14_3 := Lib.hid (blk_new (w6) (.cells (arr .u64 (nar zs)) 99))
        refine hK.out _ _ (HB14.out) (fun hHeld => ?_)
        clear hK K
        (try simp only [Act.put, List.setIfInBounds_toArray, List.set_cons_zero, List.set_cons_succ])
        refine wpAnyH_ready (rs := [6]) (by kernel_rfl) (by simp) ?_
        refine AllReadyH.cons (o := ({ dst := some 28, op := Op.call { callee := Callee.value (Operand.func 66), args := #[Operand.tmp 25, Operand.tmp 27], argTypes := #[99, 99] }, type := 105, pos := "poly.go:45", after := #[{ on := 3, ground := Ground.data }, { on := 5, ground := Ground.data }, { on := 5, ground := Ground.chain }], guard := none } : Oper)) rfl (fun K hK => ?_) AllReadyH.nil
        go_simp
        go_at_call 66
        refine (HM2.out _).mono ?_
        rintro e w15 ⟨rfl, hb15⟩
        have HB15 := Lib.hid (HB14.out.trans (hb15.mono HB14.out.size))
        have HG15_3 := Lib.hid (Below.blk hb15 HG14_3.out (blk_lt HG14_3.out))
        clear hb15
        (try dsimp only)
        refine hK.out _ _ (HB15.out) (fun hHeld => ?_)
        clear hK K
        (try simp only [Act.put, List.setIfInBounds_toArray, List.set_cons_zero, List.set_cons_succ])
        refine wpAnyH_take (i := 7) (oi := ({ dst := some 21, op := Op.move (Operand.tmp 28), type := 105, pos := "poly.go:45", after := #[{ on := 6, ground := Ground.data }], guard := none } : Oper)) (v := ?v16) rfl (by kernel_rfl) (by kernel_rfl) (by kernel_rfl) (fun _ _ _ h => h) (Or.inl ⟨by rfl, ?hy16⟩) (by assumption) ?rest16
        case hy16 => (intro w hSw; (try dsimp only at hSw); go_simp; try (with_reducible rfl))
        (try simp only [Act.put, List.setIfInBounds_toArray, List.set_cons_zero, List.set_cons_succ])
        refine wpAnyH_take (i := 8) (oi := ({ dst := some 29, op := Op.extract (Operand.tmp 21) 0, type := 99, pos := "poly.go:45", after := #[{ on := 7, ground := Ground.data }], guard := none } : Oper)) (v := ?v17) rfl (by kernel_rfl) (by kernel_rfl) (by kernel_rfl) (fun _ _ _ h => h) (Or.inl ⟨by rfl, ?hy17⟩) (by assumption) ?rest17
        case hy17 => (intro w hSw; (try dsimp only at hSw); go_simp; try (with_reducible rfl))
        (try simp only [Act.put, List.setIfInBounds_toArray, List.set_cons_zero, List.set_cons_succ])
        refine wpAnyH_take (i := 9) (oi := ({ dst := some 30, op := Op.extract (Operand.tmp 21) 1, type := 82, pos := "poly.go:45", after := #[{ on := 7, ground := Ground.data }, { on := 11, ground := Ground.gcOnly Departure.lateStores }], guard := none } : Oper)) (v := ?v18) rfl (by kernel_rfl) (by kernel_rfl) (by kernel_rfl) (fun _ _ _ h => h) (Or.inl ⟨by rfl, ?hy18⟩) (by assumption) ?rest18
        case hy18 => (intro w hSw; (try dsimp only at hSw); go_simp; try (with_reducible rfl))
        (try simp only [Act.put, List.setIfInBounds_toArray, List.set_cons_zero, List.set_cons_succ])
        refine wpAnyH_ready (rs := [11]) (by kernel_rfl) (by simp) ?_
        refine AllReadyH.cons (o := ({ dst := none, op := Op.store 99 (Operand.tmp 3) (Operand.tmp 29), type := 0, pos := "poly.go:45", after := #[{ on := 10, ground := Ground.data }, { on := 8, ground := Ground.data }, { on := 6, ground := Ground.chain }, { on := 0, ground := Ground.phase }, { on := 1, ground := Ground.phase }, { on := 2, ground := Ground.phase }, { on := 3, ground := Ground.phase }, { on := 4, ground := Ground.phase }, { on := 5, ground := Ground.phase }, { on := 6, ground := Ground.phase }, { on := 7, ground := Ground.phase }, { on := 8, ground := Ground.phase }, { on := 9, ground := Ground.textOnly Departure.lateStores }, { on := 10, ground := Ground.phase }], guard := none } : Oper)) rfl (fun K hK => ?_) AllReadyH.nil
        refine step_store_whole rfl 99 (.tmp 3) (.tmp 29) rfl (w6).heap.size _ _ _ HG15_3.out rfl rfl ((nar4 s4 L4.out).trans (nar4 zs HZL.out).symm) (nar4s s4 L4.out) (all_arr _ _) ?_
        intro w19 hb19 hk19 hz19
        have HB19 := Lib.hid (HB15.out.trans (hk19.toBelow HB15.out.size (by rintro i rfl; exact HB6.out.size)))
        have HG19_3 := Lib.hid hb19
        clear hb19 hk19 hz19
        refine hK.out _ _ (HB19.out) (fun hHeld => ?_)
        clear hK K
        (try simp only [Act.put])
        refine wpAnyH_take (i := 12) (oi := ({ dst := some 4, op := Op.assign (Operand.tmp 30), type := 82, pos := "poly.go:45", after := #[{ on := 9, ground := Ground.data }, { on := 11, ground := Ground.chain }, { on := 0, ground := Ground.phase }, { on := 1, ground := Ground.phase }, { on := 2, ground := Ground.phase }, { on := 3, ground := Ground.phase }, { on := 4, ground := Ground.phase }, { on := 5, ground := Ground.phase }, { on := 6, ground := Ground.phase }, { on := 7, ground := Ground.phase }, { on := 8, ground := Ground.phase }, { on := 9, ground := Ground.phase }, { on := 10, ground := Ground.phase }, { on := 11, ground := Ground.phase }], guard := none } : Oper)) (v := ?v20) rfl (by kernel_rfl) (by kernel_rfl) (by kernel_rfl) (fun _ _ _ h => h) (Or.inl ⟨by rfl, ?hy20⟩) (by assumption) ?rest20
        case hy20 => (intro w hSw; (try dsimp only at hSw); go_simp; try (with_reducible rfl))
        (try simp only [Act.put, List.setIfInBounds_toArray, List.set_cons_zero, List.set_cons_succ])
        refine wpAnyH_done (by kernel_rfl) ?_ _
        go_wp2_with fail
        go_meet
        exact ⟨_, rfl, HB6.out.size, HG19_3.out, HB19.out⟩
      exact AllReadyH.nil
    refine AllReadyH.cons (o := ({ dst := some 3, op := Op.alloc 99, type := 0, pos := "poly.go:45", after := #[], guard := none } : Oper)) rfl (fun K hK => ?_) ?_
    · refine step_alloc_row rfl 99 rfl _ (HZ.out _) ?_
      have HB21 := Lib.hid (HB0.out.alloc HB0.out.size (.cells (arr .u64 (nar zs)) 99))
      have HG21_3 := Lib.hid (blk_new (wq.drew) (.cells (arr .u64 (nar zs)) 99))
      refine hK.out _ _ (HB21.out) (fun hHeld => ?_)
      clear hK K
      (try simp only [Act.put, List.setIfInBounds_toArray, List.set_cons_zero, List.set_cons_succ])
      refine wpAnyH_ready (rs := [5]) (by kernel_rfl) (by simp) ?_
      refine AllReadyH.cons (o := ({ dst := some 27, op := Op.call { callee := Callee.value (Operand.func 65), args := #[Operand.tmp 26], argTypes := #[23] }, type := 99, pos := "poly.go:45", after := #[{ on := 4, ground := Ground.data }], guard := none } : Oper)) rfl (fun K hK => ?_) AllReadyH.nil
      go_simp
      go_at_call 65
      refine (HM1.out _).mono ?_
      rintro e w22 ⟨rfl, hb22⟩
      have HB22 := Lib.hid (HB21.out.trans (hb22.mono HB21.out.size))
      have HG22_3 := Lib.hid (Below.blk hb22 HG21_3.out (blk_lt HG21_3.out))
      clear hb22
      (try dsimp only)
      refine hK.out _ _ (HB22.out) (fun hHeld => ?_)
      clear hK K
      (try simp only [Act.put, List.setIfInBounds_toArray, List.set_cons_zero, List.set_cons_succ])
      refine wpAnyH_ready (rs := [6]) (by kernel_rfl) (by simp) ?_
      refine AllReadyH.cons (o := ({ dst := some 28, op := Op.call { callee := Callee.value (Operand.func 66), args := #[Operand.tmp 25, Operand.tmp 27], argTypes := #[99, 99] }, type := 105, pos := "poly.go:45", after := #[{ on := 3, ground := Ground.data }, { on := 5, ground := Ground.data }, { on := 5, ground := Ground.chain }], guard := none } : Oper)) rfl (fun K hK => ?_) AllReadyH.nil
      go_simp
      go_at_call 66
      refine (HM2.out _).mono ?_
      rintro e w23 ⟨rfl, hb23⟩
      have HB23 := Lib.hid (HB22.out.trans (hb23.mono HB22.out.size))
      have HG23_3 := Lib.hid (Below.blk hb23 HG22_3.out (blk_lt HG22_3.out))
      clear hb23
      (try dsimp only)
      refine hK.out _ _ (HB23.out) (fun hHeld => ?_)
      clear hK K
      (try simp only [Act.put, List.setIfInBounds_toArray, List.set_cons_zero, List.set_cons_succ])
      refine wpAnyH_take (i := 7) (oi := ({ dst := some 21, op := Op.move (Operand.tmp 28), type := 105, pos := "poly.go:45", after := #[{ on := 6, ground := Ground.data }], guard := none } : Oper)) (v := ?v24) rfl (by kernel_rfl) (by kernel_rfl) (by kernel_rfl) (fun _ _ _ h => h) (Or.inl ⟨by rfl, ?hy24⟩) (by assumption) ?rest24
      case hy24 => (intro w hSw; (try dsimp only at hSw); go_simp; try (with_reducible rfl))
      (try simp only [Act.put, List.setIfInBounds_toArray, List.set_cons_zero, List.set_cons_succ])
      refine wpAnyH_take (i := 8) (oi := ({ dst := some 29, op := Op.extract (Operand.tmp 21) 0, type := 99, pos := "poly.go:45", after := #[{ on := 7, ground := Ground.data }], guard := none } : Oper)) (v := ?v25) rfl (by kernel_rfl) (by kernel_rfl) (by kernel_rfl) (fun _ _ _ h => h) (Or.inl ⟨by rfl, ?hy25⟩) (by assumption) ?rest25
      case hy25 => (intro w hSw; (try dsimp only at hSw); go_simp; try (with_reducible rfl))
      (try simp only [Act.put, List.setIfInBounds_toArray, List.set_cons_zero, List.set_cons_succ])
      refine wpAnyH_take (i := 9) (oi := ({ dst := some 30, op := Op.extract (Operand.tmp 21) 1, type := 82, pos := "poly.go:45", after := #[{ on := 7, ground := Ground.data }, { on := 11, ground := Ground.gcOnly Departure.lateStores }], guard := none } : Oper)) (v := ?v26) rfl (by kernel_rfl) (by kernel_rfl) (by kernel_rfl) (fun _ _ _ h => h) (Or.inl ⟨by rfl, ?hy26⟩) (by assumption) ?rest26
      case hy26 => (intro w hSw; (try dsimp only at hSw); go_simp; try (with_reducible rfl))
      (try simp only [Act.put, List.setIfInBounds_toArray, List.set_cons_zero, List.set_cons_succ])
      refine wpAnyH_ready (rs := [11]) (by kernel_rfl) (by simp) ?_
      refine AllReadyH.cons (o := ({ dst := none, op := Op.store 99 (Operand.tmp 3) (Operand.tmp 29), type := 0, pos := "poly.go:45", after := #[{ on := 10, ground := Ground.data }, { on := 8, ground := Ground.data }, { on := 6, ground := Ground.chain }, { on := 0, ground := Ground.phase }, { on := 1, ground := Ground.phase }, { on := 2, ground := Ground.phase }, { on := 3, ground := Ground.phase }, { on := 4, ground := Ground.phase }, { on := 5, ground := Ground.phase }, { on := 6, ground := Ground.phase }, { on := 7, ground := Ground.phase }, { on := 8, ground := Ground.phase }, { on := 9, ground := Ground.textOnly Departure.lateStores }, { on := 10, ground := Ground.phase }], guard := none } : Oper)) rfl (fun K hK => ?_) AllReadyH.nil
      refine step_store_whole rfl 99 (.tmp 3) (.tmp 29) rfl (wq.drew).heap.size _ _ _ HG23_3.out rfl rfl ((nar4 s4 L4.out).trans (nar4 zs HZL.out).symm) (nar4s s4 L4.out) (all_arr _ _) ?_
      intro w27 hb27 hk27 hz27
      have HB27 := Lib.hid (HB23.out.trans (hk27.toBelow HB23.out.size (by rintro i rfl; exact HB0.out.size)))
      have HG27_3 := Lib.hid hb27
      clear hb27 hk27 hz27
      refine hK.out _ _ (HB27.out) (fun hHeld => ?_)
      clear hK K
      (try simp only [Act.put])
      refine wpAnyH_take (i := 12) (oi := ({ dst := some 4, op := Op.assign (Operand.tmp 30), type := 82, pos := "poly.go:45", after := #[{ on := 9, ground := Ground.data }, { on := 11, ground := Ground.chain }, { on := 0, ground := Ground.phase }, { on := 1, ground := Ground.phase }, { on := 2, ground := Ground.phase }, { on := 3, ground := Ground.phase }, { on := 4, ground := Ground.phase }, { on := 5, ground := Ground.phase }, { on := 6, ground := Ground.phase }, { on := 7, ground := Ground.phase }, { on := 8, ground := Ground.phase }, { on := 9, ground := Ground.phase }, { on := 10, ground := Ground.phase }, { on := 11, ground := Ground.phase }], guard := none } : Oper)) (v := ?v28) rfl (by kernel_rfl) (by kernel_rfl) (by kernel_rfl) (fun _ _ _ h => h) (Or.inl ⟨by rfl, ?hy28⟩) (by assumption) ?rest28
      case hy28 => (intro w hSw; (try dsimp only at hSw); go_simp; try (with_reducible rfl))
      (try simp only [Act.put, List.setIfInBounds_toArray, List.set_cons_zero, List.set_cons_succ])
      refine wpAnyH_done (by kernel_rfl) ?_ _
      go_wp2_with fail
      go_meet
      exact ⟨_, rfl, HB0.out.size, HG27_3.out, HB27.out⟩
    exact AllReadyH.nil
  case rest =>
    obtain ⟨wd, rfl⟩ : ∃ wd : World, wd = wc := ⟨_, rfl⟩
    obtain ⟨g3, rfl, hg3, hb5, hw5⟩ := hcut
    have HS5 := Lib.hid (HS4.out.below hw5)
    have HB5 := Lib.hid hb5
    have HW5 := Lib.hid hw5
    clear hb5 hw5
    go_upto_region 4 with fail
    go_cut [5] (fun u5 wx => ∃ g, u5 = .pointer (some ⟨g, 0, none⟩) ∧ wd.heap.size ≤ g ∧ wx.heap[g]? = some (.cells (arr .u64 (nar x8)) 110 (0, 0)) ∧ Below wd.heap.size wd wx)
    case first =>
      have HB0 := Lib.hid (show Below wd.heap.size wd wd.drew from ⟨rfl, rfl, rfl, Nat.le_refl _, fun _ _ => rfl⟩)
      refine wp_region_held_drew (S := (fun w' => Go.RowKit.Below wd.heap.size wd w')) (by kernel_rfl) (HB0.out) (fun hHeld => ?_)
      refine' wpAnyH_take (i := 0) (oi := ({ dst := some 31, op := Op.load 99 (Operand.tmp 3), type := 99, pos := "poly.go:46", after := #[], guard := none } : Oper)) (v := _) rfl (by kernel_rfl) (by kernel_rfl) (by kernel_rfl) (fun _ _ _ h => h) (yieldsIf_load_mid (by rfl) _ _ rfl _ _ rfl ((nar s4).map (Value.int .u64)) _ ?hS1001 Try.underlying99 rfl (by rw [List.length_map]; exact nar4i s4 L4.out)) (by assumption) ?rest1001
      case hS1001 => (intro w hSw; exact range_part (Below.blk hSw HB5.out (blk_lt HB5.out)) 0 _ (by rw [List.length_map]; exact arr_part _ _))
      (try simp only [Act.put, List.setIfInBounds_toArray, List.set_cons_zero, List.set_cons_succ])
      refine wpAnyH_take (i := 1) (oi := ({ dst := some 32, op := Op.move (Operand.tmp 0), type := 97, pos := "poly.go:46", after := #[], guard := none } : Oper)) (v := ?v1002) rfl (by kernel_rfl) (by kernel_rfl) (by kernel_rfl) (fun _ _ _ h => h) (Or.inl ⟨by rfl, ?hy1002⟩) (by assumption) ?rest1002
      case hy1002 => (intro w hSw; (try dsimp only at hSw); go_simp; try (with_reducible rfl))
      (try simp only [Act.put, List.setIfInBounds_toArray, List.set_cons_zero, List.set_cons_succ])
      refine wpAnyH_take (i := 2) (oi := ({ dst := some 33, op := Op.nilCheck (Operand.tmp 32), type := 0, pos := "poly.go:46", after := #[{ on := 1, ground := Ground.data }], guard := none } : Oper)) (v := ?v1003) rfl (by kernel_rfl) (by kernel_rfl) (by kernel_rfl) (fun _ _ _ h => h) (Or.inl ⟨by rfl, ?hy1003⟩) (by assumption) ?rest1003
      case hy1003 => (intro w hSw; (try dsimp only at hSw); go_simp; try (with_reducible rfl))
      (try simp only [Act.put, List.setIfInBounds_toArray, List.set_cons_zero, List.set_cons_succ])
      refine wpAnyH_take (i := 3) (oi := ({ dst := some 34, op := Op.fieldAddr 102 (Operand.tmp 33) 1, type := 0, pos := "poly.go:46", after := #[{ on := 2, ground := Ground.data }], guard := none } : Oper)) (v := ?v1004) rfl (by kernel_rfl) (by kernel_rfl) (by kernel_rfl) (fun _ _ _ h => h) (Or.inl ⟨by rfl, ?hy1004⟩) (by assumption) ?rest1004
      case hy1004 => (intro w hSw; (try dsimp only at hSw); go_simp; try (with_reducible rfl))
      (try simp only [Act.put, List.setIfInBounds_toArray, List.set_cons_zero, List.set_cons_succ])
      refine' wpAnyH_take (i := 4) (oi := ({ dst := some 35, op := Op.load 99 (Operand.tmp 34), type := 99, pos := "poly.go:46", after := #[{ on := 3, ground := Ground.data }], guard := none } : Oper)) (v := _) rfl (by kernel_rfl) (by kernel_rfl) (by kernel_rfl) (fun _ _ _ h => h) (yieldsIf_load_mid (by rfl) _ _ rfl _ _ rfl ((nar r4).map (Value.int .u64)) _ ?hS1005 Try.underlying99 rfl (by rw [List.length_map]; exact nar4i r4 HS5.out.rl)) (by assumption) ?rest1005
      case hS1005 => (intro w hSw; exact range_part (Below.blk hSw HS5.out.blk (blk_lt HS5.out.blk)) 4 _ (by rw [List.length_map]; exact stC_partr n HS5.out.hl))
      (try simp only [Act.put, List.setIfInBounds_toArray, List.set_cons_zero, List.set_cons_succ])
      refine wpAnyH_ready (rs := [5, 6]) (by kernel_rfl) (by simp) ?_
      refine AllReadyH.cons (o := ({ dst := some 36, op := Op.call { callee := Callee.value (Operand.func 70), args := #[Operand.tmp 31, Operand.tmp 35], argTypes := #[99, 99] }, type := 110, pos := "poly.go:46", after := #[{ on := 0, ground := Ground.data }, { on := 4, ground := Ground.data }], guard := none } : Oper)) rfl (fun K hK => ?_) ?_
      · go_simp
        go_at_call 70
        refine (HM3.out _).mono ?_
        rintro e w1006 ⟨rfl, hb1006⟩
        have HB1006 := Lib.hid (HB0.out.trans (hb1006.mono HB0.out.size))
        clear hb1006
        (try dsimp only)
        refine hK.out _ _ (HB1006.out) (fun hHeld => ?_)
        clear hK K
        (try simp only [Act.put, List.setIfInBounds_toArray, List.set_cons_zero, List.set_cons_succ])
        refine wpAnyH_ready (rs := [6]) (by kernel_rfl) (by simp) ?_
        refine AllReadyH.cons (o := ({ dst := some 5, op := Op.alloc 110, type := 0, pos := "poly.go:46", after := #[], guard := none } : Oper)) rfl (fun K hK => ?_) AllReadyH.nil
        refine step_alloc_row rfl 110 rfl _ (HY8.out _) ?_
        have HB1007 := Lib.hid (HB1006.out.alloc HB1006.out.size (.cells (arr .u64 (nar z8)) 110))
        have HG1007_5 := Lib.hid (blk_new (w1006) (.cells (arr .u64 (nar z8)) 110))
        refine hK.out _ _ (HB1007.out) (fun hHeld => ?_)
        clear hK K
        (try simp only [Act.put, List.setIfInBounds_toArray, List.set_cons_zero, List.set_cons_succ])
        refine wpAnyH_ready (rs := [7]) (by kernel_rfl) (by simp) ?_
        refine AllReadyH.cons (o := ({ dst := none, op := Op.store 110 (Operand.tmp 5) (Operand.tmp 36), type := 0, pos := "poly.go:46", after := #[{ on := 6, ground := Ground.data }, { on := 5, ground := Ground.data }, { on := 5, ground := Ground.chain }, { on := 0, ground := Ground.phase }, { on := 1, ground := Ground.phase }, { on := 2, ground := Ground.phase }, { on := 3, ground := Ground.phase }, { on := 4, ground := Ground.phase }, { on := 5, ground := Ground.phase }, { on := 6, ground := Ground.phase }], guard := none } : Oper)) rfl (fun K hK => ?_) AllReadyH.nil
        refine step_store_whole rfl 110 (.tmp 5) (.tmp 36) rfl (w1006).heap.size _ _ _ HG1007_5.out rfl rfl ((nar8 x8 L8.out).trans (nar8 z8 HZ8.out).symm) (nar8s x8 L8.out) (all_arr _ _) ?_
        intro w1008 hb1008 hk1008 hz1008
        have HB1008 := Lib.hid (HB1007.out.trans (hk1008.toBelow HB1007.out.size (by rintro i rfl; exact HB1006.out.size)))
        have HG1008_5 := Lib.hid hb1008
        clear hb1008 hk1008 hz1008
        refine hK.out _ _ (HB1008.out) (fun hHeld => ?_)
        clear hK K
        (try simp only [Act.put])
        refine wpAnyH_done (by kernel_rfl) ?_ _
        go_wp2_with fail
        go_meet
        exact ⟨_, rfl, HB1006.out.size, HG1008_5.out, HB1008.out⟩
      refine AllReadyH.cons (o := ({ dst := some 5, op := Op.alloc 110, type := 0, pos := "poly.go:46", after := #[], guard := none } : Oper)) rfl (fun K hK => ?_) ?_
      · refine step_alloc_row rfl 110 rfl _ (HY8.out _) ?_
        have HB1009 := Lib.hid (HB0.out.alloc HB0.out.size (.cells (arr .u64 (nar z8)) 110))
        have HG1009_5 := Lib.hid (blk_new (wd.drew) (.cells (arr .u64 (nar z8)) 110))
        refine hK.out _ _ (HB1009.out) (fun hHeld => ?_)
        clear hK K
        (try simp only [Act.put, List.setIfInBounds_toArray, List.set_cons_zero, List.set_cons_succ])
        refine wpAnyH_ready (rs := [5]) (by kernel_rfl) (by simp) ?_
        refine AllReadyH.cons (o := ({ dst := some 36, op := Op.call { callee := Callee.value (Operand.func 70), args := #[Operand.tmp 31, Operand.tmp 35], argTypes := #[99, 99] }, type := 110, pos := "poly.go:46", after := #[{ on := 0, ground := Ground.data }, { on := 4, ground := Ground.data }], guard := none } : Oper)) rfl (fun K hK => ?_) AllReadyH.nil
        go_simp
        go_at_call 70
        refine (HM3.out _).mono ?_
        rintro e w1010 ⟨rfl, hb1010⟩
        have HB1010 := Lib.hid (HB1009.out.trans (hb1010.mono HB1009.out.size))
        have HG1010_5 := Lib.hid (Below.blk hb1010 HG1009_5.out (blk_lt HG1009_5.out))
        clear hb1010
        (try dsimp only)
        refine hK.out _ _ (HB1010.out) (fun hHeld => ?_)
        clear hK K
        (try simp only [Act.put, List.setIfInBounds_toArray, List.set_cons_zero, List.set_cons_succ])
        refine wpAnyH_ready (rs := [7]) (by kernel_rfl) (by simp) ?_
        refine AllReadyH.cons (o := ({ dst := none, op := Op.store 110 (Operand.tmp 5) (Operand.tmp 36), type := 0, pos := "poly.go:46", after := #[{ on := 6, ground := Ground.data }, { on := 5, ground := Ground.data }, { on := 5, ground := Ground.chain }, { on := 0, ground := Ground.phase }, { on := 1, ground := Ground.phase }, { on := 2, ground := Ground.phase }, { on := 3, ground := Ground.phase }, { on := 4, ground := Ground.phase }, { on := 5, ground := Ground.phase }, { on := 6, ground := Ground.phase }], guard := none } : Oper)) rfl (fun K hK => ?_) AllReadyH.nil
        refine step_store_whole rfl 110 (.tmp 5) (.tmp 36) rfl (wd.drew).heap.size _ _ _ HG1010_5.out rfl rfl ((nar8 x8 L8.out).trans (nar8 z8 HZ8.out).symm) (nar8s x8 L8.out) (all_arr _ _) ?_
        intro w1011 hb1011 hk1011 hz1011
        have HB1011 := Lib.hid (HB1010.out.trans (hk1011.toBelow HB1010.out.size (by rintro i rfl; exact HB0.out.size)))
        have HG1011_5 := Lib.hid hb1011
        clear hb1011 hk1011 hz1011
        refine hK.out _ _ (HB1011.out) (fun hHeld => ?_)
        clear hK K
        (try simp only [Act.put])
        refine wpAnyH_done (by kernel_rfl) ?_ _
        go_wp2_with fail
        go_meet
        exact ⟨_, rfl, HB0.out.size, HG1011_5.out, HB1011.out⟩
      exact AllReadyH.nil
    case rest =>
      obtain ⟨g5, rfl, hg5, hb6, hw6⟩ := hcut
      have HS6 := Lib.hid (HS5.out.below hw6)
      have HB6 := Lib.hid hb6
      have hw7 : Below w.heap.size w wc := (HW4.out.trans (HW5.out.mono HW4.out.size)).trans (hw6.mono (Nat.le_trans HW4.out.size HW5.out.size))
      have HW6 := Lib.hid hw7
      have HG5 := Lib.hid hg5
      have hat := fun w => run_arrayAt (P := Try.prog) (w := w) 99 82 4 (some ⟨g5, 0, none⟩) 4 8 Try.underlying99 (Nat.le_refl _)
      clear hb6 hw6 hw7 hg5
      go_wp2_with (first | ((with_reducible show wpList _ _ _ (Oper.mk (some 40) _ _ _ _ _ :: _) _ _); refine wpList_load_part rfl 99 _ rfl g5 0 _ 110 (0, 0) _ HB6.out rfl .u64 (nar x4) (by rw [List.drop_zero, arr_toList, nar_len, LX.out, ← List.map_take, HT8.out]) Try.underlying99 rfl (nar4i x4 LX.out) ?_) | ((with_reducible show Calls _ _ _ _ _); go_at_call 62; refine (HM4.out _).mono ?_; rintro e w8 ⟨rfl, hbw⟩; have HS8 := Lib.hid (HS6.out.below hbw); have HW8 := Lib.hid (HW6.out.trans (hbw.mono HW6.out.size)); clear hbw) | ((with_reducible show wpList _ _ _ (Oper.mk none (Op.store _ (Operand.tmp 43) _) _ _ _ _ :: _) _ _); refine wpList_store_part rfl 99 _ _ rfl p 0 _ _ 102 HS8.out.blk rfl rfl (by rw [stC_size n HS8.out.hl HS8.out.rl HS8.out.bl, arr_size, nar_len, LF.out]; omega) (nar4s f4 LF.out) (all_arr _ _) ?_; intro w9 hb9 hk9 hz9; rw [stC_seth n HS8.out.hl f4 LF.out] at hb9; have hs9 : IsSt w9 p f4 r4 b n := ⟨hb9, LF.out, HS8.out.rl, HS8.out.bl⟩; have n9 := hs9.at_n; have f9 := hs9.fr 24; have HS9 := Lib.hid (hs9.set_n 0); have HK9 := Lib.hid (((Kept.of_below (T := fun x => x = p) HW8.out).trans hk9).setCell (p := ⟨p, 24, none⟩) (.inl rfl) (.int .i64 ((0 : Nat) : Int))); clear hb9 hk9 hz9 hs9))
      go_end0
      exact ⟨rfl, HS9.out, HK9.out⟩
end Go.Proofs.Ytoljnogpegemjaa.Po
