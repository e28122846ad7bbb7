/- scalar.Add, Reduce: what they answer. Condition: 32 bytes each; 64 bytes. -/
import Derived.Test.YtanjhngehfbpbaaSlB
namespace Go.Proofs.Ytanjhngehfbpbaa.Sl
open Go.RowKit Lm Fp Sc

theorem info_u64 : (Try.prog.info? 47).map (fun i => (i.zero, i.size, i.bytes)) = some (some (.int .u64 0), 1, 8) := by kernel_rfl
/-- A limb behind four. -/
theorem wpList_app5 {ops : Array Oper} {rest : List Oper} {o : Oper} {a : Act} {Q : Exit → Act → World → Prop} (hg : o.guard = none) (s x : Operand) (w : World) (hop : o.op = Op.call { callee := Callee.builtin Builtin.append, args := #[s, x], argTypes := #[73, 73] })
    (g gb : Nat) (xx : List Int) (c : Int) (hl : xx.length = 4) (hs : a.eval s = .slice (some ⟨g, 0, none⟩) 4 4) (hx : a.eval x = .slice (some ⟨gb, 0, none⟩) 1 1) (h1 : ∀ i, i < 4 → w.cell? ⟨g, i, none⟩ = some (.int .u64 (xx.getD i 0))) (h2 : w.cell? ⟨gb, 0, none⟩ = some (.int .u64 c))
    (h : ∀ g' cap w', (∀ i, i < 5 → w'.cell? ⟨g', i, none⟩ = some (.int .u64 ((xx ++ [c]).getD i 0))) → Below w.heap.size w w' → wpList Try.prog ops Q rest (a.put o.dst (.slice (some ⟨g', 0, none⟩) 5 cap)) w') : wpList Try.prog ops Q (o :: rest) a w := by
  obtain ⟨i, hi, hz⟩ := Option.map_eq_some_iff.1 info_u64
  simp only [Prod.mk.injEq] at hz
  obtain ⟨z0, z1, z2⟩ := hz
  refine wpList_append_grows w hg s x _ hop 47 i (.int .u64 0) 1 8 Try.underlying73 hi z0 z1 z2 rfl (by decide) (some ⟨g, 0, none⟩) 4 4 (xx.map (Value.int .u64)) hs (fun e => by cases e) (by simp [hl]) ?_ ⟨gb, 0, none⟩ 1 1 [.int .u64 c] hx rfl ?_ ?_ (by decide) (by decide) (by decide) ?_
  · intro b hb j u hj
    cases hb
    rw [List.getElem?_map, Option.map_eq_some_iff] at hj
    obtain ⟨y, hy, rfl⟩ := hj
    have hj4 : j < 4 := by rw [← hl]; exact (List.getElem?_eq_some_iff.1 hy).1
    have := h1 j hj4
    rw [List.getD, hy] at this
    rw [Addr.add_lit, Nat.zero_add]
    exact this
  · intro j u hj
    obtain rfl : j = 0 := by
      have := (List.getElem?_eq_some_iff.1 hj).1
      simp at this
      exact this
    cases hj
    rw [Addr.add_lit]
    exact h2
  · intro u hu
    simp only [List.mem_singleton] at hu
    subst hu
    rfl
  · intro v' w' hown hgr
    rcases hown.2 with ⟨-, h0⟩ | ⟨g', cap, cur, rfl, -, -⟩
    · exact absurd h0 (by decide)
    · refine h g' cap w' (fun j hj => ?_) ⟨hgr.os, hgr.tape, hgr.output, hgr.size, fun k hk => hgr.block k hk (by simp)⟩
      have hc := World.ownsRow.cells hown (g := g') rfl j (.int .u64 ((xx ++ [c]).getD j 0)) (by
        rw [show xx.map (Value.int .u64) ++ [Value.int .u64 c] = (xx ++ [c]).map (Value.int .u64) by simp, List.getElem?_map, List.getD, List.getElem?_eq_getElem (by simp [hl]; omega)]
        rfl)
      rw [Addr.add_lit, Nat.zero_add] at hc
      exact hc

theorem val5 (xs : List Nat) (c : Nat) (hl : xs.length = 4) : val 18446744073709551616 (xs ++ [c]) = val 18446744073709551616 xs + 18446744073709551616 ^ 4 * c := by
  rw [val_append, hl]
  simp [val]

set_option maxRecDepth 100000 in
set_option maxHeartbeats 4000000 in
theorem sadd_any {xs ys : List Int} (a b : Nat) (w : World) (hx : K32 xs a) (hy : K32 ys b) : Calls Try.prog 22 #[.agg (arr .u8 xs), .agg (arr .u8 ys)] w fun e w' => ∃ zs, e = .returned (.agg (arr .u8 zs)) ∧ K32 zs ((a + b) % q) ∧ Below w.heap.size w w' := by
  have hcl : cry a b < 18446744073709551616 := by
    have h1 := hx.2
    have h2 := hy.2
    rw [pow_same] at h1 h2
    have h3 : (a + b) / 18446744073709551616 ^ 4 < 2 := Nat.div_lt_of_lt_mul (by omega)
    exact Nat.lt_of_lt_of_le h3 (by decide)
  have hab : (a + b) % 18446744073709551616 ^ 4 + 18446744073709551616 ^ 4 * cry a b = a + b := Nat.mod_add_div _ _
  have HX := Lib.hid hx
  have HY := Lib.hid hy
  have HXL := Lib.hid hx.len
  have HYL := Lib.hid hy.len
  have HLA := Lib.hid (fun (us vs : List Int) (w : World) h1 h2 => @ladd4 us vs a b w h1 h2)
  generalize cry a b = c at hcl hab HLA
  have HCL := Lib.hid hcl
  have HAB := Lib.hid hab
  obtain ⟨zn, hzn⟩ : ∃ zs : List Int, zs = List.replicate 32 0 := ⟨_, rfl⟩
  have HZzn : Hid (∀ w, (zeroValue 23).run Try.prog w = .ok (.agg (arr .u8 zn)) w) := Lib.hid (by intro w; rw [hzn]; exact zero_num w)
  have HLzn : Hid (zn.length = 32) := Lib.hid (by rw [hzn]; rfl)
  obtain ⟨zl, hzl⟩ : ∃ zs : List Int, zs = List.replicate 4 0 := ⟨_, rfl⟩
  have HZzl : Hid (∀ w, (zeroValue 49).run Try.prog w = .ok (.agg (arr .u64 zl)) w) := Lib.hid (by intro w; rw [hzl]; exact zero_lim w)
  have HLzl : Hid (zl.length = 4) := Lib.hid (by rw [hzl]; rfl)
  have HS0 := Lib.hid (Blk.three w (arr .u8 xs) (arr .u8 ys) (arr .u8 zn) 23 23 23)
  clear hzn hzl hx hy hcl hab
  go_enter Try.func22, Try.ntmps22
  go_upto_region 1 with (first | ((with_reducible show wpList _ _ _ (Oper.mk (some 4) _ _ _ _ _ :: _) _ _); refine wpList_alloc_row rfl 23 rfl _ (HZzn.out _) ?_))
  (try simp only [World.size_alloc, Act.put, List.setIfInBounds_toArray, List.set_cons_zero, List.set_cons_succ])
  generalize (((w.alloc (.cells (arr .u8 xs) 23)).alloc (.cells (arr .u8 ys) 23)).alloc (.cells (arr .u8 zn) 23)) = wb at HS0 ⊢
  go_cut [5, 6] (fun u5 u6 wx => ∃ gg xx, u5 = .pointer (some ⟨gg, 0, none⟩) ∧ u6 = .int .u64 (c : Int) ∧ N4 xx ((a + b) % 18446744073709551616 ^ 4) ∧ Blk w wx [(w.heap.size, arr .u8 xs, 23), (w.heap.size + 1, arr .u8 ys, 23), (w.heap.size + 1 + 1, arr .u8 zn, 23), (gg, arr .u64 xx, 49)])
  case first =>
    have HK0 := Lib.hid ((Kept.refl (fun _ => False) wb).drew)
    have HBd := Lib.hid (HS0.out.drew)
    refine wp_region_held_drew (S := (fun w' => Kept (fun _ => False) wb w')) (by kernel_rfl) (HK0.out) (fun hHeld => ?_)
    generalize wb.drew = wd at HK0 HBd hHeld ⊢
    refine' wpAnyH_take (i := 0) (oi := ({ dst := some 8, op := Op.load 23 (Operand.tmp 2), type := 23, pos := "scalar.go:43", after := #[], guard := none } : Oper)) (v := _) rfl (by kernel_rfl) (by kernel_rfl) (by kernel_rfl) (fun _ _ _ h => h) (yieldsIf_load_mid (by rfl) _ _ rfl _ _ rfl (xs.map (Value.int .u8)) _ ?hS1701 Try.underlying23 rfl (by rw [List.length_map]; exact num_i HXL.out)) (by assumption) ?rest1701
    case hS1701 => (intro w hSw; (try dsimp only at hSw); exact range_part (hSw.blk (HS0.out.get 0 rfl) (fun e => e.elim)) 0 _ (by rw [List.length_map]; exact arr_part _ _))
    (try simp only [Act.put, List.setIfInBounds_toArray, List.set_cons_zero, List.set_cons_succ])
    refine' wpAnyH_take (i := 2) (oi := ({ dst := some 10, op := Op.load 23 (Operand.tmp 3), type := 23, pos := "scalar.go:43", after := #[], guard := none } : Oper)) (v := _) rfl (by kernel_rfl) (by kernel_rfl) (by kernel_rfl) (fun _ _ _ h => h) (yieldsIf_load_mid (by rfl) _ _ rfl _ _ rfl (ys.map (Value.int .u8)) _ ?hS1702 Try.underlying23 rfl (by rw [List.length_map]; exact num_i HYL.out)) (by assumption) ?rest1702
    case hS1702 => (intro w hSw; (try dsimp only at hSw); exact range_part (hSw.blk (HS0.out.get 1 rfl) (fun e => e.elim)) 0 _ (by rw [List.length_map]; exact arr_part _ _))
    (try simp only [Act.put, List.setIfInBounds_toArray, List.set_cons_zero, List.set_cons_succ])
    refine wpAnyH_ready (rs := [1, 8]) (by kernel_rfl) (by simp) ?_
    refine AllReadyH.cons (o := ({ dst := some 9, op := Op.call { callee := Callee.value (Operand.func 36), args := #[Operand.tmp 8], argTypes := #[23] }, type := 49, pos := "scalar.go:43", after := #[{ on := 0, ground := Ground.data }], guard := none } : Oper)) rfl (fun K hK => ?_) ?_
    · go_simp
      go_at_call 36
      refine (of4 _ _ HX.out).mono ?_
      rintro e w1703 ⟨z1703, rfl, h1703, hb1703⟩
      have HZ1703 := Lib.hid h1703
      have HL1703 := Lib.hid h1703.len
      clear h1703
      have HB1703 := Lib.hid (HBd.out.kept hb1703)
      have HK1703 := Lib.hid (HK0.out.trans (Kept.of_below hb1703))
      clear hb1703
      (try dsimp only)
      clear HBd
      clear HK0
      clear hHeld
      refine hK.out _ _ (HK1703.out) (fun hHeld => ?_)
      clear hK K
      (try simp only [Act.put, List.setIfInBounds_toArray, List.set_cons_zero, List.set_cons_succ])
      refine wpAnyH_ready (rs := [3, 8]) (by kernel_rfl) (by simp) ?_
      refine AllReadyH.cons (o := ({ dst := some 11, op := Op.call { callee := Callee.value (Operand.func 36), args := #[Operand.tmp 10], argTypes := #[23] }, type := 49, pos := "scalar.go:43", after := #[{ on := 2, ground := Ground.data }, { on := 1, ground := Ground.chain }], guard := none } : Oper)) rfl (fun K hK => ?_) ?_
      · go_simp
        go_at_call 36
        refine (of4 _ _ HY.out).mono ?_
        rintro e w1704 ⟨z1704, rfl, h1704, hb1704⟩
        have HZ1704 := Lib.hid h1704
        have HL1704 := Lib.hid h1704.len
        clear h1704
        have HB1704 := Lib.hid (HB1703.out.kept hb1704)
        have HK1704 := Lib.hid (HK1703.out.trans (Kept.of_below hb1704))
        clear hb1704
        (try dsimp only)
        clear HB1703
        clear HK1703
        clear hHeld
        refine hK.out _ _ (HK1704.out) (fun hHeld => ?_)
        clear hK K
        (try simp only [Act.put, List.setIfInBounds_toArray, List.set_cons_zero, List.set_cons_succ])
        refine wpAnyH_ready (rs := [4, 8]) (by kernel_rfl) (by simp) ?_
        refine AllReadyH.cons (o := ({ dst := some 12, op := Op.call { callee := Callee.value (Operand.func 41), args := #[Operand.tmp 9, Operand.tmp 11], argTypes := #[49, 49] }, type := 70, pos := "scalar.go:43", after := #[{ on := 1, ground := Ground.data }, { on := 3, ground := Ground.data }, { on := 3, ground := Ground.chain }], guard := none } : Oper)) rfl (fun K hK => ?_) ?_
        · go_simp
          go_at_call 41
          refine (HLA.out _ _ _ HZ1703.out HZ1704.out).mono ?_
          rintro e w1705 ⟨z1705, rfl, h1705, hb1705⟩
          have HZ1705 := Lib.hid h1705
          have HL1705 := Lib.hid h1705.len
          clear h1705
          have HB1705 := Lib.hid (HB1704.out.kept hb1705)
          have HK1705 := Lib.hid (HK1704.out.trans (Kept.of_below hb1705))
          clear hb1705
          (try dsimp only)
          clear HB1704
          clear HK1704
          clear hHeld
          refine hK.out _ _ (HK1705.out) (fun hHeld => ?_)
          clear hK K
          (try simp only [Act.put, List.setIfInBounds_toArray, List.set_cons_zero, List.set_cons_succ])
          refine wpAnyH_take (i := 5) (oi := ({ dst := some 7, op := Op.move (Operand.tmp 12), type := 70, pos := "scalar.go:43", after := #[{ on := 4, ground := Ground.data }], guard := none } : Oper)) (v := ?v1706) rfl (by kernel_rfl) (by kernel_rfl) (by kernel_rfl) (fun _ _ _ h => h) (Or.inl ⟨by rfl, ?hy1706⟩) (by assumption) ?rest1706
          case hy1706 => (intro w hSw; (try dsimp only at hSw); go_simp; try (with_reducible rfl))
          (try simp only [Act.put, List.setIfInBounds_toArray, List.set_cons_zero, List.set_cons_succ])
          refine wpAnyH_take (i := 6) (oi := ({ dst := some 13, op := Op.extract (Operand.tmp 7) 0, type := 49, pos := "scalar.go:43", after := #[{ on := 5, ground := Ground.data }], guard := none } : Oper)) (v := ?v1707) rfl (by kernel_rfl) (by kernel_rfl) (by kernel_rfl) (fun _ _ _ h => h) (Or.inl ⟨by rfl, ?hy1707⟩) (by assumption) ?rest1707
          case hy1707 => (intro w hSw; (try dsimp only at hSw); go_simp; try (with_reducible rfl))
          (try simp only [Act.put, List.setIfInBounds_toArray, List.set_cons_zero, List.set_cons_succ])
          refine wpAnyH_take (i := 7) (oi := ({ dst := some 14, op := Op.extract (Operand.tmp 7) 1, type := 47, pos := "scalar.go:43", after := #[{ on := 5, ground := Ground.data }, { on := 9, ground := Ground.gcOnly Departure.lateStores }], guard := none } : Oper)) (v := ?v1708) rfl (by kernel_rfl) (by kernel_rfl) (by kernel_rfl) (fun _ _ _ h => h) (Or.inl ⟨by rfl, ?hy1708⟩) (by assumption) ?rest1708
          case hy1708 => (intro w hSw; (try dsimp only at hSw); go_simp; try (with_reducible rfl))
          (try simp only [Act.put, List.setIfInBounds_toArray, List.set_cons_zero, List.set_cons_succ])
          refine wpAnyH_ready (rs := [8]) (by kernel_rfl) (by simp) ?_
          refine AllReadyH.cons (o := ({ dst := some 5, op := Op.alloc 49, type := 0, pos := "scalar.go:43", after := #[], guard := none } : Oper)) rfl (fun K hK => ?_) AllReadyH.nil
          refine step_alloc_row rfl 49 rfl _ (HZzl.out _) ?_
          have HB1709 := Lib.hid (HB1705.out.alloc (arr .u64 zl) 49)
          have HK1709 := Lib.hid (HK1705.out.alloc (.cells (arr .u64 zl) 49))
          have HN1709 := Lib.hid (show wb.heap.size ≤ (w1705).heap.size from HK1705.out.size)
          generalize (w1705).heap.size = g1709 at HB1709 HN1709 ⊢
          generalize (w1705).alloc (.cells (arr .u64 zl) 49) = w1709 at HB1709 HK1709 ⊢
          clear HB1705
          clear HK1705
          clear hHeld
          refine hK.out _ _ (HK1709.out) (fun hHeld => ?_)
          clear hK K
          (try simp only [Act.put, List.setIfInBounds_toArray, List.set_cons_zero, List.set_cons_succ])
          refine wpAnyH_ready (rs := [9]) (by kernel_rfl) (by simp) ?_
          refine AllReadyH.cons (o := ({ dst := none, op := Op.store 49 (Operand.tmp 5) (Operand.tmp 13), type := 0, pos := "scalar.go:43", after := #[{ on := 8, ground := Ground.data }, { on := 6, ground := Ground.data }, { on := 4, ground := Ground.chain }, { on := 0, ground := Ground.phase }, { on := 1, ground := Ground.phase }, { on := 2, ground := Ground.phase }, { on := 3, ground := Ground.phase }, { on := 4, ground := Ground.phase }, { on := 5, ground := Ground.phase }, { on := 6, ground := Ground.phase }, { on := 7, ground := Ground.textOnly Departure.lateStores }, { on := 8, ground := Ground.phase }], guard := none } : Oper)) rfl (fun K hK => ?_) AllReadyH.nil
          refine step_store_whole rfl 49 (.tmp 5) (.tmp 13) rfl (g1709) _ _ _ (HB1709.out.get 3 rfl) rfl rfl (arr_len2 _ _ HL1705.out HLzl.out) (lim_s HL1705.out) (all_arr _ _) ?_
          intro w1710 hb1710 hk1710 hz1710
          have HB1710 := Lib.hid (HB1709.out.put 3 rfl hk1710 hb1710)
          have HK1710 := Lib.hid (HK1709.out.trans_new hk1710 (fun i hi e => absurd hi (by rw [e]; exact Nat.not_lt.2 HN1709.out)))
          clear hb1710 hk1710 hz1710
          clear HB1709
          clear HK1709
          clear hHeld
          refine hK.out _ _ (HK1710.out) (fun hHeld => ?_)
          clear hK K
          (try simp only [Act.put])
          refine wpAnyH_take (i := 10) (oi := ({ dst := some 6, op := Op.assign (Operand.tmp 14), type := 47, pos := "scalar.go:43", after := #[{ on := 7, ground := Ground.data }, { on := 9, ground := Ground.chain }, { on := 0, ground := Ground.phase }, { on := 1, ground := Ground.phase }, { on := 2, ground := Ground.phase }, { on := 3, ground := Ground.phase }, { on := 4, ground := Ground.phase }, { on := 5, ground := Ground.phase }, { on := 6, ground := Ground.phase }, { on := 7, ground := Ground.phase }, { on := 8, ground := Ground.phase }, { on := 9, ground := Ground.phase }], guard := none } : Oper)) (v := ?v1711) rfl (by kernel_rfl) (by kernel_rfl) (by kernel_rfl) (fun _ _ _ h => h) (Or.inl ⟨by rfl, ?hy1711⟩) (by assumption) ?rest1711
          case hy1711 => (intro w hSw; (try dsimp only at hSw); go_simp; try (with_reducible rfl))
          (try simp only [Act.put, List.setIfInBounds_toArray, List.set_cons_zero, List.set_cons_succ])
          refine wpAnyH_done (by kernel_rfl) ?_ _
          go_wp2_with fail
          go_meet
          exact ⟨_, _, rfl, rfl, HZ1705.out, HB1710.out⟩
        refine AllReadyH.cons (o := ({ dst := some 5, op := Op.alloc 49, type := 0, pos := "scalar.go:43", after := #[], guard := none } : Oper)) rfl (fun K hK => ?_) ?_
        · refine step_alloc_row rfl 49 rfl _ (HZzl.out _) ?_
          have HB1712 := Lib.hid (HB1704.out.alloc (arr .u64 zl) 49)
          have HK1712 := Lib.hid (HK1704.out.alloc (.cells (arr .u64 zl) 49))
          have HN1712 := Lib.hid (show wb.heap.size ≤ (w1704).heap.size from HK1704.out.size)
          generalize (w1704).heap.size = g1712 at HB1712 HN1712 ⊢
          generalize (w1704).alloc (.cells (arr .u64 zl) 49) = w1712 at HB1712 HK1712 ⊢
          clear HB1704
          clear HK1704
          clear hHeld
          refine hK.out _ _ (HK1712.out) (fun hHeld => ?_)
          clear hK K
          (try simp only [Act.put, List.setIfInBounds_toArray, List.set_cons_zero, List.set_cons_succ])
          refine wpAnyH_ready (rs := [4]) (by kernel_rfl) (by simp) ?_
          refine AllReadyH.cons (o := ({ dst := some 12, op := Op.call { callee := Callee.value (Operand.func 41), args := #[Operand.tmp 9, Operand.tmp 11], argTypes := #[49, 49] }, type := 70, pos := "scalar.go:43", after := #[{ on := 1, ground := Ground.data }, { on := 3, ground := Ground.data }, { on := 3, ground := Ground.chain }], guard := none } : Oper)) rfl (fun K hK => ?_) AllReadyH.nil
          go_simp
          go_at_call 41
          refine (HLA.out _ _ _ HZ1703.out HZ1704.out).mono ?_
          rintro e w1713 ⟨z1713, rfl, h1713, hb1713⟩
          have HZ1713 := Lib.hid h1713
          have HL1713 := Lib.hid h1713.len
          clear h1713
          have HB1713 := Lib.hid (HB1712.out.kept hb1713)
          have HK1713 := Lib.hid (HK1712.out.trans (Kept.of_below hb1713))
          clear hb1713
          (try dsimp only)
          clear HB1712
          clear HK1712
          clear hHeld
          refine hK.out _ _ (HK1713.out) (fun hHeld => ?_)
          clear hK K
          (try simp only [Act.put, List.setIfInBounds_toArray, List.set_cons_zero, List.set_cons_succ])
          refine wpAnyH_take (i := 5) (oi := ({ dst := some 7, op := Op.move (Operand.tmp 12), type := 70, pos := "scalar.go:43", after := #[{ on := 4, ground := Ground.data }], guard := none } : Oper)) (v := ?v1714) rfl (by kernel_rfl) (by kernel_rfl) (by kernel_rfl) (fun _ _ _ h => h) (Or.inl ⟨by rfl, ?hy1714⟩) (by assumption) ?rest1714
          case hy1714 => (intro w hSw; (try dsimp only at hSw); go_simp; try (with_reducible rfl))
          (try simp only [Act.put, List.setIfInBounds_toArray, List.set_cons_zero, List.set_cons_succ])
          refine wpAnyH_take (i := 6) (oi := ({ dst := some 13, op := Op.extract (Operand.tmp 7) 0, type := 49, pos := "scalar.go:43", after := #[{ on := 5, ground := Ground.data }], guard := none } : Oper)) (v := ?v1715) rfl (by kernel_rfl) (by kernel_rfl) (by kernel_rfl) (fun _ _ _ h => h) (Or.inl ⟨by rfl, ?hy1715⟩) (by assumption) ?rest1715
          case hy1715 => (intro w hSw; (try dsimp only at hSw); go_simp; try (with_reducible rfl))
          (try simp only [Act.put, List.setIfInBounds_toArray, List.set_cons_zero, List.set_cons_succ])
          refine wpAnyH_take (i := 7) (oi := ({ dst := some 14, op := Op.extract (Operand.tmp 7) 1, type := 47, pos := "scalar.go:43", after := #[{ on := 5, ground := Ground.data }, { on := 9, ground := Ground.gcOnly Departure.lateStores }], guard := none } : Oper)) (v := ?v1716) rfl (by kernel_rfl) (by kernel_rfl) (by kernel_rfl) (fun _ _ _ h => h) (Or.inl ⟨by rfl, ?hy1716⟩) (by assumption) ?rest1716
          case hy1716 => (intro w hSw; (try dsimp only at hSw); go_simp; try (with_reducible rfl))
          (try simp only [Act.put, List.setIfInBounds_toArray, List.set_cons_zero, List.set_cons_succ])
          refine wpAnyH_ready (rs := [9]) (by kernel_rfl) (by simp) ?_
          refine AllReadyH.cons (o := ({ dst := none, op := Op.store 49 (Operand.tmp 5) (Operand.tmp 13), type := 0, pos := "scalar.go:43", after := #[{ on := 8, ground := Ground.data }, { on := 6, ground := Ground.data }, { on := 4, ground := Ground.chain }, { on := 0, ground := Ground.phase }, { on := 1, ground := Ground.phase }, { on := 2, ground := Ground.phase }, { on := 3, ground := Ground.phase }, { on := 4, ground := Ground.phase }, { on := 5, ground := Ground.phase }, { on := 6, ground := Ground.phase }, { on := 7, ground := Ground.textOnly Departure.lateStores }, { on := 8, ground := Ground.phase }], guard := none } : Oper)) rfl (fun K hK => ?_) AllReadyH.nil
          refine step_store_whole rfl 49 (.tmp 5) (.tmp 13) rfl (g1712) _ _ _ (HB1713.out.get 3 rfl) rfl rfl (arr_len2 _ _ HL1713.out HLzl.out) (lim_s HL1713.out) (all_arr _ _) ?_
          intro w1717 hb1717 hk1717 hz1717
          have HB1717 := Lib.hid (HB1713.out.put 3 rfl hk1717 hb1717)
          have HK1717 := Lib.hid (HK1713.out.trans_new hk1717 (fun i hi e => absurd hi (by rw [e]; exact Nat.not_lt.2 HN1712.out)))
          clear hb1717 hk1717 hz1717
          clear HB1713
          clear HK1713
          clear hHeld
          refine hK.out _ _ (HK1717.out) (fun hHeld => ?_)
          clear hK K
          (try simp only [Act.put])
          refine wpAnyH_take (i := 10) (oi := ({ dst := some 6, op := Op.assign (Operand.tmp 14), type := 47, pos := "scalar.go:43", after := #[{ on := 7, ground := Ground.data }, { on := 9, ground := Ground.chain }, { on := 0, ground := Ground.phase }, { on := 1, ground := Ground.phase }, { on := 2, ground := Ground.phase }, { on := 3, ground := Ground.phase }, { on := 4, ground := Ground.phase }, { on := 5, ground := Ground.phase }, { on := 6, ground := Ground.phase }, { on := 7, ground := Ground.phase }, { on := 8, ground := Ground.phase }, { on := 9, ground := Ground.phase }], guard := none } : Oper)) (v := ?v1718) rfl (by kernel_rfl) (by kernel_rfl) (by kernel_rfl) (fun _ _ _ h => h) (Or.inl ⟨by rfl, ?hy1718⟩) (by assumption) ?rest1718
          case hy1718 => (intro w hSw; (try dsimp only at hSw); go_simp; try (with_reducible rfl))
          (try simp only [Act.put, List.setIfInBounds_toArray, List.set_cons_zero, List.set_cons_succ])
          refine wpAnyH_done (by kernel_rfl) ?_ _
          go_wp2_with fail
          go_meet
          exact ⟨_, _, rfl, rfl, HZ1713.out, HB1717.out⟩
        exact AllReadyH.nil
      refine AllReadyH.cons (o := ({ dst := some 5, op := Op.alloc 49, type := 0, pos := "scalar.go:43", after := #[], guard := none } : Oper)) rfl (fun K hK => ?_) ?_
      · refine step_alloc_row rfl 49 rfl _ (HZzl.out _) ?_
        have HB1719 := Lib.hid (HB1703.out.alloc (arr .u64 zl) 49)
        have HK1719 := Lib.hid (HK1703.out.alloc (.cells (arr .u64 zl) 49))
        have HN1719 := Lib.hid (show wb.heap.size ≤ (w1703).heap.size from HK1703.out.size)
        generalize (w1703).heap.size = g1719 at HB1719 HN1719 ⊢
        generalize (w1703).alloc (.cells (arr .u64 zl) 49) = w1719 at HB1719 HK1719 ⊢
        clear HB1703
        clear HK1703
        clear hHeld
        refine hK.out _ _ (HK1719.out) (fun hHeld => ?_)
        clear hK K
        (try simp only [Act.put, List.setIfInBounds_toArray, List.set_cons_zero, List.set_cons_succ])
        refine wpAnyH_ready (rs := [3]) (by kernel_rfl) (by simp) ?_
        refine AllReadyH.cons (o := ({ dst := some 11, op := Op.call { callee := Callee.value (Operand.func 36), args := #[Operand.tmp 10], argTypes := #[23] }, type := 49, pos := "scalar.go:43", after := #[{ on := 2, ground := Ground.data }, { on := 1, ground := Ground.chain }], guard := none } : Oper)) rfl (fun K hK => ?_) AllReadyH.nil
        go_simp
        go_at_call 36
        refine (of4 _ _ HY.out).mono ?_
        rintro e w1720 ⟨z1720, rfl, h1720, hb1720⟩
        have HZ1720 := Lib.hid h1720
        have HL1720 := Lib.hid h1720.len
        clear h1720
        have HB1720 := Lib.hid (HB1719.out.kept hb1720)
        have HK1720 := Lib.hid (HK1719.out.trans (Kept.of_below hb1720))
        clear hb1720
        (try dsimp only)
        clear HB1719
        clear HK1719
        clear hHeld
        refine hK.out _ _ (HK1720.out) (fun hHeld => ?_)
        clear hK K
        (try simp only [Act.put, List.setIfInBounds_toArray, List.set_cons_zero, List.set_cons_succ])
        refine wpAnyH_ready (rs := [4]) (by kernel_rfl) (by simp) ?_
        refine AllReadyH.cons (o := ({ dst := some 12, op := Op.call { callee := Callee.value (Operand.func 41), args := #[Operand.tmp 9, Operand.tmp 11], argTypes := #[49, 49] }, type := 70, pos := "scalar.go:43", after := #[{ on := 1, ground := Ground.data }, { on := 3, ground := Ground.data }, { on := 3, ground := Ground.chain }], guard := none } : Oper)) rfl (fun K hK => ?_) AllReadyH.nil
        go_simp
        go_at_call 41
        refine (HLA.out _ _ _ HZ1703.out HZ1720.out).mono ?_
        rintro e w1721 ⟨z1721, rfl, h1721, hb1721⟩
        have HZ1721 := Lib.hid h1721
        have HL1721 := Lib.hid h1721.len
        clear h1721
        have HB1721 := Lib.hid (HB1720.out.kept hb1721)
        have HK1721 := Lib.hid (HK1720.out.trans (Kept.of_below hb1721))
        clear hb1721
        (try dsimp only)
        clear HB1720
        clear HK1720
        clear hHeld
        refine hK.out _ _ (HK1721.out) (fun hHeld => ?_)
        clear hK K
        (try simp only [Act.put, List.setIfInBounds_toArray, List.set_cons_zero, List.set_cons_succ])
        refine wpAnyH_take (i := 5) (oi := ({ dst := some 7, op := Op.move (Operand.tmp 12), type := 70, pos := "scalar.go:43", after := #[{ on := 4, ground := Ground.data }], guard := none } : Oper)) (v := ?v1722) rfl (by kernel_rfl) (by kernel_rfl) (by kernel_rfl) (fun _ _ _ h => h) (Or.inl ⟨by rfl, ?hy1722⟩) (by assumption) ?rest1722
        case hy1722 => (intro w hSw; (try dsimp only at hSw); go_simp; try (with_reducible rfl))
        (try simp only [Act.put, List.setIfInBounds_toArray, List.set_cons_zero, List.set_cons_succ])
        refine wpAnyH_take (i := 6) (oi := ({ dst := some 13, op := Op.extract (Operand.tmp 7) 0, type := 49, pos := "scalar.go:43", after := #[{ on := 5, ground := Ground.data }], guard := none } : Oper)) (v := ?v1723) rfl (by kernel_rfl) (by kernel_rfl) (by kernel_rfl) (fun _ _ _ h => h) (Or.inl ⟨by rfl, ?hy1723⟩) (by assumption) ?rest1723
        case hy1723 => (intro w hSw; (try dsimp only at hSw); go_simp; try (with_reducible rfl))
        (try simp only [Act.put, List.setIfInBounds_toArray, List.set_cons_zero, List.set_cons_succ])
        refine wpAnyH_take (i := 7) (oi := ({ dst := some 14, op := Op.extract (Operand.tmp 7) 1, type := 47, pos := "scalar.go:43", after := #[{ on := 5, ground := Ground.data }, { on := 9, ground := Ground.gcOnly Departure.lateStores }], guard := none } : Oper)) (v := ?v1724) rfl (by kernel_rfl) (by kernel_rfl) (by kernel_rfl) (fun _ _ _ h => h) (Or.inl ⟨by rfl, ?hy1724⟩) (by assumption) ?rest1724
        case hy1724 => (intro w hSw; (try dsimp only at hSw); go_simp; try (with_reducible rfl))
        (try simp only [Act.put, List.setIfInBounds_toArray, List.set_cons_zero, List.set_cons_succ])
        refine wpAnyH_ready (rs := [9]) (by kernel_rfl) (by simp) ?_
        refine AllReadyH.cons (o := ({ dst := none, op := Op.store 49 (Operand.tmp 5) (Operand.tmp 13), type := 0, pos := "scalar.go:43", after := #[{ on := 8, ground := Ground.data }, { on := 6, ground := Ground.data }, { on := 4, ground := Ground.chain }, { on := 0, ground := Ground.phase }, { on := 1, ground := Ground.phase }, { on := 2, ground := Ground.phase }, { on := 3, ground := Ground.phase }, { on := 4, ground := Ground.phase }, { on := 5, ground := Ground.phase }, { on := 6, ground := Ground.phase }, { on := 7, ground := Ground.textOnly Departure.lateStores }, { on := 8, ground := Ground.phase }], guard := none } : Oper)) rfl (fun K hK => ?_) AllReadyH.nil
        refine step_store_whole rfl 49 (.tmp 5) (.tmp 13) rfl (g1719) _ _ _ (HB1721.out.get 3 rfl) rfl rfl (arr_len2 _ _ HL1721.out HLzl.out) (lim_s HL1721.out) (all_arr _ _) ?_
        intro w1725 hb1725 hk1725 hz1725
        have HB1725 := Lib.hid (HB1721.out.put 3 rfl hk1725 hb1725)
        have HK1725 := Lib.hid (HK1721.out.trans_new hk1725 (fun i hi e => absurd hi (by rw [e]; exact Nat.not_lt.2 HN1719.out)))
        clear hb1725 hk1725 hz1725
        clear HB1721
        clear HK1721
        clear hHeld
        refine hK.out _ _ (HK1725.out) (fun hHeld => ?_)
        clear hK K
        (try simp only [Act.put])
        refine wpAnyH_take (i := 10) (oi := ({ dst := some 6, op := Op.assign (Operand.tmp 14), type := 47, pos := "scalar.go:43", after := #[{ on := 7, ground := Ground.data }, { on := 9, ground := Ground.chain }, { on := 0, ground := Ground.phase }, { on := 1, ground := Ground.phase }, { on := 2, ground := Ground.phase }, { on := 3, ground := Ground.phase }, { on := 4, ground := Ground.phase }, { on := 5, ground := Ground.phase }, { on := 6, ground := Ground.phase }, { on := 7, ground := Ground.phase }, { on := 8, ground := Ground.phase }, { on := 9, ground := Ground.phase }], guard := none } : Oper)) (v := ?v1726) rfl (by kernel_rfl) (by kernel_rfl) (by kernel_rfl) (fun _ _ _ h => h) (Or.inl ⟨by rfl, ?hy1726⟩) (by assumption) ?rest1726
        case hy1726 => (intro w hSw; (try dsimp only at hSw); go_simp; try (with_reducible rfl))
        (try simp only [Act.put, List.setIfInBounds_toArray, List.set_cons_zero, List.set_cons_succ])
        refine wpAnyH_done (by kernel_rfl) ?_ _
        go_wp2_with fail
        go_meet
        exact ⟨_, _, rfl, rfl, HZ1721.out, HB1725.out⟩
      exact AllReadyH.nil
    refine AllReadyH.cons (o := ({ dst := some 5, op := Op.alloc 49, type := 0, pos := "scalar.go:43", after := #[], guard := none } : Oper)) rfl (fun K hK => ?_) ?_
    · refine step_alloc_row rfl 49 rfl _ (HZzl.out _) ?_
      have HB1727 := Lib.hid (HBd.out.alloc (arr .u64 zl) 49)
      have HK1727 := Lib.hid (HK0.out.alloc (.cells (arr .u64 zl) 49))
      have HN1727 := Lib.hid (show wb.heap.size ≤ (wd).heap.size from HK0.out.size)
      generalize (wd).heap.size = g1727 at HB1727 HN1727 ⊢
      generalize (wd).alloc (.cells (arr .u64 zl) 49) = w1727 at HB1727 HK1727 ⊢
      clear HBd
      clear HK0
      clear hHeld
      refine hK.out _ _ (HK1727.out) (fun hHeld => ?_)
      clear hK K
      (try simp only [Act.put, List.setIfInBounds_toArray, List.set_cons_zero, List.set_cons_succ])
      refine wpAnyH_ready (rs := [1]) (by kernel_rfl) (by simp) ?_
      refine AllReadyH.cons (o := ({ dst := some 9, op := Op.call { callee := Callee.value (Operand.func 36), args := #[Operand.tmp 8], argTypes := #[23] }, type := 49, pos := "scalar.go:43", after := #[{ on := 0, ground := Ground.data }], guard := none } : Oper)) rfl (fun K hK => ?_) AllReadyH.nil
      go_simp
      go_at_call 36
      refine (of4 _ _ HX.out).mono ?_
      rintro e w1728 ⟨z1728, rfl, h1728, hb1728⟩
      have HZ1728 := Lib.hid h1728
      have HL1728 := Lib.hid h1728.len
      clear h1728
      have HB1728 := Lib.hid (HB1727.out.kept hb1728)
      have HK1728 := Lib.hid (HK1727.out.trans (Kept.of_below hb1728))
      clear hb1728
      (try dsimp only)
      clear HB1727
      clear HK1727
      clear hHeld
      refine hK.out _ _ (HK1728.out) (fun hHeld => ?_)
      clear hK K
      (try simp only [Act.put, List.setIfInBounds_toArray, List.set_cons_zero, List.set_cons_succ])
      refine wpAnyH_ready (rs := [3]) (by kernel_rfl) (by simp) ?_
      refine AllReadyH.cons (o := ({ dst := some 11, op := Op.call { callee := Callee.value (Operand.func 36), args := #[Operand.tmp 10], argTypes := #[23] }, type := 49, pos := "scalar.go:43", after := #[{ on := 2, ground := Ground.data }, { on := 1, ground := Ground.chain }], guard := none } : Oper)) rfl (fun K hK => ?_) AllReadyH.nil
      go_simp
      go_at_call 36
      refine (of4 _ _ HY.out).mono ?_
      rintro e w1729 ⟨z1729, rfl, h1729, hb1729⟩
      have HZ1729 := Lib.hid h1729
      have HL1729 := Lib.hid h1729.len
      clear h1729
      have HB1729 := Lib.hid (HB1728.out.kept hb1729)
      have HK1729 := Lib.hid (HK1728.out.trans (Kept.of_below hb1729))
      clear hb1729
      (try dsimp only)
      clear HB1728
      clear HK1728
      clear hHeld
      refine hK.out _ _ (HK1729.out) (fun hHeld => ?_)
      clear hK K
      (try simp only [Act.put, List.setIfInBounds_toArray, List.set_cons_zero, List.set_cons_succ])
      refine wpAnyH_ready (rs := [4]) (by kernel_rfl) (by simp) ?_
      refine AllReadyH.cons (o := ({ dst := some 12, op := Op.call { callee := Callee.value (Operand.func 41), args := #[Operand.tmp 9, Operand.tmp 11], argTypes := #[49, 49] }, type := 70, pos := "scalar.go:43", after := #[{ on := 1, ground := Ground.data }, { on := 3, ground := Ground.data }, { on := 3, ground := Ground.chain }], guard := none } : Oper)) rfl (fun K hK => ?_) AllReadyH.nil
      go_simp
      go_at_call 41
      refine (HLA.out _ _ _ HZ1728.out HZ1729.out).mono ?_
      rintro e w1730 ⟨z1730, rfl, h1730, hb1730⟩
      have HZ1730 := Lib.hid h1730
      have HL1730 := Lib.hid h1730.len
      clear h1730
      have HB1730 := Lib.hid (HB1729.out.kept hb1730)
      have HK1730 := Lib.hid (HK1729.out.trans (Kept.of_below hb1730))
      clear hb1730
      (try dsimp only)
      clear HB1729
      clear HK1729
      clear hHeld
      refine hK.out _ _ (HK1730.out) (fun hHeld => ?_)
      clear hK K
      (try simp only [Act.put, List.setIfInBounds_toArray, List.set_cons_zero, List.set_cons_succ])
      refine wpAnyH_take (i := 5) (oi := ({ dst := some 7, op := Op.move (Operand.tmp 12), type := 70, pos := "scalar.go:43", after := #[{ on := 4, ground := Ground.data }], guard := none } : Oper)) (v := ?v1731) rfl (by kernel_rfl) (by kernel_rfl) (by kernel_rfl) (fun _ _ _ h => h) (Or.inl ⟨by rfl, ?hy1731⟩) (by assumption) ?rest1731
      case hy1731 => (intro w hSw; (try dsimp only at hSw); go_simp; try (with_reducible rfl))
      (try simp only [Act.put, List.setIfInBounds_toArray, List.set_cons_zero, List.set_cons_succ])
      refine wpAnyH_take (i := 6) (oi := ({ dst := some 13, op := Op.extract (Operand.tmp 7) 0, type := 49, pos := "scalar.go:43", after := #[{ on := 5, ground := Ground.data }], guard := none } : Oper)) (v := ?v1732) rfl (by kernel_rfl) (by kernel_rfl) (by kernel_rfl) (fun _ _ _ h => h) (Or.inl ⟨by rfl, ?hy1732⟩) (by assumption) ?rest1732
      case hy1732 => (intro w hSw; (try dsimp only at hSw); go_simp; try (with_reducible rfl))
      (try simp only [Act.put, List.setIfInBounds_toArray, List.set_cons_zero, List.set_cons_succ])
      refine wpAnyH_take (i := 7) (oi := ({ dst := some 14, op := Op.extract (Operand.tmp 7) 1, type := 47, pos := "scalar.go:43", after := #[{ on := 5, ground := Ground.data }, { on := 9, ground := Ground.gcOnly Departure.lateStores }], guard := none } : Oper)) (v := ?v1733) rfl (by kernel_rfl) (by kernel_rfl) (by kernel_rfl) (fun _ _ _ h => h) (Or.inl ⟨by rfl, ?hy1733⟩) (by assumption) ?rest1733
      case hy1733 => (intro w hSw; (try dsimp only at hSw); go_simp; try (with_reducible rfl))
      (try simp only [Act.put, List.setIfInBounds_toArray, List.set_cons_zero, List.set_cons_succ])
      refine wpAnyH_ready (rs := [9]) (by kernel_rfl) (by simp) ?_
      refine AllReadyH.cons (o := ({ dst := none, op := Op.store 49 (Operand.tmp 5) (Operand.tmp 13), type := 0, pos := "scalar.go:43", after := #[{ on := 8, ground := Ground.data }, { on := 6, ground := Ground.data }, { on := 4, ground := Ground.chain }, { on := 0, ground := Ground.phase }, { on := 1, ground := Ground.phase }, { on := 2, ground := Ground.phase }, { on := 3, ground := Ground.phase }, { on := 4, ground := Ground.phase }, { on := 5, ground := Ground.phase }, { on := 6, ground := Ground.phase }, { on := 7, ground := Ground.textOnly Departure.lateStores }, { on := 8, ground := Ground.phase }], guard := none } : Oper)) rfl (fun K hK => ?_) AllReadyH.nil
      refine step_store_whole rfl 49 (.tmp 5) (.tmp 13) rfl (g1727) _ _ _ (HB1730.out.get 3 rfl) rfl rfl (arr_len2 _ _ HL1730.out HLzl.out) (lim_s HL1730.out) (all_arr _ _) ?_
      intro w1734 hb1734 hk1734 hz1734
      have HB1734 := Lib.hid (HB1730.out.put 3 rfl hk1734 hb1734)
      have HK1734 := Lib.hid (HK1730.out.trans_new hk1734 (fun i hi e => absurd hi (by rw [e]; exact Nat.not_lt.2 HN1727.out)))
      clear hb1734 hk1734 hz1734
      clear HB1730
      clear HK1730
      clear hHeld
      refine hK.out _ _ (HK1734.out) (fun hHeld => ?_)
      clear hK K
      (try simp only [Act.put])
      refine wpAnyH_take (i := 10) (oi := ({ dst := some 6, op := Op.assign (Operand.tmp 14), type := 47, pos := "scalar.go:43", after := #[{ on := 7, ground := Ground.data }, { on := 9, ground := Ground.chain }, { on := 0, ground := Ground.phase }, { on := 1, ground := Ground.phase }, { on := 2, ground := Ground.phase }, { on := 3, ground := Ground.phase }, { on := 4, ground := Ground.phase }, { on := 5, ground := Ground.phase }, { on := 6, ground := Ground.phase }, { on := 7, ground := Ground.phase }, { on := 8, ground := Ground.phase }, { on := 9, ground := Ground.phase }], guard := none } : Oper)) (v := ?v1735) rfl (by kernel_rfl) (by kernel_rfl) (by kernel_rfl) (fun _ _ _ h => h) (Or.inl ⟨by rfl, ?hy1735⟩) (by assumption) ?rest1735
      case hy1735 => (intro w hSw; (try dsimp only at hSw); go_simp; try (with_reducible rfl))
      (try simp only [Act.put, List.setIfInBounds_toArray, List.set_cons_zero, List.set_cons_succ])
      refine wpAnyH_done (by kernel_rfl) ?_ _
      go_wp2_with fail
      go_meet
      exact ⟨_, _, rfl, rfl, HZ1730.out, HB1734.out⟩
    exact AllReadyH.nil
  case rest =>
  obtain ⟨wy, rfl⟩ : ∃ x : World, x = wc := ⟨_, rfl⟩
  obtain ⟨gg, xx, rfl, rfl, h1, hb1⟩ := hcut
  have HB1 := Lib.hid hb1
  have XXL := Lib.hid h1.len
  have XXE := Lib.hid h1.1
  have hred := fun g' cap w' hc => red_any g' 5 cap (a + b) (dig 18446744073709551616 4 ((a + b) % 18446744073709551616 ^ 4) ++ [c]) w' (by rw [List.length_append, dig_len]; rfl) (by decide) (by
    intro x hx
    rcases List.mem_append.1 hx with hx | hx
    · exact dig_lt _ (by decide) _ _ x hx
    · rw [List.mem_singleton] at hx
      subst hx
      exact HCL.out) (by rw [val5 _ _ (dig_len _ _ _), vd _ h1.2, HAB.out]) hc
  have HRED : Hid (∀ (g' cap : Nat) (w' : World), (∀ i, i < 5 → w'.cell? ⟨g', i, none⟩ = some (.int .u64 ((xx ++ [(c : Int)]).getD i 0))) → Calls Try.prog 42 #[.slice (some ⟨g', 0, none⟩) 5 cap] w' fun e w'' => ∃ zs, e = .returned (.agg (arr .u64 zs)) ∧ N4 zs ((a + b) % q) ∧ Below w'.heap.size w' w'') := Lib.hid (fun g' cap w' hc => hred g' cap w' (fun i hi => by
    rw [hc i hi, XXE.out, ← nar_get]
    simp [nar]))
  clear hb1 HS0 h1 hred
  go_upto_region 2 with fail
  go_wp2_with (first | ((with_reducible show wpList _ _ _ (Oper.mk (some 18) _ _ _ _ _ :: _) _ _); refine wpList_app5 rfl _ _ _ rfl gg _ xx (c : Int) XXL.out rfl rfl ?h1 ?h2 ?h3))
  case h1 =>
    intro i hi
    exact arr_get' ((HB1.out.alloc #[.int .u64 (c : Int)] 47).get 3 rfl) i (by rw [XXL.out]; exact hi)
  case h2 => exact cell_blk (blk_new _ _) 0
  case h3 =>
    intro g' cap w' hc5 hb5
    have HC5 := Lib.hid hc5
    have HB5 := Lib.hid ((HB1.out.alloc #[.int .u64 (c : Int)] 47).kept (by rw [size1]; exact hb5))
    clear hc5 hb5
    go_wp2_with (first | ((with_reducible show Calls _ 42 _ _ _); go_at_call 42; refine (HRED.out _ _ _ HC5.out).mono ?_; rintro e w6 ⟨z6, rfl, h6, hb6⟩; have HZ6 := Lib.hid h6; have HB6 := Lib.hid (HB5.out.kept hb6); clear h6 hb6) | ((with_reducible show Calls _ 40 _ _ _); go_at_call 40; refine (num4 _ _ HZ6.out).mono ?_; rintro e w7 ⟨z7, rfl, h7, hb7⟩; have HZ7 := Lib.hid h7; have HL7 := Lib.hid h7.len; have HB7 := Lib.hid (HB6.out.kept hb7); clear h7 hb7) | ((with_reducible show wpList _ _ _ (Oper.mk none (Op.store _ (Operand.tmp 4) _) _ _ _ _ :: _) _ _); refine wpList_store_whole rfl 23 _ _ rfl (w.heap.size + 1 + 1) _ _ 23 (HB7.out.get 2 rfl) rfl rfl (arr_len2 _ _ HL7.out HLzn.out) (num_s HL7.out) (all_arr _ _) ?_; intro w8 hb8 hk8 hz8; have HB8 := Lib.hid (HB7.out.put 2 rfl hk8 hb8); clear hb8 hk8 hz8))
    (try simp only [Exit.then])
    refine bodyPost_ret (results_cell_row rfl _ _ (w.heap.size + 1 + 1) 23 _ (0, 0) _ rfl (HB8.out.get 2 rfl) Try.underlying23 rfl (num_s HL7.out)) rfl ?_
    exact ⟨_, rfl, HZ7.out, HB8.out.below⟩
end Go.Proofs.Ytanjhngehfbpbaa.Sl
