/- portcullislaw28: alive, IssueSets. Conditions: what Go's integers allow; the document's table holds what its text lays. -/
import Derived.Test.YtgnkamcockmhiaaDoorIsC
namespace Go.Proofs.YtgnkamcockmhiaaDoor.Is
open Go.RowKit

theorem eqin_num (H J : List Int) (hl : H.length = 32) (jl : J.length = 32) (w : World) : (Op.equalIn 10000 24 (.agg (H.map (Value.int .u8)).toArray) (.agg (J.map (Value.int .u8)).toArray)).run Tryd.prog w = .ok (H == J) w :=
  run_equalIn_arr (P := Tryd.prog) w 9998 24 5 32 .u8 .u8 Tryd.underlying24 Tryd.underlying5 Ha.size_u8 H J hl jl
theorem root_key : (sec 1 0 == sec 1 3) = false := by decide +kernel

set_option maxRecDepth 100000 in
set_option maxHeartbeats 4000000 in
theorem alive28_any (w : World) (hT : Ha.TabK w) : Calls Tryd.prog 10 #[] w fun e w' => e = .returned (.bool true) ∧ Below w.heap.size w w' := by
  have MO := fun w => of_any 1 w
  have M1 := fun w => one_any 1 w (by decide)
  have M2 := fun sa c w hs ht => Ha.ref_any sa 12 c (be8 1 ++ sbytes ⟨#[114, 111, 111, 116]⟩) w hs (bytes_sec _ _) (by decide) ht
  have hse : Ha.hash (be8 1 ++ sbytes ⟨#[114, 111, 111, 116]⟩) = sec 1 0 := rfl
  rw [hse] at M2
  have hrk := root_key
  have hbl := be8_len 1
  have hall : (setC (sec 1 0) (sec 1 1) (sec 1 2) (sec 1 3)).all (·.oneCell') = true := all_arr _ _
  have hsz := setC_size (sec_len 1 0) (sec_len 1 1) (sec_len 1 2) (sec_len 1 3)
  have hpt := setC_part (sec_len 1 0) (sec_len 1 1) (sec_len 1 2) (sec_len 1 3)
  have q1 := eqin_num (sec 1 0) (sec 1 0) (sec_len 1 0) (sec_len 1 0)
  rw [beq_self_eq_true] at q1
  have q2 := eqin_num (sec 1 0) (sec 1 3) (sec_len 1 0) (sec_len 1 3)
  rw [hrk] at q2
  have l0 := sec_len 1 0
  have l3 := sec_len 1 3
  obtain ⟨nm, hnm⟩ : ∃ x : ByteArray, x = ⟨#[114, 111, 111, 116]⟩ := ⟨_, rfl⟩
  have hnl : (8 + nm.size) = 12 := by rw [hnm]; rfl
  rw [← hnm] at M2
  obtain ⟨b8, hb8⟩ : ∃ x, x = be8 1 := ⟨_, rfl⟩
  rw [← hb8] at M1 M2 hbl
  generalize setC (sec 1 0) (sec 1 1) (sec 1 2) (sec 1 3) = ST at *
  generalize sec 1 0 = r0 at *
  generalize sec 1 3 = r3 at *
  obtain ⟨zs, hzs⟩ : ∃ zs : List Int, zs = List.replicate 128 0 := ⟨_, rfl⟩
  have hz : ∀ w, (zeroValue 26).run Tryd.prog w = .ok (.agg (arr .u8 zs)) w := by intro w; rw [hzs]; exact zeroSet w
  have hzl : zs.length = 128 := by rw [hzs]; rfl
  have HMO := Lib.hid MO
  have HM1 := Lib.hid M1
  have HM2 := Lib.hid M2
  have HBL := Lib.hid hbl
  have HAL := Lib.hid hall
  have HSZ := Lib.hid hsz
  have HPT := Lib.hid hpt
  have HQ1 := Lib.hid q1
  have HQ2 := Lib.hid q2
  have HL0 := Lib.hid l0
  have HL3 := Lib.hid l3
  have HZ := Lib.hid hz
  have HZL := Lib.hid hzl
  have HTT := Lib.hid hT
  have HNL := Lib.hid hnl
  have HNM := Lib.hid hnm.symm
  clear MO M1 M2 hse hrk hbl hall hsz hpt q1 q2 l0 l3 hz hzl hT hzs hb8 hnl hnm
  go_enter Tryd.func10, Tryd.ntmps10
  go_upto_region 2 with (first | ((with_reducible show Calls _ _ _ _ _); go_at_call 11; refine (HMO.out _).mono ?_; rintro e w1 ⟨rfl, hb1⟩; have HB1 := Lib.hid hb1; clear hb1) | ((with_reducible show wpList _ _ _ (Oper.mk (some 1) _ _ _ _ _ :: _) _ _); refine wpList_alloc_row rfl 26 rfl _ (HZ.out _) ?_; go_simp) | ((with_reducible show wpList _ _ _ (Oper.mk none _ _ _ _ _ :: _) _ _); refine wpList_store_whole rfl 26 _ _ rfl w1.heap.size _ _ 26 (blk_new _ _) rfl rfl (by rw [HSZ.out, arr_size, HZL.out]) (by rw [HSZ.out]; exact info_set) HAL.out ?_; intro wq hbq hkq hzq; have HR := Lib.hid hbq; have HB := Lib.hid (HB1.out.trans ((((Below.refl _ w1).alloc (Nat.le_refl _) (.cells (arr .u8 zs) 26)).trans (hkq.toBelow (by simp) (by rintro i rfl; exact Nat.le_refl _))).mono HB1.out.size)); clear hbq hkq hzq))
  (try simp only [Act.put])
  obtain ⟨g, hg⟩ : ∃ g, g = w1.heap.size := ⟨_, rfl⟩
  rw [← hg] at HR ⊢
  clear hg
  have HTQ := Lib.hid (fun w' (k : Below wq.heap.size wq w') => Ha.TabK.kept HTT.out (Kept.of_below (T := fun _ => False) (HB.out.trans (k.mono HB.out.size))) (fun h => h))
  have HB0 := Lib.hid (show Below wq.heap.size wq wq.drew from ⟨rfl, rfl, rfl, Nat.le_refl _, fun _ _ => rfl⟩)
  refine wp_region_held_drew (S := (fun w' => Go.RowKit.Below wq.heap.size wq w')) (by kernel_rfl) (HB0.out) (fun hHeld => ?_)
  refine wpAnyH_take (i := 0) (oi := ({ dst := some 3, op := Op.fieldAddr 26 (Operand.tmp 1) 0, type := 0, pos := "law.go:17", after := #[], guard := none } : Oper)) (v := ?v1) rfl (by kernel_rfl) (by kernel_rfl) (by kernel_rfl) (fun _ _ _ h => h) (Or.inl ⟨by rfl, ?hy1⟩) (by assumption) ?rest1
  case hy1 => (intro w hSw; (try dsimp only at hSw); go_simp; try (with_reducible rfl))
  (try simp only [Act.put, List.setIfInBounds_toArray, List.set_cons_zero, List.set_cons_succ])
  refine' wpAnyH_take (i := 1) (oi := ({ dst := some 4, op := Op.load 24 (Operand.tmp 3), type := 24, pos := "law.go:17", after := #[{ on := 0, ground := Ground.data }], guard := none } : Oper)) (v := _) rfl (by kernel_rfl) (by kernel_rfl) (by kernel_rfl) (fun _ _ _ h => h) (yieldsIf_load_mid (by rfl) _ _ rfl _ _ rfl (r0.map (Value.int .u8)) _ ?hS2 Tryd.underlying24 rfl (by rw [List.length_map, HL0.out]; exact info_num)) (by assumption) ?rest2
  case hS2 => (intro w hSw; exact range_part (Below.blk hSw HR.out (blk_lt HR.out)) 0 _ (by rw [List.length_map]; exact HPT.out.1))
  (try simp only [Act.put, List.setIfInBounds_toArray, List.set_cons_zero, List.set_cons_succ])
  refine wpAnyH_ready (rs := [2]) (by kernel_rfl) (by simp) ?_
  refine AllReadyH.cons (o := ({ dst := some 5, op := Op.call { callee := Callee.value (Operand.func 25), args := #[Operand.const (Value.int IntKind.i64 1)], argTypes := #[3] }, type := 39, pos := "law.go:17", after := #[], guard := none } : Oper)) rfl (fun K hK => ?_) AllReadyH.nil
  go_simp
  go_at_call 25
  refine (HM1.out _).mono ?_
  rintro e w3 ⟨v2, rfl, ho2, hb3⟩
  have HB3 := Lib.hid (HB0.out.trans (hb3.mono HB0.out.size))
  have HO2 := Lib.hid (ho2.mono (B' := wq.heap.size) HB0.out.size)
  obtain ⟨s2, c2, hv2, -⟩ := ho2.form
  rw [HBL.out] at hv2
  subst hv2
  clear ho2
  clear hb3
  (try dsimp only)
  refine hK.out _ _ (HB3.out) (fun hHeld => ?_)
  clear hK K
  (try simp only [Act.put, List.setIfInBounds_toArray, List.set_cons_zero, List.set_cons_succ])
  refine wpAnyH_ready (rs := [3]) (by kernel_rfl) (by simp) ?_
  refine AllReadyH.cons (o := ({ dst := some 6, op := Op.call { callee := Callee.builtin Builtin.append, args := #[Operand.tmp 5, Operand.const (Value.string { data := #[114, 111, 111, 116] })], argTypes := #[39, 9] }, type := 39, pos := "law.go:17", after := #[{ on := 2, ground := Ground.data }, { on := 2, ground := Ground.chain }], guard := none } : Oper)) rfl (fun K hK => ?_) AllReadyH.nil
  refine step_app8_str rfl (.tmp 5) (.const (.string ⟨#[114, 111, 111, 116]⟩)) 9 Tryd.underlying9 rfl wq.heap.size (.slice s2 8 c2) b8 nm ?ca1 ?ca2 HO2.out (by rw [HBL.out, HNL.out]; decide) HB3.out.size ?_
  case ca1 => go_simp
  case ca2 => exact congrArg Value.string HNM.out
  intro v4 w4 ho4 hg4
  have hbl4 := app8_below HO2.out hg4 (Below.refl _ _) HB3.out.size
  have HB4 := Lib.hid (HB3.out.trans (hbl4))
  obtain ⟨s4, c4, hv4, -, -, hs4, -⟩ := ho4.form
  rw [List.length_append, HBL.out, sbytes_len, HNL.out] at hv4 hs4
  subst hv4
  have HS4 := Lib.hid hs4
  clear ho4 hg4 hbl4 hs4
  refine hK.out _ _ (HB4.out) (fun hHeld => ?_)
  clear hK K
  (try simp only [Act.put])
  refine wpAnyH_ready (rs := [4]) (by kernel_rfl) (by simp) ?_
  refine AllReadyH.cons (o := ({ dst := some 7, op := Op.call { callee := Callee.value (Operand.func 24), args := #[Operand.tmp 6], argTypes := #[39] }, type := 24, pos := "law.go:17", after := #[{ on := 3, ground := Ground.data }, { on := 3, ground := Ground.chain }], guard := none } : Oper)) rfl (fun K hK => ?_) AllReadyH.nil
  go_simp
  go_at_call 24
  refine (HM2.out _ _ _ HS4.out (HTQ.out _ hHeld)).mono ?_
  rintro e w5 ⟨rfl, hb5⟩
  have HB5 := Lib.hid (HB4.out.trans (hb5.mono HB4.out.size))
  clear hb5
  (try dsimp only)
  refine hK.out _ _ (HB5.out) (fun hHeld => ?_)
  clear hK K
  (try simp only [Act.put, List.setIfInBounds_toArray, List.set_cons_zero, List.set_cons_succ])
  refine wpAnyH_take (i := 5) (oi := ({ dst := some 8, op := Op.binOp BinOp.eql 24 (Operand.tmp 4) (Operand.tmp 7) 24, type := 4, pos := "law.go:17", after := #[{ on := 1, ground := Ground.data }, { on := 4, ground := Ground.data }], guard := none } : Oper)) (v := (.bool true)) rfl (by kernel_rfl) (by kernel_rfl) (by kernel_rfl) (fun _ _ _ h => h) (Or.inl ⟨by rfl, ?hy6⟩) (by assumption) ?rest6
  case hy6 => (intro w hSw; (try dsimp only at hSw); have q := HQ1.out w; have q' : (Op.equalIn 10000 24 (.agg (r0.map (Value.int .u8)).toArray) (.agg (arr .u8 r0))).run Tryd.prog w = .ok true w := q; have gn := guard_num; go_simp; try (with_reducible rfl))
  (try simp only [Act.put, List.setIfInBounds_toArray, List.set_cons_zero, List.set_cons_succ])
  refine wpAnyH_take (i := 6) (oi := ({ dst := some 9, op := Op.move (Operand.tmp 8), type := 4, pos := "law.go:17", after := #[{ on := 5, ground := Ground.data }, { on := 4, ground := Ground.chain }], guard := none } : Oper)) (v := ?v7) rfl (by kernel_rfl) (by kernel_rfl) (by kernel_rfl) (fun _ _ _ h => h) (Or.inl ⟨by rfl, ?hy7⟩) (by assumption) ?rest7
  case hy7 => (intro w hSw; (try dsimp only at hSw); go_simp; try (with_reducible rfl))
  (try simp only [Act.put, List.setIfInBounds_toArray, List.set_cons_zero, List.set_cons_succ])
  refine wpAnyH_take (i := 7) (oi := ({ dst := some 10, op := Op.fieldAddr 26 (Operand.tmp 1) 0, type := 0, pos := "law.go:17", after := #[{ on := 6, ground := Ground.guard }], guard := some (6, true) } : Oper)) (v := ?v8) rfl (by kernel_rfl) (by kernel_rfl) (by kernel_rfl) (fun _ _ _ h => h) (Or.inl ⟨by rfl, ?hy8⟩) (by assumption) ?rest8
  case hy8 => (intro w hSw; (try dsimp only at hSw); go_simp; try (with_reducible rfl))
  (try simp only [Act.put, List.setIfInBounds_toArray, List.set_cons_zero, List.set_cons_succ])
  refine' wpAnyH_take (i := 8) (oi := ({ dst := some 11, op := Op.load 24 (Operand.tmp 10), type := 24, pos := "law.go:17", after := #[{ on := 7, ground := Ground.data }, { on := 6, ground := Ground.guard }], guard := some (6, true) } : Oper)) (v := _) rfl (by kernel_rfl) (by kernel_rfl) (by kernel_rfl) (fun _ _ _ h => h) (yieldsIf_load_mid (by rfl) _ _ rfl _ _ rfl (r0.map (Value.int .u8)) _ ?hS9 Tryd.underlying24 rfl (by rw [List.length_map, HL0.out]; exact info_num)) (by assumption) ?rest9
  case hS9 => (intro w hSw; exact range_part (Below.blk hSw HR.out (blk_lt HR.out)) 0 _ (by rw [List.length_map]; exact HPT.out.1))
  (try simp only [Act.put, List.setIfInBounds_toArray, List.set_cons_zero, List.set_cons_succ])
  refine wpAnyH_take (i := 9) (oi := ({ dst := some 12, op := Op.fieldAddr 26 (Operand.tmp 1) 3, type := 0, pos := "law.go:17", after := #[{ on := 6, ground := Ground.guard }], guard := some (6, true) } : Oper)) (v := ?v10) rfl (by kernel_rfl) (by kernel_rfl) (by kernel_rfl) (fun _ _ _ h => h) (Or.inl ⟨by rfl, ?hy10⟩) (by assumption) ?rest10
  case hy10 => (intro w hSw; (try dsimp only at hSw); go_simp; try (with_reducible rfl))
  (try simp only [Act.put, List.setIfInBounds_toArray, List.set_cons_zero, List.set_cons_succ])
  refine' wpAnyH_take (i := 10) (oi := ({ dst := some 13, op := Op.load 24 (Operand.tmp 12), type := 24, pos := "law.go:17", after := #[{ on := 9, ground := Ground.data }, { on := 6, ground := Ground.guard }], guard := some (6, true) } : Oper)) (v := _) rfl (by kernel_rfl) (by kernel_rfl) (by kernel_rfl) (fun _ _ _ h => h) (yieldsIf_load_mid (by rfl) _ _ rfl _ _ rfl (r3.map (Value.int .u8)) _ ?hS11 Tryd.underlying24 rfl (by rw [List.length_map, HL3.out]; exact info_num)) (by assumption) ?rest11
  case hS11 => (intro w hSw; exact range_part (Below.blk hSw HR.out (blk_lt HR.out)) 96 _ (by rw [List.length_map]; exact HPT.out.2.2.2))
  (try simp only [Act.put, List.setIfInBounds_toArray, List.set_cons_zero, List.set_cons_succ])
  refine wpAnyH_take (i := 11) (oi := ({ dst := some 14, op := Op.binOp BinOp.neq 24 (Operand.tmp 11) (Operand.tmp 13) 24, type := 4, pos := "law.go:17", after := #[{ on := 8, ground := Ground.data }, { on := 10, ground := Ground.data }, { on := 6, ground := Ground.guard }], guard := some (6, true) } : Oper)) (v := (.bool true)) rfl (by kernel_rfl) (by kernel_rfl) (by kernel_rfl) (fun _ _ _ h => h) (Or.inl ⟨by rfl, ?hy12⟩) (by assumption) ?rest12
  case hy12 => (intro w hSw; (try dsimp only at hSw); have q := HQ2.out w; have gn := guard_num; go_simp; try (with_reducible rfl))
  (try simp only [Act.put, List.setIfInBounds_toArray, List.set_cons_zero, List.set_cons_succ])
  refine wpAnyH_take (i := 12) (oi := ({ dst := some 15, op := Op.pick (Operand.tmp 9) (Operand.tmp 14) (Operand.const (Value.bool false)), type := 4, pos := "law.go:17", after := #[{ on := 6, ground := Ground.data }, { on := 11, ground := Ground.data }], guard := none } : Oper)) (v := ?v13) rfl (by kernel_rfl) (by kernel_rfl) (by kernel_rfl) (fun _ _ _ h => h) (Or.inl ⟨by rfl, ?hy13⟩) (by assumption) ?rest13
  case hy13 => (intro w hSw; (try dsimp only at hSw); go_simp; try (with_reducible rfl))
  (try simp only [Act.put, List.setIfInBounds_toArray, List.set_cons_zero, List.set_cons_succ])
  refine wpAnyH_take (i := 13) (oi := ({ dst := some 0, op := Op.assign (Operand.tmp 15), type := 4, pos := "law.go:17", after := #[{ on := 12, ground := Ground.data }, { on := 6, ground := Ground.chain }, { on := 0, ground := Ground.phase }, { on := 1, ground := Ground.phase }, { on := 2, ground := Ground.phase }, { on := 3, ground := Ground.phase }, { on := 4, ground := Ground.phase }, { on := 5, ground := Ground.phase }, { on := 6, ground := Ground.phase }, { on := 7, ground := Ground.phase }, { on := 8, ground := Ground.phase }, { on := 9, ground := Ground.phase }, { on := 10, ground := Ground.phase }, { on := 11, ground := Ground.phase }, { on := 12, ground := Ground.phase }], guard := none } : Oper)) (v := ?v14) rfl (by kernel_rfl) (by kernel_rfl) (by kernel_rfl) (fun _ _ _ h => h) (Or.inl ⟨by rfl, ?hy14⟩) (by assumption) ?rest14
  case hy14 => (intro w hSw; (try dsimp only at hSw); go_simp; try (with_reducible rfl))
  (try simp only [Act.put, List.setIfInBounds_toArray, List.set_cons_zero])
  refine wpAnyH_done (by kernel_rfl) ?_ _
  have HFIN := HB5
  (try simp only [Exit.then])
  go_wp2_with fail
  go_ret
  exact ⟨rfl, HB.out.trans (HFIN.out.mono HB.out.size)⟩

set_option maxRecDepth 100000 in
set_option maxHeartbeats 4000000 in
theorem sets_any (seed : Int) (w : World) (hw : -9223372036854775808 ≤ seed ∧ seed ≤ 9223372036854775807) (hT : Ha.TabK w) : Calls Tryd.prog 3 #[.int .i64 seed] w fun e w' => e = .returned (.bool true) ∧ Below w.heap.size w w' := by
  have MA := alive28_any w hT
  have MO := fun w => of_any seed w
  have MS := fun w ht => setof_any seed w hw ht
  have hall : (setC (sec seed 0) (sec seed 1) (sec seed 2) (sec seed 3)).all (·.oneCell') = true := all_arr _ _
  have hsz := setC_size (sec_len seed 0) (sec_len seed 1) (sec_len seed 2) (sec_len seed 3)
  have hpt := setC_part (sec_len seed 0) (sec_len seed 1) (sec_len seed 2) (sec_len seed 3)
  have l0 := sec_len seed 0
  have l1 := sec_len seed 1
  have l2 := sec_len seed 2
  have l3 := sec_len seed 3
  generalize setC (sec seed 0) (sec seed 1) (sec seed 2) (sec seed 3) = ST at *
  generalize sec seed 0 = r0 at *
  generalize sec seed 1 = r1 at *
  generalize sec seed 2 = r2 at *
  generalize sec seed 3 = r3 at *
  obtain ⟨zs, hzs⟩ : ∃ zs : List Int, zs = List.replicate 128 0 := ⟨_, rfl⟩
  have hz : ∀ w, (zeroValue 26).run Tryd.prog w = .ok (.agg (arr .u8 zs)) w := by intro w; rw [hzs]; exact zeroSet w
  have hz2 : ∀ w, (zeroValue 28).run Tryd.prog w = .ok (.agg (arr .u8 zs)) w := by intro w; rw [hzs]; exact zeroRSet w
  have hzl : zs.length = 128 := by rw [hzs]; rfl
  have HMA := Lib.hid MA
  have HMO := Lib.hid MO
  have HMS := Lib.hid MS
  have HAL := Lib.hid hall
  have HSZ := Lib.hid hsz
  have HPT := Lib.hid hpt
  have HL0 := Lib.hid l0
  have HL1 := Lib.hid l1
  have HL2 := Lib.hid l2
  have HL3 := Lib.hid l3
  have HZ := Lib.hid hz
  have HZ2 := Lib.hid hz2
  have HZL := Lib.hid hzl
  have HTT := Lib.hid hT
  clear MA MO MS hall hsz hpt l0 l1 l2 l3 hz hz2 hzl hT hzs hw
  go_enter Tryd.func3, Tryd.ntmps3
  go_wp2_with (first | ((with_reducible show Calls _ _ #[] _ _); go_at_call 10; refine HMA.out.mono ?_; rintro e w1 ⟨rfl, hb1⟩; have HB1 := Lib.hid hb1; clear hb1) | ((with_reducible show Calls _ _ _ w1 _); go_at_call 11; refine (HMO.out _).mono ?_; rintro e w2 ⟨rfl, hb2⟩; have HB2 := Lib.hid (HB1.out.trans (hb2.mono HB1.out.size)); clear hb2) | ((with_reducible show wpList _ _ _ (Oper.mk (some 4) (Op.alloc _) _ _ _ _ :: _) _ _); refine wpList_alloc_row rfl 26 rfl _ (HZ.out _) ?_; go_simp) | ((with_reducible show wpList _ _ _ (Oper.mk none (Op.store _ (Operand.tmp 4) _) _ _ _ _ :: _) _ _); refine wpList_store_whole rfl 26 _ _ rfl w2.heap.size _ _ 26 (blk_new _ _) rfl rfl (by rw [HSZ.out, arr_size, HZL.out]) (by rw [HSZ.out]; exact info_set) HAL.out ?_; intro wq hbq hkq hzq; have HRA := Lib.hid hbq; have HBA := Lib.hid (HB2.out.trans ((((Below.refl _ w2).alloc (Nat.le_refl _) (.cells (arr .u8 zs) 26)).trans (hkq.toBelow (by simp) (by rintro i rfl; exact Nat.le_refl _))).mono HB2.out.size)); have HTQ := Lib.hid (Ha.TabK.kept HTT.out (Kept.of_below (T := fun _ => False) HBA.out) (fun h => h)); clear hbq hkq hzq) | ((with_reducible show Calls _ _ _ wq _); go_at_call 12; refine (HMS.out _ HTQ.out).mono ?_; rintro e w3 ⟨rfl, hb3⟩; have HB3 := Lib.hid (HBA.out.trans (hb3.mono HBA.out.size)); have HRA3 := Lib.hid (Below.blk hb3 HRA.out (blk_lt HRA.out)); clear hb3) | ((with_reducible show wpList _ _ _ (Oper.mk (some 5) (Op.alloc _) _ _ _ _ :: _) _ _); refine wpList_alloc_row rfl 28 rfl _ (HZ2.out _) ?_; go_simp) | ((with_reducible show wpList _ _ _ (Oper.mk none (Op.store _ (Operand.tmp 5) _) _ _ _ _ :: _) _ _); refine wpList_store_whole rfl 28 _ _ rfl w3.heap.size _ _ 28 (blk_new _ _) rfl rfl (by rw [HSZ.out, arr_size, HZL.out]) (by rw [HSZ.out]; exact info_rset) HAL.out ?_; intro wp hbp hkp hzp; have HRB := Lib.hid hbp; have hx3 := ((Below.refl _ w3).alloc (Nat.le_refl _) (.cells (arr .u8 zs) 28)).trans (hkp.toBelow (by simp) (by rintro i rfl; exact Nat.le_refl _)); have HB4 := Lib.hid (HB3.out.trans (hx3.mono HB3.out.size)); have HRA4 := Lib.hid (Below.blk hx3 HRA3.out (blk_lt HRA3.out)); clear hbp hkp hzp hx3) | ((with_reducible show wpList _ _ _ (Oper.mk (some 14) _ _ _ _ _ :: _) _ _); refine wpList_load_partG (by rfl) 24 _ rfl w2.heap.size 0 _ 26 (0, 0) _ HRA4.out rfl .u8 r0 HPT.out.1 Tryd.underlying24 rfl (by rw [HL0.out]; exact info_num) ?_) | ((with_reducible show wpList _ _ _ (Oper.mk (some 16) _ _ _ _ _ :: _) _ _); refine wpList_load_partG (by rfl) 24 _ rfl w3.heap.size 0 _ 28 (0, 0) _ HRB.out rfl .u8 r0 HPT.out.1 Tryd.underlying24 rfl (by rw [HL0.out]; exact info_num) ?_) | ((with_reducible show wpList _ _ _ (Oper.mk (some 17) _ _ _ _ _ :: _) _ _); refine wpList_eql_arr (by rfl) 24 24 5 _ _ rfl 32 .u8 .u8 Tryd.underlying24 Tryd.underlying5 Ha.size_u8 guard_num r0 r0 rfl rfl HL0.out HL0.out true (beq_self_eq_true _) ?_) | ((with_reducible show wpList _ _ _ (Oper.mk (some 21) _ _ _ _ _ :: _) _ _); refine wpList_load_partG (by rfl) 24 _ rfl w2.heap.size 32 _ 26 (0, 0) _ HRA4.out rfl .u8 r1 HPT.out.2.1 Tryd.underlying24 rfl (by rw [HL1.out]; exact info_num) ?_) | ((with_reducible show wpList _ _ _ (Oper.mk (some 23) _ _ _ _ _ :: _) _ _); refine wpList_load_partG (by rfl) 24 _ rfl w3.heap.size 32 _ 28 (0, 0) _ HRB.out rfl .u8 r1 HPT.out.2.1 Tryd.underlying24 rfl (by rw [HL1.out]; exact info_num) ?_) | ((with_reducible show wpList _ _ _ (Oper.mk (some 24) _ _ _ _ _ :: _) _ _); refine wpList_eql_arr (by rfl) 24 24 5 _ _ rfl 32 .u8 .u8 Tryd.underlying24 Tryd.underlying5 Ha.size_u8 guard_num r1 r1 rfl rfl HL1.out HL1.out true (beq_self_eq_true _) ?_) | ((with_reducible show wpList _ _ _ (Oper.mk (some 28) _ _ _ _ _ :: _) _ _); refine wpList_load_partG (by rfl) 24 _ rfl w2.heap.size 64 _ 26 (0, 0) _ HRA4.out rfl .u8 r2 HPT.out.2.2.1 Tryd.underlying24 rfl (by rw [HL2.out]; exact info_num) ?_) | ((with_reducible show wpList _ _ _ (Oper.mk (some 30) _ _ _ _ _ :: _) _ _); refine wpList_load_partG (by rfl) 24 _ rfl w3.heap.size 64 _ 28 (0, 0) _ HRB.out rfl .u8 r2 HPT.out.2.2.1 Tryd.underlying24 rfl (by rw [HL2.out]; exact info_num) ?_) | ((with_reducible show wpList _ _ _ (Oper.mk (some 31) _ _ _ _ _ :: _) _ _); refine wpList_eql_arr (by rfl) 24 24 5 _ _ rfl 32 .u8 .u8 Tryd.underlying24 Tryd.underlying5 Ha.size_u8 guard_num r2 r2 rfl rfl HL2.out HL2.out true (beq_self_eq_true _) ?_) | ((with_reducible show wpList _ _ _ (Oper.mk (some 35) _ _ _ _ _ :: _) _ _); refine wpList_load_partG (by rfl) 24 _ rfl w2.heap.size 96 _ 26 (0, 0) _ HRA4.out rfl .u8 r3 HPT.out.2.2.2 Tryd.underlying24 rfl (by rw [HL3.out]; exact info_num) ?_) | ((with_reducible show wpList _ _ _ (Oper.mk (some 37) _ _ _ _ _ :: _) _ _); refine wpList_load_partG (by rfl) 24 _ rfl w3.heap.size 96 _ 28 (0, 0) _ HRB.out rfl .u8 r3 HPT.out.2.2.2 Tryd.underlying24 rfl (by rw [HL3.out]; exact info_num) ?_) | ((with_reducible show wpList _ _ _ (Oper.mk (some 38) _ _ _ _ _ :: _) _ _); refine wpList_eql_arr (by rfl) 24 24 5 _ _ rfl 32 .u8 .u8 Tryd.underlying24 Tryd.underlying5 Ha.size_u8 guard_num r3 r3 rfl rfl HL3.out HL3.out true (beq_self_eq_true _) ?_))
  go_ret
  exact ⟨rfl, HB4.out⟩
end Go.Proofs.YtgnkamcockmhiaaDoor.Is
