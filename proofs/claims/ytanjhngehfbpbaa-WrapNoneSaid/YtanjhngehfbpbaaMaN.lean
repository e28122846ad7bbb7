/- WrapNone: it answers true. No condition. -/
import Derived.Test.YtanjhngehfbpbaaMm
import Derived.Test.YtanjhngehfbpbaaGe
import Derived.Test.YtanjhngehfbpbaaMa
namespace Go.Proofs.Ytanjhngehfbpbaa.Wr
open Go.RowKit Lm Cu Sl Fp
set_option linter.unusedSimpArgs false
set_option linter.unusedSimpArgs false
set_option linter.unusedVariables false

theorem rowI_srcn {w : World} {a : Option Addr} {len cap : Nat} {zs : List Int} (h : RowI .u8 w a len cap zs) : Src w a len (zs.take len) ∧ bytes (zs.take len) ∧ len ≤ cap := by
  rcases h with ⟨rfl, rfl, rfl, rfl⟩ | ⟨x, rfl, hl, hm, hz, hc, hw⟩
  · exact ⟨⟨rfl, fun i hi => absurd hi (by omega)⟩, fun x hx => by simp at hx, Nat.le_refl _⟩
  · refine ⟨⟨by simp; omega, fun i hi => ⟨x, rfl, ?_⟩⟩, fun y hy => wf_u8 (hw y (List.mem_of_mem_take hy)), hl⟩
    rw [hc i (by omega)]
    simp [List.getD, hi]
theorem mk32 (w : World) : (Instr.makeSlice 24 (.int .i64 32) (.int .i64 32)).run Try.prog w = .ok (.slice (some ⟨w.heap.size, 0, none⟩) 32 32) (w.alloc (.cells (arr .u8 (List.replicate 32 0)) 5)) := by kernel_rfl
theorem mk_next {w w' : World} {v l c : Value} {t : TypeId} (h : (Instr.makeSlice t l c).run Try.prog w = .ok v w') : (do pure (Next.value (← Instr.makeSlice t l c)) : Sem Next).run Try.prog w = .ok (.value v) w' := by
  simp only [Sem.run_bind, h, Result.andThen_ok]
  rfl
theorem lin_world' {P : Program} {Q : Exit → Act → World → Prop} {ops : Array Oper} {o : Oper} {b : Act} {u u' : World} {K : Act → World → Prop} {E : Prop} (hgd : o.guard = none) (v : Value) (hrun : (execOp b.eval o).run P u = .ok (.value v) u') (h : K (b.put o.dst v) u') :
    if Region.wanted o (yielded ops b.tmps) = true then Oper.wp P o b u K Q else E := by
  rw [if_pos (by simp [Region.wanted, hgd])]
  unfold Oper.wp
  rw [hrun]
  exact h
theorem num_zeros : hnum (List.replicate 32 0) = 0 := by decide +kernel
theorem ures_zero (S : Nat) (b : List Int) (h : b.length = 48) : ures S (List.replicate 32 0 ++ b) = (n32 0, 21) := by
  have h1 : (List.replicate 32 0 ++ b).take 32 = List.replicate 32 0 := by rw [List.take_append_of_le_length (by simp), List.take_of_length_le (by simp)]
  rw [ures, if_pos (by rw [List.length_append, List.length_replicate, h]), h1, num_zeros, Ed.x_zero, if_pos rfl]

set_option maxRecDepth 100000 in
set_option maxHeartbeats 4000000 in
theorem none_other {ss ds xs : List Int} (sb : Option Addr) (nb cb : Nat) (w : World) (h : ¬ nb = 48) : Calls Try.prog 6 #[.agg (arr .u8 ss), .agg (arr .u8 ds), .agg (arr .u8 xs), .slice sb nb cb] w fun e w' => e = .returned (.bool true) ∧ Below w.heap.size w w' := by
  have HI0 := Lib.hid (Blk.three w (arr .u8 ss) (arr .u8 ds) (arr .u8 xs) 23 23 23)
  have hne : ((nb : Int) == 48) = false := by rw [beq_eq_false_iff_ne]; omega
  have hne2 : ¬ (nb : Int) = 48 := by omega
  clear h
  go_enter Try.func6, Try.ntmps6
  go_wp2_with (first | ((with_reducible show Calls _ 11 _ _ _); go_at_call 11; refine (alive14_any _).mono ?_; rintro e w1 ⟨rfl, hb1⟩; have HI1 := Lib.hid (HI0.out.kept hb1); clear hb1))
  (try simp only [Exit.then])
  go_ret
  exact ⟨rfl, HI1.out.below⟩
set_option maxRecDepth 100000 in
set_option maxHeartbeats 16000000 in
theorem none_core {ss ds xs bs : List Int} (S D : Nat) (ad : Addr) (cb : Nat) (w : World) (hS : K32 ss S) (hD : K32 ds D) (hx : xs.length = 32) (bx : bytes xs) (hs : Src w (some ad) 48 bs) (hc : 48 ≤ cb) (bB : bytes bs) :
    Calls Try.prog 6 #[.agg (arr .u8 ss), .agg (arr .u8 ds), .agg (arr .u8 xs), .slice (some ad) 48 cb] w fun e w' => e = .returned (.bool true) ∧ Below w.heap.size w w' := by
  have hl := hs.len
  obtain ⟨zn, hzn⟩ : ∃ zs : List Int, zs = List.replicate 32 0 := ⟨_, rfl⟩
  have HZzn : Hid (∀ w, (zeroValue 23).run Try.prog w = .ok (.agg (arr .u8 zn)) w) := Lib.hid (by intro w; rw [hzn]; exact zero_num w)
  have HLzn : Hid (zn.length = 32) := Lib.hid (by rw [hzn]; rfl)
  have hzk : K32 zn 0 := by rw [hzn]; exact k32_zero
  have hzb : bytes zn := by rw [hzk.1]; exact n32_bytes 0
  have hw0 : ∀ u : World, Calls Try.prog 12 #[.agg (arr .u8 zn), .agg (arr .u8 ds), .agg (arr .u8 xs)] u fun e w' => (∃ sa c, e = .returned (.tuple #[.slice sa 0 c, .int .i64 21])) ∧ Below u.heap.size u w' := by
    intro u
    refine (wrap_any 0 D u hzk hD hx bx).mono ?_
    rintro e w' ⟨⟨sa, c, rfl, -, -⟩, hb⟩
    rw [wres, werr, Ed.x_zero, if_pos rfl, if_pos rfl]
    exact ⟨⟨sa, c, rfl⟩, hb⟩
  have hw1 : ∀ u : World, Calls Try.prog 12 #[.agg (arr .u8 (nm 1)), .agg (arr .u8 ds), .agg (arr .u8 xs)] u fun e w' => (∃ sa c, e = .returned (.tuple #[.slice sa 0 c, .int .i64 21])) ∧ Below u.heap.size u w' := by
    intro u
    refine (wrap_any 1 D u ⟨nm_k 1 (by decide), by decide⟩ hD hx bx).mono ?_
    rintro e w' ⟨⟨sa, c, rfl, -, -⟩, hb⟩
    rw [wres, werr, Ed.x_one, if_pos rfl, if_pos rfl]
    exact ⟨⟨sa, c, rfl⟩, hb⟩
  have hu0 := fun (a : Addr) (c : Nat) (u : World) (h : Src u (some a) 80 (zn ++ bs)) (hc : 80 ≤ c) => unwrap_any S (some a) 80 c u hS h hc (bytes_app hzb bB)
  have hur : ures S (zn ++ bs) = (n32 0, 21) := by rw [hzn]; exact ures_zero S bs hl
  rw [hur] at hu0
  have hu1 := fun (u : World) (h : Src u (some ad) 48 bs) => unwrap_any S (some ad) 48 cb u hS h hc bB
  have hur2 : ures S bs = (n32 0, 4) := by rw [ures, if_neg (by rw [hl]; decide)]
  rw [hur2] at hu1
  rw [show n32 0 = zn from hzk.1.symm] at hu0 hu1
  have hmk : ∀ u : World, (Instr.makeSlice 24 (.int .i64 32) (.int .i64 32)).run Try.prog u = .ok (.slice (some ⟨u.heap.size, 0, none⟩) 32 32) (u.alloc (.cells (arr .u8 zn) 5)) := by intro u; rw [hzn]; exact mk32 u
  obtain ⟨n1, hn1⟩ : ∃ x, x = nm 1 := ⟨_, rfl⟩
  rw [← hn1] at hw1
  have B0 : Hid (∀ w, (Instr.build 23 #[]).run Try.prog w = .ok (.agg (arr .u8 zn)) w) := Lib.hid (by intro w; rw [hzn]; exact build_num0' w)
  have B1 := Lib.hid (fun w => build_nm 1 w)
  rw [show ((1 : Int) :: List.replicate 31 0) = nm 1 from rfl, ← hn1] at B1
  have HW0 := Lib.hid hw0
  have HW1 := Lib.hid hw1
  have HU0 := Lib.hid hu0
  have HU1 := Lib.hid hu1
  have HMK := Lib.hid hmk
  have HS := Lib.hid hs
  have HSL := Lib.hid hS.len
  have HDL := Lib.hid hD.len
  have HXL := Lib.hid hx
  have HI0 := Lib.hid (Blk.three w (arr .u8 ss) (arr .u8 ds) (arr .u8 xs) 23 23 23)
  clear hzn hzk hzb hw0 hw1 hu0 hur hu1 hur2 hmk hn1 hS hD hx bx hs hc bB hl
  go_enter Try.func6, Try.ntmps6
  go_upto_region 4 with (first | ((with_reducible show Calls _ 11 _ _ _); go_at_call 11; refine (alive14_any _).mono ?_; rintro e w1 ⟨rfl, hb1⟩; have HI1 := Lib.hid (HI0.out.kept hb1); clear hb1))
  (try simp only [World.size_alloc, Act.put, List.setIfInBounds_toArray, List.set_cons_zero, List.set_cons_succ])
  go_upto_region 5 with (first | ((with_reducible show wpList _ _ _ (Oper.mk (some 28) _ _ _ _ _ :: _) _ _); refine wpList_build (by rfl) 23 _ rfl #[] rfl _ (B0.out _) ?_) | ((with_reducible show wpList _ _ _ (Oper.mk (some 29) _ _ _ _ _ :: _) _ _); refine wpList_load_part rfl 23 _ rfl (w.heap.size + 1) 0 _ 23 (0, 0) _ (HI1.out.get 1 rfl) rfl .u8 ds (arr_part _ _) Try.underlying23 rfl (num_i HDL.out) ?_) | ((with_reducible show wpList _ _ _ (Oper.mk (some 30) _ _ _ _ _ :: _) _ _); refine wpList_load_part rfl 23 _ rfl (w.heap.size + 1 + 1) 0 _ 23 (0, 0) _ (HI1.out.get 2 rfl) rfl .u8 xs (arr_part _ _) Try.underlying23 rfl (num_i HXL.out) ?_) | ((with_reducible show Calls _ 12 _ _ _); go_at_call 12; refine (HW0.out _).mono ?_; rintro e w2 ⟨⟨s2, c2, rfl⟩, hb2⟩; have HI2 := Lib.hid (HI1.out.kept hb2); clear hb2))
  (try simp only [World.size_alloc, Act.put, List.setIfInBounds_toArray, List.set_cons_zero, List.set_cons_succ])
  go_upto_region 6 with (first | ((with_reducible show wpList _ _ _ (Oper.mk (some 35) _ _ _ _ _ :: _) _ _); refine wpList_build (by rfl) 23 _ rfl #[(0, .int .u8 1)] rfl _ (B1.out _) ?_) | ((with_reducible show wpList _ _ _ (Oper.mk (some 36) _ _ _ _ _ :: _) _ _); refine wpList_load_part rfl 23 _ rfl (w.heap.size + 1) 0 _ 23 (0, 0) _ (HI2.out.get 1 rfl) rfl .u8 ds (arr_part _ _) Try.underlying23 rfl (num_i HDL.out) ?_) | ((with_reducible show wpList _ _ _ (Oper.mk (some 37) _ _ _ _ _ :: _) _ _); refine wpList_load_part rfl 23 _ rfl (w.heap.size + 1 + 1) 0 _ 23 (0, 0) _ (HI2.out.get 2 rfl) rfl .u8 xs (arr_part _ _) Try.underlying23 rfl (num_i HXL.out) ?_) | ((with_reducible show Calls _ 12 _ _ _); go_at_call 12; refine (HW1.out _).mono ?_; rintro e w3 ⟨⟨s3, c3, rfl⟩, hb3⟩; have HI3 := Lib.hid (HI2.out.kept hb3); clear hb3))
  (try simp only [World.size_alloc, Act.put, List.setIfInBounds_toArray, List.set_cons_zero, List.set_cons_succ])
  have HK0 := Lib.hid ((Kept.refl (fun _ => False) w3).drew)
  have HBd := Lib.hid (HI3.out.drew)
  refine wp_region_held_drew (S := (fun w' => Kept (fun _ => False) w3 w')) (by kernel_rfl) (HK0.out) (fun hHeld => ?_)
  generalize w3.drew = wd at HK0 HBd hHeld ⊢
  refine' wpAnyH_take (i := 0) (oi := ({ dst := some 42, op := Op.load 23 (Operand.tmp 4), type := 23, pos := "more.go:29", after := #[], guard := none } : Oper)) (v := _) rfl (by kernel_rfl) (by kernel_rfl) (by kernel_rfl) (fun _ _ _ h => h) (yieldsIf_load_mid (by rfl) _ _ rfl _ _ rfl (ss.map (Value.int .u8)) _ ?hS7401 Try.underlying23 rfl (by rw [List.length_map]; exact num_i HSL.out)) (by assumption) ?rest7401
  case hS7401 => (intro w hSw; (try dsimp only at hSw); exact range_part (hSw.blk (HI3.out.get 0 rfl) (fun e => e.elim)) 0 _ (by rw [List.length_map]; exact arr_part _ _))
  (try simp only [Act.put, List.setIfInBounds_toArray, List.set_cons_zero, List.set_cons_succ])
  refine wpAnyH_take (i := 2) (oi := ({ dst := some 44, op := Op.move (Operand.tmp 3), type := 24, pos := "more.go:29", after := #[], guard := none } : Oper)) (v := .slice (some ad) 48 cb) rfl (by kernel_rfl) (by kernel_rfl) (by kernel_rfl) (fun _ _ _ h => h) (Or.inl ⟨by rfl, ?hy7402⟩) (by assumption) ?rest7402
  case hy7402 => (intro w hSw; (try dsimp only at hSw); first | rfl | kernel_rfl)
  (try simp only [Act.put, List.setIfInBounds_toArray, List.set_cons_zero, List.set_cons_succ])
  refine wpAnyH_ready (rs := [1, 8]) (by kernel_rfl) (by simp) ?_
  refine AllReadyH.cons (o := ({ dst := some 43, op := Op.makeSlice 24 (Operand.const (Value.int IntKind.i64 32)) (Operand.const (Value.int IntKind.i64 32)), type := 24, pos := "more.go:29", after := #[], guard := none } : Oper)) rfl (fun K hK => ?_) ?_
  · refine lin_world' rfl (.slice (some ⟨wd.heap.size, 0, none⟩) 32 32) (mk_next (HMK.out _)) ?_
    have HY1 := Lib.hid (HBd.out.alloc (arr .u8 zn) 5)
    have HQ1 := Lib.hid (HK0.out.alloc (.cells (arr .u8 zn) 5))
    generalize wd.heap.size = gm at HY1 ⊢
    generalize wd.alloc (.cells (arr .u8 zn) 5) = y1 at HY1 HQ1 ⊢
    refine hK.out _ _ (HQ1.out) (fun hHeld => ?_)
    clear hK K
    (try simp only [Act.put, List.setIfInBounds_toArray, List.set_cons_zero, List.set_cons_succ])
    refine wpAnyH_ready (rs := [3, 8]) (by kernel_rfl) (by simp) ?_
    refine AllReadyH.cons (o := ({ dst := some 45, op := Op.call { callee := Callee.builtin Builtin.append, args := #[Operand.tmp 43, Operand.tmp 44], argTypes := #[24, 24] }, type := 24, pos := "more.go:29", after := #[{ on := 1, ground := Ground.data }, { on := 2, ground := Ground.data }], guard := none } : Oper)) rfl (fun K hK => ?_) ?_
    · refine step_append_new rfl (.tmp 43) (.tmp 44) rfl gm 32 48 cb ad zn bs rfl rfl (src_all (HY1.out.get 3 rfl) 32 HLzn.out) (HS.out.below HY1.out.below) (by decide) (by decide) ?_
      intro ga ca y2 hsa hca hb9
      have HY2 := Lib.hid (HY1.out.kept hb9)
      have HQ2 := Lib.hid (HQ1.out.trans (Kept.of_below hb9))
      have HCA := Lib.hid hca
      have HSA : Hid (∀ u, Below y2.heap.size y2 u → Src u (some ⟨ga, 0, none⟩) 80 (zn ++ bs)) := Lib.hid (fun u h => hsa.below h)
      have HBA := Lib.hid (Below.refl y2.heap.size y2)
      clear hb9 hsa hca
      refine hK.out _ _ (HQ2.out) (fun hHeld => ?_)
      clear hK K
      (try simp only [Act.put, List.setIfInBounds_toArray, List.set_cons_zero, List.set_cons_succ])
      refine wpAnyH_ready (rs := [4, 8]) (by kernel_rfl) (by simp) ?_
      refine AllReadyH.cons (o := ({ dst := some 46, op := Op.call { callee := Callee.value (Operand.func 14), args := #[Operand.tmp 42, Operand.tmp 45], argTypes := #[23, 24] }, type := 37, pos := "more.go:29", after := #[{ on := 0, ground := Ground.data }, { on := 3, ground := Ground.data }, { on := 3, ground := Ground.chain }], guard := none } : Oper)) rfl (fun K hK => ?_) ?_
      · go_simp
        go_at_call 14
        refine (HU0.out _ _ _ (HSA.out _ HBA.out) HCA.out).mono ?_
        rintro e y3 ⟨rfl, hb9⟩
        have HY3 := Lib.hid (HY2.out.kept hb9)
        have HQ3 := Lib.hid (HQ2.out.trans (Kept.of_below hb9))
        clear hb9
        (try dsimp only)
        refine hK.out _ _ (HQ3.out) (fun hHeld => ?_)
        clear hK K
        (try simp only [Act.put, List.setIfInBounds_toArray, List.set_cons_zero, List.set_cons_succ])
        refine wpAnyH_take (i := 5) (oi := ({ dst := some 41, op := Op.move (Operand.tmp 46), type := 37, pos := "more.go:29", after := #[{ on := 4, ground := Ground.data }], guard := none } : Oper)) (v := .tuple #[.agg (arr .u8 zn), .int .i64 21]) rfl (by kernel_rfl) (by kernel_rfl) (by kernel_rfl) (fun _ _ _ h => h) (Or.inl ⟨by rfl, ?hy7403⟩) (by assumption) ?rest7403
        case hy7403 => (intro w hSw; (try dsimp only at hSw); first | rfl | kernel_rfl | (go_simp; done))
        (try simp only [Act.put, List.setIfInBounds_toArray, List.set_cons_zero, List.set_cons_succ])
        refine wpAnyH_take (i := 6) (oi := ({ dst := some 47, op := Op.extract (Operand.tmp 41) 0, type := 23, pos := "more.go:29", after := #[{ on := 5, ground := Ground.data }], guard := none } : Oper)) (v := .agg (arr .u8 zn)) rfl (by kernel_rfl) (by kernel_rfl) (by kernel_rfl) (fun _ _ _ h => h) (Or.inl ⟨by rfl, ?hy7404⟩) (by assumption) ?rest7404
        case hy7404 => (intro w hSw; (try dsimp only at hSw); first | rfl | kernel_rfl | (go_simp; done))
        (try simp only [Act.put, List.setIfInBounds_toArray, List.set_cons_zero, List.set_cons_succ])
        refine wpAnyH_take (i := 7) (oi := ({ dst := some 48, op := Op.extract (Operand.tmp 41) 1, type := 34, pos := "more.go:29", after := #[{ on := 5, ground := Ground.data }, { on := 9, ground := Ground.gcOnly Departure.lateStores }], guard := none } : Oper)) (v := .int .i64 21) rfl (by kernel_rfl) (by kernel_rfl) (by kernel_rfl) (fun _ _ _ h => h) (Or.inl ⟨by rfl, ?hy7405⟩) (by assumption) ?rest7405
        case hy7405 => (intro w hSw; (try dsimp only at hSw); first | rfl | kernel_rfl | (go_simp; done))
        (try simp only [Act.put, List.setIfInBounds_toArray, List.set_cons_zero, List.set_cons_succ])
        refine wpAnyH_ready (rs := [8]) (by kernel_rfl) (by simp) ?_
        refine AllReadyH.cons (o := ({ dst := some 14, op := Op.alloc 23, type := 0, pos := "more.go:29", after := #[], guard := none } : Oper)) rfl (fun K hK => ?_) AllReadyH.nil
        refine step_alloc_row rfl 23 rfl _ (HZzn.out _) ?_
        have HY4 := Lib.hid (HY3.out.alloc (arr .u8 zn) 23)
        have HQ4 := Lib.hid (HQ3.out.alloc (.cells (arr .u8 zn) 23))
        have HG14 := Lib.hid (show w3.heap.size ≤ y3.heap.size from HQ3.out.size)
        generalize y3.heap.size = g14 at HY4 HG14 ⊢
        generalize y3.alloc (.cells (arr .u8 zn) 23) = y4 at HY4 HQ4 ⊢
        refine hK.out _ _ (HQ4.out) (fun hHeld => ?_)
        clear hK K
        (try simp only [Act.put, List.setIfInBounds_toArray, List.set_cons_zero, List.set_cons_succ])
        refine wpAnyH_ready (rs := [9]) (by kernel_rfl) (by simp) ?_
        refine AllReadyH.cons (o := ({ dst := none, op := Op.store 23 (Operand.tmp 14) (Operand.tmp 47), type := 0, pos := "more.go:29", after := #[{ on := 8, ground := Ground.data }, { on := 6, ground := Ground.data }, { on := 4, ground := Ground.chain }, { on := 0, ground := Ground.phase }, { on := 1, ground := Ground.phase }, { on := 2, ground := Ground.phase }, { on := 3, ground := Ground.phase }, { on := 4, ground := Ground.phase }, { on := 5, ground := Ground.phase }, { on := 6, ground := Ground.phase }, { on := 7, ground := Ground.textOnly Departure.lateStores }, { on := 8, ground := Ground.phase }], guard := none } : Oper)) rfl (fun K hK => ?_) AllReadyH.nil
        refine step_store_whole rfl 23 (.tmp 14) (.tmp 47) rfl g14 _ _ 23 (HY4.out.get 4 rfl) rfl rfl (arr_len2 _ _ HLzn.out HLzn.out) (num_s HLzn.out) (all_arr _ _) ?_
        intro y5 hb9 hk9 hz9
        have HQ5 := Lib.hid (HQ4.out.trans_new hk9 (fun i hi e => absurd hi (by have h14 := HG14.out; omega)))
        have HY5 := Lib.hid (HY4.out.put 4 rfl hk9 hb9)
        clear hb9 hk9 hz9
        refine hK.out _ _ (HQ5.out) (fun hHeld => ?_)
        clear hK K
        (try simp only [Act.put, List.setIfInBounds_toArray, List.set_cons_zero, List.set_cons_succ])
        refine wpAnyH_take (i := 10) (oi := ({ dst := some 15, op := Op.assign (Operand.tmp 48), type := 34, pos := "more.go:29", after := #[{ on := 7, ground := Ground.data }, { on := 9, ground := Ground.chain }, { on := 0, ground := Ground.phase }, { on := 1, ground := Ground.phase }, { on := 2, ground := Ground.phase }, { on := 3, ground := Ground.phase }, { on := 4, ground := Ground.phase }, { on := 5, ground := Ground.phase }, { on := 6, ground := Ground.phase }, { on := 7, ground := Ground.phase }, { on := 8, ground := Ground.phase }, { on := 9, ground := Ground.phase }], guard := none } : Oper)) (v := .int .i64 21) rfl (by kernel_rfl) (by kernel_rfl) (by kernel_rfl) (fun _ _ _ h => h) (Or.inl ⟨by rfl, ?hy7406⟩) (by assumption) ?rest7406
        case hy7406 => (intro w hSw; (try dsimp only at hSw); first | rfl | kernel_rfl | (go_simp; done))
        (try simp only [Act.put, List.setIfInBounds_toArray, List.set_cons_zero, List.set_cons_succ])
        refine wpAnyH_done (by kernel_rfl) ?_ _
        (try simp only [Exit.then])
        go_upto_region 8 with (first | ((with_reducible show wpList _ _ _ (Oper.mk (some 50) _ _ _ _ _ :: _) _ _); refine wpList_load_part rfl 23 _ rfl (w.heap.size) 0 _ 23 (0, 0) _ (HY5.out.get 0 rfl) rfl .u8 ss (arr_part _ _) Try.underlying23 rfl (num_i HSL.out) ?_) | ((with_reducible show Calls _ 14 _ _ _); go_at_call 14; refine (HU1.out _ (HS.out.below HY5.out.below)).mono ?_; rintro e w20 ⟨rfl, hb9⟩; have HI20 := Lib.hid (HY5.out.kept hb9); clear hb9) | ((with_reducible show wpList _ _ _ (Oper.mk (some 16) _ _ _ _ _ :: _) _ _); refine wpList_alloc_row rfl 23 rfl _ (HZzn.out _) ?_; have HI21 := Lib.hid (HI20.out.alloc (arr .u8 zn) 23); generalize w20.heap.size = g16 at HI21 ⊢; generalize w20.alloc (.cells (arr .u8 zn) 23) = w21 at HI21 ⊢) | ((with_reducible show wpList _ _ _ (Oper.mk none (Op.store _ (Operand.tmp 16) _) _ _ _ _ :: _) _ _); refine wpList_store_whole rfl 23 _ _ rfl (g16) _ _ 23 (HI21.out.get 5 rfl) rfl rfl (arr_len2 _ _ HLzn.out HLzn.out) (num_s HLzn.out) (all_arr _ _) ?_; intro w22 hb22 hk22 hz22; have HI22 := Lib.hid (HI21.out.put 5 rfl hk22 hb22); clear hb22 hk22 hz22))
        (try simp only [World.size_alloc, Act.put, List.setIfInBounds_toArray, List.set_cons_zero, List.set_cons_succ])
        go_wp2_with (first | ((with_reducible show Calls _ 15 _ _ _); go_at_call 15; refine (num14_any _ _).mono ?_; rintro e w30 ⟨rfl, rfl⟩))
        (try simp only [Exit.then])
        go_ret
        exact ⟨rfl, HI22.out.below⟩
      refine AllReadyH.cons (o := ({ dst := some 14, op := Op.alloc 23, type := 0, pos := "more.go:29", after := #[], guard := none } : Oper)) rfl (fun K hK => ?_) AllReadyH.nil
      refine step_alloc_row rfl 23 rfl _ (HZzn.out _) ?_
      have HY6 := Lib.hid (HY2.out.alloc (arr .u8 zn) 23)
      have HQ6 := Lib.hid (HQ2.out.alloc (.cells (arr .u8 zn) 23))
      have HG14 := Lib.hid (show w3.heap.size ≤ y2.heap.size from HQ2.out.size)
      generalize y2.heap.size = g14 at HY6 HG14 ⊢
      have HBA2 := Lib.hid (HBA.out.alloc HBA.out.size (.cells (arr .u8 zn) 23))
      generalize y2.alloc (.cells (arr .u8 zn) 23) = y6 at HY6 HQ6 HBA2 ⊢
      refine hK.out _ _ (HQ6.out) (fun hHeld => ?_)
      clear hK K
      (try simp only [Act.put, List.setIfInBounds_toArray, List.set_cons_zero, List.set_cons_succ])
      refine wpAnyH_ready (rs := [4]) (by kernel_rfl) (by simp) ?_
      refine AllReadyH.cons (o := ({ dst := some 46, op := Op.call { callee := Callee.value (Operand.func 14), args := #[Operand.tmp 42, Operand.tmp 45], argTypes := #[23, 24] }, type := 37, pos := "more.go:29", after := #[{ on := 0, ground := Ground.data }, { on := 3, ground := Ground.data }, { on := 3, ground := Ground.chain }], guard := none } : Oper)) rfl (fun K hK => ?_) AllReadyH.nil
      go_simp
      go_at_call 14
      refine (HU0.out _ _ _ (HSA.out _ HBA2.out) HCA.out).mono ?_
      rintro e y7 ⟨rfl, hb9⟩
      have HY7 := Lib.hid (HY6.out.kept hb9)
      have HQ7 := Lib.hid (HQ6.out.trans (Kept.of_below hb9))
      clear hb9
      (try dsimp only)
      refine hK.out _ _ (HQ7.out) (fun hHeld => ?_)
      clear hK K
      (try simp only [Act.put, List.setIfInBounds_toArray, List.set_cons_zero, List.set_cons_succ])
      refine wpAnyH_take (i := 5) (oi := ({ dst := some 41, op := Op.move (Operand.tmp 46), type := 37, pos := "more.go:29", after := #[{ on := 4, ground := Ground.data }], guard := none } : Oper)) (v := .tuple #[.agg (arr .u8 zn), .int .i64 21]) rfl (by kernel_rfl) (by kernel_rfl) (by kernel_rfl) (fun _ _ _ h => h) (Or.inl ⟨by rfl, ?hy7407⟩) (by assumption) ?rest7407
      case hy7407 => (intro w hSw; (try dsimp only at hSw); first | rfl | kernel_rfl | (go_simp; done))
      (try simp only [Act.put, List.setIfInBounds_toArray, List.set_cons_zero, List.set_cons_succ])
      refine wpAnyH_take (i := 6) (oi := ({ dst := some 47, op := Op.extract (Operand.tmp 41) 0, type := 23, pos := "more.go:29", after := #[{ on := 5, ground := Ground.data }], guard := none } : Oper)) (v := .agg (arr .u8 zn)) rfl (by kernel_rfl) (by kernel_rfl) (by kernel_rfl) (fun _ _ _ h => h) (Or.inl ⟨by rfl, ?hy7408⟩) (by assumption) ?rest7408
      case hy7408 => (intro w hSw; (try dsimp only at hSw); first | rfl | kernel_rfl | (go_simp; done))
      (try simp only [Act.put, List.setIfInBounds_toArray, List.set_cons_zero, List.set_cons_succ])
      refine wpAnyH_take (i := 7) (oi := ({ dst := some 48, op := Op.extract (Operand.tmp 41) 1, type := 34, pos := "more.go:29", after := #[{ on := 5, ground := Ground.data }, { on := 9, ground := Ground.gcOnly Departure.lateStores }], guard := none } : Oper)) (v := .int .i64 21) rfl (by kernel_rfl) (by kernel_rfl) (by kernel_rfl) (fun _ _ _ h => h) (Or.inl ⟨by rfl, ?hy7409⟩) (by assumption) ?rest7409
      case hy7409 => (intro w hSw; (try dsimp only at hSw); first | rfl | kernel_rfl | (go_simp; done))
      (try simp only [Act.put, List.setIfInBounds_toArray, List.set_cons_zero, List.set_cons_succ])
      refine wpAnyH_ready (rs := [9]) (by kernel_rfl) (by simp) ?_
      refine AllReadyH.cons (o := ({ dst := none, op := Op.store 23 (Operand.tmp 14) (Operand.tmp 47), type := 0, pos := "more.go:29", after := #[{ on := 8, ground := Ground.data }, { on := 6, ground := Ground.data }, { on := 4, ground := Ground.chain }, { on := 0, ground := Ground.phase }, { on := 1, ground := Ground.phase }, { on := 2, ground := Ground.phase }, { on := 3, ground := Ground.phase }, { on := 4, ground := Ground.phase }, { on := 5, ground := Ground.phase }, { on := 6, ground := Ground.phase }, { on := 7, ground := Ground.textOnly Departure.lateStores }, { on := 8, ground := Ground.phase }], guard := none } : Oper)) rfl (fun K hK => ?_) AllReadyH.nil
      refine step_store_whole rfl 23 (.tmp 14) (.tmp 47) rfl g14 _ _ 23 (HY7.out.get 4 rfl) rfl rfl (arr_len2 _ _ HLzn.out HLzn.out) (num_s HLzn.out) (all_arr _ _) ?_
      intro y8 hb9 hk9 hz9
      have HQ8 := Lib.hid (HQ7.out.trans_new hk9 (fun i hi e => absurd hi (by have h14 := HG14.out; omega)))
      have HY8 := Lib.hid (HY7.out.put 4 rfl hk9 hb9)
      clear hb9 hk9 hz9
      refine hK.out _ _ (HQ8.out) (fun hHeld => ?_)
      clear hK K
      (try simp only [Act.put, List.setIfInBounds_toArray, List.set_cons_zero, List.set_cons_succ])
      refine wpAnyH_take (i := 10) (oi := ({ dst := some 15, op := Op.assign (Operand.tmp 48), type := 34, pos := "more.go:29", after := #[{ on := 7, ground := Ground.data }, { on := 9, ground := Ground.chain }, { on := 0, ground := Ground.phase }, { on := 1, ground := Ground.phase }, { on := 2, ground := Ground.phase }, { on := 3, ground := Ground.phase }, { on := 4, ground := Ground.phase }, { on := 5, ground := Ground.phase }, { on := 6, ground := Ground.phase }, { on := 7, ground := Ground.phase }, { on := 8, ground := Ground.phase }, { on := 9, ground := Ground.phase }], guard := none } : Oper)) (v := .int .i64 21) rfl (by kernel_rfl) (by kernel_rfl) (by kernel_rfl) (fun _ _ _ h => h) (Or.inl ⟨by rfl, ?hy7410⟩) (by assumption) ?rest7410
      case hy7410 => (intro w hSw; (try dsimp only at hSw); first | rfl | kernel_rfl | (go_simp; done))
      (try simp only [Act.put, List.setIfInBounds_toArray, List.set_cons_zero, List.set_cons_succ])
      refine wpAnyH_done (by kernel_rfl) ?_ _
      (try simp only [Exit.then])
      go_upto_region 8 with (first | ((with_reducible show wpList _ _ _ (Oper.mk (some 50) _ _ _ _ _ :: _) _ _); refine wpList_load_part rfl 23 _ rfl (w.heap.size) 0 _ 23 (0, 0) _ (HY8.out.get 0 rfl) rfl .u8 ss (arr_part _ _) Try.underlying23 rfl (num_i HSL.out) ?_) | ((with_reducible show Calls _ 14 _ _ _); go_at_call 14; refine (HU1.out _ (HS.out.below HY8.out.below)).mono ?_; rintro e w20 ⟨rfl, hb9⟩; have HI20 := Lib.hid (HY8.out.kept hb9); clear hb9) | ((with_reducible show wpList _ _ _ (Oper.mk (some 16) _ _ _ _ _ :: _) _ _); refine wpList_alloc_row rfl 23 rfl _ (HZzn.out _) ?_; have HI21 := Lib.hid (HI20.out.alloc (arr .u8 zn) 23); generalize w20.heap.size = g16 at HI21 ⊢; generalize w20.alloc (.cells (arr .u8 zn) 23) = w21 at HI21 ⊢) | ((with_reducible show wpList _ _ _ (Oper.mk none (Op.store _ (Operand.tmp 16) _) _ _ _ _ :: _) _ _); refine wpList_store_whole rfl 23 _ _ rfl (g16) _ _ 23 (HI21.out.get 5 rfl) rfl rfl (arr_len2 _ _ HLzn.out HLzn.out) (num_s HLzn.out) (all_arr _ _) ?_; intro w22 hb22 hk22 hz22; have HI22 := Lib.hid (HI21.out.put 5 rfl hk22 hb22); clear hb22 hk22 hz22))
      (try simp only [World.size_alloc, Act.put, List.setIfInBounds_toArray, List.set_cons_zero, List.set_cons_succ])
      go_wp2_with (first | ((with_reducible show Calls _ 15 _ _ _); go_at_call 15; refine (num14_any _ _).mono ?_; rintro e w30 ⟨rfl, rfl⟩))
      (try simp only [Exit.then])
      go_ret
      exact ⟨rfl, HI22.out.below⟩
    refine AllReadyH.cons (o := ({ dst := some 14, op := Op.alloc 23, type := 0, pos := "more.go:29", after := #[], guard := none } : Oper)) rfl (fun K hK => ?_) AllReadyH.nil
    refine step_alloc_row rfl 23 rfl _ (HZzn.out _) ?_
    have HY9 := Lib.hid (HY1.out.alloc (arr .u8 zn) 23)
    have HQ9 := Lib.hid (HQ1.out.alloc (.cells (arr .u8 zn) 23))
    have HG14 := Lib.hid (show w3.heap.size ≤ y1.heap.size from HQ1.out.size)
    generalize y1.heap.size = g14 at HY9 HG14 ⊢
    generalize y1.alloc (.cells (arr .u8 zn) 23) = y9 at HY9 HQ9 ⊢
    refine hK.out _ _ (HQ9.out) (fun hHeld => ?_)
    clear hK K
    (try simp only [Act.put, List.setIfInBounds_toArray, List.set_cons_zero, List.set_cons_succ])
    refine wpAnyH_ready (rs := [3]) (by kernel_rfl) (by simp) ?_
    refine AllReadyH.cons (o := ({ dst := some 45, op := Op.call { callee := Callee.builtin Builtin.append, args := #[Operand.tmp 43, Operand.tmp 44], argTypes := #[24, 24] }, type := 24, pos := "more.go:29", after := #[{ on := 1, ground := Ground.data }, { on := 2, ground := Ground.data }], guard := none } : Oper)) rfl (fun K hK => ?_) AllReadyH.nil
    refine step_append_new rfl (.tmp 43) (.tmp 44) rfl gm 32 48 cb ad zn bs rfl rfl (src_all (HY9.out.get 3 rfl) 32 HLzn.out) (HS.out.below HY9.out.below) (by decide) (by decide) ?_
    intro ga ca y10 hsa hca hb9
    have HY10 := Lib.hid (HY9.out.kept hb9)
    have HQ10 := Lib.hid (HQ9.out.trans (Kept.of_below hb9))
    have HCA := Lib.hid hca
    have HSA : Hid (∀ u, Below y10.heap.size y10 u → Src u (some ⟨ga, 0, none⟩) 80 (zn ++ bs)) := Lib.hid (fun u h => hsa.below h)
    have HBA := Lib.hid (Below.refl y10.heap.size y10)
    clear hb9 hsa hca
    refine hK.out _ _ (HQ10.out) (fun hHeld => ?_)
    clear hK K
    (try simp only [Act.put, List.setIfInBounds_toArray, List.set_cons_zero, List.set_cons_succ])
    refine wpAnyH_ready (rs := [4]) (by kernel_rfl) (by simp) ?_
    refine AllReadyH.cons (o := ({ dst := some 46, op := Op.call { callee := Callee.value (Operand.func 14), args := #[Operand.tmp 42, Operand.tmp 45], argTypes := #[23, 24] }, type := 37, pos := "more.go:29", after := #[{ on := 0, ground := Ground.data }, { on := 3, ground := Ground.data }, { on := 3, ground := Ground.chain }], guard := none } : Oper)) rfl (fun K hK => ?_) AllReadyH.nil
    go_simp
    go_at_call 14
    refine (HU0.out _ _ _ (HSA.out _ HBA.out) HCA.out).mono ?_
    rintro e y11 ⟨rfl, hb9⟩
    have HY11 := Lib.hid (HY10.out.kept hb9)
    have HQ11 := Lib.hid (HQ10.out.trans (Kept.of_below hb9))
    clear hb9
    (try dsimp only)
    refine hK.out _ _ (HQ11.out) (fun hHeld => ?_)
    clear hK K
    (try simp only [Act.put, List.setIfInBounds_toArray, List.set_cons_zero, List.set_cons_succ])
    refine wpAnyH_take (i := 5) (oi := ({ dst := some 41, op := Op.move (Operand.tmp 46), type := 37, pos := "more.go:29", after := #[{ on := 4, ground := Ground.data }], guard := none } : Oper)) (v := .tuple #[.agg (arr .u8 zn), .int .i64 21]) rfl (by kernel_rfl) (by kernel_rfl) (by kernel_rfl) (fun _ _ _ h => h) (Or.inl ⟨by rfl, ?hy7411⟩) (by assumption) ?rest7411
    case hy7411 => (intro w hSw; (try dsimp only at hSw); first | rfl | kernel_rfl | (go_simp; done))
    (try simp only [Act.put, List.setIfInBounds_toArray, List.set_cons_zero, List.set_cons_succ])
    refine wpAnyH_take (i := 6) (oi := ({ dst := some 47, op := Op.extract (Operand.tmp 41) 0, type := 23, pos := "more.go:29", after := #[{ on := 5, ground := Ground.data }], guard := none } : Oper)) (v := .agg (arr .u8 zn)) rfl (by kernel_rfl) (by kernel_rfl) (by kernel_rfl) (fun _ _ _ h => h) (Or.inl ⟨by rfl, ?hy7412⟩) (by assumption) ?rest7412
    case hy7412 => (intro w hSw; (try dsimp only at hSw); first | rfl | kernel_rfl | (go_simp; done))
    (try simp only [Act.put, List.setIfInBounds_toArray, List.set_cons_zero, List.set_cons_succ])
    refine wpAnyH_take (i := 7) (oi := ({ dst := some 48, op := Op.extract (Operand.tmp 41) 1, type := 34, pos := "more.go:29", after := #[{ on := 5, ground := Ground.data }, { on := 9, ground := Ground.gcOnly Departure.lateStores }], guard := none } : Oper)) (v := .int .i64 21) rfl (by kernel_rfl) (by kernel_rfl) (by kernel_rfl) (fun _ _ _ h => h) (Or.inl ⟨by rfl, ?hy7413⟩) (by assumption) ?rest7413
    case hy7413 => (intro w hSw; (try dsimp only at hSw); first | rfl | kernel_rfl | (go_simp; done))
    (try simp only [Act.put, List.setIfInBounds_toArray, List.set_cons_zero, List.set_cons_succ])
    refine wpAnyH_ready (rs := [9]) (by kernel_rfl) (by simp) ?_
    refine AllReadyH.cons (o := ({ dst := none, op := Op.store 23 (Operand.tmp 14) (Operand.tmp 47), type := 0, pos := "more.go:29", after := #[{ on := 8, ground := Ground.data }, { on := 6, ground := Ground.data }, { on := 4, ground := Ground.chain }, { on := 0, ground := Ground.phase }, { on := 1, ground := Ground.phase }, { on := 2, ground := Ground.phase }, { on := 3, ground := Ground.phase }, { on := 4, ground := Ground.phase }, { on := 5, ground := Ground.phase }, { on := 6, ground := Ground.phase }, { on := 7, ground := Ground.textOnly Departure.lateStores }, { on := 8, ground := Ground.phase }], guard := none } : Oper)) rfl (fun K hK => ?_) AllReadyH.nil
    refine step_store_whole rfl 23 (.tmp 14) (.tmp 47) rfl g14 _ _ 23 (HY11.out.get 4 rfl) rfl rfl (arr_len2 _ _ HLzn.out HLzn.out) (num_s HLzn.out) (all_arr _ _) ?_
    intro y12 hb9 hk9 hz9
    have HQ12 := Lib.hid (HQ11.out.trans_new hk9 (fun i hi e => absurd hi (by have h14 := HG14.out; omega)))
    have HY12 := Lib.hid (HY11.out.put 4 rfl hk9 hb9)
    clear hb9 hk9 hz9
    refine hK.out _ _ (HQ12.out) (fun hHeld => ?_)
    clear hK K
    (try simp only [Act.put, List.setIfInBounds_toArray, List.set_cons_zero, List.set_cons_succ])
    refine wpAnyH_take (i := 10) (oi := ({ dst := some 15, op := Op.assign (Operand.tmp 48), type := 34, pos := "more.go:29", after := #[{ on := 7, ground := Ground.data }, { on := 9, ground := Ground.chain }, { on := 0, ground := Ground.phase }, { on := 1, ground := Ground.phase }, { on := 2, ground := Ground.phase }, { on := 3, ground := Ground.phase }, { on := 4, ground := Ground.phase }, { on := 5, ground := Ground.phase }, { on := 6, ground := Ground.phase }, { on := 7, ground := Ground.phase }, { on := 8, ground := Ground.phase }, { on := 9, ground := Ground.phase }], guard := none } : Oper)) (v := .int .i64 21) rfl (by kernel_rfl) (by kernel_rfl) (by kernel_rfl) (fun _ _ _ h => h) (Or.inl ⟨by rfl, ?hy7414⟩) (by assumption) ?rest7414
    case hy7414 => (intro w hSw; (try dsimp only at hSw); first | rfl | kernel_rfl | (go_simp; done))
    (try simp only [Act.put, List.setIfInBounds_toArray, List.set_cons_zero, List.set_cons_succ])
    refine wpAnyH_done (by kernel_rfl) ?_ _
    (try simp only [Exit.then])
    go_upto_region 8 with (first | ((with_reducible show wpList _ _ _ (Oper.mk (some 50) _ _ _ _ _ :: _) _ _); refine wpList_load_part rfl 23 _ rfl (w.heap.size) 0 _ 23 (0, 0) _ (HY12.out.get 0 rfl) rfl .u8 ss (arr_part _ _) Try.underlying23 rfl (num_i HSL.out) ?_) | ((with_reducible show Calls _ 14 _ _ _); go_at_call 14; refine (HU1.out _ (HS.out.below HY12.out.below)).mono ?_; rintro e w20 ⟨rfl, hb9⟩; have HI20 := Lib.hid (HY12.out.kept hb9); clear hb9) | ((with_reducible show wpList _ _ _ (Oper.mk (some 16) _ _ _ _ _ :: _) _ _); refine wpList_alloc_row rfl 23 rfl _ (HZzn.out _) ?_; have HI21 := Lib.hid (HI20.out.alloc (arr .u8 zn) 23); generalize w20.heap.size = g16 at HI21 ⊢; generalize w20.alloc (.cells (arr .u8 zn) 23) = w21 at HI21 ⊢) | ((with_reducible show wpList _ _ _ (Oper.mk none (Op.store _ (Operand.tmp 16) _) _ _ _ _ :: _) _ _); refine wpList_store_whole rfl 23 _ _ rfl (g16) _ _ 23 (HI21.out.get 5 rfl) rfl rfl (arr_len2 _ _ HLzn.out HLzn.out) (num_s HLzn.out) (all_arr _ _) ?_; intro w22 hb22 hk22 hz22; have HI22 := Lib.hid (HI21.out.put 5 rfl hk22 hb22); clear hb22 hk22 hz22))
    (try simp only [World.size_alloc, Act.put, List.setIfInBounds_toArray, List.set_cons_zero, List.set_cons_succ])
    go_wp2_with (first | ((with_reducible show Calls _ 15 _ _ _); go_at_call 15; refine (num14_any _ _).mono ?_; rintro e w30 ⟨rfl, rfl⟩))
    (try simp only [Exit.then])
    go_ret
    exact ⟨rfl, HI22.out.below⟩
  refine AllReadyH.cons (o := ({ dst := some 14, op := Op.alloc 23, type := 0, pos := "more.go:29", after := #[], guard := none } : Oper)) rfl (fun K hK => ?_) AllReadyH.nil
  refine step_alloc_row rfl 23 rfl _ (HZzn.out _) ?_
  have HY13 := Lib.hid (HBd.out.alloc (arr .u8 zn) 23)
  have HQ13 := Lib.hid (HK0.out.alloc (.cells (arr .u8 zn) 23))
  have HG14 := Lib.hid (show w3.heap.size ≤ wd.heap.size from HK0.out.size)
  generalize wd.heap.size = g14 at HY13 HG14 ⊢
  generalize wd.alloc (.cells (arr .u8 zn) 23) = y13 at HY13 HQ13 ⊢
  refine hK.out _ _ (HQ13.out) (fun hHeld => ?_)
  clear hK K
  (try simp only [Act.put, List.setIfInBounds_toArray, List.set_cons_zero, List.set_cons_succ])
  refine wpAnyH_ready (rs := [1]) (by kernel_rfl) (by simp) ?_
  refine AllReadyH.cons (o := ({ dst := some 43, op := Op.makeSlice 24 (Operand.const (Value.int IntKind.i64 32)) (Operand.const (Value.int IntKind.i64 32)), type := 24, pos := "more.go:29", after := #[], guard := none } : Oper)) rfl (fun K hK => ?_) AllReadyH.nil
  refine lin_world' rfl (.slice (some ⟨y13.heap.size, 0, none⟩) 32 32) (mk_next (HMK.out _)) ?_
  have HY14 := Lib.hid (HY13.out.alloc (arr .u8 zn) 5)
  have HQ14 := Lib.hid (HQ13.out.alloc (.cells (arr .u8 zn) 5))
  generalize y13.heap.size = gm at HY14 ⊢
  generalize y13.alloc (.cells (arr .u8 zn) 5) = y14 at HY14 HQ14 ⊢
  refine hK.out _ _ (HQ14.out) (fun hHeld => ?_)
  clear hK K
  (try simp only [Act.put, List.setIfInBounds_toArray, List.set_cons_zero, List.set_cons_succ])
  refine wpAnyH_ready (rs := [3]) (by kernel_rfl) (by simp) ?_
  refine AllReadyH.cons (o := ({ dst := some 45, op := Op.call { callee := Callee.builtin Builtin.append, args := #[Operand.tmp 43, Operand.tmp 44], argTypes := #[24, 24] }, type := 24, pos := "more.go:29", after := #[{ on := 1, ground := Ground.data }, { on := 2, ground := Ground.data }], guard := none } : Oper)) rfl (fun K hK => ?_) AllReadyH.nil
  refine step_append_new rfl (.tmp 43) (.tmp 44) rfl gm 32 48 cb ad zn bs rfl rfl (src_all (HY14.out.get 4 rfl) 32 HLzn.out) (HS.out.below HY14.out.below) (by decide) (by decide) ?_
  intro ga ca y15 hsa hca hb9
  have HY15 := Lib.hid (HY14.out.kept hb9)
  have HQ15 := Lib.hid (HQ14.out.trans (Kept.of_below hb9))
  have HCA := Lib.hid hca
  have HSA : Hid (∀ u, Below y15.heap.size y15 u → Src u (some ⟨ga, 0, none⟩) 80 (zn ++ bs)) := Lib.hid (fun u h => hsa.below h)
  have HBA := Lib.hid (Below.refl y15.heap.size y15)
  clear hb9 hsa hca
  refine hK.out _ _ (HQ15.out) (fun hHeld => ?_)
  clear hK K
  (try simp only [Act.put, List.setIfInBounds_toArray, List.set_cons_zero, List.set_cons_succ])
  refine wpAnyH_ready (rs := [4]) (by kernel_rfl) (by simp) ?_
  refine AllReadyH.cons (o := ({ dst := some 46, op := Op.call { callee := Callee.value (Operand.func 14), args := #[Operand.tmp 42, Operand.tmp 45], argTypes := #[23, 24] }, type := 37, pos := "more.go:29", after := #[{ on := 0, ground := Ground.data }, { on := 3, ground := Ground.data }, { on := 3, ground := Ground.chain }], guard := none } : Oper)) rfl (fun K hK => ?_) AllReadyH.nil
  go_simp
  go_at_call 14
  refine (HU0.out _ _ _ (HSA.out _ HBA.out) HCA.out).mono ?_
  rintro e y16 ⟨rfl, hb9⟩
  have HY16 := Lib.hid (HY15.out.kept hb9)
  have HQ16 := Lib.hid (HQ15.out.trans (Kept.of_below hb9))
  clear hb9
  (try dsimp only)
  refine hK.out _ _ (HQ16.out) (fun hHeld => ?_)
  clear hK K
  (try simp only [Act.put, List.setIfInBounds_toArray, List.set_cons_zero, List.set_cons_succ])
  refine wpAnyH_take (i := 5) (oi := ({ dst := some 41, op := Op.move (Operand.tmp 46), type := 37, pos := "more.go:29", after := #[{ on := 4, ground := Ground.data }], guard := none } : Oper)) (v := .tuple #[.agg (arr .u8 zn), .int .i64 21]) rfl (by kernel_rfl) (by kernel_rfl) (by kernel_rfl) (fun _ _ _ h => h) (Or.inl ⟨by rfl, ?hy7415⟩) (by assumption) ?rest7415
  case hy7415 => (intro w hSw; (try dsimp only at hSw); first | rfl | kernel_rfl | (go_simp; done))
  (try simp only [Act.put, List.setIfInBounds_toArray, List.set_cons_zero, List.set_cons_succ])
  refine wpAnyH_take (i := 6) (oi := ({ dst := some 47, op := Op.extract (Operand.tmp 41) 0, type := 23, pos := "more.go:29", after := #[{ on := 5, ground := Ground.data }], guard := none } : Oper)) (v := .agg (arr .u8 zn)) rfl (by kernel_rfl) (by kernel_rfl) (by kernel_rfl) (fun _ _ _ h => h) (Or.inl ⟨by rfl, ?hy7416⟩) (by assumption) ?rest7416
  case hy7416 => (intro w hSw; (try dsimp only at hSw); first | rfl | kernel_rfl | (go_simp; done))
  (try simp only [Act.put, List.setIfInBounds_toArray, List.set_cons_zero, List.set_cons_succ])
  refine wpAnyH_take (i := 7) (oi := ({ dst := some 48, op := Op.extract (Operand.tmp 41) 1, type := 34, pos := "more.go:29", after := #[{ on := 5, ground := Ground.data }, { on := 9, ground := Ground.gcOnly Departure.lateStores }], guard := none } : Oper)) (v := .int .i64 21) rfl (by kernel_rfl) (by kernel_rfl) (by kernel_rfl) (fun _ _ _ h => h) (Or.inl ⟨by rfl, ?hy7417⟩) (by assumption) ?rest7417
  case hy7417 => (intro w hSw; (try dsimp only at hSw); first | rfl | kernel_rfl | (go_simp; done))
  (try simp only [Act.put, List.setIfInBounds_toArray, List.set_cons_zero, List.set_cons_succ])
  refine wpAnyH_ready (rs := [9]) (by kernel_rfl) (by simp) ?_
  refine AllReadyH.cons (o := ({ dst := none, op := Op.store 23 (Operand.tmp 14) (Operand.tmp 47), type := 0, pos := "more.go:29", after := #[{ on := 8, ground := Ground.data }, { on := 6, ground := Ground.data }, { on := 4, ground := Ground.chain }, { on := 0, ground := Ground.phase }, { on := 1, ground := Ground.phase }, { on := 2, ground := Ground.phase }, { on := 3, ground := Ground.phase }, { on := 4, ground := Ground.phase }, { on := 5, ground := Ground.phase }, { on := 6, ground := Ground.phase }, { on := 7, ground := Ground.textOnly Departure.lateStores }, { on := 8, ground := Ground.phase }], guard := none } : Oper)) rfl (fun K hK => ?_) AllReadyH.nil
  refine step_store_whole rfl 23 (.tmp 14) (.tmp 47) rfl g14 _ _ 23 (HY16.out.get 3 rfl) rfl rfl (arr_len2 _ _ HLzn.out HLzn.out) (num_s HLzn.out) (all_arr _ _) ?_
  intro y17 hb9 hk9 hz9
  have HQ17 := Lib.hid (HQ16.out.trans_new hk9 (fun i hi e => absurd hi (by have h14 := HG14.out; omega)))
  have HY17 := Lib.hid (HY16.out.put 3 rfl hk9 hb9)
  clear hb9 hk9 hz9
  refine hK.out _ _ (HQ17.out) (fun hHeld => ?_)
  clear hK K
  (try simp only [Act.put, List.setIfInBounds_toArray, List.set_cons_zero, List.set_cons_succ])
  refine wpAnyH_take (i := 10) (oi := ({ dst := some 15, op := Op.assign (Operand.tmp 48), type := 34, pos := "more.go:29", after := #[{ on := 7, ground := Ground.data }, { on := 9, ground := Ground.chain }, { on := 0, ground := Ground.phase }, { on := 1, ground := Ground.phase }, { on := 2, ground := Ground.phase }, { on := 3, ground := Ground.phase }, { on := 4, ground := Ground.phase }, { on := 5, ground := Ground.phase }, { on := 6, ground := Ground.phase }, { on := 7, ground := Ground.phase }, { on := 8, ground := Ground.phase }, { on := 9, ground := Ground.phase }], guard := none } : Oper)) (v := .int .i64 21) rfl (by kernel_rfl) (by kernel_rfl) (by kernel_rfl) (fun _ _ _ h => h) (Or.inl ⟨by rfl, ?hy7418⟩) (by assumption) ?rest7418
  case hy7418 => (intro w hSw; (try dsimp only at hSw); first | rfl | kernel_rfl | (go_simp; done))
  (try simp only [Act.put, List.setIfInBounds_toArray, List.set_cons_zero, List.set_cons_succ])
  refine wpAnyH_done (by kernel_rfl) ?_ _
  (try simp only [Exit.then])
  go_upto_region 8 with (first | ((with_reducible show wpList _ _ _ (Oper.mk (some 50) _ _ _ _ _ :: _) _ _); refine wpList_load_part rfl 23 _ rfl (w.heap.size) 0 _ 23 (0, 0) _ (HY17.out.get 0 rfl) rfl .u8 ss (arr_part _ _) Try.underlying23 rfl (num_i HSL.out) ?_) | ((with_reducible show Calls _ 14 _ _ _); go_at_call 14; refine (HU1.out _ (HS.out.below HY17.out.below)).mono ?_; rintro e w20 ⟨rfl, hb9⟩; have HI20 := Lib.hid (HY17.out.kept hb9); clear hb9) | ((with_reducible show wpList _ _ _ (Oper.mk (some 16) _ _ _ _ _ :: _) _ _); refine wpList_alloc_row rfl 23 rfl _ (HZzn.out _) ?_; have HI21 := Lib.hid (HI20.out.alloc (arr .u8 zn) 23); generalize w20.heap.size = g16 at HI21 ⊢; generalize w20.alloc (.cells (arr .u8 zn) 23) = w21 at HI21 ⊢) | ((with_reducible show wpList _ _ _ (Oper.mk none (Op.store _ (Operand.tmp 16) _) _ _ _ _ :: _) _ _); refine wpList_store_whole rfl 23 _ _ rfl (g16) _ _ 23 (HI21.out.get 5 rfl) rfl rfl (arr_len2 _ _ HLzn.out HLzn.out) (num_s HLzn.out) (all_arr _ _) ?_; intro w22 hb22 hk22 hz22; have HI22 := Lib.hid (HI21.out.put 5 rfl hk22 hb22); clear hb22 hk22 hz22))
  (try simp only [World.size_alloc, Act.put, List.setIfInBounds_toArray, List.set_cons_zero, List.set_cons_succ])
  go_wp2_with (first | ((with_reducible show Calls _ 15 _ _ _); go_at_call 15; refine (num14_any _ _).mono ?_; rintro e w30 ⟨rfl, rfl⟩))
  (try simp only [Exit.then])
  go_ret
  exact ⟨rfl, HI22.out.below⟩
theorem none_any {ss ds xs bs : List Int} (S D : Nat) (sb : Option Addr) (nb cb : Nat) (w : World) (hS : K32 ss S) (hD : K32 ds D) (hx : xs.length = 32) (bx : bytes xs) (hs : Src w sb nb bs) (hc : nb ≤ cb) (bB : bytes bs) :
    Calls Try.prog 6 #[.agg (arr .u8 ss), .agg (arr .u8 ds), .agg (arr .u8 xs), .slice sb nb cb] w fun e w' => e = .returned (.bool true) ∧ Below w.heap.size w w' := by
  by_cases h : nb = 48
  · subst h
    obtain ⟨ad, rfl⟩ : ∃ a, sb = some a := by
      obtain ⟨a, e, _⟩ := hs.cell 0 (by decide)
      exact ⟨a, e⟩
    exact none_core S D ad cb w hS hD hx bx hs hc bB
  · exact none_other sb nb cb w h
end Go.Proofs.Ytanjhngehfbpbaa.Wr
