/- The document's points: sum, nought, base. Condition: rows that stand for points; the tables hold what their text lays. -/
import Derived.Test.YtanjhngehfbpbaaDoorRdF
import Derived.Test.YtanjhngehfbpbaaDoorCuP
import Derived.Test.YtanjhngehfbpbaaDoorStr
namespace Go.Proofs.YtanjhngehfbpbaaDoor.Rd
open Go.RowKit Lm Fp Cu


theorem zero_pt (w : World) : (zeroValue 66).run Tryd.prog w = .ok (.agg (arr .i64 (List.replicate 64 0))) w := by kernel_rfl
theorem size_pt : (Tryd.prog.info? 66).map (·.size) = some 64 := by kernel_rfl
theorem pt_s {xs : List Int} (h : xs.length = 64) : (Tryd.prog.info? 66).map (·.size) = some (arr .i64 xs).size := by rw [arr_size, h]; exact size_pt
theorem pt_i {xs : List Int} (h : xs.length = 64) : (Tryd.prog.info? 66).map (·.size) = some xs.length := by rw [h]; exact size_pt
theorem pt_len {a b c d : List Int} (ha : a.length = 16) (hb : b.length = 16) (hc : c.length = 16) (hd : d.length = 16) : (a ++ b ++ c ++ d).length = 64 := by simp [ha, hb, hc, hd]
theorem four_partL (k : IntKind) (a b c d : List Int) (n : Nat) (ha : a.length = n) (hb : b.length = n) (hc : c.length = n) (hd : d.length = n) :
    ((arr k (a ++ b ++ c ++ d)).toList.drop 0).take a.length = a.map (Value.int k) ∧ ((arr k (a ++ b ++ c ++ d)).toList.drop n).take b.length = b.map (Value.int k) ∧
    ((arr k (a ++ b ++ c ++ d)).toList.drop (n + n)).take c.length = c.map (Value.int k) ∧ ((arr k (a ++ b ++ c ++ d)).toList.drop (n + n + n)).take d.length = d.map (Value.int k) := by
  have e : a ++ b ++ c ++ d = a ++ (b ++ (c ++ d)) := by simp only [List.append_assoc]
  have _ := hd
  rw [e]
  exact four_part k a b c d n ha hb hc
theorem build_pt (a b c d : List Int) (ha : a.length = 16) (hb : b.length = 16) (hc : c.length = 16) (hd : d.length = 16) (w : World) :
    (Instr.build 66 #[(0, .agg (arr .i64 a)), (1, .agg (arr .i64 b)), (2, .agg (arr .i64 c)), (3, .agg (arr .i64 d))]).run Tryd.prog w = .ok (.agg (arr .i64 (a ++ b ++ c ++ d))) w := by
  unfold Instr.build
  simp only [Sem.run_bind, zero_pt, Result.andThen_ok, run_underlying Tryd.underlying66]
  refine (congrArg (fun R => Result.andThen R _) (show _ = Result.ok #[((0 : Nat), 16), (16, 16), (2 * 16, 16), (3 * 16, 16)] w from ?h)).trans ?_
  case h => kernel_rfl
  simp only [Result.andThen_ok]
  rw [show (Value.agg (arr .i64 (List.replicate 64 0))).cells = arr .i64 (List.replicate 64 0) from rfl, fill4 .i64 16 a b c d (List.replicate 64 0) ha hb hc hd (by simp)]
  rfl
theorem exec_build {P : Program} {o : Oper} {ev : Operand → Value} {w : World} (t : TypeId) (ps : Array (Nat × Operand)) (ho : o.op = .build t ps) (vs : Array (Nat × Value)) (hvs : ps.toList.map (fun p => (p.1, ev p.2)) = vs.toList) (v : Value) (hrun : (Instr.build t vs).run P w = .ok v w) : (execOp ev o).run P w = .ok (.value v) w := by
  have hv : ps.map (fun p => (p.1, ev p.2)) = vs := by apply Array.toList_inj.1; rw [Array.toList_map]; exact hvs
  simp only [execOp, ho, hv, Sem.run_bind, hrun, Result.andThen_ok]
  rfl
theorem build_el0 (w : World) : (Instr.build 64 #[]).run Tryd.prog w = .ok (.agg (arr .i64 (List.replicate 16 0))) w := by kernel_rfl
theorem build_pt0 (w : World) : (Instr.build 66 #[]).run Tryd.prog w = .ok (.agg (arr .i64 (List.replicate 64 0))) w := by kernel_rfl
/-- The row vs stands for the point P. -/
def PtEl (vs : List Int) (P : Pt) : Prop := ∃ x y z t, vs = x ++ y ++ z ++ t ∧ El x P.x ∧ El y P.y ∧ El z P.z ∧ El t P.t
theorem PtEl.len {vs : List Int} {P : Pt} (h : PtEl vs P) : vs.length = 64 := by
  obtain ⟨x, y, z, t, rfl, h1, h2, h3, h4⟩ := h
  exact pt_len h1.1 h2.1 h3.1 h4.1
def dL : List Int := [0x78a3, 0x1359, 0x4dca, 0x75eb, 0xd8ab, 0x4141, 0xa4d, 0x70, 0xe898, 0x7779, 0x4079, 0x8cc7, 0xfe73, 0x2b6f, 0x6cee, 0x5203]
def xL : List Int := [0xd51a, 0x8f25, 0x2d60, 0xc956, 0xa7b2, 0x9525, 0xc760, 0x692c, 0xdc5c, 0xfdd6, 0xe231, 0xc0a4, 0x53fe, 0xcd6e, 0x36d3, 0x2169]
def yL : List Int := [0x6658, 0x6666, 0x6666, 0x6666, 0x6666, 0x6666, 0x6666, 0x6666, 0x6666, 0x6666, 0x6666, 0x6666, 0x6666, 0x6666, 0x6666, 0x6666]
theorem dL_el : El dL dd := by refine ⟨rfl, by decide +kernel, by decide +kernel⟩
theorem xL_el : El xL bx := by refine ⟨rfl, by decide +kernel, by decide +kernel⟩
theorem yL_el : El yL bY := by refine ⟨rfl, by decide +kernel, by decide +kernel⟩
def TabD (w : World) : Prop := w.rangeAt 2 0 (dL.map (Value.int .i64))
def TabX (w : World) : Prop := w.rangeAt 0 0 (xL.map (Value.int .i64))
def TabY (w : World) : Prop := w.rangeAt 1 0 (yL.map (Value.int .i64))
theorem mul_dd (a b c : Nat) : fmul (fmul a b) c = fmul (fmul a c) b := by
  unfold fmul
  rw [Nat.mod_mul_mod, Nat.mod_mul_mod, Nat.mul_right_comm]
theorem fmul_comm (a b : Nat) : fmul a b = fmul b a := by unfold fmul; rw [Nat.mul_comm]
theorem mul_two (a b : Nat) : fadd (fmul a b) (fmul a b) = fmul a (fadd b b) := by
  unfold fadd fmul
  rw [← Nat.add_mod, Nat.mul_mod_mod, Nat.mul_add]

set_option maxRecDepth 100000 in
set_option maxHeartbeats 8000000 in
theorem sum_any (ps qs : List Int) (P Q : Pt) (w : World) (hp : PtEl ps P) (hq : PtEl qs Q) (hT : TabD w) :
    Calls Tryd.prog 45 #[.agg (arr .i64 ps), .agg (arr .i64 qs)] w fun e w' => ∃ zs, e = .returned (.agg (arr .i64 zs)) ∧ PtEl zs (eadd P Q) ∧ Below w.heap.size w w' := by
  have HmW := Lib.hid hp.len
  obtain ⟨mx, my, mz, mt, hme, hmx, hmy, hmz, hmt⟩ := hp
  have Hmx := Lib.hid hmx
  have HmxL := Lib.hid hmx.1
  have Hmy := Lib.hid hmy
  have HmyL := Lib.hid hmy.1
  have Hmz := Lib.hid hmz
  have HmzL := Lib.hid hmz.1
  have Hmt := Lib.hid hmt
  have HmtL := Lib.hid hmt.1
  have hmP := four_partL .i64 mx my mz mt 16 hmx.1 hmy.1 hmz.1 hmt.1
  rw [← hme] at hmP
  have HmP := Lib.hid hmP
  clear hmx hmy hmz hmt hme hmP
  have HoW := Lib.hid hq.len
  obtain ⟨ox, oy, oz, ot, hoe, hox, hoy, hoz, hot⟩ := hq
  have Hox := Lib.hid hox
  have HoxL := Lib.hid hox.1
  have Hoy := Lib.hid hoy
  have HoyL := Lib.hid hoy.1
  have Hoz := Lib.hid hoz
  have HozL := Lib.hid hoz.1
  have Hot := Lib.hid hot
  have HotL := Lib.hid hot.1
  have hoP := four_partL .i64 ox oy oz ot 16 hox.1 hoy.1 hoz.1 hot.1
  rw [← hoe] at hoP
  have HoP := Lib.hid hoP
  clear hox hoy hoz hot hoe hoP
  obtain ⟨dl, hdl⟩ : ∃ x, x = dL := ⟨_, rfl⟩
  have HD : Hid (El dl dd) := Lib.hid (by rw [hdl]; exact dL_el)
  have HDL := Lib.hid HD.out.1
  unfold TabD at hT
  rw [← hdl] at hT
  have HT := Lib.hid hT
  obtain ⟨ze, hze⟩ : ∃ zs : List Int, zs = List.replicate 16 0 := ⟨_, rfl⟩
  have HZze : Hid (∀ w, (zeroValue 64).run Tryd.prog w = .ok (.agg (arr .i64 ze)) w) := Lib.hid (by intro w; rw [hze]; exact zero_el w)
  have HLze : Hid (ze.length = 16) := Lib.hid (by rw [hze]; rfl)
  obtain ⟨zp, hzp⟩ : ∃ zs : List Int, zs = List.replicate 64 0 := ⟨_, rfl⟩
  have HZzp : Hid (∀ w, (zeroValue 66).run Tryd.prog w = .ok (.agg (arr .i64 zp)) w) := Lib.hid (by intro w; rw [hzp]; exact zero_pt w)
  have HLzp : Hid (zp.length = 64) := Lib.hid (by rw [hzp]; rfl)
  have HS0 := Lib.hid (Blk.three w (arr .i64 ps) (arr .i64 qs) (arr .i64 zp) 66 66 66)
  clear hze hzp hdl hT
  go_enter Tryd.func45, Tryd.ntmps45
  go_upto_region 1 with (first | ((with_reducible refine aS 4 ?_); refine wpList_alloc_row rfl 66 rfl _ (HZzp.out _) ?_))
  (try simp only [World.size_alloc, Act.put, sA, sZ, sS])
  generalize (((w.alloc (.cells (arr .i64 ps) 66)).alloc (.cells (arr .i64 qs) 66)).alloc (.cells (arr .i64 zp) 66)) = wb at HS0 ⊢
  go_cut [5] (fun us wx => ∃ gg xx, us = .pointer (some ⟨gg, 0, none⟩) ∧ El xx (fmul (fsub P.y P.x) (fsub Q.y Q.x)) ∧ Blk w wx [(w.heap.size, arr .i64 ps, 66), (w.heap.size + 1, arr .i64 qs, 66), (w.heap.size + 1 + 1, arr .i64 zp, 66), (gg, arr .i64 xx, 64)])
  case first =>
    have HK0 := Lib.hid ((Kept.refl (fun _ => False) wb).drew)
    have HBd := Lib.hid (HS0.out.drew)
    refine wp_region_held_drew (S := (fun w' => Kept (fun _ => False) wb w')) (by kernel_rfl) (HK0.out) (fun hHeld => ?_)
    generalize wb.drew = wd at HK0 HBd hHeld ⊢
    refine wpAnyH_take (i := 0) (oi := (⟨some 13, _, _, _, _, none⟩ : Oper)) (v := ?v101) rfl (by kernel_rfl) (by kernel_rfl) (by kernel_rfl) (fun _ _ _ h => h) (Or.inl ⟨by rfl, ?hy101⟩) (by assumption) ?rest101
    case hy101 => (intro w hSw; (try dsimp only at hSw); go_simp; try (with_reducible rfl))
    (try simp only [Act.put, sA, sZ, sS])
    refine' wpAnyH_take (i := 1) (oi := (⟨some 14, _, _, _, _, none⟩ : Oper)) (v := _) rfl (by kernel_rfl) (by kernel_rfl) (by kernel_rfl) (fun _ _ _ h => h) (yieldsIf_load_mid (by rfl) _ _ rfl _ _ rfl (my.map (Value.int .i64)) _ ?hS102 Tryd.underlying64 rfl (by rw [List.length_map]; exact el_i HmyL.out)) (by assumption) ?rest102
    case hS102 => (intro w hSw; (try dsimp only at hSw); exact range_part (hSw.blk (HS0.out.get 0 rfl) (fun e => e.elim)) 16 _ (by rw [List.length_map]; exact HmP.out.2.1))
    (try simp only [Act.put, sA, sZ, sS])
    refine wpAnyH_take (i := 2) (oi := (⟨some 15, _, _, _, _, none⟩ : Oper)) (v := ?v103) rfl (by kernel_rfl) (by kernel_rfl) (by kernel_rfl) (fun _ _ _ h => h) (Or.inl ⟨by rfl, ?hy103⟩) (by assumption) ?rest103
    case hy103 => (intro w hSw; (try dsimp only at hSw); go_simp; try (with_reducible rfl))
    (try simp only [Act.put, sA, sZ, sS])
    refine' wpAnyH_take (i := 3) (oi := (⟨some 16, _, _, _, _, none⟩ : Oper)) (v := _) rfl (by kernel_rfl) (by kernel_rfl) (by kernel_rfl) (fun _ _ _ h => h) (yieldsIf_load_mid (by rfl) _ _ rfl _ _ rfl (mx.map (Value.int .i64)) _ ?hS104 Tryd.underlying64 rfl (by rw [List.length_map]; exact el_i HmxL.out)) (by assumption) ?rest104
    case hS104 => (intro w hSw; (try dsimp only at hSw); exact range_part (hSw.blk (HS0.out.get 0 rfl) (fun e => e.elim)) 0 _ (by rw [List.length_map]; exact HmP.out.1))
    (try simp only [Act.put, sA, sZ, sS])
    refine wpAnyH_take (i := 5) (oi := (⟨some 18, _, _, _, _, none⟩ : Oper)) (v := ?v105) rfl (by kernel_rfl) (by kernel_rfl) (by kernel_rfl) (fun _ _ _ h => h) (Or.inl ⟨by rfl, ?hy105⟩) (by assumption) ?rest105
    case hy105 => (intro w hSw; (try dsimp only at hSw); go_simp; try (with_reducible rfl))
    (try simp only [Act.put, sA, sZ, sS])
    refine' wpAnyH_take (i := 6) (oi := (⟨some 19, _, _, _, _, none⟩ : Oper)) (v := _) rfl (by kernel_rfl) (by kernel_rfl) (by kernel_rfl) (fun _ _ _ h => h) (yieldsIf_load_mid (by rfl) _ _ rfl _ _ rfl (oy.map (Value.int .i64)) _ ?hS106 Tryd.underlying64 rfl (by rw [List.length_map]; exact el_i HoyL.out)) (by assumption) ?rest106
    case hS106 => (intro w hSw; (try dsimp only at hSw); exact range_part (hSw.blk (HS0.out.get 1 rfl) (fun e => e.elim)) 16 _ (by rw [List.length_map]; exact HoP.out.2.1))
    (try simp only [Act.put, sA, sZ, sS])
    refine wpAnyH_take (i := 7) (oi := (⟨some 20, _, _, _, _, none⟩ : Oper)) (v := ?v107) rfl (by kernel_rfl) (by kernel_rfl) (by kernel_rfl) (fun _ _ _ h => h) (Or.inl ⟨by rfl, ?hy107⟩) (by assumption) ?rest107
    case hy107 => (intro w hSw; (try dsimp only at hSw); go_simp; try (with_reducible rfl))
    (try simp only [Act.put, sA, sZ, sS])
    refine' wpAnyH_take (i := 8) (oi := (⟨some 21, _, _, _, _, none⟩ : Oper)) (v := _) rfl (by kernel_rfl) (by kernel_rfl) (by kernel_rfl) (fun _ _ _ h => h) (yieldsIf_load_mid (by rfl) _ _ rfl _ _ rfl (ox.map (Value.int .i64)) _ ?hS108 Tryd.underlying64 rfl (by rw [List.length_map]; exact el_i HoxL.out)) (by assumption) ?rest108
    case hS108 => (intro w hSw; (try dsimp only at hSw); exact range_part (hSw.blk (HS0.out.get 1 rfl) (fun e => e.elim)) 0 _ (by rw [List.length_map]; exact HoP.out.1))
    (try simp only [Act.put, sA, sZ, sS])
    refine wpAnyH_ready (rs := [4, 11]) (by kernel_rfl) (by simp) ?_
    refine AllReadyH.cons (o := (⟨some 17, _, _, _, _, none⟩ : Oper)) rfl (fun K hK => ?_) ?_
    · go_simp
      go_at_call 86
      refine (sub_any _ _ _ _ _ Hmy.out Hmx.out).mono ?_
      rintro e w109 ⟨z109, rfl, h109, hb109⟩
      have HZ109 := Lib.hid h109
      have HL109 := Lib.hid h109.1
      clear h109
      have HB109 := Lib.hid (HBd.out.kept hb109)
      have HK109 := Lib.hid (HK0.out.trans (Kept.of_below hb109))
      clear hb109
      (try dsimp only)
      clear HBd
      clear HK0
      clear hHeld
      refine hK.out _ _ (HK109.out) (fun hHeld => ?_)
      clear hK K
      (try simp only [Act.put, sA, sZ, sS])
      refine wpAnyH_ready (rs := [9, 11]) (by kernel_rfl) (by simp) ?_
      refine AllReadyH.cons (o := (⟨some 22, _, _, _, _, none⟩ : Oper)) rfl (fun K hK => ?_) ?_
      · go_simp
        go_at_call 86
        refine (sub_any _ _ _ _ _ Hoy.out Hox.out).mono ?_
        rintro e w110 ⟨z110, rfl, h110, hb110⟩
        have HZ110 := Lib.hid h110
        have HL110 := Lib.hid h110.1
        clear h110
        have HB110 := Lib.hid (HB109.out.kept hb110)
        have HK110 := Lib.hid (HK109.out.trans (Kept.of_below hb110))
        clear hb110
        (try dsimp only)
        clear HB109
        clear HK109
        clear hHeld
        refine hK.out _ _ (HK110.out) (fun hHeld => ?_)
        clear hK K
        (try simp only [Act.put, sA, sZ, sS])
        refine wpAnyH_ready (rs := [10, 11]) (by kernel_rfl) (by simp) ?_
        refine AllReadyH.cons (o := (⟨some 23, _, _, _, _, none⟩ : Oper)) rfl (fun K hK => ?_) ?_
        · go_simp
          go_at_call 68
          refine (mul_any _ _ _ _ _ HZ109.out HZ110.out).mono ?_
          rintro e w111 ⟨z111, rfl, h111, hb111⟩
          have HZ111 := Lib.hid h111
          have HL111 := Lib.hid h111.1
          clear h111
          have HB111 := Lib.hid (HB110.out.kept hb111)
          have HK111 := Lib.hid (HK110.out.trans (Kept.of_below hb111))
          clear hb111
          (try dsimp only)
          clear HB110
          clear HK110
          clear hHeld
          refine hK.out _ _ (HK111.out) (fun hHeld => ?_)
          clear hK K
          (try simp only [Act.put, sA, sZ, sS])
          refine wpAnyH_ready (rs := [11]) (by kernel_rfl) (by simp) ?_
          refine AllReadyH.cons (o := (⟨some 5, _, _, _, _, none⟩ : Oper)) rfl (fun K hK => ?_) AllReadyH.nil
          refine step_alloc_row rfl 64 rfl _ (HZze.out _) ?_
          have HB112 := Lib.hid (HB111.out.alloc (arr .i64 ze) 64)
          have HK112 := Lib.hid (HK111.out.alloc (.cells (arr .i64 ze) 64))
          have HN112 := Lib.hid (show wb.heap.size ≤ (w111).heap.size from HK111.out.size)
          generalize (w111).heap.size = g112 at HB112 HN112 ⊢
          generalize (w111).alloc (.cells (arr .i64 ze) 64) = w112 at HB112 HK112 ⊢
          clear HB111
          clear HK111
          clear hHeld
          refine hK.out _ _ (HK112.out) (fun hHeld => ?_)
          clear hK K
          (try simp only [Act.put, sA, sZ, sS])
          refine wpAnyH_ready (rs := [12]) (by kernel_rfl) (by simp) ?_
          refine AllReadyH.cons (o := (⟨none, _, _, _, _, none⟩ : Oper)) rfl (fun K hK => ?_) AllReadyH.nil
          refine step_store_whole rfl 64 (.tmp 5) (.tmp 23) rfl (g112) _ _ _ (HB112.out.get 3 rfl) rfl rfl (arr_len2 _ _ HL111.out HLze.out) (el_s HL111.out) (all_arr _ _) ?_
          intro w113 hb113 hk113 hz113
          have HB113 := Lib.hid (HB112.out.put 3 rfl hk113 hb113)
          have HK113 := Lib.hid (HK112.out.trans_new hk113 (fun i hi e => absurd hi (by rw [e]; exact Nat.not_lt.2 HN112.out)))
          clear hb113 hk113 hz113
          clear HB112
          clear HK112
          clear hHeld
          refine hK.out _ _ (HK113.out) (fun hHeld => ?_)
          clear hK K
          (try simp only [Act.put])
          refine wpAnyH_done (by kernel_rfl) ?_ _
          go_wp2_with fail
          go_meet
          exact ⟨_, _, rfl, HZ111.out, HB113.out⟩
        refine AllReadyH.cons (o := (⟨some 5, _, _, _, _, none⟩ : Oper)) rfl (fun K hK => ?_) ?_
        · refine step_alloc_row rfl 64 rfl _ (HZze.out _) ?_
          have HB114 := Lib.hid (HB110.out.alloc (arr .i64 ze) 64)
          have HK114 := Lib.hid (HK110.out.alloc (.cells (arr .i64 ze) 64))
          have HN114 := Lib.hid (show wb.heap.size ≤ (w110).heap.size from HK110.out.size)
          generalize (w110).heap.size = g114 at HB114 HN114 ⊢
          generalize (w110).alloc (.cells (arr .i64 ze) 64) = w114 at HB114 HK114 ⊢
          clear HB110
          clear HK110
          clear hHeld
          refine hK.out _ _ (HK114.out) (fun hHeld => ?_)
          clear hK K
          (try simp only [Act.put, sA, sZ, sS])
          refine wpAnyH_ready (rs := [10]) (by kernel_rfl) (by simp) ?_
          refine AllReadyH.cons (o := (⟨some 23, _, _, _, _, none⟩ : Oper)) rfl (fun K hK => ?_) AllReadyH.nil
          go_simp
          go_at_call 68
          refine (mul_any _ _ _ _ _ HZ109.out HZ110.out).mono ?_
          rintro e w115 ⟨z115, rfl, h115, hb115⟩
          have HZ115 := Lib.hid h115
          have HL115 := Lib.hid h115.1
          clear h115
          have HB115 := Lib.hid (HB114.out.kept hb115)
          have HK115 := Lib.hid (HK114.out.trans (Kept.of_below hb115))
          clear hb115
          (try dsimp only)
          clear HB114
          clear HK114
          clear hHeld
          refine hK.out _ _ (HK115.out) (fun hHeld => ?_)
          clear hK K
          (try simp only [Act.put, sA, sZ, sS])
          refine wpAnyH_ready (rs := [12]) (by kernel_rfl) (by simp) ?_
          refine AllReadyH.cons (o := (⟨none, _, _, _, _, none⟩ : Oper)) rfl (fun K hK => ?_) AllReadyH.nil
          refine step_store_whole rfl 64 (.tmp 5) (.tmp 23) rfl (g114) _ _ _ (HB115.out.get 3 rfl) rfl rfl (arr_len2 _ _ HL115.out HLze.out) (el_s HL115.out) (all_arr _ _) ?_
          intro w116 hb116 hk116 hz116
          have HB116 := Lib.hid (HB115.out.put 3 rfl hk116 hb116)
          have HK116 := Lib.hid (HK115.out.trans_new hk116 (fun i hi e => absurd hi (by rw [e]; exact Nat.not_lt.2 HN114.out)))
          clear hb116 hk116 hz116
          clear HB115
          clear HK115
          clear hHeld
          refine hK.out _ _ (HK116.out) (fun hHeld => ?_)
          clear hK K
          (try simp only [Act.put])
          refine wpAnyH_done (by kernel_rfl) ?_ _
          go_wp2_with fail
          go_meet
          exact ⟨_, _, rfl, HZ115.out, HB116.out⟩
        exact AllReadyH.nil
      refine AllReadyH.cons (o := (⟨some 5, _, _, _, _, none⟩ : Oper)) rfl (fun K hK => ?_) ?_
      · refine step_alloc_row rfl 64 rfl _ (HZze.out _) ?_
        have HB117 := Lib.hid (HB109.out.alloc (arr .i64 ze) 64)
        have HK117 := Lib.hid (HK109.out.alloc (.cells (arr .i64 ze) 64))
        have HN117 := Lib.hid (show wb.heap.size ≤ (w109).heap.size from HK109.out.size)
        generalize (w109).heap.size = g117 at HB117 HN117 ⊢
        generalize (w109).alloc (.cells (arr .i64 ze) 64) = w117 at HB117 HK117 ⊢
        clear HB109
        clear HK109
        clear hHeld
        refine hK.out _ _ (HK117.out) (fun hHeld => ?_)
        clear hK K
        (try simp only [Act.put, sA, sZ, sS])
        refine wpAnyH_ready (rs := [9]) (by kernel_rfl) (by simp) ?_
        refine AllReadyH.cons (o := (⟨some 22, _, _, _, _, none⟩ : Oper)) rfl (fun K hK => ?_) AllReadyH.nil
        go_simp
        go_at_call 86
        refine (sub_any _ _ _ _ _ Hoy.out Hox.out).mono ?_
        rintro e w118 ⟨z118, rfl, h118, hb118⟩
        have HZ118 := Lib.hid h118
        have HL118 := Lib.hid h118.1
        clear h118
        have HB118 := Lib.hid (HB117.out.kept hb118)
        have HK118 := Lib.hid (HK117.out.trans (Kept.of_below hb118))
        clear hb118
        (try dsimp only)
        clear HB117
        clear HK117
        clear hHeld
        refine hK.out _ _ (HK118.out) (fun hHeld => ?_)
        clear hK K
        (try simp only [Act.put, sA, sZ, sS])
        refine wpAnyH_ready (rs := [10]) (by kernel_rfl) (by simp) ?_
        refine AllReadyH.cons (o := (⟨some 23, _, _, _, _, none⟩ : Oper)) rfl (fun K hK => ?_) AllReadyH.nil
        go_simp
        go_at_call 68
        refine (mul_any _ _ _ _ _ HZ109.out HZ118.out).mono ?_
        rintro e w119 ⟨z119, rfl, h119, hb119⟩
        have HZ119 := Lib.hid h119
        have HL119 := Lib.hid h119.1
        clear h119
        have HB119 := Lib.hid (HB118.out.kept hb119)
        have HK119 := Lib.hid (HK118.out.trans (Kept.of_below hb119))
        clear hb119
        (try dsimp only)
        clear HB118
        clear HK118
        clear hHeld
        refine hK.out _ _ (HK119.out) (fun hHeld => ?_)
        clear hK K
        (try simp only [Act.put, sA, sZ, sS])
        refine wpAnyH_ready (rs := [12]) (by kernel_rfl) (by simp) ?_
        refine AllReadyH.cons (o := (⟨none, _, _, _, _, none⟩ : Oper)) rfl (fun K hK => ?_) AllReadyH.nil
        refine step_store_whole rfl 64 (.tmp 5) (.tmp 23) rfl (g117) _ _ _ (HB119.out.get 3 rfl) rfl rfl (arr_len2 _ _ HL119.out HLze.out) (el_s HL119.out) (all_arr _ _) ?_
        intro w120 hb120 hk120 hz120
        have HB120 := Lib.hid (HB119.out.put 3 rfl hk120 hb120)
        have HK120 := Lib.hid (HK119.out.trans_new hk120 (fun i hi e => absurd hi (by rw [e]; exact Nat.not_lt.2 HN117.out)))
        clear hb120 hk120 hz120
        clear HB119
        clear HK119
        clear hHeld
        refine hK.out _ _ (HK120.out) (fun hHeld => ?_)
        clear hK K
        (try simp only [Act.put])
        refine wpAnyH_done (by kernel_rfl) ?_ _
        go_wp2_with fail
        go_meet
        exact ⟨_, _, rfl, HZ119.out, HB120.out⟩
      exact AllReadyH.nil
    refine AllReadyH.cons (o := (⟨some 5, _, _, _, _, none⟩ : Oper)) rfl (fun K hK => ?_) ?_
    · refine step_alloc_row rfl 64 rfl _ (HZze.out _) ?_
      have HB121 := Lib.hid (HBd.out.alloc (arr .i64 ze) 64)
      have HK121 := Lib.hid (HK0.out.alloc (.cells (arr .i64 ze) 64))
      have HN121 := Lib.hid (show wb.heap.size ≤ (wd).heap.size from HK0.out.size)
      generalize (wd).heap.size = g121 at HB121 HN121 ⊢
      generalize (wd).alloc (.cells (arr .i64 ze) 64) = w121 at HB121 HK121 ⊢
      clear HBd
      clear HK0
      clear hHeld
      refine hK.out _ _ (HK121.out) (fun hHeld => ?_)
      clear hK K
      (try simp only [Act.put, sA, sZ, sS])
      refine wpAnyH_ready (rs := [4]) (by kernel_rfl) (by simp) ?_
      refine AllReadyH.cons (o := (⟨some 17, _, _, _, _, none⟩ : Oper)) rfl (fun K hK => ?_) AllReadyH.nil
      go_simp
      go_at_call 86
      refine (sub_any _ _ _ _ _ Hmy.out Hmx.out).mono ?_
      rintro e w122 ⟨z122, rfl, h122, hb122⟩
      have HZ122 := Lib.hid h122
      have HL122 := Lib.hid h122.1
      clear h122
      have HB122 := Lib.hid (HB121.out.kept hb122)
      have HK122 := Lib.hid (HK121.out.trans (Kept.of_below hb122))
      clear hb122
      (try dsimp only)
      clear HB121
      clear HK121
      clear hHeld
      refine hK.out _ _ (HK122.out) (fun hHeld => ?_)
      clear hK K
      (try simp only [Act.put, sA, sZ, sS])
      refine wpAnyH_ready (rs := [9]) (by kernel_rfl) (by simp) ?_
      refine AllReadyH.cons (o := (⟨some 22, _, _, _, _, none⟩ : Oper)) rfl (fun K hK => ?_) AllReadyH.nil
      go_simp
      go_at_call 86
      refine (sub_any _ _ _ _ _ Hoy.out Hox.out).mono ?_
      rintro e w123 ⟨z123, rfl, h123, hb123⟩
      have HZ123 := Lib.hid h123
      have HL123 := Lib.hid h123.1
      clear h123
      have HB123 := Lib.hid (HB122.out.kept hb123)
      have HK123 := Lib.hid (HK122.out.trans (Kept.of_below hb123))
      clear hb123
      (try dsimp only)
      clear HB122
      clear HK122
      clear hHeld
      refine hK.out _ _ (HK123.out) (fun hHeld => ?_)
      clear hK K
      (try simp only [Act.put, sA, sZ, sS])
      refine wpAnyH_ready (rs := [10]) (by kernel_rfl) (by simp) ?_
      refine AllReadyH.cons (o := (⟨some 23, _, _, _, _, none⟩ : Oper)) rfl (fun K hK => ?_) AllReadyH.nil
      go_simp
      go_at_call 68
      refine (mul_any _ _ _ _ _ HZ122.out HZ123.out).mono ?_
      rintro e w124 ⟨z124, rfl, h124, hb124⟩
      have HZ124 := Lib.hid h124
      have HL124 := Lib.hid h124.1
      clear h124
      have HB124 := Lib.hid (HB123.out.kept hb124)
      have HK124 := Lib.hid (HK123.out.trans (Kept.of_below hb124))
      clear hb124
      (try dsimp only)
      clear HB123
      clear HK123
      clear hHeld
      refine hK.out _ _ (HK124.out) (fun hHeld => ?_)
      clear hK K
      (try simp only [Act.put, sA, sZ, sS])
      refine wpAnyH_ready (rs := [12]) (by kernel_rfl) (by simp) ?_
      refine AllReadyH.cons (o := (⟨none, _, _, _, _, none⟩ : Oper)) rfl (fun K hK => ?_) AllReadyH.nil
      refine step_store_whole rfl 64 (.tmp 5) (.tmp 23) rfl (g121) _ _ _ (HB124.out.get 3 rfl) rfl rfl (arr_len2 _ _ HL124.out HLze.out) (el_s HL124.out) (all_arr _ _) ?_
      intro w125 hb125 hk125 hz125
      have HB125 := Lib.hid (HB124.out.put 3 rfl hk125 hb125)
      have HK125 := Lib.hid (HK124.out.trans_new hk125 (fun i hi e => absurd hi (by rw [e]; exact Nat.not_lt.2 HN121.out)))
      clear hb125 hk125 hz125
      clear HB124
      clear HK124
      clear hHeld
      refine hK.out _ _ (HK125.out) (fun hHeld => ?_)
      clear hK K
      (try simp only [Act.put])
      refine wpAnyH_done (by kernel_rfl) ?_ _
      go_wp2_with fail
      go_meet
      exact ⟨_, _, rfl, HZ124.out, HB125.out⟩
    exact AllReadyH.nil
  case rest =>
  obtain ⟨wy1, rfl⟩ : ∃ x : World, x = wc := ⟨_, rfl⟩
  obtain ⟨g1, x1, rfl, h1, hb1⟩ := hcut
  have HB1 := Lib.hid hb1
  have HX1 := Lib.hid h1
  have HL1 := Lib.hid h1.1
  clear h1 hb1 HS0
  go_upto_region 2 with fail
  go_cut [6] (fun us wx => ∃ gg xx, us = .pointer (some ⟨gg, 0, none⟩) ∧ El xx (fmul (fadd P.y P.x) (fadd Q.y Q.x)) ∧ Blk w wx [(w.heap.size, arr .i64 ps, 66), (w.heap.size + 1, arr .i64 qs, 66), (w.heap.size + 1 + 1, arr .i64 zp, 66), (g1, arr .i64 x1, 64), (gg, arr .i64 xx, 64)])
  case first =>
    have HK0 := Lib.hid ((Kept.refl (fun _ => False) wy1).drew)
    have HBd := Lib.hid (HB1.out.drew)
    refine wp_region_held_drew (S := (fun w' => Kept (fun _ => False) wy1 w')) (by kernel_rfl) (HK0.out) (fun hHeld => ?_)
    generalize wy1.drew = wd at HK0 HBd hHeld ⊢
    refine wpAnyH_take (i := 0) (oi := (⟨some 24, _, _, _, _, none⟩ : Oper)) (v := ?v126) rfl (by kernel_rfl) (by kernel_rfl) (by kernel_rfl) (fun _ _ _ h => h) (Or.inl ⟨by rfl, ?hy126⟩) (by assumption) ?rest126
    case hy126 => (intro w hSw; (try dsimp only at hSw); go_simp; try (with_reducible rfl))
    (try simp only [Act.put, sA, sZ, sS])
    refine' wpAnyH_take (i := 1) (oi := (⟨some 25, _, _, _, _, none⟩ : Oper)) (v := _) rfl (by kernel_rfl) (by kernel_rfl) (by kernel_rfl) (fun _ _ _ h => h) (yieldsIf_load_mid (by rfl) _ _ rfl _ _ rfl (my.map (Value.int .i64)) _ ?hS127 Tryd.underlying64 rfl (by rw [List.length_map]; exact el_i HmyL.out)) (by assumption) ?rest127
    case hS127 => (intro w hSw; (try dsimp only at hSw); exact range_part (hSw.blk (HB1.out.get 0 rfl) (fun e => e.elim)) 16 _ (by rw [List.length_map]; exact HmP.out.2.1))
    (try simp only [Act.put, sA, sZ, sS])
    refine wpAnyH_take (i := 2) (oi := (⟨some 26, _, _, _, _, none⟩ : Oper)) (v := ?v128) rfl (by kernel_rfl) (by kernel_rfl) (by kernel_rfl) (fun _ _ _ h => h) (Or.inl ⟨by rfl, ?hy128⟩) (by assumption) ?rest128
    case hy128 => (intro w hSw; (try dsimp only at hSw); go_simp; try (with_reducible rfl))
    (try simp only [Act.put, sA, sZ, sS])
    refine' wpAnyH_take (i := 3) (oi := (⟨some 27, _, _, _, _, none⟩ : Oper)) (v := _) rfl (by kernel_rfl) (by kernel_rfl) (by kernel_rfl) (fun _ _ _ h => h) (yieldsIf_load_mid (by rfl) _ _ rfl _ _ rfl (mx.map (Value.int .i64)) _ ?hS129 Tryd.underlying64 rfl (by rw [List.length_map]; exact el_i HmxL.out)) (by assumption) ?rest129
    case hS129 => (intro w hSw; (try dsimp only at hSw); exact range_part (hSw.blk (HB1.out.get 0 rfl) (fun e => e.elim)) 0 _ (by rw [List.length_map]; exact HmP.out.1))
    (try simp only [Act.put, sA, sZ, sS])
    refine wpAnyH_take (i := 5) (oi := (⟨some 29, _, _, _, _, none⟩ : Oper)) (v := ?v130) rfl (by kernel_rfl) (by kernel_rfl) (by kernel_rfl) (fun _ _ _ h => h) (Or.inl ⟨by rfl, ?hy130⟩) (by assumption) ?rest130
    case hy130 => (intro w hSw; (try dsimp only at hSw); go_simp; try (with_reducible rfl))
    (try simp only [Act.put, sA, sZ, sS])
    refine' wpAnyH_take (i := 6) (oi := (⟨some 30, _, _, _, _, none⟩ : Oper)) (v := _) rfl (by kernel_rfl) (by kernel_rfl) (by kernel_rfl) (fun _ _ _ h => h) (yieldsIf_load_mid (by rfl) _ _ rfl _ _ rfl (oy.map (Value.int .i64)) _ ?hS131 Tryd.underlying64 rfl (by rw [List.length_map]; exact el_i HoyL.out)) (by assumption) ?rest131
    case hS131 => (intro w hSw; (try dsimp only at hSw); exact range_part (hSw.blk (HB1.out.get 1 rfl) (fun e => e.elim)) 16 _ (by rw [List.length_map]; exact HoP.out.2.1))
    (try simp only [Act.put, sA, sZ, sS])
    refine wpAnyH_take (i := 7) (oi := (⟨some 31, _, _, _, _, none⟩ : Oper)) (v := ?v132) rfl (by kernel_rfl) (by kernel_rfl) (by kernel_rfl) (fun _ _ _ h => h) (Or.inl ⟨by rfl, ?hy132⟩) (by assumption) ?rest132
    case hy132 => (intro w hSw; (try dsimp only at hSw); go_simp; try (with_reducible rfl))
    (try simp only [Act.put, sA, sZ, sS])
    refine' wpAnyH_take (i := 8) (oi := (⟨some 32, _, _, _, _, none⟩ : Oper)) (v := _) rfl (by kernel_rfl) (by kernel_rfl) (by kernel_rfl) (fun _ _ _ h => h) (yieldsIf_load_mid (by rfl) _ _ rfl _ _ rfl (ox.map (Value.int .i64)) _ ?hS133 Tryd.underlying64 rfl (by rw [List.length_map]; exact el_i HoxL.out)) (by assumption) ?rest133
    case hS133 => (intro w hSw; (try dsimp only at hSw); exact range_part (hSw.blk (HB1.out.get 1 rfl) (fun e => e.elim)) 0 _ (by rw [List.length_map]; exact HoP.out.1))
    (try simp only [Act.put, sA, sZ, sS])
    refine wpAnyH_ready (rs := [4, 11]) (by kernel_rfl) (by simp) ?_
    refine AllReadyH.cons (o := (⟨some 28, _, _, _, _, none⟩ : Oper)) rfl (fun K hK => ?_) ?_
    · go_simp
      go_at_call 87
      refine (add_any _ _ _ _ _ Hmy.out Hmx.out).mono ?_
      rintro e w134 ⟨z134, rfl, h134, hb134⟩
      have HZ134 := Lib.hid h134
      have HL134 := Lib.hid h134.1
      clear h134
      have HB134 := Lib.hid (HBd.out.kept hb134)
      have HK134 := Lib.hid (HK0.out.trans (Kept.of_below hb134))
      clear hb134
      (try dsimp only)
      clear HBd
      clear HK0
      clear hHeld
      refine hK.out _ _ (HK134.out) (fun hHeld => ?_)
      clear hK K
      (try simp only [Act.put, sA, sZ, sS])
      refine wpAnyH_ready (rs := [9, 11]) (by kernel_rfl) (by simp) ?_
      refine AllReadyH.cons (o := (⟨some 33, _, _, _, _, none⟩ : Oper)) rfl (fun K hK => ?_) ?_
      · go_simp
        go_at_call 87
        refine (add_any _ _ _ _ _ Hoy.out Hox.out).mono ?_
        rintro e w135 ⟨z135, rfl, h135, hb135⟩
        have HZ135 := Lib.hid h135
        have HL135 := Lib.hid h135.1
        clear h135
        have HB135 := Lib.hid (HB134.out.kept hb135)
        have HK135 := Lib.hid (HK134.out.trans (Kept.of_below hb135))
        clear hb135
        (try dsimp only)
        clear HB134
        clear HK134
        clear hHeld
        refine hK.out _ _ (HK135.out) (fun hHeld => ?_)
        clear hK K
        (try simp only [Act.put, sA, sZ, sS])
        refine wpAnyH_ready (rs := [10, 11]) (by kernel_rfl) (by simp) ?_
        refine AllReadyH.cons (o := (⟨some 34, _, _, _, _, none⟩ : Oper)) rfl (fun K hK => ?_) ?_
        · go_simp
          go_at_call 68
          refine (mul_any _ _ _ _ _ HZ134.out HZ135.out).mono ?_
          rintro e w136 ⟨z136, rfl, h136, hb136⟩
          have HZ136 := Lib.hid h136
          have HL136 := Lib.hid h136.1
          clear h136
          have HB136 := Lib.hid (HB135.out.kept hb136)
          have HK136 := Lib.hid (HK135.out.trans (Kept.of_below hb136))
          clear hb136
          (try dsimp only)
          clear HB135
          clear HK135
          clear hHeld
          refine hK.out _ _ (HK136.out) (fun hHeld => ?_)
          clear hK K
          (try simp only [Act.put, sA, sZ, sS])
          refine wpAnyH_ready (rs := [11]) (by kernel_rfl) (by simp) ?_
          refine AllReadyH.cons (o := (⟨some 6, _, _, _, _, none⟩ : Oper)) rfl (fun K hK => ?_) AllReadyH.nil
          refine step_alloc_row rfl 64 rfl _ (HZze.out _) ?_
          have HB137 := Lib.hid (HB136.out.alloc (arr .i64 ze) 64)
          have HK137 := Lib.hid (HK136.out.alloc (.cells (arr .i64 ze) 64))
          have HN137 := Lib.hid (show wy1.heap.size ≤ (w136).heap.size from HK136.out.size)
          generalize (w136).heap.size = g137 at HB137 HN137 ⊢
          generalize (w136).alloc (.cells (arr .i64 ze) 64) = w137 at HB137 HK137 ⊢
          clear HB136
          clear HK136
          clear hHeld
          refine hK.out _ _ (HK137.out) (fun hHeld => ?_)
          clear hK K
          (try simp only [Act.put, sA, sZ, sS])
          refine wpAnyH_ready (rs := [12]) (by kernel_rfl) (by simp) ?_
          refine AllReadyH.cons (o := (⟨none, _, _, _, _, none⟩ : Oper)) rfl (fun K hK => ?_) AllReadyH.nil
          refine step_store_whole rfl 64 (.tmp 6) (.tmp 34) rfl (g137) _ _ _ (HB137.out.get 4 rfl) rfl rfl (arr_len2 _ _ HL136.out HLze.out) (el_s HL136.out) (all_arr _ _) ?_
          intro w138 hb138 hk138 hz138
          have HB138 := Lib.hid (HB137.out.put 4 rfl hk138 hb138)
          have HK138 := Lib.hid (HK137.out.trans_new hk138 (fun i hi e => absurd hi (by rw [e]; exact Nat.not_lt.2 HN137.out)))
          clear hb138 hk138 hz138
          clear HB137
          clear HK137
          clear hHeld
          refine hK.out _ _ (HK138.out) (fun hHeld => ?_)
          clear hK K
          (try simp only [Act.put])
          refine wpAnyH_done (by kernel_rfl) ?_ _
          go_wp2_with fail
          go_meet
          exact ⟨_, _, rfl, HZ136.out, HB138.out⟩
        refine AllReadyH.cons (o := (⟨some 6, _, _, _, _, none⟩ : Oper)) rfl (fun K hK => ?_) ?_
        · refine step_alloc_row rfl 64 rfl _ (HZze.out _) ?_
          have HB139 := Lib.hid (HB135.out.alloc (arr .i64 ze) 64)
          have HK139 := Lib.hid (HK135.out.alloc (.cells (arr .i64 ze) 64))
          have HN139 := Lib.hid (show wy1.heap.size ≤ (w135).heap.size from HK135.out.size)
          generalize (w135).heap.size = g139 at HB139 HN139 ⊢
          generalize (w135).alloc (.cells (arr .i64 ze) 64) = w139 at HB139 HK139 ⊢
          clear HB135
          clear HK135
          clear hHeld
          refine hK.out _ _ (HK139.out) (fun hHeld => ?_)
          clear hK K
          (try simp only [Act.put, sA, sZ, sS])
          refine wpAnyH_ready (rs := [10]) (by kernel_rfl) (by simp) ?_
          refine AllReadyH.cons (o := (⟨some 34, _, _, _, _, none⟩ : Oper)) rfl (fun K hK => ?_) AllReadyH.nil
          go_simp
          go_at_call 68
          refine (mul_any _ _ _ _ _ HZ134.out HZ135.out).mono ?_
          rintro e w140 ⟨z140, rfl, h140, hb140⟩
          have HZ140 := Lib.hid h140
          have HL140 := Lib.hid h140.1
          clear h140
          have HB140 := Lib.hid (HB139.out.kept hb140)
          have HK140 := Lib.hid (HK139.out.trans (Kept.of_below hb140))
          clear hb140
          (try dsimp only)
          clear HB139
          clear HK139
          clear hHeld
          refine hK.out _ _ (HK140.out) (fun hHeld => ?_)
          clear hK K
          (try simp only [Act.put, sA, sZ, sS])
          refine wpAnyH_ready (rs := [12]) (by kernel_rfl) (by simp) ?_
          refine AllReadyH.cons (o := (⟨none, _, _, _, _, none⟩ : Oper)) rfl (fun K hK => ?_) AllReadyH.nil
          refine step_store_whole rfl 64 (.tmp 6) (.tmp 34) rfl (g139) _ _ _ (HB140.out.get 4 rfl) rfl rfl (arr_len2 _ _ HL140.out HLze.out) (el_s HL140.out) (all_arr _ _) ?_
          intro w141 hb141 hk141 hz141
          have HB141 := Lib.hid (HB140.out.put 4 rfl hk141 hb141)
          have HK141 := Lib.hid (HK140.out.trans_new hk141 (fun i hi e => absurd hi (by rw [e]; exact Nat.not_lt.2 HN139.out)))
          clear hb141 hk141 hz141
          clear HB140
          clear HK140
          clear hHeld
          refine hK.out _ _ (HK141.out) (fun hHeld => ?_)
          clear hK K
          (try simp only [Act.put])
          refine wpAnyH_done (by kernel_rfl) ?_ _
          go_wp2_with fail
          go_meet
          exact ⟨_, _, rfl, HZ140.out, HB141.out⟩
        exact AllReadyH.nil
      refine AllReadyH.cons (o := (⟨some 6, _, _, _, _, none⟩ : Oper)) rfl (fun K hK => ?_) ?_
      · refine step_alloc_row rfl 64 rfl _ (HZze.out _) ?_
        have HB142 := Lib.hid (HB134.out.alloc (arr .i64 ze) 64)
        have HK142 := Lib.hid (HK134.out.alloc (.cells (arr .i64 ze) 64))
        have HN142 := Lib.hid (show wy1.heap.size ≤ (w134).heap.size from HK134.out.size)
        generalize (w134).heap.size = g142 at HB142 HN142 ⊢
        generalize (w134).alloc (.cells (arr .i64 ze) 64) = w142 at HB142 HK142 ⊢
        clear HB134
        clear HK134
        clear hHeld
        refine hK.out _ _ (HK142.out) (fun hHeld => ?_)
        clear hK K
        (try simp only [Act.put, sA, sZ, sS])
        refine wpAnyH_ready (rs := [9]) (by kernel_rfl) (by simp) ?_
        refine AllReadyH.cons (o := (⟨some 33, _, _, _, _, none⟩ : Oper)) rfl (fun K hK => ?_) AllReadyH.nil
        go_simp
        go_at_call 87
        refine (add_any _ _ _ _ _ Hoy.out Hox.out).mono ?_
        rintro e w143 ⟨z143, rfl, h143, hb143⟩
        have HZ143 := Lib.hid h143
        have HL143 := Lib.hid h143.1
        clear h143
        have HB143 := Lib.hid (HB142.out.kept hb143)
        have HK143 := Lib.hid (HK142.out.trans (Kept.of_below hb143))
        clear hb143
        (try dsimp only)
        clear HB142
        clear HK142
        clear hHeld
        refine hK.out _ _ (HK143.out) (fun hHeld => ?_)
        clear hK K
        (try simp only [Act.put, sA, sZ, sS])
        refine wpAnyH_ready (rs := [10]) (by kernel_rfl) (by simp) ?_
        refine AllReadyH.cons (o := (⟨some 34, _, _, _, _, none⟩ : Oper)) rfl (fun K hK => ?_) AllReadyH.nil
        go_simp
        go_at_call 68
        refine (mul_any _ _ _ _ _ HZ134.out HZ143.out).mono ?_
        rintro e w144 ⟨z144, rfl, h144, hb144⟩
        have HZ144 := Lib.hid h144
        have HL144 := Lib.hid h144.1
        clear h144
        have HB144 := Lib.hid (HB143.out.kept hb144)
        have HK144 := Lib.hid (HK143.out.trans (Kept.of_below hb144))
        clear hb144
        (try dsimp only)
        clear HB143
        clear HK143
        clear hHeld
        refine hK.out _ _ (HK144.out) (fun hHeld => ?_)
        clear hK K
        (try simp only [Act.put, sA, sZ, sS])
        refine wpAnyH_ready (rs := [12]) (by kernel_rfl) (by simp) ?_
        refine AllReadyH.cons (o := (⟨none, _, _, _, _, none⟩ : Oper)) rfl (fun K hK => ?_) AllReadyH.nil
        refine step_store_whole rfl 64 (.tmp 6) (.tmp 34) rfl (g142) _ _ _ (HB144.out.get 4 rfl) rfl rfl (arr_len2 _ _ HL144.out HLze.out) (el_s HL144.out) (all_arr _ _) ?_
        intro w145 hb145 hk145 hz145
        have HB145 := Lib.hid (HB144.out.put 4 rfl hk145 hb145)
        have HK145 := Lib.hid (HK144.out.trans_new hk145 (fun i hi e => absurd hi (by rw [e]; exact Nat.not_lt.2 HN142.out)))
        clear hb145 hk145 hz145
        clear HB144
        clear HK144
        clear hHeld
        refine hK.out _ _ (HK145.out) (fun hHeld => ?_)
        clear hK K
        (try simp only [Act.put])
        refine wpAnyH_done (by kernel_rfl) ?_ _
        go_wp2_with fail
        go_meet
        exact ⟨_, _, rfl, HZ144.out, HB145.out⟩
      exact AllReadyH.nil
    refine AllReadyH.cons (o := (⟨some 6, _, _, _, _, none⟩ : Oper)) rfl (fun K hK => ?_) ?_
    · refine step_alloc_row rfl 64 rfl _ (HZze.out _) ?_
      have HB146 := Lib.hid (HBd.out.alloc (arr .i64 ze) 64)
      have HK146 := Lib.hid (HK0.out.alloc (.cells (arr .i64 ze) 64))
      have HN146 := Lib.hid (show wy1.heap.size ≤ (wd).heap.size from HK0.out.size)
      generalize (wd).heap.size = g146 at HB146 HN146 ⊢
      generalize (wd).alloc (.cells (arr .i64 ze) 64) = w146 at HB146 HK146 ⊢
      clear HBd
      clear HK0
      clear hHeld
      refine hK.out _ _ (HK146.out) (fun hHeld => ?_)
      clear hK K
      (try simp only [Act.put, sA, sZ, sS])
      refine wpAnyH_ready (rs := [4]) (by kernel_rfl) (by simp) ?_
      refine AllReadyH.cons (o := (⟨some 28, _, _, _, _, none⟩ : Oper)) rfl (fun K hK => ?_) AllReadyH.nil
      go_simp
      go_at_call 87
      refine (add_any _ _ _ _ _ Hmy.out Hmx.out).mono ?_
      rintro e w147 ⟨z147, rfl, h147, hb147⟩
      have HZ147 := Lib.hid h147
      have HL147 := Lib.hid h147.1
      clear h147
      have HB147 := Lib.hid (HB146.out.kept hb147)
      have HK147 := Lib.hid (HK146.out.trans (Kept.of_below hb147))
      clear hb147
      (try dsimp only)
      clear HB146
      clear HK146
      clear hHeld
      refine hK.out _ _ (HK147.out) (fun hHeld => ?_)
      clear hK K
      (try simp only [Act.put, sA, sZ, sS])
      refine wpAnyH_ready (rs := [9]) (by kernel_rfl) (by simp) ?_
      refine AllReadyH.cons (o := (⟨some 33, _, _, _, _, none⟩ : Oper)) rfl (fun K hK => ?_) AllReadyH.nil
      go_simp
      go_at_call 87
      refine (add_any _ _ _ _ _ Hoy.out Hox.out).mono ?_
      rintro e w148 ⟨z148, rfl, h148, hb148⟩
      have HZ148 := Lib.hid h148
      have HL148 := Lib.hid h148.1
      clear h148
      have HB148 := Lib.hid (HB147.out.kept hb148)
      have HK148 := Lib.hid (HK147.out.trans (Kept.of_below hb148))
      clear hb148
      (try dsimp only)
      clear HB147
      clear HK147
      clear hHeld
      refine hK.out _ _ (HK148.out) (fun hHeld => ?_)
      clear hK K
      (try simp only [Act.put, sA, sZ, sS])
      refine wpAnyH_ready (rs := [10]) (by kernel_rfl) (by simp) ?_
      refine AllReadyH.cons (o := (⟨some 34, _, _, _, _, none⟩ : Oper)) rfl (fun K hK => ?_) AllReadyH.nil
      go_simp
      go_at_call 68
      refine (mul_any _ _ _ _ _ HZ147.out HZ148.out).mono ?_
      rintro e w149 ⟨z149, rfl, h149, hb149⟩
      have HZ149 := Lib.hid h149
      have HL149 := Lib.hid h149.1
      clear h149
      have HB149 := Lib.hid (HB148.out.kept hb149)
      have HK149 := Lib.hid (HK148.out.trans (Kept.of_below hb149))
      clear hb149
      (try dsimp only)
      clear HB148
      clear HK148
      clear hHeld
      refine hK.out _ _ (HK149.out) (fun hHeld => ?_)
      clear hK K
      (try simp only [Act.put, sA, sZ, sS])
      refine wpAnyH_ready (rs := [12]) (by kernel_rfl) (by simp) ?_
      refine AllReadyH.cons (o := (⟨none, _, _, _, _, none⟩ : Oper)) rfl (fun K hK => ?_) AllReadyH.nil
      refine step_store_whole rfl 64 (.tmp 6) (.tmp 34) rfl (g146) _ _ _ (HB149.out.get 4 rfl) rfl rfl (arr_len2 _ _ HL149.out HLze.out) (el_s HL149.out) (all_arr _ _) ?_
      intro w150 hb150 hk150 hz150
      have HB150 := Lib.hid (HB149.out.put 4 rfl hk150 hb150)
      have HK150 := Lib.hid (HK149.out.trans_new hk150 (fun i hi e => absurd hi (by rw [e]; exact Nat.not_lt.2 HN146.out)))
      clear hb150 hk150 hz150
      clear HB149
      clear HK149
      clear hHeld
      refine hK.out _ _ (HK150.out) (fun hHeld => ?_)
      clear hK K
      (try simp only [Act.put])
      refine wpAnyH_done (by kernel_rfl) ?_ _
      go_wp2_with fail
      go_meet
      exact ⟨_, _, rfl, HZ149.out, HB150.out⟩
    exact AllReadyH.nil
  case rest =>
  obtain ⟨wy2, rfl⟩ : ∃ x : World, x = wc := ⟨_, rfl⟩
  obtain ⟨g2, x2, rfl, h1, hb1⟩ := hcut
  have HB2 := Lib.hid hb1
  have HX2 := Lib.hid h1
  have HL2 := Lib.hid h1.1
  clear h1 hb1 HB1
  go_upto_region 3 with fail
  go_cut [7] (fun us wx => ∃ gg xx, us = .pointer (some ⟨gg, 0, none⟩) ∧ El xx (fmul (fmul P.t Q.t) (fadd dd dd)) ∧ Blk w wx [(w.heap.size, arr .i64 ps, 66), (w.heap.size + 1, arr .i64 qs, 66), (w.heap.size + 1 + 1, arr .i64 zp, 66), (g1, arr .i64 x1, 64), (g2, arr .i64 x2, 64), (gg, arr .i64 xx, 64)])
  case first =>
    have HTb := Lib.hid (range_below HT.out HB2.out.below)
    have HK0 := Lib.hid ((Kept.refl (fun _ => False) wy2).drew)
    have HBd := Lib.hid (HB2.out.drew)
    refine wp_region_held_drew (S := (fun w' => Kept (fun _ => False) wy2 w')) (by kernel_rfl) (HK0.out) (fun hHeld => ?_)
    generalize wy2.drew = wd at HK0 HBd hHeld ⊢
    refine wpAnyH_take (i := 0) (oi := (⟨some 35, _, _, _, _, none⟩ : Oper)) (v := ?v151) rfl (by kernel_rfl) (by kernel_rfl) (by kernel_rfl) (fun _ _ _ h => h) (Or.inl ⟨by rfl, ?hy151⟩) (by assumption) ?rest151
    case hy151 => (intro w hSw; (try dsimp only at hSw); go_simp; try (with_reducible rfl))
    (try simp only [Act.put, sA, sZ, sS])
    refine' wpAnyH_take (i := 1) (oi := (⟨some 36, _, _, _, _, none⟩ : Oper)) (v := _) rfl (by kernel_rfl) (by kernel_rfl) (by kernel_rfl) (fun _ _ _ h => h) (yieldsIf_load_mid (by rfl) _ _ rfl _ _ rfl (mt.map (Value.int .i64)) _ ?hS152 Tryd.underlying64 rfl (by rw [List.length_map]; exact el_i HmtL.out)) (by assumption) ?rest152
    case hS152 => (intro w hSw; (try dsimp only at hSw); exact range_part (hSw.blk (HB2.out.get 0 rfl) (fun e => e.elim)) 48 _ (by rw [List.length_map]; exact HmP.out.2.2.2))
    (try simp only [Act.put, sA, sZ, sS])
    refine wpAnyH_take (i := 2) (oi := (⟨some 37, _, _, _, _, none⟩ : Oper)) (v := ?v153) rfl (by kernel_rfl) (by kernel_rfl) (by kernel_rfl) (fun _ _ _ h => h) (Or.inl ⟨by rfl, ?hy153⟩) (by assumption) ?rest153
    case hy153 => (intro w hSw; (try dsimp only at hSw); go_simp; try (with_reducible rfl))
    (try simp only [Act.put, sA, sZ, sS])
    refine' wpAnyH_take (i := 3) (oi := (⟨some 38, _, _, _, _, none⟩ : Oper)) (v := _) rfl (by kernel_rfl) (by kernel_rfl) (by kernel_rfl) (fun _ _ _ h => h) (yieldsIf_load_mid (by rfl) _ _ rfl _ _ rfl (ot.map (Value.int .i64)) _ ?hS154 Tryd.underlying64 rfl (by rw [List.length_map]; exact el_i HotL.out)) (by assumption) ?rest154
    case hS154 => (intro w hSw; (try dsimp only at hSw); exact range_part (hSw.blk (HB2.out.get 1 rfl) (fun e => e.elim)) 48 _ (by rw [List.length_map]; exact HoP.out.2.2.2))
    (try simp only [Act.put, sA, sZ, sS])
    refine' wpAnyH_take (i := 5) (oi := (⟨some 40, _, _, _, _, none⟩ : Oper)) (v := _) rfl (by kernel_rfl) (by kernel_rfl) (by kernel_rfl) (fun _ _ _ h => h) (yieldsIf_load_mid (by rfl) _ _ rfl _ _ rfl (dl.map (Value.int .i64)) _ ?hS155 Tryd.underlying64 rfl (by rw [List.length_map]; exact el_i HDL.out)) (by assumption) ?rest155
    case hS155 => (intro w hSw; (try dsimp only at hSw); exact range_kept HTb.out (hSw) (id))
    (try simp only [Act.put, sA, sZ, sS])
    refine' wpAnyH_take (i := 6) (oi := (⟨some 41, _, _, _, _, none⟩ : Oper)) (v := _) rfl (by kernel_rfl) (by kernel_rfl) (by kernel_rfl) (fun _ _ _ h => h) (yieldsIf_load_mid (by rfl) _ _ rfl _ _ rfl (dl.map (Value.int .i64)) _ ?hS156 Tryd.underlying64 rfl (by rw [List.length_map]; exact el_i HDL.out)) (by assumption) ?rest156
    case hS156 => (intro w hSw; (try dsimp only at hSw); exact range_kept HTb.out (hSw) (id))
    (try simp only [Act.put, sA, sZ, sS])
    refine wpAnyH_ready (rs := [4, 9]) (by kernel_rfl) (by simp) ?_
    refine AllReadyH.cons (o := (⟨some 39, _, _, _, _, none⟩ : Oper)) rfl (fun K hK => ?_) ?_
    · go_simp
      go_at_call 68
      refine (mul_any _ _ _ _ _ Hmt.out Hot.out).mono ?_
      rintro e w157 ⟨z157, rfl, h157, hb157⟩
      have HZ157 := Lib.hid h157
      have HL157 := Lib.hid h157.1
      clear h157
      have HB157 := Lib.hid (HBd.out.kept hb157)
      have HK157 := Lib.hid (HK0.out.trans (Kept.of_below hb157))
      clear hb157
      (try dsimp only)
      clear HBd
      clear HK0
      clear hHeld
      refine hK.out _ _ (HK157.out) (fun hHeld => ?_)
      clear hK K
      (try simp only [Act.put, sA, sZ, sS])
      refine wpAnyH_ready (rs := [7, 9]) (by kernel_rfl) (by simp) ?_
      refine AllReadyH.cons (o := (⟨some 42, _, _, _, _, none⟩ : Oper)) rfl (fun K hK => ?_) ?_
      · go_simp
        go_at_call 87
        refine (add_any _ _ _ _ _ HD.out HD.out).mono ?_
        rintro e w158 ⟨z158, rfl, h158, hb158⟩
        have HZ158 := Lib.hid h158
        have HL158 := Lib.hid h158.1
        clear h158
        have HB158 := Lib.hid (HB157.out.kept hb158)
        have HK158 := Lib.hid (HK157.out.trans (Kept.of_below hb158))
        clear hb158
        (try dsimp only)
        clear HB157
        clear HK157
        clear hHeld
        refine hK.out _ _ (HK158.out) (fun hHeld => ?_)
        clear hK K
        (try simp only [Act.put, sA, sZ, sS])
        refine wpAnyH_ready (rs := [8, 9]) (by kernel_rfl) (by simp) ?_
        refine AllReadyH.cons (o := (⟨some 43, _, _, _, _, none⟩ : Oper)) rfl (fun K hK => ?_) ?_
        · go_simp
          go_at_call 68
          refine (mul_any _ _ _ _ _ HZ157.out HZ158.out).mono ?_
          rintro e w159 ⟨z159, rfl, h159, hb159⟩
          have HZ159 := Lib.hid h159
          have HL159 := Lib.hid h159.1
          clear h159
          have HB159 := Lib.hid (HB158.out.kept hb159)
          have HK159 := Lib.hid (HK158.out.trans (Kept.of_below hb159))
          clear hb159
          (try dsimp only)
          clear HB158
          clear HK158
          clear hHeld
          refine hK.out _ _ (HK159.out) (fun hHeld => ?_)
          clear hK K
          (try simp only [Act.put, sA, sZ, sS])
          refine wpAnyH_ready (rs := [9]) (by kernel_rfl) (by simp) ?_
          refine AllReadyH.cons (o := (⟨some 7, _, _, _, _, none⟩ : Oper)) rfl (fun K hK => ?_) AllReadyH.nil
          refine step_alloc_row rfl 64 rfl _ (HZze.out _) ?_
          have HB160 := Lib.hid (HB159.out.alloc (arr .i64 ze) 64)
          have HK160 := Lib.hid (HK159.out.alloc (.cells (arr .i64 ze) 64))
          have HN160 := Lib.hid (show wy2.heap.size ≤ (w159).heap.size from HK159.out.size)
          generalize (w159).heap.size = g160 at HB160 HN160 ⊢
          generalize (w159).alloc (.cells (arr .i64 ze) 64) = w160 at HB160 HK160 ⊢
          clear HB159
          clear HK159
          clear hHeld
          refine hK.out _ _ (HK160.out) (fun hHeld => ?_)
          clear hK K
          (try simp only [Act.put, sA, sZ, sS])
          refine wpAnyH_ready (rs := [10]) (by kernel_rfl) (by simp) ?_
          refine AllReadyH.cons (o := (⟨none, _, _, _, _, none⟩ : Oper)) rfl (fun K hK => ?_) AllReadyH.nil
          refine step_store_whole rfl 64 (.tmp 7) (.tmp 43) rfl (g160) _ _ _ (HB160.out.get 5 rfl) rfl rfl (arr_len2 _ _ HL159.out HLze.out) (el_s HL159.out) (all_arr _ _) ?_
          intro w161 hb161 hk161 hz161
          have HB161 := Lib.hid (HB160.out.put 5 rfl hk161 hb161)
          have HK161 := Lib.hid (HK160.out.trans_new hk161 (fun i hi e => absurd hi (by rw [e]; exact Nat.not_lt.2 HN160.out)))
          clear hb161 hk161 hz161
          clear HB160
          clear HK160
          clear hHeld
          refine hK.out _ _ (HK161.out) (fun hHeld => ?_)
          clear hK K
          (try simp only [Act.put])
          refine wpAnyH_done (by kernel_rfl) ?_ _
          go_wp2_with fail
          go_meet
          exact ⟨_, _, rfl, HZ159.out, HB161.out⟩
        refine AllReadyH.cons (o := (⟨some 7, _, _, _, _, none⟩ : Oper)) rfl (fun K hK => ?_) ?_
        · refine step_alloc_row rfl 64 rfl _ (HZze.out _) ?_
          have HB162 := Lib.hid (HB158.out.alloc (arr .i64 ze) 64)
          have HK162 := Lib.hid (HK158.out.alloc (.cells (arr .i64 ze) 64))
          have HN162 := Lib.hid (show wy2.heap.size ≤ (w158).heap.size from HK158.out.size)
          generalize (w158).heap.size = g162 at HB162 HN162 ⊢
          generalize (w158).alloc (.cells (arr .i64 ze) 64) = w162 at HB162 HK162 ⊢
          clear HB158
          clear HK158
          clear hHeld
          refine hK.out _ _ (HK162.out) (fun hHeld => ?_)
          clear hK K
          (try simp only [Act.put, sA, sZ, sS])
          refine wpAnyH_ready (rs := [8]) (by kernel_rfl) (by simp) ?_
          refine AllReadyH.cons (o := (⟨some 43, _, _, _, _, none⟩ : Oper)) rfl (fun K hK => ?_) AllReadyH.nil
          go_simp
          go_at_call 68
          refine (mul_any _ _ _ _ _ HZ157.out HZ158.out).mono ?_
          rintro e w163 ⟨z163, rfl, h163, hb163⟩
          have HZ163 := Lib.hid h163
          have HL163 := Lib.hid h163.1
          clear h163
          have HB163 := Lib.hid (HB162.out.kept hb163)
          have HK163 := Lib.hid (HK162.out.trans (Kept.of_below hb163))
          clear hb163
          (try dsimp only)
          clear HB162
          clear HK162
          clear hHeld
          refine hK.out _ _ (HK163.out) (fun hHeld => ?_)
          clear hK K
          (try simp only [Act.put, sA, sZ, sS])
          refine wpAnyH_ready (rs := [10]) (by kernel_rfl) (by simp) ?_
          refine AllReadyH.cons (o := (⟨none, _, _, _, _, none⟩ : Oper)) rfl (fun K hK => ?_) AllReadyH.nil
          refine step_store_whole rfl 64 (.tmp 7) (.tmp 43) rfl (g162) _ _ _ (HB163.out.get 5 rfl) rfl rfl (arr_len2 _ _ HL163.out HLze.out) (el_s HL163.out) (all_arr _ _) ?_
          intro w164 hb164 hk164 hz164
          have HB164 := Lib.hid (HB163.out.put 5 rfl hk164 hb164)
          have HK164 := Lib.hid (HK163.out.trans_new hk164 (fun i hi e => absurd hi (by rw [e]; exact Nat.not_lt.2 HN162.out)))
          clear hb164 hk164 hz164
          clear HB163
          clear HK163
          clear hHeld
          refine hK.out _ _ (HK164.out) (fun hHeld => ?_)
          clear hK K
          (try simp only [Act.put])
          refine wpAnyH_done (by kernel_rfl) ?_ _
          go_wp2_with fail
          go_meet
          exact ⟨_, _, rfl, HZ163.out, HB164.out⟩
        exact AllReadyH.nil
      refine AllReadyH.cons (o := (⟨some 7, _, _, _, _, none⟩ : Oper)) rfl (fun K hK => ?_) ?_
      · refine step_alloc_row rfl 64 rfl _ (HZze.out _) ?_
        have HB165 := Lib.hid (HB157.out.alloc (arr .i64 ze) 64)
        have HK165 := Lib.hid (HK157.out.alloc (.cells (arr .i64 ze) 64))
        have HN165 := Lib.hid (show wy2.heap.size ≤ (w157).heap.size from HK157.out.size)
        generalize (w157).heap.size = g165 at HB165 HN165 ⊢
        generalize (w157).alloc (.cells (arr .i64 ze) 64) = w165 at HB165 HK165 ⊢
        clear HB157
        clear HK157
        clear hHeld
        refine hK.out _ _ (HK165.out) (fun hHeld => ?_)
        clear hK K
        (try simp only [Act.put, sA, sZ, sS])
        refine wpAnyH_ready (rs := [7]) (by kernel_rfl) (by simp) ?_
        refine AllReadyH.cons (o := (⟨some 42, _, _, _, _, none⟩ : Oper)) rfl (fun K hK => ?_) AllReadyH.nil
        go_simp
        go_at_call 87
        refine (add_any _ _ _ _ _ HD.out HD.out).mono ?_
        rintro e w166 ⟨z166, rfl, h166, hb166⟩
        have HZ166 := Lib.hid h166
        have HL166 := Lib.hid h166.1
        clear h166
        have HB166 := Lib.hid (HB165.out.kept hb166)
        have HK166 := Lib.hid (HK165.out.trans (Kept.of_below hb166))
        clear hb166
        (try dsimp only)
        clear HB165
        clear HK165
        clear hHeld
        refine hK.out _ _ (HK166.out) (fun hHeld => ?_)
        clear hK K
        (try simp only [Act.put, sA, sZ, sS])
        refine wpAnyH_ready (rs := [8]) (by kernel_rfl) (by simp) ?_
        refine AllReadyH.cons (o := (⟨some 43, _, _, _, _, none⟩ : Oper)) rfl (fun K hK => ?_) AllReadyH.nil
        go_simp
        go_at_call 68
        refine (mul_any _ _ _ _ _ HZ157.out HZ166.out).mono ?_
        rintro e w167 ⟨z167, rfl, h167, hb167⟩
        have HZ167 := Lib.hid h167
        have HL167 := Lib.hid h167.1
        clear h167
        have HB167 := Lib.hid (HB166.out.kept hb167)
        have HK167 := Lib.hid (HK166.out.trans (Kept.of_below hb167))
        clear hb167
        (try dsimp only)
        clear HB166
        clear HK166
        clear hHeld
        refine hK.out _ _ (HK167.out) (fun hHeld => ?_)
        clear hK K
        (try simp only [Act.put, sA, sZ, sS])
        refine wpAnyH_ready (rs := [10]) (by kernel_rfl) (by simp) ?_
        refine AllReadyH.cons (o := (⟨none, _, _, _, _, none⟩ : Oper)) rfl (fun K hK => ?_) AllReadyH.nil
        refine step_store_whole rfl 64 (.tmp 7) (.tmp 43) rfl (g165) _ _ _ (HB167.out.get 5 rfl) rfl rfl (arr_len2 _ _ HL167.out HLze.out) (el_s HL167.out) (all_arr _ _) ?_
        intro w168 hb168 hk168 hz168
        have HB168 := Lib.hid (HB167.out.put 5 rfl hk168 hb168)
        have HK168 := Lib.hid (HK167.out.trans_new hk168 (fun i hi e => absurd hi (by rw [e]; exact Nat.not_lt.2 HN165.out)))
        clear hb168 hk168 hz168
        clear HB167
        clear HK167
        clear hHeld
        refine hK.out _ _ (HK168.out) (fun hHeld => ?_)
        clear hK K
        (try simp only [Act.put])
        refine wpAnyH_done (by kernel_rfl) ?_ _
        go_wp2_with fail
        go_meet
        exact ⟨_, _, rfl, HZ167.out, HB168.out⟩
      exact AllReadyH.nil
    refine AllReadyH.cons (o := (⟨some 7, _, _, _, _, none⟩ : Oper)) rfl (fun K hK => ?_) ?_
    · refine step_alloc_row rfl 64 rfl _ (HZze.out _) ?_
      have HB169 := Lib.hid (HBd.out.alloc (arr .i64 ze) 64)
      have HK169 := Lib.hid (HK0.out.alloc (.cells (arr .i64 ze) 64))
      have HN169 := Lib.hid (show wy2.heap.size ≤ (wd).heap.size from HK0.out.size)
      generalize (wd).heap.size = g169 at HB169 HN169 ⊢
      generalize (wd).alloc (.cells (arr .i64 ze) 64) = w169 at HB169 HK169 ⊢
      clear HBd
      clear HK0
      clear hHeld
      refine hK.out _ _ (HK169.out) (fun hHeld => ?_)
      clear hK K
      (try simp only [Act.put, sA, sZ, sS])
      refine wpAnyH_ready (rs := [4]) (by kernel_rfl) (by simp) ?_
      refine AllReadyH.cons (o := (⟨some 39, _, _, _, _, none⟩ : Oper)) rfl (fun K hK => ?_) AllReadyH.nil
      go_simp
      go_at_call 68
      refine (mul_any _ _ _ _ _ Hmt.out Hot.out).mono ?_
      rintro e w170 ⟨z170, rfl, h170, hb170⟩
      have HZ170 := Lib.hid h170
      have HL170 := Lib.hid h170.1
      clear h170
      have HB170 := Lib.hid (HB169.out.kept hb170)
      have HK170 := Lib.hid (HK169.out.trans (Kept.of_below hb170))
      clear hb170
      (try dsimp only)
      clear HB169
      clear HK169
      clear hHeld
      refine hK.out _ _ (HK170.out) (fun hHeld => ?_)
      clear hK K
      (try simp only [Act.put, sA, sZ, sS])
      refine wpAnyH_ready (rs := [7]) (by kernel_rfl) (by simp) ?_
      refine AllReadyH.cons (o := (⟨some 42, _, _, _, _, none⟩ : Oper)) rfl (fun K hK => ?_) AllReadyH.nil
      go_simp
      go_at_call 87
      refine (add_any _ _ _ _ _ HD.out HD.out).mono ?_
      rintro e w171 ⟨z171, rfl, h171, hb171⟩
      have HZ171 := Lib.hid h171
      have HL171 := Lib.hid h171.1
      clear h171
      have HB171 := Lib.hid (HB170.out.kept hb171)
      have HK171 := Lib.hid (HK170.out.trans (Kept.of_below hb171))
      clear hb171
      (try dsimp only)
      clear HB170
      clear HK170
      clear hHeld
      refine hK.out _ _ (HK171.out) (fun hHeld => ?_)
      clear hK K
      (try simp only [Act.put, sA, sZ, sS])
      refine wpAnyH_ready (rs := [8]) (by kernel_rfl) (by simp) ?_
      refine AllReadyH.cons (o := (⟨some 43, _, _, _, _, none⟩ : Oper)) rfl (fun K hK => ?_) AllReadyH.nil
      go_simp
      go_at_call 68
      refine (mul_any _ _ _ _ _ HZ170.out HZ171.out).mono ?_
      rintro e w172 ⟨z172, rfl, h172, hb172⟩
      have HZ172 := Lib.hid h172
      have HL172 := Lib.hid h172.1
      clear h172
      have HB172 := Lib.hid (HB171.out.kept hb172)
      have HK172 := Lib.hid (HK171.out.trans (Kept.of_below hb172))
      clear hb172
      (try dsimp only)
      clear HB171
      clear HK171
      clear hHeld
      refine hK.out _ _ (HK172.out) (fun hHeld => ?_)
      clear hK K
      (try simp only [Act.put, sA, sZ, sS])
      refine wpAnyH_ready (rs := [10]) (by kernel_rfl) (by simp) ?_
      refine AllReadyH.cons (o := (⟨none, _, _, _, _, none⟩ : Oper)) rfl (fun K hK => ?_) AllReadyH.nil
      refine step_store_whole rfl 64 (.tmp 7) (.tmp 43) rfl (g169) _ _ _ (HB172.out.get 5 rfl) rfl rfl (arr_len2 _ _ HL172.out HLze.out) (el_s HL172.out) (all_arr _ _) ?_
      intro w173 hb173 hk173 hz173
      have HB173 := Lib.hid (HB172.out.put 5 rfl hk173 hb173)
      have HK173 := Lib.hid (HK172.out.trans_new hk173 (fun i hi e => absurd hi (by rw [e]; exact Nat.not_lt.2 HN169.out)))
      clear hb173 hk173 hz173
      clear HB172
      clear HK172
      clear hHeld
      refine hK.out _ _ (HK173.out) (fun hHeld => ?_)
      clear hK K
      (try simp only [Act.put])
      refine wpAnyH_done (by kernel_rfl) ?_ _
      go_wp2_with fail
      go_meet
      exact ⟨_, _, rfl, HZ172.out, HB173.out⟩
    exact AllReadyH.nil
  case rest =>
  obtain ⟨wy3, rfl⟩ : ∃ x : World, x = wc := ⟨_, rfl⟩
  obtain ⟨g3, x3, rfl, h1, hb1⟩ := hcut
  have HB3 := Lib.hid hb1
  have HX3 := Lib.hid h1
  have HL3 := Lib.hid h1.1
  clear h1 hb1 HB2
  go_upto_region 5 with (first | ((with_reducible refine aS 45 ?_); refine wpList_load_part rfl 64 _ rfl (w.heap.size) (32) _ 66 (0, 0) _ (HB3.out.get 0 rfl) rfl .i64 mz (HmP.out.2.2.1) Tryd.underlying64 rfl (el_i HmzL.out) ?_) | ((with_reducible refine aS 47 ?_); refine wpList_load_part rfl 64 _ rfl (w.heap.size + 1) (32) _ 66 (0, 0) _ (HB3.out.get 1 rfl) rfl .i64 oz (HoP.out.2.2.1) Tryd.underlying64 rfl (el_i HozL.out) ?_) | ((with_reducible show Calls _ 68 #[.agg _, .agg _] _ _); go_at_call 68; refine (mul_any _ _ _ _ _ Hmz.out Hoz.out).mono ?_; rintro e w174 ⟨z174, rfl, h174, hb174⟩; have HZ174 := Lib.hid h174; have HL174 := Lib.hid h174.1; clear h174; have HB174 := Lib.hid (HB3.out.kept hb174); clear hb174) | ((with_reducible refine aS 8 ?_); refine wpList_alloc_row rfl 64 rfl _ (HZze.out _) ?_; have HB175 := Lib.hid (HB174.out.alloc (arr .i64 ze) 64); generalize w174.heap.size = g175 at HB175 ⊢; generalize w174.alloc (.cells (arr .i64 ze) 64) = w175 at HB175 ⊢; clear HB174) | ((with_reducible refine aT 8 (x := (Operand.tmp 48)) ?_); refine wpList_store_whole rfl 64 _ _ rfl (g175) _ _ 64 (HB175.out.get 6 rfl) rfl rfl (arr_len2 _ _ HL174.out HLze.out) (el_s HL174.out) (all_arr _ _) ?_; intro w176 hb176 hk176 hz176; have HB176 := Lib.hid (HB175.out.put 6 rfl hk176 hb176); clear hb176 hk176 hz176; clear HB175))
  go_upto_region 6 with (first | ((with_reducible refine aS 49 ?_); refine wpList_load_part rfl 64 _ rfl (g175) (0) _ 64 (0, 0) _ (HB176.out.get 6 rfl) rfl .i64 z174 (arr_part _ _) Tryd.underlying64 rfl (el_i HL174.out) ?_) | ((with_reducible refine aS 50 ?_); refine wpList_load_part rfl 64 _ rfl (g175) (0) _ 64 (0, 0) _ (HB176.out.get 6 rfl) rfl .i64 z174 (arr_part _ _) Tryd.underlying64 rfl (el_i HL174.out) ?_) | ((with_reducible show Calls _ 87 #[.agg _, .agg _] _ _); go_at_call 87; refine (add_any _ _ _ _ _ HZ174.out HZ174.out).mono ?_; rintro e w177 ⟨z177, rfl, h177, hb177⟩; have HZ177 := Lib.hid h177; have HL177 := Lib.hid h177.1; clear h177; have HB177 := Lib.hid (HB176.out.kept hb177); clear hb177; clear HB176) | ((with_reducible refine aT 8 (x := (Operand.tmp 51)) ?_); refine wpList_store_whole rfl 64 _ _ rfl (g175) _ _ 64 (HB177.out.get 6 rfl) rfl rfl (arr_len2 _ _ HL177.out HL174.out) (el_s HL177.out) (all_arr _ _) ?_; intro w178 hb178 hk178 hz178; have HB178 := Lib.hid (HB177.out.put 6 rfl hk178 hb178); clear hb178 hk178 hz178; clear HB177))
  go_upto_region 7 with (first | ((with_reducible refine aS 52 ?_); refine wpList_load_part rfl 64 _ rfl (g2) (0) _ 64 (0, 0) _ (HB178.out.get 4 rfl) rfl .i64 x2 (arr_part _ _) Tryd.underlying64 rfl (el_i HL2.out) ?_) | ((with_reducible refine aS 53 ?_); refine wpList_load_part rfl 64 _ rfl (g1) (0) _ 64 (0, 0) _ (HB178.out.get 3 rfl) rfl .i64 x1 (arr_part _ _) Tryd.underlying64 rfl (el_i HL1.out) ?_) | ((with_reducible show Calls _ 86 #[.agg _, .agg _] _ _); go_at_call 86; refine (sub_any _ _ _ _ _ HX2.out HX1.out).mono ?_; rintro e w179 ⟨z179, rfl, h179, hb179⟩; have HZ179 := Lib.hid h179; have HL179 := Lib.hid h179.1; clear h179; have HB179 := Lib.hid (HB178.out.kept hb179); clear hb179; clear HB178) | ((with_reducible refine aS 9 ?_); refine wpList_alloc_row rfl 64 rfl _ (HZze.out _) ?_; have HB180 := Lib.hid (HB179.out.alloc (arr .i64 ze) 64); generalize w179.heap.size = g180 at HB180 ⊢; generalize w179.alloc (.cells (arr .i64 ze) 64) = w180 at HB180 ⊢; clear HB179) | ((with_reducible refine aT 9 (x := (Operand.tmp 54)) ?_); refine wpList_store_whole rfl 64 _ _ rfl (g180) _ _ 64 (HB180.out.get 7 rfl) rfl rfl (arr_len2 _ _ HL179.out HLze.out) (el_s HL179.out) (all_arr _ _) ?_; intro w181 hb181 hk181 hz181; have HB181 := Lib.hid (HB180.out.put 7 rfl hk181 hb181); clear hb181 hk181 hz181; clear HB180))
  go_upto_region 8 with (first | ((with_reducible refine aS 55 ?_); refine wpList_load_part rfl 64 _ rfl (g175) (0) _ 64 (0, 0) _ (HB181.out.get 6 rfl) rfl .i64 z177 (arr_part _ _) Tryd.underlying64 rfl (el_i HL177.out) ?_) | ((with_reducible refine aS 56 ?_); refine wpList_load_part rfl 64 _ rfl (g3) (0) _ 64 (0, 0) _ (HB181.out.get 5 rfl) rfl .i64 x3 (arr_part _ _) Tryd.underlying64 rfl (el_i HL3.out) ?_) | ((with_reducible show Calls _ 86 #[.agg _, .agg _] _ _); go_at_call 86; refine (sub_any _ _ _ _ _ HZ177.out HX3.out).mono ?_; rintro e w182 ⟨z182, rfl, h182, hb182⟩; have HZ182 := Lib.hid h182; have HL182 := Lib.hid h182.1; clear h182; have HB182 := Lib.hid (HB181.out.kept hb182); clear hb182; clear HB181) | ((with_reducible refine aS 10 ?_); refine wpList_alloc_row rfl 64 rfl _ (HZze.out _) ?_; have HB183 := Lib.hid (HB182.out.alloc (arr .i64 ze) 64); generalize w182.heap.size = g183 at HB183 ⊢; generalize w182.alloc (.cells (arr .i64 ze) 64) = w183 at HB183 ⊢; clear HB182) | ((with_reducible refine aT 10 (x := (Operand.tmp 57)) ?_); refine wpList_store_whole rfl 64 _ _ rfl (g183) _ _ 64 (HB183.out.get 8 rfl) rfl rfl (arr_len2 _ _ HL182.out HLze.out) (el_s HL182.out) (all_arr _ _) ?_; intro w184 hb184 hk184 hz184; have HB184 := Lib.hid (HB183.out.put 8 rfl hk184 hb184); clear hb184 hk184 hz184; clear HB183))
  go_upto_region 9 with (first | ((with_reducible refine aS 58 ?_); refine wpList_load_part rfl 64 _ rfl (g175) (0) _ 64 (0, 0) _ (HB184.out.get 6 rfl) rfl .i64 z177 (arr_part _ _) Tryd.underlying64 rfl (el_i HL177.out) ?_) | ((with_reducible refine aS 59 ?_); refine wpList_load_part rfl 64 _ rfl (g3) (0) _ 64 (0, 0) _ (HB184.out.get 5 rfl) rfl .i64 x3 (arr_part _ _) Tryd.underlying64 rfl (el_i HL3.out) ?_) | ((with_reducible show Calls _ 87 #[.agg _, .agg _] _ _); go_at_call 87; refine (add_any _ _ _ _ _ HZ177.out HX3.out).mono ?_; rintro e w185 ⟨z185, rfl, h185, hb185⟩; have HZ185 := Lib.hid h185; have HL185 := Lib.hid h185.1; clear h185; have HB185 := Lib.hid (HB184.out.kept hb185); clear hb185; clear HB184) | ((with_reducible refine aS 11 ?_); refine wpList_alloc_row rfl 64 rfl _ (HZze.out _) ?_; have HB186 := Lib.hid (HB185.out.alloc (arr .i64 ze) 64); generalize w185.heap.size = g186 at HB186 ⊢; generalize w185.alloc (.cells (arr .i64 ze) 64) = w186 at HB186 ⊢; clear HB185) | ((with_reducible refine aT 11 (x := (Operand.tmp 60)) ?_); refine wpList_store_whole rfl 64 _ _ rfl (g186) _ _ 64 (HB186.out.get 9 rfl) rfl rfl (arr_len2 _ _ HL185.out HLze.out) (el_s HL185.out) (all_arr _ _) ?_; intro w187 hb187 hk187 hz187; have HB187 := Lib.hid (HB186.out.put 9 rfl hk187 hb187); clear hb187 hk187 hz187; clear HB186))
  go_upto_region 10 with (first | ((with_reducible refine aS 61 ?_); refine wpList_load_part rfl 64 _ rfl (g2) (0) _ 64 (0, 0) _ (HB187.out.get 4 rfl) rfl .i64 x2 (arr_part _ _) Tryd.underlying64 rfl (el_i HL2.out) ?_) | ((with_reducible refine aS 62 ?_); refine wpList_load_part rfl 64 _ rfl (g1) (0) _ 64 (0, 0) _ (HB187.out.get 3 rfl) rfl .i64 x1 (arr_part _ _) Tryd.underlying64 rfl (el_i HL1.out) ?_) | ((with_reducible show Calls _ 87 #[.agg _, .agg _] _ _); go_at_call 87; refine (add_any _ _ _ _ _ HX2.out HX1.out).mono ?_; rintro e w188 ⟨z188, rfl, h188, hb188⟩; have HZ188 := Lib.hid h188; have HL188 := Lib.hid h188.1; clear h188; have HB188 := Lib.hid (HB187.out.kept hb188); clear hb188; clear HB187) | ((with_reducible refine aS 12 ?_); refine wpList_alloc_row rfl 64 rfl _ (HZze.out _) ?_; have HB189 := Lib.hid (HB188.out.alloc (arr .i64 ze) 64); generalize w188.heap.size = g189 at HB189 ⊢; generalize w188.alloc (.cells (arr .i64 ze) 64) = w189 at HB189 ⊢; clear HB188) | ((with_reducible refine aT 12 (x := (Operand.tmp 63)) ?_); refine wpList_store_whole rfl 64 _ _ rfl (g189) _ _ 64 (HB189.out.get 10 rfl) rfl rfl (arr_len2 _ _ HL188.out HLze.out) (el_s HL188.out) (all_arr _ _) ?_; intro w190 hb190 hk190 hz190; have HB190 := Lib.hid (HB189.out.put 10 rfl hk190 hb190); clear hb190 hk190 hz190; clear HB189))
  have HK0 := Lib.hid ((Kept.refl (fun x => x = w.heap.size + 1 + 1) w190).drew)
  have HBd := Lib.hid (HB190.out.drew)
  refine wp_region_held_drew (S := (fun w' => Kept (fun x => x = w.heap.size + 1 + 1) w190 w')) (by kernel_rfl) (HK0.out) (fun hHeld => ?_)
  generalize w190.drew = wd at HK0 HBd hHeld ⊢
  refine' wpAnyH_take (i := 0) (oi := (⟨some 64, _, _, _, _, none⟩ : Oper)) (v := _) rfl (by kernel_rfl) (by kernel_rfl) (by kernel_rfl) (fun _ _ _ h => h) (yieldsIf_load_mid (by rfl) _ _ rfl _ _ rfl (z179.map (Value.int .i64)) _ ?hS191 Tryd.underlying64 rfl (by rw [List.length_map]; exact el_i HL179.out)) (by assumption) ?rest191
  case hS191 => (intro w hSw; (try dsimp only at hSw); exact range_part (hSw.blk (HB190.out.get 7 rfl) (HB190.out.ne 7 2 rfl rfl (by decide))) 0 _ (by rw [List.length_map]; exact arr_part _ _))
  (try simp only [Act.put, sA, sZ, sS])
  refine' wpAnyH_take (i := 1) (oi := (⟨some 65, _, _, _, _, none⟩ : Oper)) (v := _) rfl (by kernel_rfl) (by kernel_rfl) (by kernel_rfl) (fun _ _ _ h => h) (yieldsIf_load_mid (by rfl) _ _ rfl _ _ rfl (z182.map (Value.int .i64)) _ ?hS192 Tryd.underlying64 rfl (by rw [List.length_map]; exact el_i HL182.out)) (by assumption) ?rest192
  case hS192 => (intro w hSw; (try dsimp only at hSw); exact range_part (hSw.blk (HB190.out.get 8 rfl) (HB190.out.ne 8 2 rfl rfl (by decide))) 0 _ (by rw [List.length_map]; exact arr_part _ _))
  (try simp only [Act.put, sA, sZ, sS])
  refine' wpAnyH_take (i := 3) (oi := (⟨some 67, _, _, _, _, none⟩ : Oper)) (v := _) rfl (by kernel_rfl) (by kernel_rfl) (by kernel_rfl) (fun _ _ _ h => h) (yieldsIf_load_mid (by rfl) _ _ rfl _ _ rfl (z188.map (Value.int .i64)) _ ?hS193 Tryd.underlying64 rfl (by rw [List.length_map]; exact el_i HL188.out)) (by assumption) ?rest193
  case hS193 => (intro w hSw; (try dsimp only at hSw); exact range_part (hSw.blk (HB190.out.get 10 rfl) (HB190.out.ne 10 2 rfl rfl (by decide))) 0 _ (by rw [List.length_map]; exact arr_part _ _))
  (try simp only [Act.put, sA, sZ, sS])
  refine' wpAnyH_take (i := 4) (oi := (⟨some 68, _, _, _, _, none⟩ : Oper)) (v := _) rfl (by kernel_rfl) (by kernel_rfl) (by kernel_rfl) (fun _ _ _ h => h) (yieldsIf_load_mid (by rfl) _ _ rfl _ _ rfl (z185.map (Value.int .i64)) _ ?hS194 Tryd.underlying64 rfl (by rw [List.length_map]; exact el_i HL185.out)) (by assumption) ?rest194
  case hS194 => (intro w hSw; (try dsimp only at hSw); exact range_part (hSw.blk (HB190.out.get 9 rfl) (HB190.out.ne 9 2 rfl rfl (by decide))) 0 _ (by rw [List.length_map]; exact arr_part _ _))
  (try simp only [Act.put, sA, sZ, sS])
  refine' wpAnyH_take (i := 6) (oi := (⟨some 70, _, _, _, _, none⟩ : Oper)) (v := _) rfl (by kernel_rfl) (by kernel_rfl) (by kernel_rfl) (fun _ _ _ h => h) (yieldsIf_load_mid (by rfl) _ _ rfl _ _ rfl (z182.map (Value.int .i64)) _ ?hS195 Tryd.underlying64 rfl (by rw [List.length_map]; exact el_i HL182.out)) (by assumption) ?rest195
  case hS195 => (intro w hSw; (try dsimp only at hSw); exact range_part (hSw.blk (HB190.out.get 8 rfl) (HB190.out.ne 8 2 rfl rfl (by decide))) 0 _ (by rw [List.length_map]; exact arr_part _ _))
  (try simp only [Act.put, sA, sZ, sS])
  refine' wpAnyH_take (i := 7) (oi := (⟨some 71, _, _, _, _, none⟩ : Oper)) (v := _) rfl (by kernel_rfl) (by kernel_rfl) (by kernel_rfl) (fun _ _ _ h => h) (yieldsIf_load_mid (by rfl) _ _ rfl _ _ rfl (z185.map (Value.int .i64)) _ ?hS196 Tryd.underlying64 rfl (by rw [List.length_map]; exact el_i HL185.out)) (by assumption) ?rest196
  case hS196 => (intro w hSw; (try dsimp only at hSw); exact range_part (hSw.blk (HB190.out.get 9 rfl) (HB190.out.ne 9 2 rfl rfl (by decide))) 0 _ (by rw [List.length_map]; exact arr_part _ _))
  (try simp only [Act.put, sA, sZ, sS])
  refine' wpAnyH_take (i := 9) (oi := (⟨some 73, _, _, _, _, none⟩ : Oper)) (v := _) rfl (by kernel_rfl) (by kernel_rfl) (by kernel_rfl) (fun _ _ _ h => h) (yieldsIf_load_mid (by rfl) _ _ rfl _ _ rfl (z179.map (Value.int .i64)) _ ?hS197 Tryd.underlying64 rfl (by rw [List.length_map]; exact el_i HL179.out)) (by assumption) ?rest197
  case hS197 => (intro w hSw; (try dsimp only at hSw); exact range_part (hSw.blk (HB190.out.get 7 rfl) (HB190.out.ne 7 2 rfl rfl (by decide))) 0 _ (by rw [List.length_map]; exact arr_part _ _))
  (try simp only [Act.put, sA, sZ, sS])
  refine' wpAnyH_take (i := 10) (oi := (⟨some 74, _, _, _, _, none⟩ : Oper)) (v := _) rfl (by kernel_rfl) (by kernel_rfl) (by kernel_rfl) (fun _ _ _ h => h) (yieldsIf_load_mid (by rfl) _ _ rfl _ _ rfl (z188.map (Value.int .i64)) _ ?hS198 Tryd.underlying64 rfl (by rw [List.length_map]; exact el_i HL188.out)) (by assumption) ?rest198
  case hS198 => (intro w hSw; (try dsimp only at hSw); exact range_part (hSw.blk (HB190.out.get 10 rfl) (HB190.out.ne 10 2 rfl rfl (by decide))) 0 _ (by rw [List.length_map]; exact arr_part _ _))
  (try simp only [Act.put, sA, sZ, sS])
  refine wpAnyH_ready (rs := [2]) (by kernel_rfl) (by simp) ?_
  refine AllReadyH.cons (o := (⟨some 66, _, _, _, _, none⟩ : Oper)) rfl (fun K hK => ?_) AllReadyH.nil
  go_simp
  go_at_call 68
  refine (mul_any _ _ _ _ _ HZ179.out HZ182.out).mono ?_
  rintro e w199 ⟨z199, rfl, h199, hb199⟩
  have HZ199 := Lib.hid h199
  have HL199 := Lib.hid h199.1
  clear h199
  have HB199 := Lib.hid (HBd.out.kept hb199)
  have HK199 := Lib.hid (HK0.out.trans (Kept.of_below hb199))
  clear hb199
  (try dsimp only)
  clear HBd
  clear HK0
  clear hHeld
  refine hK.out _ _ (HK199.out) (fun hHeld => ?_)
  clear hK K
  (try simp only [Act.put, sA, sZ, sS])
  refine wpAnyH_ready (rs := [5]) (by kernel_rfl) (by simp) ?_
  refine AllReadyH.cons (o := (⟨some 69, _, _, _, _, none⟩ : Oper)) rfl (fun K hK => ?_) AllReadyH.nil
  go_simp
  go_at_call 68
  refine (mul_any _ _ _ _ _ HZ188.out HZ185.out).mono ?_
  rintro e w200 ⟨z200, rfl, h200, hb200⟩
  have HZ200 := Lib.hid h200
  have HL200 := Lib.hid h200.1
  clear h200
  have HB200 := Lib.hid (HB199.out.kept hb200)
  have HK200 := Lib.hid (HK199.out.trans (Kept.of_below hb200))
  clear hb200
  (try dsimp only)
  clear HB199
  clear HK199
  clear hHeld
  refine hK.out _ _ (HK200.out) (fun hHeld => ?_)
  clear hK K
  (try simp only [Act.put, sA, sZ, sS])
  refine wpAnyH_ready (rs := [8]) (by kernel_rfl) (by simp) ?_
  refine AllReadyH.cons (o := (⟨some 72, _, _, _, _, none⟩ : Oper)) rfl (fun K hK => ?_) AllReadyH.nil
  go_simp
  go_at_call 68
  refine (mul_any _ _ _ _ _ HZ182.out HZ185.out).mono ?_
  rintro e w201 ⟨z201, rfl, h201, hb201⟩
  have HZ201 := Lib.hid h201
  have HL201 := Lib.hid h201.1
  clear h201
  have HB201 := Lib.hid (HB200.out.kept hb201)
  have HK201 := Lib.hid (HK200.out.trans (Kept.of_below hb201))
  clear hb201
  (try dsimp only)
  clear HB200
  clear HK200
  clear hHeld
  refine hK.out _ _ (HK201.out) (fun hHeld => ?_)
  clear hK K
  (try simp only [Act.put, sA, sZ, sS])
  refine wpAnyH_ready (rs := [11]) (by kernel_rfl) (by simp) ?_
  refine AllReadyH.cons (o := (⟨some 75, _, _, _, _, none⟩ : Oper)) rfl (fun K hK => ?_) AllReadyH.nil
  go_simp
  go_at_call 68
  refine (mul_any _ _ _ _ _ HZ179.out HZ188.out).mono ?_
  rintro e w202 ⟨z202, rfl, h202, hb202⟩
  have HZ202 := Lib.hid h202
  have HL202 := Lib.hid h202.1
  clear h202
  have HB202 := Lib.hid (HB201.out.kept hb202)
  have HK202 := Lib.hid (HK201.out.trans (Kept.of_below hb202))
  clear hb202
  (try dsimp only)
  clear HB201
  clear HK201
  clear hHeld
  refine hK.out _ _ (HK202.out) (fun hHeld => ?_)
  clear hK K
  (try simp only [Act.put, sA, sZ, sS])
  obtain ⟨v204, hv204⟩ : ∃ x, x = z199 ++ z200 ++ z201 ++ z202 := ⟨_, rfl⟩
  have HR204 : Hid (∀ w, (Instr.build 66 #[(0, .agg (arr .i64 z199)), (1, .agg (arr .i64 z200)), (2, .agg (arr .i64 z201)), (3, .agg (arr .i64 z202))]).run Tryd.prog w = .ok (.agg (arr .i64 v204)) w) := Lib.hid (fun w => by rw [hv204]; exact build_pt _ _ _ _ HL199.out HL200.out HL201.out HL202.out w)
  have HL204 : Hid (v204.length = 64) := Lib.hid (by rw [hv204]; exact pt_len HL199.out HL200.out HL201.out HL202.out)
  have HV204 := Lib.hid hv204
  clear hv204
  refine wpAnyH_take (i := 12) (oi := (⟨some 76, _, _, _, _, none⟩ : Oper)) (v := (.agg (arr .i64 v204))) rfl (by kernel_rfl) (by kernel_rfl) (by kernel_rfl) (fun _ _ _ h => h) (Or.inl ⟨by rfl, ?hy203⟩) (by assumption) ?rest203
  case hy203 => (intro w hSw; (try dsimp only at hSw); exact exec_build 66 _ rfl #[(0, .agg (arr .i64 z199)), (1, .agg (arr .i64 z200)), (2, .agg (arr .i64 z201)), (3, .agg (arr .i64 z202))] rfl _ (HR204.out _))
  (try simp only [Act.put, sA, sZ, sS])
  refine wpAnyH_ready (rs := [13]) (by kernel_rfl) (by simp) ?_
  refine AllReadyH.cons (o := (⟨none, _, _, _, _, none⟩ : Oper)) rfl (fun K hK => ?_) AllReadyH.nil
  refine step_store_whole rfl 66 (.tmp 4) (.tmp 76) rfl (w.heap.size + 1 + 1) _ _ _ (HB202.out.get 2 rfl) rfl rfl (arr_len2 _ _ HL204.out HLzp.out) (pt_s HL204.out) (all_arr _ _) ?_
  intro w205 hb205 hk205 hz205
  have HB205 := Lib.hid (HB202.out.put 2 rfl hk205 hb205)
  have HK205 := Lib.hid (HK202.out.trans hk205)
  clear hb205 hk205 hz205
  clear HB202
  clear HK202
  clear hHeld
  refine hK.out _ _ (HK205.out) (fun hHeld => ?_)
  clear hK K
  (try simp only [Act.put])
  refine wpAnyH_done (by kernel_rfl) ?_ _
  have HBF := HB205
  have HWF := HL204
  have HF0 := HV204
  have HF1 := HZ199
  have HF2 := HZ200
  have HF3 := HZ201
  have HF4 := HZ202
  (try simp only [Exit.then])
  go_wp2_with fail
  refine bodyPost_ret (results_cell_row rfl _ _ (w.heap.size + 1 + 1) 66 _ (0, 0) _ rfl (HBF.out.get 2 rfl) Tryd.underlying66 rfl (pt_s HWF.out)) rfl ?_
  refine ⟨_, rfl, ⟨_, _, _, _, HF0.out, ?_, ?_, ?_, ?_⟩, HBF.out.below⟩
  · have := HF1.out; rw [mul_dd, mul_two] at this; exact this
  · have := HF2.out
    rw [mul_dd, mul_two, fmul_comm (fadd (fmul (fadd P.y P.x) (fadd Q.y Q.x)) (fmul (fsub P.y P.x) (fsub Q.y Q.x)))] at this
    exact this
  · have := HF3.out; rw [mul_dd, mul_two] at this; exact this
  · exact HF4.out
end Go.Proofs.YtanjhngehfbpbaaDoor.Rd
