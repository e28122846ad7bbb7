/- The document's points: sum, nought, base. Condition: rows that stand for points; the tables hold what their text lays. -/
import Derived.Test.YtanjhngehfbpbaaDoorRdF
import Derived.Test.YtanjhngehfbpbaaDoorCuP
import Derived.Test.YtanjhngehfbpbaaDoorStr
import Derived.Test.YtanjhngehfbpbaaDoorMa
namespace Go.Proofs.YtanjhngehfbpbaaDoor.Rd
open Go.RowKit Lm Fp Cu
set_option linter.unusedSimpArgs false
set_option linter.unusedVariables false

/-- The cells of a value that came up. -/
def aggOf (o : Option Value) : Array Value := match o with
  | some (.agg c) => c
  | _ => #[]
theorem upd_none {f : Fill} {k : Nat} (h : f k = none) (i : Nat) (v : Value) (hi : i ≠ k) : f.upd i v k = none := by
  unfold Fill.upd
  rw [if_neg (fun e => hi e.symm)]
  exact h
theorem zero_pt (w : World) : (zeroValue 66).run Tryd.prog w = .ok (.agg (arr .i64 (List.replicate 64 0))) w := by kernel_rfl
theorem size_pt : (Tryd.prog.info? 66).map (·.size) = some 64 := by kernel_rfl
theorem pt_s {xs : List Int} (h : xs.length = 64) : (Tryd.prog.info? 66).map (·.size) = some (arr .i64 xs).size := by rw [arr_size, h]; exact size_pt
theorem pt_i {xs : List Int} (h : xs.length = 64) : (Tryd.prog.info? 66).map (·.size) = some xs.length := by rw [h]; exact size_pt
theorem pt_len {a b c d : List Int} (ha : a.length = 16) (hb : b.length = 16) (hc : c.length = 16) (hd : d.length = 16) : (a ++ b ++ c ++ d).length = 64 := by simp [ha, hb, hc, hd]
theorem four_partL (k : IntKind) (a b c d : List Int) (n : Nat) (ha : a.length = n) (hb : b.length = n) (hc : c.length = n) (hd : d.length = n) :
    ((arr k (a ++ b ++ c ++ d)).toList.drop 0).take a.length = a.map (Value.int k) ∧ ((arr k (a ++ b ++ c ++ d)).toList.drop n).take b.length = b.map (Value.int k) ∧
    ((arr k (a ++ b ++ c ++ d)).toList.drop (n + n)).take c.length = c.map (Value.int k) ∧ ((arr k (a ++ b ++ c ++ d)).toList.drop (n + n + n)).take d.length = d.map (Value.int k) := by
  have e : a ++ b ++ c ++ d = a ++ (b ++ (c ++ d)) := by simp only [List.append_assoc]
  have _ := hd
  rw [e]
  exact four_part k a b c d n ha hb hc
theorem build_pt (a b c d : List Int) (ha : a.length = 16) (hb : b.length = 16) (hc : c.length = 16) (hd : d.length = 16) (w : World) :
    (Instr.build 66 #[(0, .agg (arr .i64 a)), (1, .agg (arr .i64 b)), (2, .agg (arr .i64 c)), (3, .agg (arr .i64 d))]).run Tryd.prog w = .ok (.agg (arr .i64 (a ++ b ++ c ++ d))) w := by
  unfold Instr.build
  simp only [Sem.run_bind, zero_pt, Result.andThen_ok, run_underlying Tryd.underlying66]
  refine (congrArg (fun R => Result.andThen R _) (show _ = Result.ok #[((0 : Nat), 16), (16, 16), (2 * 16, 16), (3 * 16, 16)] w from ?h)).trans ?_
  case h => kernel_rfl
  simp only [Result.andThen_ok]
  rw [show (Value.agg (arr .i64 (List.replicate 64 0))).cells = arr .i64 (List.replicate 64 0) from rfl, fill4 .i64 16 a b c d (List.replicate 64 0) ha hb hc hd (by simp)]
  rfl
theorem exec_build {P : Program} {o : Oper} {ev : Operand → Value} {w : World} (t : TypeId) (ps : Array (Nat × Operand)) (ho : o.op = .build t ps) (vs : Array (Nat × Value)) (hvs : ps.toList.map (fun p => (p.1, ev p.2)) = vs.toList) (v : Value) (hrun : (Instr.build t vs).run P w = .ok v w) : (execOp ev o).run P w = .ok (.value v) w := by
  have hv : ps.map (fun p => (p.1, ev p.2)) = vs := by apply Array.toList_inj.1; rw [Array.toList_map]; exact hvs
  simp only [execOp, ho, hv, Sem.run_bind, hrun, Result.andThen_ok]
  rfl
theorem build_el0 (w : World) : (Instr.build 64 #[]).run Tryd.prog w = .ok (.agg (arr .i64 (List.replicate 16 0))) w := by kernel_rfl
theorem build_pt0 (w : World) : (Instr.build 66 #[]).run Tryd.prog w = .ok (.agg (arr .i64 (List.replicate 64 0))) w := by kernel_rfl
/-- The row vs stands for the point P. -/
def PtEl (vs : List Int) (P : Pt) : Prop := ∃ x y z t, vs = x ++ y ++ z ++ t ∧ El x P.x ∧ El y P.y ∧ El z P.z ∧ El t P.t
theorem PtEl.len {vs : List Int} {P : Pt} (h : PtEl vs P) : vs.length = 64 := by
  obtain ⟨x, y, z, t, rfl, h1, h2, h3, h4⟩ := h
  exact pt_len h1.1 h2.1 h3.1 h4.1
def dL : List Int := [0x78a3, 0x1359, 0x4dca, 0x75eb, 0xd8ab, 0x4141, 0xa4d, 0x70, 0xe898, 0x7779, 0x4079, 0x8cc7, 0xfe73, 0x2b6f, 0x6cee, 0x5203]
def xL : List Int := [0xd51a, 0x8f25, 0x2d60, 0xc956, 0xa7b2, 0x9525, 0xc760, 0x692c, 0xdc5c, 0xfdd6, 0xe231, 0xc0a4, 0x53fe, 0xcd6e, 0x36d3, 0x2169]
def yL : List Int := [0x6658, 0x6666, 0x6666, 0x6666, 0x6666, 0x6666, 0x6666, 0x6666, 0x6666, 0x6666, 0x6666, 0x6666, 0x6666, 0x6666, 0x6666, 0x6666]
theorem dL_el : El dL dd := by refine ⟨rfl, by decide +kernel, by decide +kernel⟩
theorem xL_el : El xL bx := by refine ⟨rfl, by decide +kernel, by decide +kernel⟩
theorem yL_el : El yL bY := by refine ⟨rfl, by decide +kernel, by decide +kernel⟩
def TabD (w : World) : Prop := w.rangeAt 2 0 (dL.map (Value.int .i64))
def TabX (w : World) : Prop := w.rangeAt 0 0 (xL.map (Value.int .i64))
def TabY (w : World) : Prop := w.rangeAt 1 0 (yL.map (Value.int .i64))
theorem mul_dd (a b c : Nat) : fmul (fmul a b) c = fmul (fmul a c) b := by
  unfold fmul
  rw [Nat.mod_mul_mod, Nat.mod_mul_mod, Nat.mul_right_comm]
theorem fmul_comm (a b : Nat) : fmul a b = fmul b a := by unfold fmul; rw [Nat.mul_comm]
theorem mul_two (a b : Nat) : fadd (fmul a b) (fmul a b) = fmul a (fadd b b) := by
  unfold fadd fmul
  rw [← Nat.add_mod, Nat.mul_mod_mod, Nat.mul_add]

set_option maxRecDepth 100000 in
set_option maxHeartbeats 8000000 in
theorem sum_any (ps qs : List Int) (P Q : Pt) (w : World) (hp : PtEl ps P) (hq : PtEl qs Q) (hT : TabD w) :
    Calls Tryd.prog 45 #[.agg (arr .i64 ps), .agg (arr .i64 qs)] w fun e w' => ∃ zs, e = .returned (.agg (arr .i64 zs)) ∧ PtEl zs (eadd P Q) ∧ Below w.heap.size w w' := by
  have HmW := Lib.hid hp.len
  obtain ⟨mx, my, mz, mt, hme, hmx, hmy, hmz, hmt⟩ := hp
  have Hmx := Lib.hid hmx
  have HmxL := Lib.hid hmx.1
  have Hmy := Lib.hid hmy
  have HmyL := Lib.hid hmy.1
  have Hmz := Lib.hid hmz
  have HmzL := Lib.hid hmz.1
  have Hmt := Lib.hid hmt
  have HmtL := Lib.hid hmt.1
  have hmP := four_partL .i64 mx my mz mt 16 hmx.1 hmy.1 hmz.1 hmt.1
  rw [← hme] at hmP
  have HmP := Lib.hid hmP
  clear hmx hmy hmz hmt hme hmP
  have HoW := Lib.hid hq.len
  obtain ⟨ox, oy, oz, ot, hoe, hox, hoy, hoz, hot⟩ := hq
  have Hox := Lib.hid hox
  have HoxL := Lib.hid hox.1
  have Hoy := Lib.hid hoy
  have HoyL := Lib.hid hoy.1
  have Hoz := Lib.hid hoz
  have HozL := Lib.hid hoz.1
  have Hot := Lib.hid hot
  have HotL := Lib.hid hot.1
  have hoP := four_partL .i64 ox oy oz ot 16 hox.1 hoy.1 hoz.1 hot.1
  rw [← hoe] at hoP
  have HoP := Lib.hid hoP
  clear hox hoy hoz hot hoe hoP
  obtain ⟨dl, hdl⟩ : ∃ x, x = dL := ⟨_, rfl⟩
  have HD : Hid (El dl dd) := Lib.hid (by rw [hdl]; exact dL_el)
  have HDL := Lib.hid HD.out.1
  unfold TabD at hT
  rw [← hdl] at hT
  have HT := Lib.hid hT
  obtain ⟨ze, hze⟩ : ∃ zs : List Int, zs = List.replicate 16 0 := ⟨_, rfl⟩
  have HZze : Hid (∀ w, (zeroValue 64).run Tryd.prog w = .ok (.agg (arr .i64 ze)) w) := Lib.hid (by intro w; rw [hze]; exact zero_el w)
  have HLze : Hid (ze.length = 16) := Lib.hid (by rw [hze]; rfl)
  obtain ⟨zp, hzp⟩ : ∃ zs : List Int, zs = List.replicate 64 0 := ⟨_, rfl⟩
  have HZzp : Hid (∀ w, (zeroValue 66).run Tryd.prog w = .ok (.agg (arr .i64 zp)) w) := Lib.hid (by intro w; rw [hzp]; exact zero_pt w)
  have HLzp : Hid (zp.length = 64) := Lib.hid (by rw [hzp]; rfl)
  have HS0 := Lib.hid (Blk.three w (arr .i64 ps) (arr .i64 qs) (arr .i64 zp) 66 66 66)
  clear hze hzp hdl hT
  go_enter Tryd.func45, Tryd.ntmps45
  go_upto_region 1 with (first | ((with_reducible refine aS 4 ?_); refine wpList_alloc_row rfl 66 rfl _ (HZzp.out _) ?_))
  (try simp only [World.size_alloc, Act.put, sA, sZ, sS])
  generalize (((w.alloc (.cells (arr .i64 ps) 66)).alloc (.cells (arr .i64 qs) 66)).alloc (.cells (arr .i64 zp) 66)) = wb at HS0 ⊢
  refine wp_region_lin (fun (fF : Fill) (uF : World) => (∀ v, fF 0 = some v → v = .pointer (some ⟨w.heap.size, 16, none⟩) ∧ True) ∧ (∀ v, fF 1 = some v → v = .agg (arr .i64 my) ∧ True) ∧ (∀ v, fF 2 = some v → v = .pointer (some ⟨w.heap.size, 0, none⟩) ∧ True) ∧ (∀ v, fF 3 = some v → v = .agg (arr .i64 mx) ∧ True) ∧ (∀ v, fF 4 = some v → ∃ zs : List Int, v = .agg (arr .i64 zs) ∧ El zs (fsub P.y P.x)) ∧ (∀ v, fF 5 = some v → v = .pointer (some ⟨w.heap.size + 1, 16, none⟩) ∧ True) ∧ (∀ v, fF 6 = some v → v = .agg (arr .i64 oy) ∧ True) ∧ (∀ v, fF 7 = some v → v = .pointer (some ⟨w.heap.size + 1, 0, none⟩) ∧ True) ∧ (∀ v, fF 8 = some v → v = .agg (arr .i64 ox) ∧ True) ∧ (∀ v, fF 9 = some v → ∃ zs : List Int, v = .agg (arr .i64 zs) ∧ El zs (fsub Q.y Q.x)) ∧ (∀ v, fF 10 = some v → ∃ zs : List Int, v = .agg (arr .i64 zs) ∧ El zs (fmul (fsub P.y P.x) (fsub Q.y Q.x))) ∧ (∀ v, fF 11 = some v → ∃ g : Nat, v = .pointer (some ⟨g, 0, none⟩)) ∧ Blk w uF ([(w.heap.size, arr .i64 ps, 66), (w.heap.size + 1, arr .i64 qs, 66), (w.heap.size + 1 + 1, arr .i64 zp, 66)] ++ (ent (fF 11) ((if (fF 12).isSome = true then aggOf (fF 10) else arr .i64 ze)) 64))) (by kernel_rfl) (by kernel_rfl) ?za1 ?sa1 ?ea1
  case za1 => exact ⟨fun _ h => (by cases h), fun _ h => (by cases h), fun _ h => (by cases h), fun _ h => (by cases h), fun _ h => (by cases h), fun _ h => (by cases h), fun _ h => (by cases h), fun _ h => (by cases h), fun _ h => (by cases h), fun _ h => (by cases h), fun _ h => (by cases h), fun _ h => (by cases h), HS0.out.drew⟩
  case sa1 =>
    refine LinAll.cons (fun fF bF uF kF hJF hfF hcF hupF hsF hKF => ?_) ?_
    · obtain ⟨j0, j1, j2, j3, j4, j5, j6, j7, j8, j9, j10, j11, hB⟩ := hJF
      have e2 : bF.eval (.tmp 2) = .pointer (some ⟨w.heap.size, 0, none⟩) := hsF.old' 2 (by kernel_rfl) rfl
      exact lin_pure rfl (.pointer (some ⟨w.heap.size, 16, none⟩)) (by simp only [execOp, e2] <;> first | rfl | kernel_rfl | (go_simp; done)) (hKF _ _ ⟨fun _ h => ⟨sI h, trivial⟩, j1, j2, j3, j4, j5, j6, j7, j8, j9, j10, j11, hB⟩)
    refine LinAll.cons (fun fF bF uF kF hJF hfF hcF hupF hsF hKF => ?_) ?_
    · obtain ⟨j0, j1, j2, j3, j4, j5, j6, j7, j8, j9, j10, j11, hB⟩ := hJF
      obtain ⟨e13, p13⟩ := hsF.at hupF 0 13 (by kernel_rfl) rfl j0
      have hB' := hB
      refine step_load_part rfl 64 _ rfl (w.heap.size) (16) (arr .i64 ps) 66 (0, 0) _ (hB'.get 0 rfl) e13 .i64 my (HmP.out.2.1) Tryd.underlying64 rfl (el_i HmyL.out) ?_
      exact hKF _ _ ⟨j0, fun _ h => ⟨sI h, trivial⟩, j2, j3, j4, j5, j6, j7, j8, j9, j10, j11, hB⟩
    refine LinAll.cons (fun fF bF uF kF hJF hfF hcF hupF hsF hKF => ?_) ?_
    · obtain ⟨j0, j1, j2, j3, j4, j5, j6, j7, j8, j9, j10, j11, hB⟩ := hJF
      have e2 : bF.eval (.tmp 2) = .pointer (some ⟨w.heap.size, 0, none⟩) := hsF.old' 2 (by kernel_rfl) rfl
      exact lin_pure rfl (.pointer (some ⟨w.heap.size, 0, none⟩)) (by simp only [execOp, e2] <;> first | rfl | kernel_rfl | (go_simp; done)) (hKF _ _ ⟨j0, j1, fun _ h => ⟨sI h, trivial⟩, j3, j4, j5, j6, j7, j8, j9, j10, j11, hB⟩)
    refine LinAll.cons (fun fF bF uF kF hJF hfF hcF hupF hsF hKF => ?_) ?_
    · obtain ⟨j0, j1, j2, j3, j4, j5, j6, j7, j8, j9, j10, j11, hB⟩ := hJF
      obtain ⟨e15, p15⟩ := hsF.at hupF 2 15 (by kernel_rfl) rfl j2
      have hB' := hB
      refine step_load_part rfl 64 _ rfl (w.heap.size) (0) (arr .i64 ps) 66 (0, 0) _ (hB'.get 0 rfl) e15 .i64 mx (HmP.out.1) Tryd.underlying64 rfl (el_i HmxL.out) ?_
      exact hKF _ _ ⟨j0, j1, j2, fun _ h => ⟨sI h, trivial⟩, j4, j5, j6, j7, j8, j9, j10, j11, hB⟩
    refine LinAll.cons (fun fF bF uF kF hJF hfF hcF hupF hsF hKF => ?_) ?_
    · obtain ⟨j0, j1, j2, j3, j4, j5, j6, j7, j8, j9, j10, j11, hB⟩ := hJF
      obtain ⟨e14, p14⟩ := hsF.at hupF 1 14 (by kernel_rfl) rfl j1
      obtain ⟨e16, p16⟩ := hsF.at hupF 3 16 (by kernel_rfl) rfl j3
      refine lin_call rfl 86 [Operand.tmp 14, Operand.tmp 16] _ [.agg (arr .i64 my), .agg (arr .i64 mx)] rfl (by simp only [List.map_cons, List.map_nil, e14, e16] <;> rfl) (fun _ _ => by kernel_rfl) ?_
      refine Calls.mono (sub_any _ _ _ _ _ Hmy.out Hmx.out) ?_
      rintro e w1 ⟨zq, rfl, rq, hb⟩
      exact ⟨_, rfl, hKF _ _ ⟨j0, j1, j2, j3, fun _ h => ⟨zq, sI h, rq⟩, j5, j6, j7, j8, j9, j10, j11, hB.kept hb⟩⟩
    refine LinAll.cons (fun fF bF uF kF hJF hfF hcF hupF hsF hKF => ?_) ?_
    · obtain ⟨j0, j1, j2, j3, j4, j5, j6, j7, j8, j9, j10, j11, hB⟩ := hJF
      have e3 : bF.eval (.tmp 3) = .pointer (some ⟨w.heap.size + 1, 0, none⟩) := hsF.old' 3 (by kernel_rfl) rfl
      exact lin_pure rfl (.pointer (some ⟨w.heap.size + 1, 16, none⟩)) (by simp only [execOp, e3] <;> first | rfl | kernel_rfl | (go_simp; done)) (hKF _ _ ⟨j0, j1, j2, j3, j4, fun _ h => ⟨sI h, trivial⟩, j6, j7, j8, j9, j10, j11, hB⟩)
    refine LinAll.cons (fun fF bF uF kF hJF hfF hcF hupF hsF hKF => ?_) ?_
    · obtain ⟨j0, j1, j2, j3, j4, j5, j6, j7, j8, j9, j10, j11, hB⟩ := hJF
      obtain ⟨e18, p18⟩ := hsF.at hupF 5 18 (by kernel_rfl) rfl j5
      have hB' := hB
      refine step_load_part rfl 64 _ rfl (w.heap.size + 1) (16) (arr .i64 qs) 66 (0, 0) _ (hB'.get 1 rfl) e18 .i64 oy (HoP.out.2.1) Tryd.underlying64 rfl (el_i HoyL.out) ?_
      exact hKF _ _ ⟨j0, j1, j2, j3, j4, j5, fun _ h => ⟨sI h, trivial⟩, j7, j8, j9, j10, j11, hB⟩
    refine LinAll.cons (fun fF bF uF kF hJF hfF hcF hupF hsF hKF => ?_) ?_
    · obtain ⟨j0, j1, j2, j3, j4, j5, j6, j7, j8, j9, j10, j11, hB⟩ := hJF
      have e3 : bF.eval (.tmp 3) = .pointer (some ⟨w.heap.size + 1, 0, none⟩) := hsF.old' 3 (by kernel_rfl) rfl
      exact lin_pure rfl (.pointer (some ⟨w.heap.size + 1, 0, none⟩)) (by simp only [execOp, e3] <;> first | rfl | kernel_rfl | (go_simp; done)) (hKF _ _ ⟨j0, j1, j2, j3, j4, j5, j6, fun _ h => ⟨sI h, trivial⟩, j8, j9, j10, j11, hB⟩)
    refine LinAll.cons (fun fF bF uF kF hJF hfF hcF hupF hsF hKF => ?_) ?_
    · obtain ⟨j0, j1, j2, j3, j4, j5, j6, j7, j8, j9, j10, j11, hB⟩ := hJF
      obtain ⟨e20, p20⟩ := hsF.at hupF 7 20 (by kernel_rfl) rfl j7
      have hB' := hB
      refine step_load_part rfl 64 _ rfl (w.heap.size + 1) (0) (arr .i64 qs) 66 (0, 0) _ (hB'.get 1 rfl) e20 .i64 ox (HoP.out.1) Tryd.underlying64 rfl (el_i HoxL.out) ?_
      exact hKF _ _ ⟨j0, j1, j2, j3, j4, j5, j6, j7, fun _ h => ⟨sI h, trivial⟩, j9, j10, j11, hB⟩
    refine LinAll.cons (fun fF bF uF kF hJF hfF hcF hupF hsF hKF => ?_) ?_
    · obtain ⟨j0, j1, j2, j3, j4, j5, j6, j7, j8, j9, j10, j11, hB⟩ := hJF
      obtain ⟨e19, p19⟩ := hsF.at hupF 6 19 (by kernel_rfl) rfl j6
      obtain ⟨e21, p21⟩ := hsF.at hupF 8 21 (by kernel_rfl) rfl j8
      refine lin_call rfl 86 [Operand.tmp 19, Operand.tmp 21] _ [.agg (arr .i64 oy), .agg (arr .i64 ox)] rfl (by simp only [List.map_cons, List.map_nil, e19, e21] <;> rfl) (fun _ _ => by kernel_rfl) ?_
      refine Calls.mono (sub_any _ _ _ _ _ Hoy.out Hox.out) ?_
      rintro e w1 ⟨zq, rfl, rq, hb⟩
      exact ⟨_, rfl, hKF _ _ ⟨j0, j1, j2, j3, j4, j5, j6, j7, j8, fun _ h => ⟨zq, sI h, rq⟩, j10, j11, hB.kept hb⟩⟩
    refine LinAll.cons (fun fF bF uF kF hJF hfF hcF hupF hsF hKF => ?_) ?_
    · obtain ⟨j0, j1, j2, j3, j4, j5, j6, j7, j8, j9, j10, j11, hB⟩ := hJF
      have y4 := hupF 4 (by kernel_rfl)
      obtain ⟨v4, s4⟩ := sE y4
      obtain ⟨xa1_4, rfl, r4⟩ := j4 _ s4
      have Ra1_4 := Lib.hid r4
      have HLa1_4 := Lib.hid (r4.1)
      have e17 := hsF.val 4 17 rfl s4
      have y9 := hupF 9 (by kernel_rfl)
      obtain ⟨v9, s9⟩ := sE y9
      obtain ⟨xa1_9, rfl, r9⟩ := j9 _ s9
      have Ra1_9 := Lib.hid r9
      have HLa1_9 := Lib.hid (r9.1)
      have e22 := hsF.val 9 22 rfl s9
      refine lin_call rfl 68 [Operand.tmp 17, Operand.tmp 22] _ [.agg (arr .i64 xa1_4), .agg (arr .i64 xa1_9)] rfl (by simp only [List.map_cons, List.map_nil, e17, e22] <;> rfl) (fun _ _ => by kernel_rfl) ?_
      refine Calls.mono (mul_any _ _ _ _ _ Ra1_4.out Ra1_9.out) ?_
      rintro e w1 ⟨zq, rfl, rq, hb⟩
      have n12 := hcF.down 12 10 (by kernel_rfl) hfF
      exact ⟨_, rfl, hKF _ _ ⟨j0, j1, j2, j3, j4, j5, j6, j7, j8, j9, fun _ h => ⟨zq, sI h, rq⟩, j11, (by have h := hB.kept hb; rw [n12] at h; rw [upd_none n12]; exact h; decide)⟩⟩
    refine LinAll.cons (fun fF bF uF kF hJF hfF hcF hupF hsF hKF => ?_) ?_
    · obtain ⟨j0, j1, j2, j3, j4, j5, j6, j7, j8, j9, j10, j11, hB⟩ := hJF
      have n12 := hcF.down 12 11 (by kernel_rfl) hfF
      refine step_alloc_row rfl 64 rfl _ (HZze.out _) ?_
      have hB1 : Blk w (uF.alloc (.cells (arr .i64 ze) 64)) ([(w.heap.size, arr .i64 ps, 66), (w.heap.size + 1, arr .i64 qs, 66), (w.heap.size + 1 + 1, arr .i64 zp, 66)] ++ (ent ((some (.pointer (some ⟨uF.heap.size, 0, none⟩)) : Option Value)) ((if (fF 12).isSome = true then aggOf (fF 10) else arr .i64 ze)) 64)) := hB.ins (a := [(w.heap.size, arr .i64 ps, 66), (w.heap.size + 1, arr .i64 qs, 66), (w.heap.size + 1 + 1, arr .i64 zp, 66)]) (b := []) _ _ (by rw [hfF, n12]; simp only [ent_none, List.nil_append, List.append_nil, List.append_assoc, List.cons_append]) (by rw [n12]; simp only [ent_some, List.nil_append, List.append_nil, List.append_assoc, List.cons_append, Option.isSome_none, Bool.false_eq_true, if_false])
      exact hKF _ _ ⟨j0, j1, j2, j3, j4, j5, j6, j7, j8, j9, j10, fun _ h => ⟨_, sI h⟩, hB1⟩
    refine LinAll.cons (fun fF bF uF kF hJF hfF hcF hupF hsF hKF => ?_) ?_
    · obtain ⟨j0, j1, j2, j3, j4, j5, j6, j7, j8, j9, j10, j11, hB⟩ := hJF
      have y11 := hupF 11 (by kernel_rfl)
      obtain ⟨v11, s11⟩ := sE y11
      obtain ⟨ga1_3, rfl⟩ := j11 _ s11
      have e5 := hsF.val 11 5 rfl s11
      have y10 := hupF 10 (by kernel_rfl)
      obtain ⟨v10, s10⟩ := sE y10
      obtain ⟨xa1_10, rfl, r10⟩ := j10 _ s10
      have Ra1_10 := Lib.hid r10
      have HLa1_10 := Lib.hid (r10.1)
      have e23 := hsF.val 10 23 rfl s10
      have hB' := hB
      rw [s11, s10, hfF] at hB'
      refine step_store_whole rfl 64 (.tmp 5) (.tmp 23) rfl (ga1_3) (arr .i64 ze) _ 64 (hB'.get 3 rfl) e5 e23 (arr_len2 _ _ HLa1_10.out HLze.out) (el_s HLa1_10.out) (all_arr _ _) ?_
      intro w1 hb1 hk1 hz1
      have hB1 : Blk w w1 ([(w.heap.size, arr .i64 ps, 66), (w.heap.size + 1, arr .i64 qs, 66), (w.heap.size + 1 + 1, arr .i64 zp, 66)] ++ (ent (fF 11) ((if ((some undef : Option Value)).isSome = true then aggOf (fF 10) else arr .i64 ze)) 64)) := by rw [s11, s10]; exact hB'.put 3 rfl hk1 hb1
      exact hKF undef w1 ⟨j0, j1, j2, j3, j4, j5, j6, j7, j8, j9, j10, j11, hB1⟩
    exact LinAll.nil
  case ea1 =>
  intro fF ua1 hall hJF
  obtain ⟨j0, j1, j2, j3, j4, j5, j6, j7, j8, j9, j10, j11, hB⟩ := hJF
  obtain ⟨v0, h0⟩ := sE (hall 0 (by decide))
  obtain ⟨rfl, p0⟩ := j0 _ h0
  obtain ⟨v1, h1⟩ := sE (hall 1 (by decide))
  obtain ⟨rfl, p1⟩ := j1 _ h1
  obtain ⟨v2, h2⟩ := sE (hall 2 (by decide))
  obtain ⟨rfl, p2⟩ := j2 _ h2
  obtain ⟨v3, h3⟩ := sE (hall 3 (by decide))
  obtain ⟨rfl, p3⟩ := j3 _ h3
  obtain ⟨v4, h4⟩ := sE (hall 4 (by decide))
  obtain ⟨xa1_4, rfl, r4⟩ := j4 _ h4
  have Ra1_4 := Lib.hid r4
  have HLa1_4 := Lib.hid (r4.1)
  clear r4
  obtain ⟨v5, h5⟩ := sE (hall 5 (by decide))
  obtain ⟨rfl, p5⟩ := j5 _ h5
  obtain ⟨v6, h6⟩ := sE (hall 6 (by decide))
  obtain ⟨rfl, p6⟩ := j6 _ h6
  obtain ⟨v7, h7⟩ := sE (hall 7 (by decide))
  obtain ⟨rfl, p7⟩ := j7 _ h7
  obtain ⟨v8, h8⟩ := sE (hall 8 (by decide))
  obtain ⟨rfl, p8⟩ := j8 _ h8
  obtain ⟨v9, h9⟩ := sE (hall 9 (by decide))
  obtain ⟨xa1_9, rfl, r9⟩ := j9 _ h9
  have Ra1_9 := Lib.hid r9
  have HLa1_9 := Lib.hid (r9.1)
  clear r9
  obtain ⟨v10, h10⟩ := sE (hall 10 (by decide))
  obtain ⟨xa1_10, rfl, r10⟩ := j10 _ h10
  have Ra1_10 := Lib.hid r10
  have HLa1_10 := Lib.hid (r10.1)
  clear r10
  obtain ⟨v11, h11⟩ := sE (hall 11 (by decide))
  obtain ⟨ga1_3, rfl⟩ := j11 _ h11
  obtain ⟨v12, h12⟩ := sE (hall 12 (by decide))
  rw [h11, h12, h10] at hB
  have HBa1 : Hid (Blk w ua1 [(w.heap.size, arr .i64 ps, 66), (w.heap.size + 1, arr .i64 qs, 66), (w.heap.size + 1 + 1, arr .i64 zp, 66), (ga1_3, arr .i64 xa1_10, 64)]) := Lib.hid hB
  simp only [laid, Nat.zero_add, Nat.reduceAdd, h0, h1, h2, h3, h4, h5, h6, h7, h8, h9, h10, h11, h12, Act.put, sA, sZ, sS]
  clear j0 j1 j2 j3 j4 j5 j6 j7 j8 j9 j10 j11 hB h0 h1 h2 h3 h4 h5 h6 h7 h8 h9 h10 h11 h12 hall fF HS0
  clear p0 p1 p2 p3 p5 p6 p7 p8
  (try simp only [Exit.then])
  go_upto_region 2 with fail
  refine wp_region_lin (fun (fF : Fill) (uF : World) => (∀ v, fF 0 = some v → v = .pointer (some ⟨w.heap.size, 16, none⟩) ∧ True) ∧ (∀ v, fF 1 = some v → v = .agg (arr .i64 my) ∧ True) ∧ (∀ v, fF 2 = some v → v = .pointer (some ⟨w.heap.size, 0, none⟩) ∧ True) ∧ (∀ v, fF 3 = some v → v = .agg (arr .i64 mx) ∧ True) ∧ (∀ v, fF 4 = some v → ∃ zs : List Int, v = .agg (arr .i64 zs) ∧ El zs (fadd P.y P.x)) ∧ (∀ v, fF 5 = some v → v = .pointer (some ⟨w.heap.size + 1, 16, none⟩) ∧ True) ∧ (∀ v, fF 6 = some v → v = .agg (arr .i64 oy) ∧ True) ∧ (∀ v, fF 7 = some v → v = .pointer (some ⟨w.heap.size + 1, 0, none⟩) ∧ True) ∧ (∀ v, fF 8 = some v → v = .agg (arr .i64 ox) ∧ True) ∧ (∀ v, fF 9 = some v → ∃ zs : List Int, v = .agg (arr .i64 zs) ∧ El zs (fadd Q.y Q.x)) ∧ (∀ v, fF 10 = some v → ∃ zs : List Int, v = .agg (arr .i64 zs) ∧ El zs (fmul (fadd P.y P.x) (fadd Q.y Q.x))) ∧ (∀ v, fF 11 = some v → ∃ g : Nat, v = .pointer (some ⟨g, 0, none⟩)) ∧ Blk w uF ([(w.heap.size, arr .i64 ps, 66), (w.heap.size + 1, arr .i64 qs, 66), (w.heap.size + 1 + 1, arr .i64 zp, 66), (ga1_3, arr .i64 xa1_10, 64)] ++ (ent (fF 11) ((if (fF 12).isSome = true then aggOf (fF 10) else arr .i64 ze)) 64))) (by kernel_rfl) (by kernel_rfl) ?za2 ?sa2 ?ea2
  case za2 => exact ⟨fun _ h => (by cases h), fun _ h => (by cases h), fun _ h => (by cases h), fun _ h => (by cases h), fun _ h => (by cases h), fun _ h => (by cases h), fun _ h => (by cases h), fun _ h => (by cases h), fun _ h => (by cases h), fun _ h => (by cases h), fun _ h => (by cases h), fun _ h => (by cases h), HBa1.out.drew⟩
  case sa2 =>
    refine LinAll.cons (fun fF bF uF kF hJF hfF hcF hupF hsF hKF => ?_) ?_
    · obtain ⟨j0, j1, j2, j3, j4, j5, j6, j7, j8, j9, j10, j11, hB⟩ := hJF
      have e2 : bF.eval (.tmp 2) = .pointer (some ⟨w.heap.size, 0, none⟩) := hsF.old' 2 (by kernel_rfl) rfl
      exact lin_pure rfl (.pointer (some ⟨w.heap.size, 16, none⟩)) (by simp only [execOp, e2] <;> first | rfl | kernel_rfl | (go_simp; done)) (hKF _ _ ⟨fun _ h => ⟨sI h, trivial⟩, j1, j2, j3, j4, j5, j6, j7, j8, j9, j10, j11, hB⟩)
    refine LinAll.cons (fun fF bF uF kF hJF hfF hcF hupF hsF hKF => ?_) ?_
    · obtain ⟨j0, j1, j2, j3, j4, j5, j6, j7, j8, j9, j10, j11, hB⟩ := hJF
      obtain ⟨e24, p24⟩ := hsF.at hupF 0 24 (by kernel_rfl) rfl j0
      have hB' := hB
      refine step_load_part rfl 64 _ rfl (w.heap.size) (16) (arr .i64 ps) 66 (0, 0) _ (hB'.get 0 rfl) e24 .i64 my (HmP.out.2.1) Tryd.underlying64 rfl (el_i HmyL.out) ?_
      exact hKF _ _ ⟨j0, fun _ h => ⟨sI h, trivial⟩, j2, j3, j4, j5, j6, j7, j8, j9, j10, j11, hB⟩
    refine LinAll.cons (fun fF bF uF kF hJF hfF hcF hupF hsF hKF => ?_) ?_
    · obtain ⟨j0, j1, j2, j3, j4, j5, j6, j7, j8, j9, j10, j11, hB⟩ := hJF
      have e2 : bF.eval (.tmp 2) = .pointer (some ⟨w.heap.size, 0, none⟩) := hsF.old' 2 (by kernel_rfl) rfl
      exact lin_pure rfl (.pointer (some ⟨w.heap.size, 0, none⟩)) (by simp only [execOp, e2] <;> first | rfl | kernel_rfl | (go_simp; done)) (hKF _ _ ⟨j0, j1, fun _ h => ⟨sI h, trivial⟩, j3, j4, j5, j6, j7, j8, j9, j10, j11, hB⟩)
    refine LinAll.cons (fun fF bF uF kF hJF hfF hcF hupF hsF hKF => ?_) ?_
    · obtain ⟨j0, j1, j2, j3, j4, j5, j6, j7, j8, j9, j10, j11, hB⟩ := hJF
      obtain ⟨e26, p26⟩ := hsF.at hupF 2 26 (by kernel_rfl) rfl j2
      have hB' := hB
      refine step_load_part rfl 64 _ rfl (w.heap.size) (0) (arr .i64 ps) 66 (0, 0) _ (hB'.get 0 rfl) e26 .i64 mx (HmP.out.1) Tryd.underlying64 rfl (el_i HmxL.out) ?_
      exact hKF _ _ ⟨j0, j1, j2, fun _ h => ⟨sI h, trivial⟩, j4, j5, j6, j7, j8, j9, j10, j11, hB⟩
    refine LinAll.cons (fun fF bF uF kF hJF hfF hcF hupF hsF hKF => ?_) ?_
    · obtain ⟨j0, j1, j2, j3, j4, j5, j6, j7, j8, j9, j10, j11, hB⟩ := hJF
      obtain ⟨e25, p25⟩ := hsF.at hupF 1 25 (by kernel_rfl) rfl j1
      obtain ⟨e27, p27⟩ := hsF.at hupF 3 27 (by kernel_rfl) rfl j3
      refine lin_call rfl 87 [Operand.tmp 25, Operand.tmp 27] _ [.agg (arr .i64 my), .agg (arr .i64 mx)] rfl (by simp only [List.map_cons, List.map_nil, e25, e27] <;> rfl) (fun _ _ => by kernel_rfl) ?_
      refine Calls.mono (add_any _ _ _ _ _ Hmy.out Hmx.out) ?_
      rintro e w1 ⟨zq, rfl, rq, hb⟩
      exact ⟨_, rfl, hKF _ _ ⟨j0, j1, j2, j3, fun _ h => ⟨zq, sI h, rq⟩, j5, j6, j7, j8, j9, j10, j11, hB.kept hb⟩⟩
    refine LinAll.cons (fun fF bF uF kF hJF hfF hcF hupF hsF hKF => ?_) ?_
    · obtain ⟨j0, j1, j2, j3, j4, j5, j6, j7, j8, j9, j10, j11, hB⟩ := hJF
      have e3 : bF.eval (.tmp 3) = .pointer (some ⟨w.heap.size + 1, 0, none⟩) := hsF.old' 3 (by kernel_rfl) rfl
      exact lin_pure rfl (.pointer (some ⟨w.heap.size + 1, 16, none⟩)) (by simp only [execOp, e3] <;> first | rfl | kernel_rfl | (go_simp; done)) (hKF _ _ ⟨j0, j1, j2, j3, j4, fun _ h => ⟨sI h, trivial⟩, j6, j7, j8, j9, j10, j11, hB⟩)
    refine LinAll.cons (fun fF bF uF kF hJF hfF hcF hupF hsF hKF => ?_) ?_
    · obtain ⟨j0, j1, j2, j3, j4, j5, j6, j7, j8, j9, j10, j11, hB⟩ := hJF
      obtain ⟨e29, p29⟩ := hsF.at hupF 5 29 (by kernel_rfl) rfl j5
      have hB' := hB
      refine step_load_part rfl 64 _ rfl (w.heap.size + 1) (16) (arr .i64 qs) 66 (0, 0) _ (hB'.get 1 rfl) e29 .i64 oy (HoP.out.2.1) Tryd.underlying64 rfl (el_i HoyL.out) ?_
      exact hKF _ _ ⟨j0, j1, j2, j3, j4, j5, fun _ h => ⟨sI h, trivial⟩, j7, j8, j9, j10, j11, hB⟩
    refine LinAll.cons (fun fF bF uF kF hJF hfF hcF hupF hsF hKF => ?_) ?_
    · obtain ⟨j0, j1, j2, j3, j4, j5, j6, j7, j8, j9, j10, j11, hB⟩ := hJF
      have e3 : bF.eval (.tmp 3) = .pointer (some ⟨w.heap.size + 1, 0, none⟩) := hsF.old' 3 (by kernel_rfl) rfl
      exact lin_pure rfl (.pointer (some ⟨w.heap.size + 1, 0, none⟩)) (by simp only [execOp, e3] <;> first | rfl | kernel_rfl | (go_simp; done)) (hKF _ _ ⟨j0, j1, j2, j3, j4, j5, j6, fun _ h => ⟨sI h, trivial⟩, j8, j9, j10, j11, hB⟩)
    refine LinAll.cons (fun fF bF uF kF hJF hfF hcF hupF hsF hKF => ?_) ?_
    · obtain ⟨j0, j1, j2, j3, j4, j5, j6, j7, j8, j9, j10, j11, hB⟩ := hJF
      obtain ⟨e31, p31⟩ := hsF.at hupF 7 31 (by kernel_rfl) rfl j7
      have hB' := hB
      refine step_load_part rfl 64 _ rfl (w.heap.size + 1) (0) (arr .i64 qs) 66 (0, 0) _ (hB'.get 1 rfl) e31 .i64 ox (HoP.out.1) Tryd.underlying64 rfl (el_i HoxL.out) ?_
      exact hKF _ _ ⟨j0, j1, j2, j3, j4, j5, j6, j7, fun _ h => ⟨sI h, trivial⟩, j9, j10, j11, hB⟩
    refine LinAll.cons (fun fF bF uF kF hJF hfF hcF hupF hsF hKF => ?_) ?_
    · obtain ⟨j0, j1, j2, j3, j4, j5, j6, j7, j8, j9, j10, j11, hB⟩ := hJF
      obtain ⟨e30, p30⟩ := hsF.at hupF 6 30 (by kernel_rfl) rfl j6
      obtain ⟨e32, p32⟩ := hsF.at hupF 8 32 (by kernel_rfl) rfl j8
      refine lin_call rfl 87 [Operand.tmp 30, Operand.tmp 32] _ [.agg (arr .i64 oy), .agg (arr .i64 ox)] rfl (by simp only [List.map_cons, List.map_nil, e30, e32] <;> rfl) (fun _ _ => by kernel_rfl) ?_
      refine Calls.mono (add_any _ _ _ _ _ Hoy.out Hox.out) ?_
      rintro e w1 ⟨zq, rfl, rq, hb⟩
      exact ⟨_, rfl, hKF _ _ ⟨j0, j1, j2, j3, j4, j5, j6, j7, j8, fun _ h => ⟨zq, sI h, rq⟩, j10, j11, hB.kept hb⟩⟩
    refine LinAll.cons (fun fF bF uF kF hJF hfF hcF hupF hsF hKF => ?_) ?_
    · obtain ⟨j0, j1, j2, j3, j4, j5, j6, j7, j8, j9, j10, j11, hB⟩ := hJF
      have y4 := hupF 4 (by kernel_rfl)
      obtain ⟨v4, s4⟩ := sE y4
      obtain ⟨xa2_4, rfl, r4⟩ := j4 _ s4
      have Ra2_4 := Lib.hid r4
      have HLa2_4 := Lib.hid (r4.1)
      have e28 := hsF.val 4 28 rfl s4
      have y9 := hupF 9 (by kernel_rfl)
      obtain ⟨v9, s9⟩ := sE y9
      obtain ⟨xa2_9, rfl, r9⟩ := j9 _ s9
      have Ra2_9 := Lib.hid r9
      have HLa2_9 := Lib.hid (r9.1)
      have e33 := hsF.val 9 33 rfl s9
      refine lin_call rfl 68 [Operand.tmp 28, Operand.tmp 33] _ [.agg (arr .i64 xa2_4), .agg (arr .i64 xa2_9)] rfl (by simp only [List.map_cons, List.map_nil, e28, e33] <;> rfl) (fun _ _ => by kernel_rfl) ?_
      refine Calls.mono (mul_any _ _ _ _ _ Ra2_4.out Ra2_9.out) ?_
      rintro e w1 ⟨zq, rfl, rq, hb⟩
      have n12 := hcF.down 12 10 (by kernel_rfl) hfF
      exact ⟨_, rfl, hKF _ _ ⟨j0, j1, j2, j3, j4, j5, j6, j7, j8, j9, fun _ h => ⟨zq, sI h, rq⟩, j11, (by have h := hB.kept hb; rw [n12] at h; rw [upd_none n12]; exact h; decide)⟩⟩
    refine LinAll.cons (fun fF bF uF kF hJF hfF hcF hupF hsF hKF => ?_) ?_
    · obtain ⟨j0, j1, j2, j3, j4, j5, j6, j7, j8, j9, j10, j11, hB⟩ := hJF
      have n12 := hcF.down 12 11 (by kernel_rfl) hfF
      refine step_alloc_row rfl 64 rfl _ (HZze.out _) ?_
      have hB1 : Blk w (uF.alloc (.cells (arr .i64 ze) 64)) ([(w.heap.size, arr .i64 ps, 66), (w.heap.size + 1, arr .i64 qs, 66), (w.heap.size + 1 + 1, arr .i64 zp, 66), (ga1_3, arr .i64 xa1_10, 64)] ++ (ent ((some (.pointer (some ⟨uF.heap.size, 0, none⟩)) : Option Value)) ((if (fF 12).isSome = true then aggOf (fF 10) else arr .i64 ze)) 64)) := hB.ins (a := [(w.heap.size, arr .i64 ps, 66), (w.heap.size + 1, arr .i64 qs, 66), (w.heap.size + 1 + 1, arr .i64 zp, 66), (ga1_3, arr .i64 xa1_10, 64)]) (b := []) _ _ (by rw [hfF, n12]; simp only [ent_none, List.nil_append, List.append_nil, List.append_assoc, List.cons_append]) (by rw [n12]; simp only [ent_some, List.nil_append, List.append_nil, List.append_assoc, List.cons_append, Option.isSome_none, Bool.false_eq_true, if_false])
      exact hKF _ _ ⟨j0, j1, j2, j3, j4, j5, j6, j7, j8, j9, j10, fun _ h => ⟨_, sI h⟩, hB1⟩
    refine LinAll.cons (fun fF bF uF kF hJF hfF hcF hupF hsF hKF => ?_) ?_
    · obtain ⟨j0, j1, j2, j3, j4, j5, j6, j7, j8, j9, j10, j11, hB⟩ := hJF
      have y11 := hupF 11 (by kernel_rfl)
      obtain ⟨v11, s11⟩ := sE y11
      obtain ⟨ga2_4, rfl⟩ := j11 _ s11
      have e6 := hsF.val 11 6 rfl s11
      have y10 := hupF 10 (by kernel_rfl)
      obtain ⟨v10, s10⟩ := sE y10
      obtain ⟨xa2_10, rfl, r10⟩ := j10 _ s10
      have Ra2_10 := Lib.hid r10
      have HLa2_10 := Lib.hid (r10.1)
      have e34 := hsF.val 10 34 rfl s10
      have hB' := hB
      rw [s11, s10, hfF] at hB'
      refine step_store_whole rfl 64 (.tmp 6) (.tmp 34) rfl (ga2_4) (arr .i64 ze) _ 64 (hB'.get 4 rfl) e6 e34 (arr_len2 _ _ HLa2_10.out HLze.out) (el_s HLa2_10.out) (all_arr _ _) ?_
      intro w1 hb1 hk1 hz1
      have hB1 : Blk w w1 ([(w.heap.size, arr .i64 ps, 66), (w.heap.size + 1, arr .i64 qs, 66), (w.heap.size + 1 + 1, arr .i64 zp, 66), (ga1_3, arr .i64 xa1_10, 64)] ++ (ent (fF 11) ((if ((some undef : Option Value)).isSome = true then aggOf (fF 10) else arr .i64 ze)) 64)) := by rw [s11, s10]; exact hB'.put 4 rfl hk1 hb1
      exact hKF undef w1 ⟨j0, j1, j2, j3, j4, j5, j6, j7, j8, j9, j10, j11, hB1⟩
    exact LinAll.nil
  case ea2 =>
  intro fF ua2 hall hJF
  obtain ⟨j0, j1, j2, j3, j4, j5, j6, j7, j8, j9, j10, j11, hB⟩ := hJF
  obtain ⟨v0, h0⟩ := sE (hall 0 (by decide))
  obtain ⟨rfl, p0⟩ := j0 _ h0
  obtain ⟨v1, h1⟩ := sE (hall 1 (by decide))
  obtain ⟨rfl, p1⟩ := j1 _ h1
  obtain ⟨v2, h2⟩ := sE (hall 2 (by decide))
  obtain ⟨rfl, p2⟩ := j2 _ h2
  obtain ⟨v3, h3⟩ := sE (hall 3 (by decide))
  obtain ⟨rfl, p3⟩ := j3 _ h3
  obtain ⟨v4, h4⟩ := sE (hall 4 (by decide))
  obtain ⟨xa2_4, rfl, r4⟩ := j4 _ h4
  have Ra2_4 := Lib.hid r4
  have HLa2_4 := Lib.hid (r4.1)
  clear r4
  obtain ⟨v5, h5⟩ := sE (hall 5 (by decide))
  obtain ⟨rfl, p5⟩ := j5 _ h5
  obtain ⟨v6, h6⟩ := sE (hall 6 (by decide))
  obtain ⟨rfl, p6⟩ := j6 _ h6
  obtain ⟨v7, h7⟩ := sE (hall 7 (by decide))
  obtain ⟨rfl, p7⟩ := j7 _ h7
  obtain ⟨v8, h8⟩ := sE (hall 8 (by decide))
  obtain ⟨rfl, p8⟩ := j8 _ h8
  obtain ⟨v9, h9⟩ := sE (hall 9 (by decide))
  obtain ⟨xa2_9, rfl, r9⟩ := j9 _ h9
  have Ra2_9 := Lib.hid r9
  have HLa2_9 := Lib.hid (r9.1)
  clear r9
  obtain ⟨v10, h10⟩ := sE (hall 10 (by decide))
  obtain ⟨xa2_10, rfl, r10⟩ := j10 _ h10
  have Ra2_10 := Lib.hid r10
  have HLa2_10 := Lib.hid (r10.1)
  clear r10
  obtain ⟨v11, h11⟩ := sE (hall 11 (by decide))
  obtain ⟨ga2_4, rfl⟩ := j11 _ h11
  obtain ⟨v12, h12⟩ := sE (hall 12 (by decide))
  rw [h11, h12, h10] at hB
  have HBa2 : Hid (Blk w ua2 [(w.heap.size, arr .i64 ps, 66), (w.heap.size + 1, arr .i64 qs, 66), (w.heap.size + 1 + 1, arr .i64 zp, 66), (ga1_3, arr .i64 xa1_10, 64), (ga2_4, arr .i64 xa2_10, 64)]) := Lib.hid hB
  simp only [laid, Nat.zero_add, Nat.reduceAdd, h0, h1, h2, h3, h4, h5, h6, h7, h8, h9, h10, h11, h12, Act.put, sA, sZ, sS]
  clear j0 j1 j2 j3 j4 j5 j6 j7 j8 j9 j10 j11 hB h0 h1 h2 h3 h4 h5 h6 h7 h8 h9 h10 h11 h12 hall fF HBa1
  clear p0 p1 p2 p3 p5 p6 p7 p8
  (try simp only [Exit.then])
  go_upto_region 3 with fail
  refine wp_region_lin (fun (fF : Fill) (uF : World) => (∀ v, fF 0 = some v → v = .pointer (some ⟨w.heap.size, 48, none⟩) ∧ True) ∧ (∀ v, fF 1 = some v → v = .agg (arr .i64 mt) ∧ True) ∧ (∀ v, fF 2 = some v → v = .pointer (some ⟨w.heap.size + 1, 48, none⟩) ∧ True) ∧ (∀ v, fF 3 = some v → v = .agg (arr .i64 ot) ∧ True) ∧ (∀ v, fF 4 = some v → ∃ zs : List Int, v = .agg (arr .i64 zs) ∧ El zs (fmul P.t Q.t)) ∧ (∀ v, fF 5 = some v → v = .agg (arr .i64 dl) ∧ True) ∧ (∀ v, fF 6 = some v → v = .agg (arr .i64 dl) ∧ True) ∧ (∀ v, fF 7 = some v → ∃ zs : List Int, v = .agg (arr .i64 zs) ∧ El zs (fadd dd dd)) ∧ (∀ v, fF 8 = some v → ∃ zs : List Int, v = .agg (arr .i64 zs) ∧ El zs (fmul (fmul P.t Q.t) (fadd dd dd))) ∧ (∀ v, fF 9 = some v → ∃ g : Nat, v = .pointer (some ⟨g, 0, none⟩)) ∧ Blk w uF ([(w.heap.size, arr .i64 ps, 66), (w.heap.size + 1, arr .i64 qs, 66), (w.heap.size + 1 + 1, arr .i64 zp, 66), (ga1_3, arr .i64 xa1_10, 64), (ga2_4, arr .i64 xa2_10, 64)] ++ (ent (fF 9) ((if (fF 10).isSome = true then aggOf (fF 8) else arr .i64 ze)) 64))) (by kernel_rfl) (by kernel_rfl) ?za3 ?sa3 ?ea3
  case za3 => exact ⟨fun _ h => (by cases h), fun _ h => (by cases h), fun _ h => (by cases h), fun _ h => (by cases h), fun _ h => (by cases h), fun _ h => (by cases h), fun _ h => (by cases h), fun _ h => (by cases h), fun _ h => (by cases h), fun _ h => (by cases h), HBa2.out.drew⟩
  case sa3 =>
    refine LinAll.cons (fun fF bF uF kF hJF hfF hcF hupF hsF hKF => ?_) ?_
    · obtain ⟨j0, j1, j2, j3, j4, j5, j6, j7, j8, j9, hB⟩ := hJF
      have e2 : bF.eval (.tmp 2) = .pointer (some ⟨w.heap.size, 0, none⟩) := hsF.old' 2 (by kernel_rfl) rfl
      exact lin_pure rfl (.pointer (some ⟨w.heap.size, 48, none⟩)) (by simp only [execOp, e2] <;> first | rfl | kernel_rfl | (go_simp; done)) (hKF _ _ ⟨fun _ h => ⟨sI h, trivial⟩, j1, j2, j3, j4, j5, j6, j7, j8, j9, hB⟩)
    refine LinAll.cons (fun fF bF uF kF hJF hfF hcF hupF hsF hKF => ?_) ?_
    · obtain ⟨j0, j1, j2, j3, j4, j5, j6, j7, j8, j9, hB⟩ := hJF
      obtain ⟨e35, p35⟩ := hsF.at hupF 0 35 (by kernel_rfl) rfl j0
      have hB' := hB
      refine step_load_part rfl 64 _ rfl (w.heap.size) (48) (arr .i64 ps) 66 (0, 0) _ (hB'.get 0 rfl) e35 .i64 mt (HmP.out.2.2.2) Tryd.underlying64 rfl (el_i HmtL.out) ?_
      exact hKF _ _ ⟨j0, fun _ h => ⟨sI h, trivial⟩, j2, j3, j4, j5, j6, j7, j8, j9, hB⟩
    refine LinAll.cons (fun fF bF uF kF hJF hfF hcF hupF hsF hKF => ?_) ?_
    · obtain ⟨j0, j1, j2, j3, j4, j5, j6, j7, j8, j9, hB⟩ := hJF
      have e3 : bF.eval (.tmp 3) = .pointer (some ⟨w.heap.size + 1, 0, none⟩) := hsF.old' 3 (by kernel_rfl) rfl
      exact lin_pure rfl (.pointer (some ⟨w.heap.size + 1, 48, none⟩)) (by simp only [execOp, e3] <;> first | rfl | kernel_rfl | (go_simp; done)) (hKF _ _ ⟨j0, j1, fun _ h => ⟨sI h, trivial⟩, j3, j4, j5, j6, j7, j8, j9, hB⟩)
    refine LinAll.cons (fun fF bF uF kF hJF hfF hcF hupF hsF hKF => ?_) ?_
    · obtain ⟨j0, j1, j2, j3, j4, j5, j6, j7, j8, j9, hB⟩ := hJF
      obtain ⟨e37, p37⟩ := hsF.at hupF 2 37 (by kernel_rfl) rfl j2
      have hB' := hB
      refine step_load_part rfl 64 _ rfl (w.heap.size + 1) (48) (arr .i64 qs) 66 (0, 0) _ (hB'.get 1 rfl) e37 .i64 ot (HoP.out.2.2.2) Tryd.underlying64 rfl (el_i HotL.out) ?_
      exact hKF _ _ ⟨j0, j1, j2, fun _ h => ⟨sI h, trivial⟩, j4, j5, j6, j7, j8, j9, hB⟩
    refine LinAll.cons (fun fF bF uF kF hJF hfF hcF hupF hsF hKF => ?_) ?_
    · obtain ⟨j0, j1, j2, j3, j4, j5, j6, j7, j8, j9, hB⟩ := hJF
      obtain ⟨e36, p36⟩ := hsF.at hupF 1 36 (by kernel_rfl) rfl j1
      obtain ⟨e38, p38⟩ := hsF.at hupF 3 38 (by kernel_rfl) rfl j3
      refine lin_call rfl 68 [Operand.tmp 36, Operand.tmp 38] _ [.agg (arr .i64 mt), .agg (arr .i64 ot)] rfl (by simp only [List.map_cons, List.map_nil, e36, e38] <;> rfl) (fun _ _ => by kernel_rfl) ?_
      refine Calls.mono (mul_any _ _ _ _ _ Hmt.out Hot.out) ?_
      rintro e w1 ⟨zq, rfl, rq, hb⟩
      exact ⟨_, rfl, hKF _ _ ⟨j0, j1, j2, j3, fun _ h => ⟨zq, sI h, rq⟩, j5, j6, j7, j8, j9, hB.kept hb⟩⟩
    refine LinAll.cons (fun fF bF uF kF hJF hfF hcF hupF hsF hKF => ?_) ?_
    · obtain ⟨j0, j1, j2, j3, j4, j5, j6, j7, j8, j9, hB⟩ := hJF
      rw [if_pos (by simp [Region.wanted])]
      refine wp_load_mid 64 (.global 2) rfl 2 0 rfl (dl.map (Value.int .i64)) _ (range_below HT.out hB.below) Tryd.underlying64 rfl (by rw [List.length_map]; exact el_i HDL.out) ?_
      exact hKF _ _ ⟨j0, j1, j2, j3, j4, fun _ h => ⟨sI h, trivial⟩, j6, j7, j8, j9, hB⟩
    refine LinAll.cons (fun fF bF uF kF hJF hfF hcF hupF hsF hKF => ?_) ?_
    · obtain ⟨j0, j1, j2, j3, j4, j5, j6, j7, j8, j9, hB⟩ := hJF
      rw [if_pos (by simp [Region.wanted])]
      refine wp_load_mid 64 (.global 2) rfl 2 0 rfl (dl.map (Value.int .i64)) _ (range_below HT.out hB.below) Tryd.underlying64 rfl (by rw [List.length_map]; exact el_i HDL.out) ?_
      exact hKF _ _ ⟨j0, j1, j2, j3, j4, j5, fun _ h => ⟨sI h, trivial⟩, j7, j8, j9, hB⟩
    refine LinAll.cons (fun fF bF uF kF hJF hfF hcF hupF hsF hKF => ?_) ?_
    · obtain ⟨j0, j1, j2, j3, j4, j5, j6, j7, j8, j9, hB⟩ := hJF
      obtain ⟨e40, p40⟩ := hsF.at hupF 5 40 (by kernel_rfl) rfl j5
      obtain ⟨e41, p41⟩ := hsF.at hupF 6 41 (by kernel_rfl) rfl j6
      refine lin_call rfl 87 [Operand.tmp 40, Operand.tmp 41] _ [.agg (arr .i64 dl), .agg (arr .i64 dl)] rfl (by simp only [List.map_cons, List.map_nil, e40, e41] <;> rfl) (fun _ _ => by kernel_rfl) ?_
      refine Calls.mono (add_any _ _ _ _ _ HD.out HD.out) ?_
      rintro e w1 ⟨zq, rfl, rq, hb⟩
      exact ⟨_, rfl, hKF _ _ ⟨j0, j1, j2, j3, j4, j5, j6, fun _ h => ⟨zq, sI h, rq⟩, j8, j9, hB.kept hb⟩⟩
    refine LinAll.cons (fun fF bF uF kF hJF hfF hcF hupF hsF hKF => ?_) ?_
    · obtain ⟨j0, j1, j2, j3, j4, j5, j6, j7, j8, j9, hB⟩ := hJF
      have y4 := hupF 4 (by kernel_rfl)
      obtain ⟨v4, s4⟩ := sE y4
      obtain ⟨xa3_4, rfl, r4⟩ := j4 _ s4
      have Ra3_4 := Lib.hid r4
      have HLa3_4 := Lib.hid (r4.1)
      have e39 := hsF.val 4 39 rfl s4
      have y7 := hupF 7 (by kernel_rfl)
      obtain ⟨v7, s7⟩ := sE y7
      obtain ⟨xa3_7, rfl, r7⟩ := j7 _ s7
      have Ra3_7 := Lib.hid r7
      have HLa3_7 := Lib.hid (r7.1)
      have e42 := hsF.val 7 42 rfl s7
      refine lin_call rfl 68 [Operand.tmp 39, Operand.tmp 42] _ [.agg (arr .i64 xa3_4), .agg (arr .i64 xa3_7)] rfl (by simp only [List.map_cons, List.map_nil, e39, e42] <;> rfl) (fun _ _ => by kernel_rfl) ?_
      refine Calls.mono (mul_any _ _ _ _ _ Ra3_4.out Ra3_7.out) ?_
      rintro e w1 ⟨zq, rfl, rq, hb⟩
      have n10 := hcF.down 10 8 (by kernel_rfl) hfF
      exact ⟨_, rfl, hKF _ _ ⟨j0, j1, j2, j3, j4, j5, j6, j7, fun _ h => ⟨zq, sI h, rq⟩, j9, (by have h := hB.kept hb; rw [n10] at h; rw [upd_none n10]; exact h; decide)⟩⟩
    refine LinAll.cons (fun fF bF uF kF hJF hfF hcF hupF hsF hKF => ?_) ?_
    · obtain ⟨j0, j1, j2, j3, j4, j5, j6, j7, j8, j9, hB⟩ := hJF
      have n10 := hcF.down 10 9 (by kernel_rfl) hfF
      refine step_alloc_row rfl 64 rfl _ (HZze.out _) ?_
      have hB1 : Blk w (uF.alloc (.cells (arr .i64 ze) 64)) ([(w.heap.size, arr .i64 ps, 66), (w.heap.size + 1, arr .i64 qs, 66), (w.heap.size + 1 + 1, arr .i64 zp, 66), (ga1_3, arr .i64 xa1_10, 64), (ga2_4, arr .i64 xa2_10, 64)] ++ (ent ((some (.pointer (some ⟨uF.heap.size, 0, none⟩)) : Option Value)) ((if (fF 10).isSome = true then aggOf (fF 8) else arr .i64 ze)) 64)) := hB.ins (a := [(w.heap.size, arr .i64 ps, 66), (w.heap.size + 1, arr .i64 qs, 66), (w.heap.size + 1 + 1, arr .i64 zp, 66), (ga1_3, arr .i64 xa1_10, 64), (ga2_4, arr .i64 xa2_10, 64)]) (b := []) _ _ (by rw [hfF, n10]; simp only [ent_none, List.nil_append, List.append_nil, List.append_assoc, List.cons_append]) (by rw [n10]; simp only [ent_some, List.nil_append, List.append_nil, List.append_assoc, List.cons_append, Option.isSome_none, Bool.false_eq_true, if_false])
      exact hKF _ _ ⟨j0, j1, j2, j3, j4, j5, j6, j7, j8, fun _ h => ⟨_, sI h⟩, hB1⟩
    refine LinAll.cons (fun fF bF uF kF hJF hfF hcF hupF hsF hKF => ?_) ?_
    · obtain ⟨j0, j1, j2, j3, j4, j5, j6, j7, j8, j9, hB⟩ := hJF
      have y9 := hupF 9 (by kernel_rfl)
      obtain ⟨v9, s9⟩ := sE y9
      obtain ⟨ga3_5, rfl⟩ := j9 _ s9
      have e7 := hsF.val 9 7 rfl s9
      have y8 := hupF 8 (by kernel_rfl)
      obtain ⟨v8, s8⟩ := sE y8
      obtain ⟨xa3_8, rfl, r8⟩ := j8 _ s8
      have Ra3_8 := Lib.hid r8
      have HLa3_8 := Lib.hid (r8.1)
      have e43 := hsF.val 8 43 rfl s8
      have hB' := hB
      rw [s9, s8, hfF] at hB'
      refine step_store_whole rfl 64 (.tmp 7) (.tmp 43) rfl (ga3_5) (arr .i64 ze) _ 64 (hB'.get 5 rfl) e7 e43 (arr_len2 _ _ HLa3_8.out HLze.out) (el_s HLa3_8.out) (all_arr _ _) ?_
      intro w1 hb1 hk1 hz1
      have hB1 : Blk w w1 ([(w.heap.size, arr .i64 ps, 66), (w.heap.size + 1, arr .i64 qs, 66), (w.heap.size + 1 + 1, arr .i64 zp, 66), (ga1_3, arr .i64 xa1_10, 64), (ga2_4, arr .i64 xa2_10, 64)] ++ (ent (fF 9) ((if ((some undef : Option Value)).isSome = true then aggOf (fF 8) else arr .i64 ze)) 64)) := by rw [s9, s8]; exact hB'.put 5 rfl hk1 hb1
      exact hKF undef w1 ⟨j0, j1, j2, j3, j4, j5, j6, j7, j8, j9, hB1⟩
    exact LinAll.nil
  case ea3 =>
  intro fF ua3 hall hJF
  obtain ⟨j0, j1, j2, j3, j4, j5, j6, j7, j8, j9, hB⟩ := hJF
  obtain ⟨v0, h0⟩ := sE (hall 0 (by decide))
  obtain ⟨rfl, p0⟩ := j0 _ h0
  obtain ⟨v1, h1⟩ := sE (hall 1 (by decide))
  obtain ⟨rfl, p1⟩ := j1 _ h1
  obtain ⟨v2, h2⟩ := sE (hall 2 (by decide))
  obtain ⟨rfl, p2⟩ := j2 _ h2
  obtain ⟨v3, h3⟩ := sE (hall 3 (by decide))
  obtain ⟨rfl, p3⟩ := j3 _ h3
  obtain ⟨v4, h4⟩ := sE (hall 4 (by decide))
  obtain ⟨xa3_4, rfl, r4⟩ := j4 _ h4
  have Ra3_4 := Lib.hid r4
  have HLa3_4 := Lib.hid (r4.1)
  clear r4
  obtain ⟨v5, h5⟩ := sE (hall 5 (by decide))
  obtain ⟨rfl, p5⟩ := j5 _ h5
  obtain ⟨v6, h6⟩ := sE (hall 6 (by decide))
  obtain ⟨rfl, p6⟩ := j6 _ h6
  obtain ⟨v7, h7⟩ := sE (hall 7 (by decide))
  obtain ⟨xa3_7, rfl, r7⟩ := j7 _ h7
  have Ra3_7 := Lib.hid r7
  have HLa3_7 := Lib.hid (r7.1)
  clear r7
  obtain ⟨v8, h8⟩ := sE (hall 8 (by decide))
  obtain ⟨xa3_8, rfl, r8⟩ := j8 _ h8
  have Ra3_8 := Lib.hid r8
  have HLa3_8 := Lib.hid (r8.1)
  clear r8
  obtain ⟨v9, h9⟩ := sE (hall 9 (by decide))
  obtain ⟨ga3_5, rfl⟩ := j9 _ h9
  obtain ⟨v10, h10⟩ := sE (hall 10 (by decide))
  rw [h9, h10, h8] at hB
  have HBa3 : Hid (Blk w ua3 [(w.heap.size, arr .i64 ps, 66), (w.heap.size + 1, arr .i64 qs, 66), (w.heap.size + 1 + 1, arr .i64 zp, 66), (ga1_3, arr .i64 xa1_10, 64), (ga2_4, arr .i64 xa2_10, 64), (ga3_5, arr .i64 xa3_8, 64)]) := Lib.hid hB
  simp only [laid, Nat.zero_add, Nat.reduceAdd, h0, h1, h2, h3, h4, h5, h6, h7, h8, h9, h10, Act.put, sA, sZ, sS]
  clear j0 j1 j2 j3 j4 j5 j6 j7 j8 j9 hB h0 h1 h2 h3 h4 h5 h6 h7 h8 h9 h10 hall fF HBa2
  clear p0 p1 p2 p3 p5 p6
  (try simp only [Exit.then])
  go_upto_region 5 with (first | ((with_reducible refine aS 45 ?_); refine wpList_load_part rfl 64 _ rfl (w.heap.size) (32) _ 66 (0, 0) _ (HBa3.out.get 0 rfl) rfl .i64 mz (HmP.out.2.2.1) Tryd.underlying64 rfl (el_i HmzL.out) ?_) | ((with_reducible refine aS 47 ?_); refine wpList_load_part rfl 64 _ rfl (w.heap.size + 1) (32) _ 66 (0, 0) _ (HBa3.out.get 1 rfl) rfl .i64 oz (HoP.out.2.2.1) Tryd.underlying64 rfl (el_i HozL.out) ?_) | ((with_reducible show Calls _ 68 #[.agg _, .agg _] _ _); go_at_call 68; refine (mul_any _ _ _ _ _ Hmz.out Hoz.out).mono ?_; rintro e w101 ⟨z101, rfl, h101, hb101⟩; have HZ101 := Lib.hid h101; have HL101 := Lib.hid h101.1; clear h101; have HB101 := Lib.hid (HBa3.out.kept hb101); clear hb101) | ((with_reducible refine aS 8 ?_); refine wpList_alloc_row rfl 64 rfl _ (HZze.out _) ?_; have HB102 := Lib.hid (HB101.out.alloc (arr .i64 ze) 64); generalize w101.heap.size = g102 at HB102 ⊢; generalize w101.alloc (.cells (arr .i64 ze) 64) = w102 at HB102 ⊢; clear HB101) | ((with_reducible refine aT 8 (x := (Operand.tmp 48)) ?_); refine wpList_store_whole rfl 64 _ _ rfl (g102) _ _ 64 (HB102.out.get 6 rfl) rfl rfl (arr_len2 _ _ HL101.out HLze.out) (el_s HL101.out) (all_arr _ _) ?_; intro w103 hb103 hk103 hz103; have HB103 := Lib.hid (HB102.out.put 6 rfl hk103 hb103); clear hb103 hk103 hz103; clear HB102))
  go_upto_region 6 with (first | ((with_reducible refine aS 49 ?_); refine wpList_load_part rfl 64 _ rfl (g102) (0) _ 64 (0, 0) _ (HB103.out.get 6 rfl) rfl .i64 z101 (arr_part _ _) Tryd.underlying64 rfl (el_i HL101.out) ?_) | ((with_reducible refine aS 50 ?_); refine wpList_load_part rfl 64 _ rfl (g102) (0) _ 64 (0, 0) _ (HB103.out.get 6 rfl) rfl .i64 z101 (arr_part _ _) Tryd.underlying64 rfl (el_i HL101.out) ?_) | ((with_reducible show Calls _ 87 #[.agg _, .agg _] _ _); go_at_call 87; refine (add_any _ _ _ _ _ HZ101.out HZ101.out).mono ?_; rintro e w104 ⟨z104, rfl, h104, hb104⟩; have HZ104 := Lib.hid h104; have HL104 := Lib.hid h104.1; clear h104; have HB104 := Lib.hid (HB103.out.kept hb104); clear hb104; clear HB103) | ((with_reducible refine aT 8 (x := (Operand.tmp 51)) ?_); refine wpList_store_whole rfl 64 _ _ rfl (g102) _ _ 64 (HB104.out.get 6 rfl) rfl rfl (arr_len2 _ _ HL104.out HL101.out) (el_s HL104.out) (all_arr _ _) ?_; intro w105 hb105 hk105 hz105; have HB105 := Lib.hid (HB104.out.put 6 rfl hk105 hb105); clear hb105 hk105 hz105; clear HB104))
  go_upto_region 7 with (first | ((with_reducible refine aS 52 ?_); refine wpList_load_part rfl 64 _ rfl (ga2_4) (0) _ 64 (0, 0) _ (HB105.out.get 4 rfl) rfl .i64 xa2_10 (arr_part _ _) Tryd.underlying64 rfl (el_i HLa2_10.out) ?_) | ((with_reducible refine aS 53 ?_); refine wpList_load_part rfl 64 _ rfl (ga1_3) (0) _ 64 (0, 0) _ (HB105.out.get 3 rfl) rfl .i64 xa1_10 (arr_part _ _) Tryd.underlying64 rfl (el_i HLa1_10.out) ?_) | ((with_reducible show Calls _ 86 #[.agg _, .agg _] _ _); go_at_call 86; refine (sub_any _ _ _ _ _ Ra2_10.out Ra1_10.out).mono ?_; rintro e w106 ⟨z106, rfl, h106, hb106⟩; have HZ106 := Lib.hid h106; have HL106 := Lib.hid h106.1; clear h106; have HB106 := Lib.hid (HB105.out.kept hb106); clear hb106; clear HB105) | ((with_reducible refine aS 9 ?_); refine wpList_alloc_row rfl 64 rfl _ (HZze.out _) ?_; have HB107 := Lib.hid (HB106.out.alloc (arr .i64 ze) 64); generalize w106.heap.size = g107 at HB107 ⊢; generalize w106.alloc (.cells (arr .i64 ze) 64) = w107 at HB107 ⊢; clear HB106) | ((with_reducible refine aT 9 (x := (Operand.tmp 54)) ?_); refine wpList_store_whole rfl 64 _ _ rfl (g107) _ _ 64 (HB107.out.get 7 rfl) rfl rfl (arr_len2 _ _ HL106.out HLze.out) (el_s HL106.out) (all_arr _ _) ?_; intro w108 hb108 hk108 hz108; have HB108 := Lib.hid (HB107.out.put 7 rfl hk108 hb108); clear hb108 hk108 hz108; clear HB107))
  go_upto_region 8 with (first | ((with_reducible refine aS 55 ?_); refine wpList_load_part rfl 64 _ rfl (g102) (0) _ 64 (0, 0) _ (HB108.out.get 6 rfl) rfl .i64 z104 (arr_part _ _) Tryd.underlying64 rfl (el_i HL104.out) ?_) | ((with_reducible refine aS 56 ?_); refine wpList_load_part rfl 64 _ rfl (ga3_5) (0) _ 64 (0, 0) _ (HB108.out.get 5 rfl) rfl .i64 xa3_8 (arr_part _ _) Tryd.underlying64 rfl (el_i HLa3_8.out) ?_) | ((with_reducible show Calls _ 86 #[.agg _, .agg _] _ _); go_at_call 86; refine (sub_any _ _ _ _ _ HZ104.out Ra3_8.out).mono ?_; rintro e w109 ⟨z109, rfl, h109, hb109⟩; have HZ109 := Lib.hid h109; have HL109 := Lib.hid h109.1; clear h109; have HB109 := Lib.hid (HB108.out.kept hb109); clear hb109; clear HB108) | ((with_reducible refine aS 10 ?_); refine wpList_alloc_row rfl 64 rfl _ (HZze.out _) ?_; have HB110 := Lib.hid (HB109.out.alloc (arr .i64 ze) 64); generalize w109.heap.size = g110 at HB110 ⊢; generalize w109.alloc (.cells (arr .i64 ze) 64) = w110 at HB110 ⊢; clear HB109) | ((with_reducible refine aT 10 (x := (Operand.tmp 57)) ?_); refine wpList_store_whole rfl 64 _ _ rfl (g110) _ _ 64 (HB110.out.get 8 rfl) rfl rfl (arr_len2 _ _ HL109.out HLze.out) (el_s HL109.out) (all_arr _ _) ?_; intro w111 hb111 hk111 hz111; have HB111 := Lib.hid (HB110.out.put 8 rfl hk111 hb111); clear hb111 hk111 hz111; clear HB110))
  go_upto_region 9 with (first | ((with_reducible refine aS 58 ?_); refine wpList_load_part rfl 64 _ rfl (g102) (0) _ 64 (0, 0) _ (HB111.out.get 6 rfl) rfl .i64 z104 (arr_part _ _) Tryd.underlying64 rfl (el_i HL104.out) ?_) | ((with_reducible refine aS 59 ?_); refine wpList_load_part rfl 64 _ rfl (ga3_5) (0) _ 64 (0, 0) _ (HB111.out.get 5 rfl) rfl .i64 xa3_8 (arr_part _ _) Tryd.underlying64 rfl (el_i HLa3_8.out) ?_) | ((with_reducible show Calls _ 87 #[.agg _, .agg _] _ _); go_at_call 87; refine (add_any _ _ _ _ _ HZ104.out Ra3_8.out).mono ?_; rintro e w112 ⟨z112, rfl, h112, hb112⟩; have HZ112 := Lib.hid h112; have HL112 := Lib.hid h112.1; clear h112; have HB112 := Lib.hid (HB111.out.kept hb112); clear hb112; clear HB111) | ((with_reducible refine aS 11 ?_); refine wpList_alloc_row rfl 64 rfl _ (HZze.out _) ?_; have HB113 := Lib.hid (HB112.out.alloc (arr .i64 ze) 64); generalize w112.heap.size = g113 at HB113 ⊢; generalize w112.alloc (.cells (arr .i64 ze) 64) = w113 at HB113 ⊢; clear HB112) | ((with_reducible refine aT 11 (x := (Operand.tmp 60)) ?_); refine wpList_store_whole rfl 64 _ _ rfl (g113) _ _ 64 (HB113.out.get 9 rfl) rfl rfl (arr_len2 _ _ HL112.out HLze.out) (el_s HL112.out) (all_arr _ _) ?_; intro w114 hb114 hk114 hz114; have HB114 := Lib.hid (HB113.out.put 9 rfl hk114 hb114); clear hb114 hk114 hz114; clear HB113))
  go_upto_region 10 with (first | ((with_reducible refine aS 61 ?_); refine wpList_load_part rfl 64 _ rfl (ga2_4) (0) _ 64 (0, 0) _ (HB114.out.get 4 rfl) rfl .i64 xa2_10 (arr_part _ _) Tryd.underlying64 rfl (el_i HLa2_10.out) ?_) | ((with_reducible refine aS 62 ?_); refine wpList_load_part rfl 64 _ rfl (ga1_3) (0) _ 64 (0, 0) _ (HB114.out.get 3 rfl) rfl .i64 xa1_10 (arr_part _ _) Tryd.underlying64 rfl (el_i HLa1_10.out) ?_) | ((with_reducible show Calls _ 87 #[.agg _, .agg _] _ _); go_at_call 87; refine (add_any _ _ _ _ _ Ra2_10.out Ra1_10.out).mono ?_; rintro e w115 ⟨z115, rfl, h115, hb115⟩; have HZ115 := Lib.hid h115; have HL115 := Lib.hid h115.1; clear h115; have HB115 := Lib.hid (HB114.out.kept hb115); clear hb115; clear HB114) | ((with_reducible refine aS 12 ?_); refine wpList_alloc_row rfl 64 rfl _ (HZze.out _) ?_; have HB116 := Lib.hid (HB115.out.alloc (arr .i64 ze) 64); generalize w115.heap.size = g116 at HB116 ⊢; generalize w115.alloc (.cells (arr .i64 ze) 64) = w116 at HB116 ⊢; clear HB115) | ((with_reducible refine aT 12 (x := (Operand.tmp 63)) ?_); refine wpList_store_whole rfl 64 _ _ rfl (g116) _ _ 64 (HB116.out.get 10 rfl) rfl rfl (arr_len2 _ _ HL115.out HLze.out) (el_s HL115.out) (all_arr _ _) ?_; intro w117 hb117 hk117 hz117; have HB117 := Lib.hid (HB116.out.put 10 rfl hk117 hb117); clear hb117 hk117 hz117; clear HB116))
  refine wp_region_lin (fun (fF : Fill) (uF : World) => (∀ v, fF 0 = some v → v = .agg (arr .i64 z106) ∧ True) ∧ (∀ v, fF 1 = some v → v = .agg (arr .i64 z109) ∧ True) ∧ (∀ v, fF 2 = some v → ∃ zs : List Int, v = .agg (arr .i64 zs) ∧ El zs (fmul (fsub (fmul (fadd P.y P.x) (fadd Q.y Q.x)) (fmul (fsub P.y P.x) (fsub Q.y Q.x))) (fsub (fadd (fmul P.z Q.z) (fmul P.z Q.z)) (fmul (fmul P.t Q.t) (fadd dd dd))))) ∧ (∀ v, fF 3 = some v → v = .agg (arr .i64 z115) ∧ True) ∧ (∀ v, fF 4 = some v → v = .agg (arr .i64 z112) ∧ True) ∧ (∀ v, fF 5 = some v → ∃ zs : List Int, v = .agg (arr .i64 zs) ∧ El zs (fmul (fadd (fmul (fadd P.y P.x) (fadd Q.y Q.x)) (fmul (fsub P.y P.x) (fsub Q.y Q.x))) (fadd (fadd (fmul P.z Q.z) (fmul P.z Q.z)) (fmul (fmul P.t Q.t) (fadd dd dd))))) ∧ (∀ v, fF 6 = some v → v = .agg (arr .i64 z109) ∧ True) ∧ (∀ v, fF 7 = some v → v = .agg (arr .i64 z112) ∧ True) ∧ (∀ v, fF 8 = some v → ∃ zs : List Int, v = .agg (arr .i64 zs) ∧ El zs (fmul (fsub (fadd (fmul P.z Q.z) (fmul P.z Q.z)) (fmul (fmul P.t Q.t) (fadd dd dd))) (fadd (fadd (fmul P.z Q.z) (fmul P.z Q.z)) (fmul (fmul P.t Q.t) (fadd dd dd))))) ∧ (∀ v, fF 9 = some v → v = .agg (arr .i64 z106) ∧ True) ∧ (∀ v, fF 10 = some v → v = .agg (arr .i64 z115) ∧ True) ∧ (∀ v, fF 11 = some v → ∃ zs : List Int, v = .agg (arr .i64 zs) ∧ El zs (fmul (fsub (fmul (fadd P.y P.x) (fadd Q.y Q.x)) (fmul (fsub P.y P.x) (fsub Q.y Q.x))) (fadd (fmul (fadd P.y P.x) (fadd Q.y Q.x)) (fmul (fsub P.y P.x) (fsub Q.y Q.x))))) ∧ (∀ v, fF 12 = some v → ∃ zs : List Int, v = .agg (arr .i64 zs) ∧ PtEl zs (⟨(fmul (fsub (fmul (fadd P.y P.x) (fadd Q.y Q.x)) (fmul (fsub P.y P.x) (fsub Q.y Q.x))) (fsub (fadd (fmul P.z Q.z) (fmul P.z Q.z)) (fmul (fmul P.t Q.t) (fadd dd dd)))), (fmul (fadd (fmul (fadd P.y P.x) (fadd Q.y Q.x)) (fmul (fsub P.y P.x) (fsub Q.y Q.x))) (fadd (fadd (fmul P.z Q.z) (fmul P.z Q.z)) (fmul (fmul P.t Q.t) (fadd dd dd)))), (fmul (fsub (fadd (fmul P.z Q.z) (fmul P.z Q.z)) (fmul (fmul P.t Q.t) (fadd dd dd))) (fadd (fadd (fmul P.z Q.z) (fmul P.z Q.z)) (fmul (fmul P.t Q.t) (fadd dd dd)))), (fmul (fsub (fmul (fadd P.y P.x) (fadd Q.y Q.x)) (fmul (fsub P.y P.x) (fsub Q.y Q.x))) (fadd (fmul (fadd P.y P.x) (fadd Q.y Q.x)) (fmul (fsub P.y P.x) (fsub Q.y Q.x))))⟩ : Pt)) ∧ Blk w uF ([(w.heap.size, arr .i64 ps, 66), (w.heap.size + 1, arr .i64 qs, 66), (w.heap.size + 1 + 1, (if (fF 13).isSome = true then aggOf (fF 12) else arr .i64 zp), 66), (ga1_3, arr .i64 xa1_10, 64), (ga2_4, arr .i64 xa2_10, 64), (ga3_5, arr .i64 xa3_8, 64), (g102, arr .i64 z104, 64), (g107, arr .i64 z106, 64), (g110, arr .i64 z109, 64), (g113, arr .i64 z112, 64), (g116, arr .i64 z115, 64)])) (by kernel_rfl) (by kernel_rfl) ?za10 ?sa10 ?ea10
  case za10 => exact ⟨fun _ h => (by cases h), fun _ h => (by cases h), fun _ h => (by cases h), fun _ h => (by cases h), fun _ h => (by cases h), fun _ h => (by cases h), fun _ h => (by cases h), fun _ h => (by cases h), fun _ h => (by cases h), fun _ h => (by cases h), fun _ h => (by cases h), fun _ h => (by cases h), fun _ h => (by cases h), HB117.out.drew⟩
  case sa10 =>
    refine LinAll.cons (fun fF bF uF kF hJF hfF hcF hupF hsF hKF => ?_) ?_
    · obtain ⟨j0, j1, j2, j3, j4, j5, j6, j7, j8, j9, j10, j11, j12, hB⟩ := hJF
      have e9 : bF.eval (.tmp 9) = .pointer (some ⟨g107, 0, none⟩) := hsF.old' 9 (by kernel_rfl) rfl
      have hB' := hB
      refine step_load_part rfl 64 _ rfl (g107) (0) (arr .i64 z106) 64 (0, 0) _ (hB'.get 7 rfl) e9 .i64 z106 (arr_part _ _) Tryd.underlying64 rfl (el_i HL106.out) ?_
      exact hKF _ _ ⟨fun _ h => ⟨sI h, trivial⟩, j1, j2, j3, j4, j5, j6, j7, j8, j9, j10, j11, j12, hB⟩
    refine LinAll.cons (fun fF bF uF kF hJF hfF hcF hupF hsF hKF => ?_) ?_
    · obtain ⟨j0, j1, j2, j3, j4, j5, j6, j7, j8, j9, j10, j11, j12, hB⟩ := hJF
      have e10 : bF.eval (.tmp 10) = .pointer (some ⟨g110, 0, none⟩) := hsF.old' 10 (by kernel_rfl) rfl
      have hB' := hB
      refine step_load_part rfl 64 _ rfl (g110) (0) (arr .i64 z109) 64 (0, 0) _ (hB'.get 8 rfl) e10 .i64 z109 (arr_part _ _) Tryd.underlying64 rfl (el_i HL109.out) ?_
      exact hKF _ _ ⟨j0, fun _ h => ⟨sI h, trivial⟩, j2, j3, j4, j5, j6, j7, j8, j9, j10, j11, j12, hB⟩
    refine LinAll.cons (fun fF bF uF kF hJF hfF hcF hupF hsF hKF => ?_) ?_
    · obtain ⟨j0, j1, j2, j3, j4, j5, j6, j7, j8, j9, j10, j11, j12, hB⟩ := hJF
      obtain ⟨e64, p64⟩ := hsF.at hupF 0 64 (by kernel_rfl) rfl j0
      obtain ⟨e65, p65⟩ := hsF.at hupF 1 65 (by kernel_rfl) rfl j1
      refine lin_call rfl 68 [Operand.tmp 64, Operand.tmp 65] _ [.agg (arr .i64 z106), .agg (arr .i64 z109)] rfl (by simp only [List.map_cons, List.map_nil, e64, e65] <;> rfl) (fun _ _ => by kernel_rfl) ?_
      refine Calls.mono (mul_any _ _ _ _ _ HZ106.out HZ109.out) ?_
      rintro e w1 ⟨zq, rfl, rq, hb⟩
      exact ⟨_, rfl, hKF _ _ ⟨j0, j1, fun _ h => ⟨zq, sI h, rq⟩, j3, j4, j5, j6, j7, j8, j9, j10, j11, j12, hB.kept hb⟩⟩
    refine LinAll.cons (fun fF bF uF kF hJF hfF hcF hupF hsF hKF => ?_) ?_
    · obtain ⟨j0, j1, j2, j3, j4, j5, j6, j7, j8, j9, j10, j11, j12, hB⟩ := hJF
      have e12 : bF.eval (.tmp 12) = .pointer (some ⟨g116, 0, none⟩) := hsF.old' 12 (by kernel_rfl) rfl
      have hB' := hB
      refine step_load_part rfl 64 _ rfl (g116) (0) (arr .i64 z115) 64 (0, 0) _ (hB'.get 10 rfl) e12 .i64 z115 (arr_part _ _) Tryd.underlying64 rfl (el_i HL115.out) ?_
      exact hKF _ _ ⟨j0, j1, j2, fun _ h => ⟨sI h, trivial⟩, j4, j5, j6, j7, j8, j9, j10, j11, j12, hB⟩
    refine LinAll.cons (fun fF bF uF kF hJF hfF hcF hupF hsF hKF => ?_) ?_
    · obtain ⟨j0, j1, j2, j3, j4, j5, j6, j7, j8, j9, j10, j11, j12, hB⟩ := hJF
      have e11 : bF.eval (.tmp 11) = .pointer (some ⟨g113, 0, none⟩) := hsF.old' 11 (by kernel_rfl) rfl
      have hB' := hB
      refine step_load_part rfl 64 _ rfl (g113) (0) (arr .i64 z112) 64 (0, 0) _ (hB'.get 9 rfl) e11 .i64 z112 (arr_part _ _) Tryd.underlying64 rfl (el_i HL112.out) ?_
      exact hKF _ _ ⟨j0, j1, j2, j3, fun _ h => ⟨sI h, trivial⟩, j5, j6, j7, j8, j9, j10, j11, j12, hB⟩
    refine LinAll.cons (fun fF bF uF kF hJF hfF hcF hupF hsF hKF => ?_) ?_
    · obtain ⟨j0, j1, j2, j3, j4, j5, j6, j7, j8, j9, j10, j11, j12, hB⟩ := hJF
      obtain ⟨e67, p67⟩ := hsF.at hupF 3 67 (by kernel_rfl) rfl j3
      obtain ⟨e68, p68⟩ := hsF.at hupF 4 68 (by kernel_rfl) rfl j4
      refine lin_call rfl 68 [Operand.tmp 67, Operand.tmp 68] _ [.agg (arr .i64 z115), .agg (arr .i64 z112)] rfl (by simp only [List.map_cons, List.map_nil, e67, e68] <;> rfl) (fun _ _ => by kernel_rfl) ?_
      refine Calls.mono (mul_any _ _ _ _ _ HZ115.out HZ112.out) ?_
      rintro e w1 ⟨zq, rfl, rq, hb⟩
      exact ⟨_, rfl, hKF _ _ ⟨j0, j1, j2, j3, j4, fun _ h => ⟨zq, sI h, rq⟩, j6, j7, j8, j9, j10, j11, j12, hB.kept hb⟩⟩
    refine LinAll.cons (fun fF bF uF kF hJF hfF hcF hupF hsF hKF => ?_) ?_
    · obtain ⟨j0, j1, j2, j3, j4, j5, j6, j7, j8, j9, j10, j11, j12, hB⟩ := hJF
      have e10 : bF.eval (.tmp 10) = .pointer (some ⟨g110, 0, none⟩) := hsF.old' 10 (by kernel_rfl) rfl
      have hB' := hB
      refine step_load_part rfl 64 _ rfl (g110) (0) (arr .i64 z109) 64 (0, 0) _ (hB'.get 8 rfl) e10 .i64 z109 (arr_part _ _) Tryd.underlying64 rfl (el_i HL109.out) ?_
      exact hKF _ _ ⟨j0, j1, j2, j3, j4, j5, fun _ h => ⟨sI h, trivial⟩, j7, j8, j9, j10, j11, j12, hB⟩
    refine LinAll.cons (fun fF bF uF kF hJF hfF hcF hupF hsF hKF => ?_) ?_
    · obtain ⟨j0, j1, j2, j3, j4, j5, j6, j7, j8, j9, j10, j11, j12, hB⟩ := hJF
      have e11 : bF.eval (.tmp 11) = .pointer (some ⟨g113, 0, none⟩) := hsF.old' 11 (by kernel_rfl) rfl
      have hB' := hB
      refine step_load_part rfl 64 _ rfl (g113) (0) (arr .i64 z112) 64 (0, 0) _ (hB'.get 9 rfl) e11 .i64 z112 (arr_part _ _) Tryd.underlying64 rfl (el_i HL112.out) ?_
      exact hKF _ _ ⟨j0, j1, j2, j3, j4, j5, j6, fun _ h => ⟨sI h, trivial⟩, j8, j9, j10, j11, j12, hB⟩
    refine LinAll.cons (fun fF bF uF kF hJF hfF hcF hupF hsF hKF => ?_) ?_
    · obtain ⟨j0, j1, j2, j3, j4, j5, j6, j7, j8, j9, j10, j11, j12, hB⟩ := hJF
      obtain ⟨e70, p70⟩ := hsF.at hupF 6 70 (by kernel_rfl) rfl j6
      obtain ⟨e71, p71⟩ := hsF.at hupF 7 71 (by kernel_rfl) rfl j7
      refine lin_call rfl 68 [Operand.tmp 70, Operand.tmp 71] _ [.agg (arr .i64 z109), .agg (arr .i64 z112)] rfl (by simp only [List.map_cons, List.map_nil, e70, e71] <;> rfl) (fun _ _ => by kernel_rfl) ?_
      refine Calls.mono (mul_any _ _ _ _ _ HZ109.out HZ112.out) ?_
      rintro e w1 ⟨zq, rfl, rq, hb⟩
      exact ⟨_, rfl, hKF _ _ ⟨j0, j1, j2, j3, j4, j5, j6, j7, fun _ h => ⟨zq, sI h, rq⟩, j9, j10, j11, j12, hB.kept hb⟩⟩
    refine LinAll.cons (fun fF bF uF kF hJF hfF hcF hupF hsF hKF => ?_) ?_
    · obtain ⟨j0, j1, j2, j3, j4, j5, j6, j7, j8, j9, j10, j11, j12, hB⟩ := hJF
      have e9 : bF.eval (.tmp 9) = .pointer (some ⟨g107, 0, none⟩) := hsF.old' 9 (by kernel_rfl) rfl
      have hB' := hB
      refine step_load_part rfl 64 _ rfl (g107) (0) (arr .i64 z106) 64 (0, 0) _ (hB'.get 7 rfl) e9 .i64 z106 (arr_part _ _) Tryd.underlying64 rfl (el_i HL106.out) ?_
      exact hKF _ _ ⟨j0, j1, j2, j3, j4, j5, j6, j7, j8, fun _ h => ⟨sI h, trivial⟩, j10, j11, j12, hB⟩
    refine LinAll.cons (fun fF bF uF kF hJF hfF hcF hupF hsF hKF => ?_) ?_
    · obtain ⟨j0, j1, j2, j3, j4, j5, j6, j7, j8, j9, j10, j11, j12, hB⟩ := hJF
      have e12 : bF.eval (.tmp 12) = .pointer (some ⟨g116, 0, none⟩) := hsF.old' 12 (by kernel_rfl) rfl
      have hB' := hB
      refine step_load_part rfl 64 _ rfl (g116) (0) (arr .i64 z115) 64 (0, 0) _ (hB'.get 10 rfl) e12 .i64 z115 (arr_part _ _) Tryd.underlying64 rfl (el_i HL115.out) ?_
      exact hKF _ _ ⟨j0, j1, j2, j3, j4, j5, j6, j7, j8, j9, fun _ h => ⟨sI h, trivial⟩, j11, j12, hB⟩
    refine LinAll.cons (fun fF bF uF kF hJF hfF hcF hupF hsF hKF => ?_) ?_
    · obtain ⟨j0, j1, j2, j3, j4, j5, j6, j7, j8, j9, j10, j11, j12, hB⟩ := hJF
      obtain ⟨e73, p73⟩ := hsF.at hupF 9 73 (by kernel_rfl) rfl j9
      obtain ⟨e74, p74⟩ := hsF.at hupF 10 74 (by kernel_rfl) rfl j10
      refine lin_call rfl 68 [Operand.tmp 73, Operand.tmp 74] _ [.agg (arr .i64 z106), .agg (arr .i64 z115)] rfl (by simp only [List.map_cons, List.map_nil, e73, e74] <;> rfl) (fun _ _ => by kernel_rfl) ?_
      refine Calls.mono (mul_any _ _ _ _ _ HZ106.out HZ115.out) ?_
      rintro e w1 ⟨zq, rfl, rq, hb⟩
      exact ⟨_, rfl, hKF _ _ ⟨j0, j1, j2, j3, j4, j5, j6, j7, j8, j9, j10, fun _ h => ⟨zq, sI h, rq⟩, j12, hB.kept hb⟩⟩
    refine LinAll.cons (fun fF bF uF kF hJF hfF hcF hupF hsF hKF => ?_) ?_
    · obtain ⟨j0, j1, j2, j3, j4, j5, j6, j7, j8, j9, j10, j11, j12, hB⟩ := hJF
      have y2 := hupF 2 (by kernel_rfl)
      obtain ⟨v2, s2⟩ := sE y2
      obtain ⟨xa10_2, rfl, r2⟩ := j2 _ s2
      have Ra10_2 := Lib.hid r2
      have HLa10_2 := Lib.hid (r2.1)
      have e66 := hsF.val 2 66 rfl s2
      have y5 := hupF 5 (by kernel_rfl)
      obtain ⟨v5, s5⟩ := sE y5
      obtain ⟨xa10_5, rfl, r5⟩ := j5 _ s5
      have Ra10_5 := Lib.hid r5
      have HLa10_5 := Lib.hid (r5.1)
      have e69 := hsF.val 5 69 rfl s5
      have y8 := hupF 8 (by kernel_rfl)
      obtain ⟨v8, s8⟩ := sE y8
      obtain ⟨xa10_8, rfl, r8⟩ := j8 _ s8
      have Ra10_8 := Lib.hid r8
      have HLa10_8 := Lib.hid (r8.1)
      have e72 := hsF.val 8 72 rfl s8
      have y11 := hupF 11 (by kernel_rfl)
      obtain ⟨v11, s11⟩ := sE y11
      obtain ⟨xa10_11, rfl, r11⟩ := j11 _ s11
      have Ra10_11 := Lib.hid r11
      have HLa10_11 := Lib.hid (r11.1)
      have e75 := hsF.val 11 75 rfl s11
      have n13 := hcF.down 13 12 (by kernel_rfl) hfF
      exact lin_pure rfl (.agg (arr .i64 (xa10_2 ++ xa10_5 ++ xa10_8 ++ xa10_11))) (exec_build_l 66 _ rfl #[(0, .agg (arr .i64 xa10_2)), (1, .agg (arr .i64 xa10_5)), (2, .agg (arr .i64 xa10_8)), (3, .agg (arr .i64 xa10_11))] (by simp only [List.map_cons, List.map_nil, e66, e69, e72, e75] <;> rfl) _ (build_pt _ _ _ _ HLa10_2.out HLa10_5.out HLa10_8.out HLa10_11.out _)) (hKF _ _ ⟨j0, j1, j2, j3, j4, j5, j6, j7, j8, j9, j10, j11, fun _ h => ⟨xa10_2 ++ xa10_5 ++ xa10_8 ++ xa10_11, sI h, ⟨_, _, _, _, rfl, Ra10_2.out, Ra10_5.out, Ra10_8.out, Ra10_11.out⟩⟩, (by have h := hB; rw [n13] at h; rw [upd_none n13]; exact h; decide)⟩)
    refine LinAll.cons (fun fF bF uF kF hJF hfF hcF hupF hsF hKF => ?_) ?_
    · obtain ⟨j0, j1, j2, j3, j4, j5, j6, j7, j8, j9, j10, j11, j12, hB⟩ := hJF
      have e4 : bF.eval (.tmp 4) = .pointer (some ⟨w.heap.size + 1 + 1, 0, none⟩) := hsF.old' 4 (by kernel_rfl) rfl
      have y12 := hupF 12 (by kernel_rfl)
      obtain ⟨v12, s12⟩ := sE y12
      obtain ⟨xa10_12, rfl, r12⟩ := j12 _ s12
      have Ra10_12 := Lib.hid r12
      have HLa10_12 := Lib.hid (r12.len)
      have e76 := hsF.val 12 76 rfl s12
      have hB' := hB
      rw [s12, hfF] at hB'
      refine step_store_whole rfl 66 (.tmp 4) (.tmp 76) rfl (w.heap.size + 1 + 1) (arr .i64 zp) _ 66 (hB'.get 2 rfl) e4 e76 (arr_len2 _ _ HLa10_12.out HLzp.out) (pt_s HLa10_12.out) (all_arr _ _) ?_
      intro w1 hb1 hk1 hz1
      have hB1 : Blk w w1 ([(w.heap.size, arr .i64 ps, 66), (w.heap.size + 1, arr .i64 qs, 66), (w.heap.size + 1 + 1, (if ((some undef : Option Value)).isSome = true then aggOf (fF 12) else arr .i64 zp), 66), (ga1_3, arr .i64 xa1_10, 64), (ga2_4, arr .i64 xa2_10, 64), (ga3_5, arr .i64 xa3_8, 64), (g102, arr .i64 z104, 64), (g107, arr .i64 z106, 64), (g110, arr .i64 z109, 64), (g113, arr .i64 z112, 64), (g116, arr .i64 z115, 64)]) := by rw [s12]; exact hB'.put 2 rfl hk1 hb1
      exact hKF undef w1 ⟨j0, j1, j2, j3, j4, j5, j6, j7, j8, j9, j10, j11, j12, hB1⟩
    exact LinAll.nil
  case ea10 =>
  intro fF ua10 hall hJF
  obtain ⟨j0, j1, j2, j3, j4, j5, j6, j7, j8, j9, j10, j11, j12, hB⟩ := hJF
  obtain ⟨v0, h0⟩ := sE (hall 0 (by decide))
  obtain ⟨rfl, p0⟩ := j0 _ h0
  obtain ⟨v1, h1⟩ := sE (hall 1 (by decide))
  obtain ⟨rfl, p1⟩ := j1 _ h1
  obtain ⟨v2, h2⟩ := sE (hall 2 (by decide))
  obtain ⟨xa10_2, rfl, r2⟩ := j2 _ h2
  have Ra10_2 := Lib.hid r2
  have HLa10_2 := Lib.hid (r2.1)
  clear r2
  obtain ⟨v3, h3⟩ := sE (hall 3 (by decide))
  obtain ⟨rfl, p3⟩ := j3 _ h3
  obtain ⟨v4, h4⟩ := sE (hall 4 (by decide))
  obtain ⟨rfl, p4⟩ := j4 _ h4
  obtain ⟨v5, h5⟩ := sE (hall 5 (by decide))
  obtain ⟨xa10_5, rfl, r5⟩ := j5 _ h5
  have Ra10_5 := Lib.hid r5
  have HLa10_5 := Lib.hid (r5.1)
  clear r5
  obtain ⟨v6, h6⟩ := sE (hall 6 (by decide))
  obtain ⟨rfl, p6⟩ := j6 _ h6
  obtain ⟨v7, h7⟩ := sE (hall 7 (by decide))
  obtain ⟨rfl, p7⟩ := j7 _ h7
  obtain ⟨v8, h8⟩ := sE (hall 8 (by decide))
  obtain ⟨xa10_8, rfl, r8⟩ := j8 _ h8
  have Ra10_8 := Lib.hid r8
  have HLa10_8 := Lib.hid (r8.1)
  clear r8
  obtain ⟨v9, h9⟩ := sE (hall 9 (by decide))
  obtain ⟨rfl, p9⟩ := j9 _ h9
  obtain ⟨v10, h10⟩ := sE (hall 10 (by decide))
  obtain ⟨rfl, p10⟩ := j10 _ h10
  obtain ⟨v11, h11⟩ := sE (hall 11 (by decide))
  obtain ⟨xa10_11, rfl, r11⟩ := j11 _ h11
  have Ra10_11 := Lib.hid r11
  have HLa10_11 := Lib.hid (r11.1)
  clear r11
  obtain ⟨v12, h12⟩ := sE (hall 12 (by decide))
  obtain ⟨xa10_12, rfl, r12⟩ := j12 _ h12
  have Ra10_12 := Lib.hid r12
  have HLa10_12 := Lib.hid (r12.len)
  clear r12
  obtain ⟨v13, h13⟩ := sE (hall 13 (by decide))
  rw [h13, h12] at hB
  have HBa10 : Hid (Blk w ua10 [(w.heap.size, arr .i64 ps, 66), (w.heap.size + 1, arr .i64 qs, 66), (w.heap.size + 1 + 1, arr .i64 xa10_12, 66), (ga1_3, arr .i64 xa1_10, 64), (ga2_4, arr .i64 xa2_10, 64), (ga3_5, arr .i64 xa3_8, 64), (g102, arr .i64 z104, 64), (g107, arr .i64 z106, 64), (g110, arr .i64 z109, 64), (g113, arr .i64 z112, 64), (g116, arr .i64 z115, 64)]) := Lib.hid hB
  simp only [laid, Nat.zero_add, Nat.reduceAdd, h0, h1, h2, h3, h4, h5, h6, h7, h8, h9, h10, h11, h12, h13, Act.put, sA, sZ, sS]
  clear j0 j1 j2 j3 j4 j5 j6 j7 j8 j9 j10 j11 j12 hB h0 h1 h2 h3 h4 h5 h6 h7 h8 h9 h10 h11 h12 h13 hall fF HB117
  clear p0 p1 p3 p4 p6 p7 p9 p10
  (try simp only [Exit.then])
  go_wp2_with fail
  refine bodyPost_ret (results_cell_row rfl _ _ (w.heap.size + 1 + 1) 66 _ (0, 0) _ rfl (HBa10.out.get 2 rfl) Tryd.underlying66 rfl (pt_s HLa10_12.out)) rfl ?_
  refine ⟨_, rfl, ?_, HBa10.out.below⟩
  obtain ⟨x, y, z, t, e, h1, h2, h3, h4⟩ := Ra10_12.out
  refine ⟨x, y, z, t, e, ?_, ?_, ?_, h4⟩
  · have := h1; rw [mul_dd, mul_two] at this; exact this
  · have := h2
    rw [mul_dd, mul_two, fmul_comm (fadd (fmul (fadd P.y P.x) (fadd Q.y Q.x)) (fmul (fsub P.y P.x) (fsub Q.y Q.x)))] at this
    exact this
  · have := h3; rw [mul_dd, mul_two] at this; exact this
end Go.Proofs.YtanjhngehfbpbaaDoor.Rd
