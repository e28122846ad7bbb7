/- curve.factor, base, none, point.add: what they answer. Condition: numbers below p. -/
import Derived.Test.YtanjhngehfbpbaaDoorLdB
namespace Go.Proofs.YtanjhngehfbpbaaDoor.Sl
open Go.RowKit Lm Fp Cu Rd
set_option linter.unusedSimpArgs false

theorem zero_cpt (w : World) : (zeroValue 58).run Tryd.prog w = .ok (.agg (arr .u64 (List.replicate 16 0))) w := by kernel_rfl
theorem size_cpt : (Tryd.prog.info? 58).map (·.size) = some 16 := by kernel_rfl
theorem cpt_s {xs : List Int} (h : xs.length = 16) : (Tryd.prog.info? 58).map (·.size) = some (arr .u64 xs).size := by rw [arr_size, h]; exact size_cpt
theorem cpt_i {xs : List Int} (h : xs.length = 16) : (Tryd.prog.info? 58).map (·.size) = some xs.length := by rw [h]; exact size_cpt
theorem cpt_len {a b c d : List Int} (ha : a.length = 4) (hb : b.length = 4) (hc : c.length = 4) (hd : d.length = 4) : (a ++ b ++ c ++ d).length = 16 := by simp [ha, hb, hc, hd]
theorem four_part4 (k : IntKind) (a b c d : List Int) (n : Nat) (ha : a.length = n) (hb : b.length = n) (hc : c.length = n) (hd : d.length = n) :
    ((arr k (a ++ b ++ c ++ d)).toList.drop 0).take a.length = a.map (Value.int k) ∧ ((arr k (a ++ b ++ c ++ d)).toList.drop n).take b.length = b.map (Value.int k) ∧
    ((arr k (a ++ b ++ c ++ d)).toList.drop (n + n)).take c.length = c.map (Value.int k) ∧ ((arr k (a ++ b ++ c ++ d)).toList.drop (n + n + n)).take d.length = d.map (Value.int k) := by
  have e : a ++ b ++ c ++ d = a ++ (b ++ (c ++ d)) := by simp only [List.append_assoc]
  have _ := hd
  rw [e]
  exact four_part k a b c d n ha hb hc
theorem build_cpt (a b c d : List Int) (ha : a.length = 4) (hb : b.length = 4) (hc : c.length = 4) (hd : d.length = 4) (w : World) :
    (Instr.build 58 #[(0, .agg (arr .u64 a)), (1, .agg (arr .u64 b)), (2, .agg (arr .u64 c)), (3, .agg (arr .u64 d))]).run Tryd.prog w = .ok (.agg (arr .u64 (a ++ b ++ c ++ d))) w := by
  obtain ⟨a0, a1, a2, a3, rfl⟩ : ∃ x y z t, a = [x, y, z, t] := by match a, ha with | [x, y, z, t], _ => exact ⟨x, y, z, t, rfl⟩
  obtain ⟨b0, b1, b2, b3, rfl⟩ : ∃ x y z t, b = [x, y, z, t] := by match b, hb with | [x, y, z, t], _ => exact ⟨x, y, z, t, rfl⟩
  obtain ⟨c0, c1, c2, c3, rfl⟩ : ∃ x y z t, c = [x, y, z, t] := by match c, hc with | [x, y, z, t], _ => exact ⟨x, y, z, t, rfl⟩
  obtain ⟨d0, d1, d2, d3, rfl⟩ : ∃ x y z t, d = [x, y, z, t] := by match d, hd with | [x, y, z, t], _ => exact ⟨x, y, z, t, rfl⟩
  kernel_rfl
/-- The limbs of a point. -/
def ptl (P : Pt) : List Int := nar (dig 18446744073709551616 4 P.x) ++ nar (dig 18446744073709551616 4 P.y) ++ nar (dig 18446744073709551616 4 P.z) ++ nar (dig 18446744073709551616 4 P.t)
theorem ptl_len (P : Pt) : (ptl P).length = 16 := cpt_len ((nar_len _).trans (dig_len _ _ _)) ((nar_len _).trans (dig_len _ _ _)) ((nar_len _).trans (dig_len _ _ _)) ((nar_len _).trans (dig_len _ _ _))
def P4 (ps : List Int) (P : Pt) : Prop := ps = ptl P ∧ P.Ok
theorem P4.len {ps : List Int} {P : Pt} (h : P4 ps P) : ps.length = 16 := by rw [h.1]; exact ptl_len P
theorem P4.cast {ps : List Int} {P Q : Pt} (h : P4 ps P) (e : P = Q) : P4 ps Q := e ▸ h
theorem p_lt4 : p < 18446744073709551616 ^ 4 := by decide +kernel
theorem n4_lt {a : Nat} (h : a < p) : N4 (nar (dig 18446744073709551616 4 a)) a := n4_of a (Nat.lt_trans h p_lt4)
theorem P4.parts {ps : List Int} {P : Pt} (h : P4 ps P) : ∃ x y z t, ps = x ++ y ++ z ++ t ∧ N4 x P.x ∧ N4 y P.y ∧ N4 z P.z ∧ N4 t P.t ∧ P.Ok := ⟨_, _, _, _, h.1, n4_lt h.2.x, n4_lt h.2.y, n4_lt h.2.z, n4_lt h.2.t, h.2⟩
theorem P4.of {x y z t : List Int} {P : Pt} (hx : N4 x P.x) (hy : N4 y P.y) (hz : N4 z P.z) (ht : N4 t P.t) (h : P.Ok) : P4 (x ++ y ++ z ++ t) P := ⟨by rw [hx.1, hy.1, hz.1, ht.1]; rfl, h⟩
theorem dd_lt : dd < p := by decide +kernel
theorem build_dd (w : World) : (Instr.build 56 #[(0, .int .u64 8496970652267935907), (1, .int .u64 31536524315187371), (2, .int .u64 10144147576115030168), (3, .int .u64 5909686906226998899)]).run Tryd.prog w = .ok (.agg (arr .u64 (nar (dig 18446744073709551616 4 dd)))) w := by kernel_rfl
theorem build_bx (w : World) : (Instr.build 56 #[(0, .int .u64 14507833142362363162), (1, .int .u64 7578651490590762930), (2, .int .u64 13881468655802702940), (3, .int .u64 2407515759118799870)]).run Tryd.prog w = .ok (.agg (arr .u64 (nar (dig 18446744073709551616 4 bx)))) w := by kernel_rfl
theorem build_by (w : World) : (Instr.build 56 #[(0, .int .u64 7378697629483820632), (1, .int .u64 7378697629483820646), (2, .int .u64 7378697629483820646), (3, .int .u64 7378697629483820646)]).run Tryd.prog w = .ok (.agg (arr .u64 (nar (dig 18446744073709551616 4 bY)))) w := by kernel_rfl

set_option maxRecDepth 100000 in
set_option maxHeartbeats 4000000 in
theorem factor_any (w : World) : Calls Tryd.prog 74 #[] w fun e w' => ∃ zs, e = .returned (.agg (arr .u64 zs)) ∧ N4 zs dd ∧ Below w.heap.size w w' := by
  have hbd := fun w => build_dd w
  have hd := n4_lt dd_lt
  obtain ⟨dl, hdl⟩ : ∃ x, x = nar (dig 18446744073709551616 4 dd) := ⟨_, rfl⟩
  rw [← hdl] at hbd hd
  have HBD := Lib.hid hbd
  have HD := Lib.hid hd
  have HDL := Lib.hid hd.len
  obtain ⟨zl, hzl⟩ : ∃ zs : List Int, zs = List.replicate 4 0 := ⟨_, rfl⟩
  have HZzl : Hid (∀ w, (zeroValue 56).run Tryd.prog w = .ok (.agg (arr .u64 zl)) w) := Lib.hid (by intro w; rw [hzl]; exact zero_lim w)
  have HLzl : Hid (zl.length = 4) := Lib.hid (by rw [hzl]; rfl)
  have HS0 := Lib.hid (Blk.one w (arr .u64 zl) 56)
  clear hzl hbd hd hdl
  go_enter Tryd.func74, Tryd.ntmps74
  go_wp2_with (first | ((with_reducible refine aS 0 ?_); refine wpList_alloc_row rfl 56 rfl _ (HZzl.out _) ?_) | ((with_reducible refine aS 1 ?_); refine wpList_build (by rfl) 56 _ rfl #[(0, .int .u64 8496970652267935907), (1, .int .u64 31536524315187371), (2, .int .u64 10144147576115030168), (3, .int .u64 5909686906226998899)] rfl _ (HBD.out _) ?_) | ((with_reducible refine aT 0 ?_); refine wpList_store_whole rfl 56 _ _ rfl (w.heap.size) _ _ 56 (HS0.out.get 0 rfl) rfl rfl (arr_len2 _ _ HDL.out HLzl.out) (lim_s HDL.out) (all_arr _ _) ?_; intro w7 hb7 hk7 hz7; have HB7 := Lib.hid (HS0.out.put 0 rfl hk7 hb7); clear hb7 hk7 hz7))
  (try simp only [Exit.then])
  refine bodyPost_ret (results_cell_row rfl _ _ (w.heap.size) 56 _ (0, 0) _ rfl (HB7.out.get 0 rfl) Tryd.underlying56 rfl (lim_s HDL.out)) rfl ?_
  exact ⟨_, rfl, HD.out, HB7.out.below⟩

set_option maxRecDepth 100000 in
set_option maxHeartbeats 16000000 in
theorem padd_any {ps qs : List Int} (P Q : Pt) (w : World) (hp : P4 ps P) (hq : P4 qs Q) : Calls Tryd.prog 42 #[.agg (arr .u64 ps), .agg (arr .u64 qs)] w fun e w' => ∃ zs, e = .returned (.agg (arr .u64 zs)) ∧ P4 zs (eadd P Q) ∧ Below w.heap.size w w' := by
  obtain ⟨mx, my, mz, mt, hme, hmx, hmy, hmz, hmt, hmok⟩ := hp.parts
  have Hmx := Lib.hid hmx
  have HmxL := Lib.hid hmx.len
  have Hmy := Lib.hid hmy
  have HmyL := Lib.hid hmy.len
  have Hmz := Lib.hid hmz
  have HmzL := Lib.hid hmz.len
  have Hmt := Lib.hid hmt
  have HmtL := Lib.hid hmt.len
  have HmW := Lib.hid hp.len
  have Hmok := Lib.hid hmok
  have hmP := four_part4 .u64 mx my mz mt 4 hmx.len hmy.len hmz.len hmt.len
  rw [← hme] at hmP
  have HmP := Lib.hid hmP
  clear hmx hmy hmz hmt hme hmP hmok
  obtain ⟨ox, oy, oz, ot, hoe, hox, hoy, hoz, hot, hook⟩ := hq.parts
  have Hox := Lib.hid hox
  have HoxL := Lib.hid hox.len
  have Hoy := Lib.hid hoy
  have HoyL := Lib.hid hoy.len
  have Hoz := Lib.hid hoz
  have HozL := Lib.hid hoz.len
  have Hot := Lib.hid hot
  have HotL := Lib.hid hot.len
  have HoW := Lib.hid hq.len
  have Hook := Lib.hid hook
  have hoP := four_part4 .u64 ox oy oz ot 4 hox.len hoy.len hoz.len hot.len
  rw [← hoe] at hoP
  have HoP := Lib.hid hoP
  clear hox hoy hoz hot hoe hoP hook
  obtain ⟨zl, hzl⟩ : ∃ zs : List Int, zs = List.replicate 4 0 := ⟨_, rfl⟩
  have HZzl : Hid (∀ w, (zeroValue 56).run Tryd.prog w = .ok (.agg (arr .u64 zl)) w) := Lib.hid (by intro w; rw [hzl]; exact zero_lim w)
  have HLzl : Hid (zl.length = 4) := Lib.hid (by rw [hzl]; rfl)
  obtain ⟨zp, hzp⟩ : ∃ zs : List Int, zs = List.replicate 16 0 := ⟨_, rfl⟩
  have HZzp : Hid (∀ w, (zeroValue 58).run Tryd.prog w = .ok (.agg (arr .u64 zp)) w) := Lib.hid (by intro w; rw [hzp]; exact zero_cpt w)
  have HLzp : Hid (zp.length = 16) := Lib.hid (by rw [hzp]; rfl)
  have hk1 : N4 [(1 : Int), 0, 0, 0] 1 := n4_small 1 (by decide)
  have hbk1 := fun w => build_raw 1 w
  obtain ⟨k1, hk1e⟩ : ∃ b : List Int, b = [(1 : Int), 0, 0, 0] := ⟨_, rfl⟩
  rw [← hk1e] at hk1 hbk1
  have HK1 := Lib.hid hk1
  have HK1L := Lib.hid hk1.len
  have HBK1 := Lib.hid hbk1
  have hk0 : N4 [(0 : Int), 0, 0, 0] 0 := n4_small 0 (by decide)
  have hbk0 := fun w => build_no w
  obtain ⟨k0, hk0e⟩ : ∃ b : List Int, b = [(0 : Int), 0, 0, 0] := ⟨_, rfl⟩
  rw [← hk0e] at hk0 hbk0
  have HK0 := Lib.hid hk0
  have HK0L := Lib.hid hk0.len
  have HBK0 := Lib.hid hbk0
  clear hk1 hbk1 hk1e hk0 hbk0 hk0e
  have HS0 := Lib.hid (Blk.three w (arr .u64 ps) (arr .u64 qs) (arr .u64 zp) 58 58 58)
  clear hzl hzp hp hq
  go_enter Tryd.func42, Tryd.ntmps42
  go_upto_region 1 with (first | ((with_reducible refine aS 4 ?_); refine wpList_alloc_row rfl 58 rfl _ (HZzp.out _) ?_))
  (try simp only [World.size_alloc, Act.put, sA, sZ, sS])
  generalize (((w.alloc (.cells (arr .u64 ps) 58)).alloc (.cells (arr .u64 qs) 58)).alloc (.cells (arr .u64 zp) 58)) = wb at HS0 ⊢
  go_upto_region 2 with (first | ((with_reducible show Calls _ 74 #[] _ _); go_at_call 74; refine (factor_any _).mono ?_; rintro e w3201 ⟨z3201, rfl, h3201, hb3201⟩; have HZ3201 := Lib.hid h3201; have HL3201 := Lib.hid h3201.len; clear h3201; have HB3201 := Lib.hid (HS0.out.kept hb3201); clear hb3201) | ((with_reducible refine aS 5 ?_); refine wpList_alloc_row rfl 56 rfl _ (HZzl.out _) ?_; have HB3202 := Lib.hid (HB3201.out.alloc (arr .u64 zl) 56); generalize w3201.heap.size = g3202 at HB3202 ⊢; generalize w3201.alloc (.cells (arr .u64 zl) 56) = w3202 at HB3202 ⊢; clear HB3201) | ((with_reducible refine aT 5 (x := (Operand.tmp 14)) ?_); refine wpList_store_whole rfl 56 _ _ rfl (g3202) _ _ 56 (HB3202.out.get 3 rfl) rfl rfl (arr_len2 _ _ HL3201.out HLzl.out) (lim_s HL3201.out) (all_arr _ _) ?_; intro w3203 hb3203 hk3203 hz3203; have HB3203 := Lib.hid (HB3202.out.put 3 rfl hk3203 hb3203); clear hb3203 hk3203 hz3203; clear HB3202))
  (try simp only [World.size_alloc, Act.put, sA, sZ, sS])
  obtain ⟨z5001, hz5001⟩ : ∃ z : List Int, z = nar (dig 18446744073709551616 4 (fsub P.y P.x)) := ⟨_, rfl⟩
  have HE5001 := Lib.hid hz5001
  have HL5001 : Hid (z5001.length = 4) := Lib.hid (by rw [hz5001]; exact (nar_len _).trans (dig_len _ _ _))
  clear hz5001
  obtain ⟨z5002, hz5002⟩ : ∃ z : List Int, z = nar (dig 18446744073709551616 4 (fsub Q.y Q.x)) := ⟨_, rfl⟩
  have HE5002 := Lib.hid hz5002
  have HL5002 : Hid (z5002.length = 4) := Lib.hid (by rw [hz5002]; exact (nar_len _).trans (dig_len _ _ _))
  clear hz5002
  obtain ⟨z5003, hz5003⟩ : ∃ z : List Int, z = nar (dig 18446744073709551616 4 (fmul (fsub P.y P.x) (fsub Q.y Q.x))) := ⟨_, rfl⟩
  have HE5003 := Lib.hid hz5003
  have HL5003 : Hid (z5003.length = 4) := Lib.hid (by rw [hz5003]; exact (nar_len _).trans (dig_len _ _ _))
  clear hz5003
  refine wp_region_lin (fun (fF : Fill) (uF : World) => (∀ v, fF 0 = some v → v = .pointer (some ⟨w.heap.size, 4, none⟩) ∧ True) ∧ (∀ v, fF 1 = some v → v = .agg (arr .u64 my) ∧ True) ∧ (∀ v, fF 2 = some v → v = .pointer (some ⟨w.heap.size, 0, none⟩) ∧ True) ∧ (∀ v, fF 3 = some v → v = .agg (arr .u64 mx) ∧ True) ∧ (∀ v, fF 4 = some v → v = .agg (arr .u64 z5001) ∧ N4 z5001 (fsub P.y P.x)) ∧ (∀ v, fF 5 = some v → v = .pointer (some ⟨w.heap.size + 1, 4, none⟩) ∧ True) ∧ (∀ v, fF 6 = some v → v = .agg (arr .u64 oy) ∧ True) ∧ (∀ v, fF 7 = some v → v = .pointer (some ⟨w.heap.size + 1, 0, none⟩) ∧ True) ∧ (∀ v, fF 8 = some v → v = .agg (arr .u64 ox) ∧ True) ∧ (∀ v, fF 9 = some v → v = .agg (arr .u64 z5002) ∧ N4 z5002 (fsub Q.y Q.x)) ∧ (∀ v, fF 10 = some v → v = .agg (arr .u64 z5003) ∧ N4 z5003 (fmul (fsub P.y P.x) (fsub Q.y Q.x))) ∧ (∀ v, fF 11 = some v → ∃ g : Nat, v = .pointer (some ⟨g, 0, none⟩)) ∧ Blk w uF ([(w.heap.size, arr .u64 ps, 58), (w.heap.size + 1, arr .u64 qs, 58), (w.heap.size + 1 + 1, arr .u64 zp, 58), (g3202, (arr .u64 z3201), 56)] ++ (ent (fF 11) ((if (fF 12).isSome = true then arr .u64 z5003 else arr .u64 zl)) 56))) (by kernel_rfl) (by kernel_rfl) ?za2 ?sa2 ?ea2
  case za2 => exact ⟨fun _ h => (by cases h), fun _ h => (by cases h), fun _ h => (by cases h), fun _ h => (by cases h), fun _ h => (by cases h), fun _ h => (by cases h), fun _ h => (by cases h), fun _ h => (by cases h), fun _ h => (by cases h), fun _ h => (by cases h), fun _ h => (by cases h), fun _ h => (by cases h), HB3203.out.drew⟩
  case sa2 =>
    refine LinAll.cons (fun fF bF uF kF hJF hfF hcF hupF hsF hKF => ?_) ?_
    · obtain ⟨j0, j1, j2, j3, j4, j5, j6, j7, j8, j9, j10, j11, hB⟩ := hJF
      have e2 : bF.eval (.tmp 2) = .pointer (some ⟨w.heap.size, 0, none⟩) := hsF.old' 2 (by kernel_rfl) rfl
      exact lin_pure rfl (.pointer (some ⟨w.heap.size, 4, none⟩)) (by simp only [execOp, e2] <;> first | rfl | kernel_rfl | (go_simp; done)) (hKF _ _ ⟨fun _ h => ⟨sI h, trivial⟩, j1, j2, j3, j4, j5, j6, j7, j8, j9, j10, j11, hB⟩)
    refine LinAll.cons (fun fF bF uF kF hJF hfF hcF hupF hsF hKF => ?_) ?_
    · obtain ⟨j0, j1, j2, j3, j4, j5, j6, j7, j8, j9, j10, j11, hB⟩ := hJF
      obtain ⟨e15, p15⟩ := hsF.at hupF 0 15 (by kernel_rfl) rfl j0
      have hB' := hB
      refine step_load_part rfl 56 _ rfl (w.heap.size) (4) (arr .u64 ps) 58 (0, 0) _ (hB'.get 0 rfl) e15 .u64 my (HmP.out.2.1) Tryd.underlying56 rfl (lim_i HmyL.out) ?_
      exact hKF _ _ ⟨j0, fun _ h => ⟨sI h, trivial⟩, j2, j3, j4, j5, j6, j7, j8, j9, j10, j11, hB⟩
    refine LinAll.cons (fun fF bF uF kF hJF hfF hcF hupF hsF hKF => ?_) ?_
    · obtain ⟨j0, j1, j2, j3, j4, j5, j6, j7, j8, j9, j10, j11, hB⟩ := hJF
      have e2 : bF.eval (.tmp 2) = .pointer (some ⟨w.heap.size, 0, none⟩) := hsF.old' 2 (by kernel_rfl) rfl
      exact lin_pure rfl (.pointer (some ⟨w.heap.size, 0, none⟩)) (by simp only [execOp, e2] <;> first | rfl | kernel_rfl | (go_simp; done)) (hKF _ _ ⟨j0, j1, fun _ h => ⟨sI h, trivial⟩, j3, j4, j5, j6, j7, j8, j9, j10, j11, hB⟩)
    refine LinAll.cons (fun fF bF uF kF hJF hfF hcF hupF hsF hKF => ?_) ?_
    · obtain ⟨j0, j1, j2, j3, j4, j5, j6, j7, j8, j9, j10, j11, hB⟩ := hJF
      obtain ⟨e17, p17⟩ := hsF.at hupF 2 17 (by kernel_rfl) rfl j2
      have hB' := hB
      refine step_load_part rfl 56 _ rfl (w.heap.size) (0) (arr .u64 ps) 58 (0, 0) _ (hB'.get 0 rfl) e17 .u64 mx (HmP.out.1) Tryd.underlying56 rfl (lim_i HmxL.out) ?_
      exact hKF _ _ ⟨j0, j1, j2, fun _ h => ⟨sI h, trivial⟩, j4, j5, j6, j7, j8, j9, j10, j11, hB⟩
    refine LinAll.cons (fun fF bF uF kF hJF hfF hcF hupF hsF hKF => ?_) ?_
    · obtain ⟨j0, j1, j2, j3, j4, j5, j6, j7, j8, j9, j10, j11, hB⟩ := hJF
      obtain ⟨e16, p16⟩ := hsF.at hupF 1 16 (by kernel_rfl) rfl j1
      obtain ⟨e18, p18⟩ := hsF.at hupF 3 18 (by kernel_rfl) rfl j3
      refine lin_call rfl 72 [Operand.tmp 16, Operand.tmp 18] _ [.agg (arr .u64 my), .agg (arr .u64 mx)] rfl (by simp only [List.map_cons, List.map_nil, e16, e18] <;> rfl) (fun _ _ => by kernel_rfl) ?_
      refine Calls.mono (minus_any _ _ _ Hmy.out Hmx.out Hmok.out.y Hmok.out.x) ?_
      rintro e w1 ⟨y5004_0, rfl, r5004_0, hb⟩
      obtain rfl : y5004_0 = z5001 := r5004_0.1.trans HE5001.out.symm
      exact ⟨_, rfl, hKF _ _ ⟨j0, j1, j2, j3, fun _ h => ⟨sI h, r5004_0⟩, j5, j6, j7, j8, j9, j10, j11, hB.kept hb⟩⟩
    refine LinAll.cons (fun fF bF uF kF hJF hfF hcF hupF hsF hKF => ?_) ?_
    · obtain ⟨j0, j1, j2, j3, j4, j5, j6, j7, j8, j9, j10, j11, hB⟩ := hJF
      have e3 : bF.eval (.tmp 3) = .pointer (some ⟨w.heap.size + 1, 0, none⟩) := hsF.old' 3 (by kernel_rfl) rfl
      exact lin_pure rfl (.pointer (some ⟨w.heap.size + 1, 4, none⟩)) (by simp only [execOp, e3] <;> first | rfl | kernel_rfl | (go_simp; done)) (hKF _ _ ⟨j0, j1, j2, j3, j4, fun _ h => ⟨sI h, trivial⟩, j6, j7, j8, j9, j10, j11, hB⟩)
    refine LinAll.cons (fun fF bF uF kF hJF hfF hcF hupF hsF hKF => ?_) ?_
    · obtain ⟨j0, j1, j2, j3, j4, j5, j6, j7, j8, j9, j10, j11, hB⟩ := hJF
      obtain ⟨e20, p20⟩ := hsF.at hupF 5 20 (by kernel_rfl) rfl j5
      have hB' := hB
      refine step_load_part rfl 56 _ rfl (w.heap.size + 1) (4) (arr .u64 qs) 58 (0, 0) _ (hB'.get 1 rfl) e20 .u64 oy (HoP.out.2.1) Tryd.underlying56 rfl (lim_i HoyL.out) ?_
      exact hKF _ _ ⟨j0, j1, j2, j3, j4, j5, fun _ h => ⟨sI h, trivial⟩, j7, j8, j9, j10, j11, hB⟩
    refine LinAll.cons (fun fF bF uF kF hJF hfF hcF hupF hsF hKF => ?_) ?_
    · obtain ⟨j0, j1, j2, j3, j4, j5, j6, j7, j8, j9, j10, j11, hB⟩ := hJF
      have e3 : bF.eval (.tmp 3) = .pointer (some ⟨w.heap.size + 1, 0, none⟩) := hsF.old' 3 (by kernel_rfl) rfl
      exact lin_pure rfl (.pointer (some ⟨w.heap.size + 1, 0, none⟩)) (by simp only [execOp, e3] <;> first | rfl | kernel_rfl | (go_simp; done)) (hKF _ _ ⟨j0, j1, j2, j3, j4, j5, j6, fun _ h => ⟨sI h, trivial⟩, j8, j9, j10, j11, hB⟩)
    refine LinAll.cons (fun fF bF uF kF hJF hfF hcF hupF hsF hKF => ?_) ?_
    · obtain ⟨j0, j1, j2, j3, j4, j5, j6, j7, j8, j9, j10, j11, hB⟩ := hJF
      obtain ⟨e22, p22⟩ := hsF.at hupF 7 22 (by kernel_rfl) rfl j7
      have hB' := hB
      refine step_load_part rfl 56 _ rfl (w.heap.size + 1) (0) (arr .u64 qs) 58 (0, 0) _ (hB'.get 1 rfl) e22 .u64 ox (HoP.out.1) Tryd.underlying56 rfl (lim_i HoxL.out) ?_
      exact hKF _ _ ⟨j0, j1, j2, j3, j4, j5, j6, j7, fun _ h => ⟨sI h, trivial⟩, j9, j10, j11, hB⟩
    refine LinAll.cons (fun fF bF uF kF hJF hfF hcF hupF hsF hKF => ?_) ?_
    · obtain ⟨j0, j1, j2, j3, j4, j5, j6, j7, j8, j9, j10, j11, hB⟩ := hJF
      obtain ⟨e21, p21⟩ := hsF.at hupF 6 21 (by kernel_rfl) rfl j6
      obtain ⟨e23, p23⟩ := hsF.at hupF 8 23 (by kernel_rfl) rfl j8
      refine lin_call rfl 72 [Operand.tmp 21, Operand.tmp 23] _ [.agg (arr .u64 oy), .agg (arr .u64 ox)] rfl (by simp only [List.map_cons, List.map_nil, e21, e23] <;> rfl) (fun _ _ => by kernel_rfl) ?_
      refine Calls.mono (minus_any _ _ _ Hoy.out Hox.out Hook.out.y Hook.out.x) ?_
      rintro e w1 ⟨y5005_0, rfl, r5005_0, hb⟩
      obtain rfl : y5005_0 = z5002 := r5005_0.1.trans HE5002.out.symm
      exact ⟨_, rfl, hKF _ _ ⟨j0, j1, j2, j3, j4, j5, j6, j7, j8, fun _ h => ⟨sI h, r5005_0⟩, j10, j11, hB.kept hb⟩⟩
    refine LinAll.cons (fun fF bF uF kF hJF hfF hcF hupF hsF hKF => ?_) ?_
    · obtain ⟨j0, j1, j2, j3, j4, j5, j6, j7, j8, j9, j10, j11, hB⟩ := hJF
      obtain ⟨e19, p19⟩ := hsF.at hupF 4 19 (by kernel_rfl) rfl j4
      obtain ⟨e24, p24⟩ := hsF.at hupF 9 24 (by kernel_rfl) rfl j9
      have y4 := hupF 4 (by kernel_rfl)
      obtain ⟨v4, s4⟩ := sE y4
      have HZ5001 := Lib.hid (j4 _ s4).2
      have y9 := hupF 9 (by kernel_rfl)
      obtain ⟨v9, s9⟩ := sE y9
      have HZ5002 := Lib.hid (j9 _ s9).2
      refine lin_call rfl 58 [Operand.tmp 19, Operand.tmp 24] _ [.agg (arr .u64 z5001), .agg (arr .u64 z5002)] rfl (by simp only [List.map_cons, List.map_nil, e19, e24] <;> rfl) (fun _ _ => by kernel_rfl) ?_
      refine Calls.mono (times_any _ _ _ HZ5001.out HZ5002.out) ?_
      rintro e w1 ⟨y5006_0, rfl, r5006_0, hb⟩
      obtain rfl : y5006_0 = z5003 := r5006_0.1.trans HE5003.out.symm
      exact ⟨_, rfl, hKF _ _ ⟨j0, j1, j2, j3, j4, j5, j6, j7, j8, j9, fun _ h => ⟨sI h, r5006_0⟩, j11, hB.kept hb⟩⟩
    refine LinAll.cons (fun fF bF uF kF hJF hfF hcF hupF hsF hKF => ?_) ?_
    · obtain ⟨j0, j1, j2, j3, j4, j5, j6, j7, j8, j9, j10, j11, hB⟩ := hJF
      have n12 := hcF.down 12 11 (by kernel_rfl) hfF
      refine step_alloc_row rfl 56 rfl _ (HZzl.out _) ?_
      have hB1 : Blk w (uF.alloc (.cells (arr .u64 zl) 56)) ([(w.heap.size, arr .u64 ps, 58), (w.heap.size + 1, arr .u64 qs, 58), (w.heap.size + 1 + 1, arr .u64 zp, 58), (g3202, (arr .u64 z3201), 56)] ++ (ent ((some (.pointer (some ⟨uF.heap.size, 0, none⟩)) : Option Value)) ((if (fF 12).isSome = true then arr .u64 z5003 else arr .u64 zl)) 56)) := hB.ins (a := [(w.heap.size, arr .u64 ps, 58), (w.heap.size + 1, arr .u64 qs, 58), (w.heap.size + 1 + 1, arr .u64 zp, 58), (g3202, (arr .u64 z3201), 56)]) (b := []) _ _ (by rw [hfF, n12]; simp only [ent_none, List.nil_append, List.append_nil, List.append_assoc, List.cons_append]) (by rw [n12]; simp only [ent_some, List.nil_append, List.append_nil, List.append_assoc, List.cons_append, Option.isSome_none, Bool.false_eq_true, if_false])
      exact hKF _ _ ⟨j0, j1, j2, j3, j4, j5, j6, j7, j8, j9, j10, fun _ h => ⟨_, sI h⟩, hB1⟩
    refine LinAll.cons (fun fF bF uF kF hJF hfF hcF hupF hsF hKF => ?_) ?_
    · obtain ⟨j0, j1, j2, j3, j4, j5, j6, j7, j8, j9, j10, j11, hB⟩ := hJF
      have y11 := hupF 11 (by kernel_rfl)
      obtain ⟨v11, s11⟩ := sE y11
      obtain ⟨ga2_4, rfl⟩ := j11 _ s11
      have e6 := hsF.val 11 6 rfl s11
      obtain ⟨e25, p25⟩ := hsF.at hupF 10 25 (by kernel_rfl) rfl j10
      have y10 := hupF 10 (by kernel_rfl)
      obtain ⟨v10, s10⟩ := sE y10
      have HZ5003 := Lib.hid (j10 _ s10).2
      have hB' := hB
      rw [s11, hfF] at hB'
      refine step_store_whole rfl 56 (.tmp 6) (.tmp 25) rfl (ga2_4) (arr .u64 zl) _ 56 (hB'.get 4 rfl) e6 e25 (arr_len2 _ _ HL5003.out HLzl.out) (lim_s HL5003.out) (all_arr _ _) ?_
      intro w1 hb1 hk1 hz1
      have hB1 : Blk w w1 ([(w.heap.size, arr .u64 ps, 58), (w.heap.size + 1, arr .u64 qs, 58), (w.heap.size + 1 + 1, arr .u64 zp, 58), (g3202, (arr .u64 z3201), 56)] ++ (ent (fF 11) ((if ((some undef : Option Value)).isSome = true then arr .u64 z5003 else arr .u64 zl)) 56)) := by rw [s11]; exact hB'.put 4 rfl hk1 hb1
      exact hKF undef w1 ⟨j0, j1, j2, j3, j4, j5, j6, j7, j8, j9, j10, j11, hB1⟩
    exact LinAll.nil
  case ea2 =>
  intro fF ua2 hall hJF
  obtain ⟨j0, j1, j2, j3, j4, j5, j6, j7, j8, j9, j10, j11, hB⟩ := hJF
  obtain ⟨v0, h0⟩ := sE (hall 0 (by decide))
  obtain ⟨rfl, p0⟩ := j0 _ h0
  obtain ⟨v1, h1⟩ := sE (hall 1 (by decide))
  obtain ⟨rfl, p1⟩ := j1 _ h1
  obtain ⟨v2, h2⟩ := sE (hall 2 (by decide))
  obtain ⟨rfl, p2⟩ := j2 _ h2
  obtain ⟨v3, h3⟩ := sE (hall 3 (by decide))
  obtain ⟨rfl, p3⟩ := j3 _ h3
  obtain ⟨v4, h4⟩ := sE (hall 4 (by decide))
  obtain ⟨rfl, p4⟩ := j4 _ h4
  obtain ⟨v5, h5⟩ := sE (hall 5 (by decide))
  obtain ⟨rfl, p5⟩ := j5 _ h5
  obtain ⟨v6, h6⟩ := sE (hall 6 (by decide))
  obtain ⟨rfl, p6⟩ := j6 _ h6
  obtain ⟨v7, h7⟩ := sE (hall 7 (by decide))
  obtain ⟨rfl, p7⟩ := j7 _ h7
  obtain ⟨v8, h8⟩ := sE (hall 8 (by decide))
  obtain ⟨rfl, p8⟩ := j8 _ h8
  obtain ⟨v9, h9⟩ := sE (hall 9 (by decide))
  obtain ⟨rfl, p9⟩ := j9 _ h9
  obtain ⟨v10, h10⟩ := sE (hall 10 (by decide))
  obtain ⟨rfl, p10⟩ := j10 _ h10
  obtain ⟨v11, h11⟩ := sE (hall 11 (by decide))
  obtain ⟨ga2_4, rfl⟩ := j11 _ h11
  obtain ⟨v12, h12⟩ := sE (hall 12 (by decide))
  rw [h11, h12] at hB
  have HBa2 : Hid (Blk w ua2 [(w.heap.size, arr .u64 ps, 58), (w.heap.size + 1, arr .u64 qs, 58), (w.heap.size + 1 + 1, arr .u64 zp, 58), (g3202, (arr .u64 z3201), 56), (ga2_4, arr .u64 z5003, 56)]) := Lib.hid hB
  have HZ5001 := Lib.hid p4
  have HZ5002 := Lib.hid p9
  have HZ5003 := Lib.hid p10
  simp only [laid, Nat.zero_add, Nat.reduceAdd, h0, h1, h2, h3, h4, h5, h6, h7, h8, h9, h10, h11, h12, Act.put, sA, sZ, sS]
  clear j0 j1 j2 j3 j4 j5 j6 j7 j8 j9 j10 j11 hB h0 h1 h2 h3 h4 h5 h6 h7 h8 h9 h10 h11 h12 hall fF HB3203
  clear p0 p1 p2 p3 p4 p5 p6 p7 p8 p9 p10
  (try simp only [Exit.then])
  go_upto_region 3 with fail
  (try simp only [World.size_alloc, Act.put, sA, sZ, sS])
  obtain ⟨z5007, hz5007⟩ : ∃ z : List Int, z = nar (dig 18446744073709551616 4 (fadd P.y P.x)) := ⟨_, rfl⟩
  have HE5007 := Lib.hid hz5007
  have HL5007 : Hid (z5007.length = 4) := Lib.hid (by rw [hz5007]; exact (nar_len _).trans (dig_len _ _ _))
  clear hz5007
  obtain ⟨z5008, hz5008⟩ : ∃ z : List Int, z = nar (dig 18446744073709551616 4 (fadd Q.y Q.x)) := ⟨_, rfl⟩
  have HE5008 := Lib.hid hz5008
  have HL5008 : Hid (z5008.length = 4) := Lib.hid (by rw [hz5008]; exact (nar_len _).trans (dig_len _ _ _))
  clear hz5008
  obtain ⟨z5009, hz5009⟩ : ∃ z : List Int, z = nar (dig 18446744073709551616 4 (fmul (fadd P.y P.x) (fadd Q.y Q.x))) := ⟨_, rfl⟩
  have HE5009 := Lib.hid hz5009
  have HL5009 : Hid (z5009.length = 4) := Lib.hid (by rw [hz5009]; exact (nar_len _).trans (dig_len _ _ _))
  clear hz5009
  refine wp_region_lin (fun (fF : Fill) (uF : World) => (∀ v, fF 0 = some v → v = .pointer (some ⟨w.heap.size, 4, none⟩) ∧ True) ∧ (∀ v, fF 1 = some v → v = .agg (arr .u64 my) ∧ True) ∧ (∀ v, fF 2 = some v → v = .pointer (some ⟨w.heap.size, 0, none⟩) ∧ True) ∧ (∀ v, fF 3 = some v → v = .agg (arr .u64 mx) ∧ True) ∧ (∀ v, fF 4 = some v → v = .agg (arr .u64 z5007) ∧ N4 z5007 (fadd P.y P.x)) ∧ (∀ v, fF 5 = some v → v = .pointer (some ⟨w.heap.size + 1, 4, none⟩) ∧ True) ∧ (∀ v, fF 6 = some v → v = .agg (arr .u64 oy) ∧ True) ∧ (∀ v, fF 7 = some v → v = .pointer (some ⟨w.heap.size + 1, 0, none⟩) ∧ True) ∧ (∀ v, fF 8 = some v → v = .agg (arr .u64 ox) ∧ True) ∧ (∀ v, fF 9 = some v → v = .agg (arr .u64 z5008) ∧ N4 z5008 (fadd Q.y Q.x)) ∧ (∀ v, fF 10 = some v → v = .agg (arr .u64 z5009) ∧ N4 z5009 (fmul (fadd P.y P.x) (fadd Q.y Q.x))) ∧ (∀ v, fF 11 = some v → ∃ g : Nat, v = .pointer (some ⟨g, 0, none⟩)) ∧ Blk w uF ([(w.heap.size, arr .u64 ps, 58), (w.heap.size + 1, arr .u64 qs, 58), (w.heap.size + 1 + 1, arr .u64 zp, 58), (g3202, (arr .u64 z3201), 56), (ga2_4, arr .u64 z5003, 56)] ++ (ent (fF 11) ((if (fF 12).isSome = true then arr .u64 z5009 else arr .u64 zl)) 56))) (by kernel_rfl) (by kernel_rfl) ?za3 ?sa3 ?ea3
  case za3 => exact ⟨fun _ h => (by cases h), fun _ h => (by cases h), fun _ h => (by cases h), fun _ h => (by cases h), fun _ h => (by cases h), fun _ h => (by cases h), fun _ h => (by cases h), fun _ h => (by cases h), fun _ h => (by cases h), fun _ h => (by cases h), fun _ h => (by cases h), fun _ h => (by cases h), HBa2.out.drew⟩
  case sa3 =>
    refine LinAll.cons (fun fF bF uF kF hJF hfF hcF hupF hsF hKF => ?_) ?_
    · obtain ⟨j0, j1, j2, j3, j4, j5, j6, j7, j8, j9, j10, j11, hB⟩ := hJF
      have e2 : bF.eval (.tmp 2) = .pointer (some ⟨w.heap.size, 0, none⟩) := hsF.old' 2 (by kernel_rfl) rfl
      exact lin_pure rfl (.pointer (some ⟨w.heap.size, 4, none⟩)) (by simp only [execOp, e2] <;> first | rfl | kernel_rfl | (go_simp; done)) (hKF _ _ ⟨fun _ h => ⟨sI h, trivial⟩, j1, j2, j3, j4, j5, j6, j7, j8, j9, j10, j11, hB⟩)
    refine LinAll.cons (fun fF bF uF kF hJF hfF hcF hupF hsF hKF => ?_) ?_
    · obtain ⟨j0, j1, j2, j3, j4, j5, j6, j7, j8, j9, j10, j11, hB⟩ := hJF
      obtain ⟨e26, p26⟩ := hsF.at hupF 0 26 (by kernel_rfl) rfl j0
      have hB' := hB
      refine step_load_part rfl 56 _ rfl (w.heap.size) (4) (arr .u64 ps) 58 (0, 0) _ (hB'.get 0 rfl) e26 .u64 my (HmP.out.2.1) Tryd.underlying56 rfl (lim_i HmyL.out) ?_
      exact hKF _ _ ⟨j0, fun _ h => ⟨sI h, trivial⟩, j2, j3, j4, j5, j6, j7, j8, j9, j10, j11, hB⟩
    refine LinAll.cons (fun fF bF uF kF hJF hfF hcF hupF hsF hKF => ?_) ?_
    · obtain ⟨j0, j1, j2, j3, j4, j5, j6, j7, j8, j9, j10, j11, hB⟩ := hJF
      have e2 : bF.eval (.tmp 2) = .pointer (some ⟨w.heap.size, 0, none⟩) := hsF.old' 2 (by kernel_rfl) rfl
      exact lin_pure rfl (.pointer (some ⟨w.heap.size, 0, none⟩)) (by simp only [execOp, e2] <;> first | rfl | kernel_rfl | (go_simp; done)) (hKF _ _ ⟨j0, j1, fun _ h => ⟨sI h, trivial⟩, j3, j4, j5, j6, j7, j8, j9, j10, j11, hB⟩)
    refine LinAll.cons (fun fF bF uF kF hJF hfF hcF hupF hsF hKF => ?_) ?_
    · obtain ⟨j0, j1, j2, j3, j4, j5, j6, j7, j8, j9, j10, j11, hB⟩ := hJF
      obtain ⟨e28, p28⟩ := hsF.at hupF 2 28 (by kernel_rfl) rfl j2
      have hB' := hB
      refine step_load_part rfl 56 _ rfl (w.heap.size) (0) (arr .u64 ps) 58 (0, 0) _ (hB'.get 0 rfl) e28 .u64 mx (HmP.out.1) Tryd.underlying56 rfl (lim_i HmxL.out) ?_
      exact hKF _ _ ⟨j0, j1, j2, fun _ h => ⟨sI h, trivial⟩, j4, j5, j6, j7, j8, j9, j10, j11, hB⟩
    refine LinAll.cons (fun fF bF uF kF hJF hfF hcF hupF hsF hKF => ?_) ?_
    · obtain ⟨j0, j1, j2, j3, j4, j5, j6, j7, j8, j9, j10, j11, hB⟩ := hJF
      obtain ⟨e27, p27⟩ := hsF.at hupF 1 27 (by kernel_rfl) rfl j1
      obtain ⟨e29, p29⟩ := hsF.at hupF 3 29 (by kernel_rfl) rfl j3
      refine lin_call rfl 73 [Operand.tmp 27, Operand.tmp 29] _ [.agg (arr .u64 my), .agg (arr .u64 mx)] rfl (by simp only [List.map_cons, List.map_nil, e27, e29] <;> rfl) (fun _ _ => by kernel_rfl) ?_
      refine Calls.mono (plus_any _ _ _ Hmy.out Hmx.out) ?_
      rintro e w1 ⟨y5010_0, rfl, r5010_0, hb⟩
      obtain rfl : y5010_0 = z5007 := r5010_0.1.trans HE5007.out.symm
      exact ⟨_, rfl, hKF _ _ ⟨j0, j1, j2, j3, fun _ h => ⟨sI h, r5010_0⟩, j5, j6, j7, j8, j9, j10, j11, hB.kept hb⟩⟩
    refine LinAll.cons (fun fF bF uF kF hJF hfF hcF hupF hsF hKF => ?_) ?_
    · obtain ⟨j0, j1, j2, j3, j4, j5, j6, j7, j8, j9, j10, j11, hB⟩ := hJF
      have e3 : bF.eval (.tmp 3) = .pointer (some ⟨w.heap.size + 1, 0, none⟩) := hsF.old' 3 (by kernel_rfl) rfl
      exact lin_pure rfl (.pointer (some ⟨w.heap.size + 1, 4, none⟩)) (by simp only [execOp, e3] <;> first | rfl | kernel_rfl | (go_simp; done)) (hKF _ _ ⟨j0, j1, j2, j3, j4, fun _ h => ⟨sI h, trivial⟩, j6, j7, j8, j9, j10, j11, hB⟩)
    refine LinAll.cons (fun fF bF uF kF hJF hfF hcF hupF hsF hKF => ?_) ?_
    · obtain ⟨j0, j1, j2, j3, j4, j5, j6, j7, j8, j9, j10, j11, hB⟩ := hJF
      obtain ⟨e31, p31⟩ := hsF.at hupF 5 31 (by kernel_rfl) rfl j5
      have hB' := hB
      refine step_load_part rfl 56 _ rfl (w.heap.size + 1) (4) (arr .u64 qs) 58 (0, 0) _ (hB'.get 1 rfl) e31 .u64 oy (HoP.out.2.1) Tryd.underlying56 rfl (lim_i HoyL.out) ?_
      exact hKF _ _ ⟨j0, j1, j2, j3, j4, j5, fun _ h => ⟨sI h, trivial⟩, j7, j8, j9, j10, j11, hB⟩
    refine LinAll.cons (fun fF bF uF kF hJF hfF hcF hupF hsF hKF => ?_) ?_
    · obtain ⟨j0, j1, j2, j3, j4, j5, j6, j7, j8, j9, j10, j11, hB⟩ := hJF
      have e3 : bF.eval (.tmp 3) = .pointer (some ⟨w.heap.size + 1, 0, none⟩) := hsF.old' 3 (by kernel_rfl) rfl
      exact lin_pure rfl (.pointer (some ⟨w.heap.size + 1, 0, none⟩)) (by simp only [execOp, e3] <;> first | rfl | kernel_rfl | (go_simp; done)) (hKF _ _ ⟨j0, j1, j2, j3, j4, j5, j6, fun _ h => ⟨sI h, trivial⟩, j8, j9, j10, j11, hB⟩)
    refine LinAll.cons (fun fF bF uF kF hJF hfF hcF hupF hsF hKF => ?_) ?_
    · obtain ⟨j0, j1, j2, j3, j4, j5, j6, j7, j8, j9, j10, j11, hB⟩ := hJF
      obtain ⟨e33, p33⟩ := hsF.at hupF 7 33 (by kernel_rfl) rfl j7
      have hB' := hB
      refine step_load_part rfl 56 _ rfl (w.heap.size + 1) (0) (arr .u64 qs) 58 (0, 0) _ (hB'.get 1 rfl) e33 .u64 ox (HoP.out.1) Tryd.underlying56 rfl (lim_i HoxL.out) ?_
      exact hKF _ _ ⟨j0, j1, j2, j3, j4, j5, j6, j7, fun _ h => ⟨sI h, trivial⟩, j9, j10, j11, hB⟩
    refine LinAll.cons (fun fF bF uF kF hJF hfF hcF hupF hsF hKF => ?_) ?_
    · obtain ⟨j0, j1, j2, j3, j4, j5, j6, j7, j8, j9, j10, j11, hB⟩ := hJF
      obtain ⟨e32, p32⟩ := hsF.at hupF 6 32 (by kernel_rfl) rfl j6
      obtain ⟨e34, p34⟩ := hsF.at hupF 8 34 (by kernel_rfl) rfl j8
      refine lin_call rfl 73 [Operand.tmp 32, Operand.tmp 34] _ [.agg (arr .u64 oy), .agg (arr .u64 ox)] rfl (by simp only [List.map_cons, List.map_nil, e32, e34] <;> rfl) (fun _ _ => by kernel_rfl) ?_
      refine Calls.mono (plus_any _ _ _ Hoy.out Hox.out) ?_
      rintro e w1 ⟨y5011_0, rfl, r5011_0, hb⟩
      obtain rfl : y5011_0 = z5008 := r5011_0.1.trans HE5008.out.symm
      exact ⟨_, rfl, hKF _ _ ⟨j0, j1, j2, j3, j4, j5, j6, j7, j8, fun _ h => ⟨sI h, r5011_0⟩, j10, j11, hB.kept hb⟩⟩
    refine LinAll.cons (fun fF bF uF kF hJF hfF hcF hupF hsF hKF => ?_) ?_
    · obtain ⟨j0, j1, j2, j3, j4, j5, j6, j7, j8, j9, j10, j11, hB⟩ := hJF
      obtain ⟨e30, p30⟩ := hsF.at hupF 4 30 (by kernel_rfl) rfl j4
      obtain ⟨e35, p35⟩ := hsF.at hupF 9 35 (by kernel_rfl) rfl j9
      have y4 := hupF 4 (by kernel_rfl)
      obtain ⟨v4, s4⟩ := sE y4
      have HZ5007 := Lib.hid (j4 _ s4).2
      have y9 := hupF 9 (by kernel_rfl)
      obtain ⟨v9, s9⟩ := sE y9
      have HZ5008 := Lib.hid (j9 _ s9).2
      refine lin_call rfl 58 [Operand.tmp 30, Operand.tmp 35] _ [.agg (arr .u64 z5007), .agg (arr .u64 z5008)] rfl (by simp only [List.map_cons, List.map_nil, e30, e35] <;> rfl) (fun _ _ => by kernel_rfl) ?_
      refine Calls.mono (times_any _ _ _ HZ5007.out HZ5008.out) ?_
      rintro e w1 ⟨y5012_0, rfl, r5012_0, hb⟩
      obtain rfl : y5012_0 = z5009 := r5012_0.1.trans HE5009.out.symm
      exact ⟨_, rfl, hKF _ _ ⟨j0, j1, j2, j3, j4, j5, j6, j7, j8, j9, fun _ h => ⟨sI h, r5012_0⟩, j11, hB.kept hb⟩⟩
    refine LinAll.cons (fun fF bF uF kF hJF hfF hcF hupF hsF hKF => ?_) ?_
    · obtain ⟨j0, j1, j2, j3, j4, j5, j6, j7, j8, j9, j10, j11, hB⟩ := hJF
      have n12 := hcF.down 12 11 (by kernel_rfl) hfF
      refine step_alloc_row rfl 56 rfl _ (HZzl.out _) ?_
      have hB1 : Blk w (uF.alloc (.cells (arr .u64 zl) 56)) ([(w.heap.size, arr .u64 ps, 58), (w.heap.size + 1, arr .u64 qs, 58), (w.heap.size + 1 + 1, arr .u64 zp, 58), (g3202, (arr .u64 z3201), 56), (ga2_4, arr .u64 z5003, 56)] ++ (ent ((some (.pointer (some ⟨uF.heap.size, 0, none⟩)) : Option Value)) ((if (fF 12).isSome = true then arr .u64 z5009 else arr .u64 zl)) 56)) := hB.ins (a := [(w.heap.size, arr .u64 ps, 58), (w.heap.size + 1, arr .u64 qs, 58), (w.heap.size + 1 + 1, arr .u64 zp, 58), (g3202, (arr .u64 z3201), 56), (ga2_4, arr .u64 z5003, 56)]) (b := []) _ _ (by rw [hfF, n12]; simp only [ent_none, List.nil_append, List.append_nil, List.append_assoc, List.cons_append]) (by rw [n12]; simp only [ent_some, List.nil_append, List.append_nil, List.append_assoc, List.cons_append, Option.isSome_none, Bool.false_eq_true, if_false])
      exact hKF _ _ ⟨j0, j1, j2, j3, j4, j5, j6, j7, j8, j9, j10, fun _ h => ⟨_, sI h⟩, hB1⟩
    refine LinAll.cons (fun fF bF uF kF hJF hfF hcF hupF hsF hKF => ?_) ?_
    · obtain ⟨j0, j1, j2, j3, j4, j5, j6, j7, j8, j9, j10, j11, hB⟩ := hJF
      have y11 := hupF 11 (by kernel_rfl)
      obtain ⟨v11, s11⟩ := sE y11
      obtain ⟨ga3_5, rfl⟩ := j11 _ s11
      have e7 := hsF.val 11 7 rfl s11
      obtain ⟨e36, p36⟩ := hsF.at hupF 10 36 (by kernel_rfl) rfl j10
      have y10 := hupF 10 (by kernel_rfl)
      obtain ⟨v10, s10⟩ := sE y10
      have HZ5009 := Lib.hid (j10 _ s10).2
      have hB' := hB
      rw [s11, hfF] at hB'
      refine step_store_whole rfl 56 (.tmp 7) (.tmp 36) rfl (ga3_5) (arr .u64 zl) _ 56 (hB'.get 5 rfl) e7 e36 (arr_len2 _ _ HL5009.out HLzl.out) (lim_s HL5009.out) (all_arr _ _) ?_
      intro w1 hb1 hk1 hz1
      have hB1 : Blk w w1 ([(w.heap.size, arr .u64 ps, 58), (w.heap.size + 1, arr .u64 qs, 58), (w.heap.size + 1 + 1, arr .u64 zp, 58), (g3202, (arr .u64 z3201), 56), (ga2_4, arr .u64 z5003, 56)] ++ (ent (fF 11) ((if ((some undef : Option Value)).isSome = true then arr .u64 z5009 else arr .u64 zl)) 56)) := by rw [s11]; exact hB'.put 5 rfl hk1 hb1
      exact hKF undef w1 ⟨j0, j1, j2, j3, j4, j5, j6, j7, j8, j9, j10, j11, hB1⟩
    exact LinAll.nil
  case ea3 =>
  intro fF ua3 hall hJF
  obtain ⟨j0, j1, j2, j3, j4, j5, j6, j7, j8, j9, j10, j11, hB⟩ := hJF
  obtain ⟨v0, h0⟩ := sE (hall 0 (by decide))
  obtain ⟨rfl, p0⟩ := j0 _ h0
  obtain ⟨v1, h1⟩ := sE (hall 1 (by decide))
  obtain ⟨rfl, p1⟩ := j1 _ h1
  obtain ⟨v2, h2⟩ := sE (hall 2 (by decide))
  obtain ⟨rfl, p2⟩ := j2 _ h2
  obtain ⟨v3, h3⟩ := sE (hall 3 (by decide))
  obtain ⟨rfl, p3⟩ := j3 _ h3
  obtain ⟨v4, h4⟩ := sE (hall 4 (by decide))
  obtain ⟨rfl, p4⟩ := j4 _ h4
  obtain ⟨v5, h5⟩ := sE (hall 5 (by decide))
  obtain ⟨rfl, p5⟩ := j5 _ h5
  obtain ⟨v6, h6⟩ := sE (hall 6 (by decide))
  obtain ⟨rfl, p6⟩ := j6 _ h6
  obtain ⟨v7, h7⟩ := sE (hall 7 (by decide))
  obtain ⟨rfl, p7⟩ := j7 _ h7
  obtain ⟨v8, h8⟩ := sE (hall 8 (by decide))
  obtain ⟨rfl, p8⟩ := j8 _ h8
  obtain ⟨v9, h9⟩ := sE (hall 9 (by decide))
  obtain ⟨rfl, p9⟩ := j9 _ h9
  obtain ⟨v10, h10⟩ := sE (hall 10 (by decide))
  obtain ⟨rfl, p10⟩ := j10 _ h10
  obtain ⟨v11, h11⟩ := sE (hall 11 (by decide))
  obtain ⟨ga3_5, rfl⟩ := j11 _ h11
  obtain ⟨v12, h12⟩ := sE (hall 12 (by decide))
  rw [h11, h12] at hB
  have HBa3 : Hid (Blk w ua3 [(w.heap.size, arr .u64 ps, 58), (w.heap.size + 1, arr .u64 qs, 58), (w.heap.size + 1 + 1, arr .u64 zp, 58), (g3202, (arr .u64 z3201), 56), (ga2_4, arr .u64 z5003, 56), (ga3_5, arr .u64 z5009, 56)]) := Lib.hid hB
  have HZ5007 := Lib.hid p4
  have HZ5008 := Lib.hid p9
  have HZ5009 := Lib.hid p10
  simp only [laid, Nat.zero_add, Nat.reduceAdd, h0, h1, h2, h3, h4, h5, h6, h7, h8, h9, h10, h11, h12, Act.put, sA, sZ, sS]
  clear j0 j1 j2 j3 j4 j5 j6 j7 j8 j9 j10 j11 hB h0 h1 h2 h3 h4 h5 h6 h7 h8 h9 h10 h11 h12 hall fF HBa2
  clear p0 p1 p2 p3 p4 p5 p6 p7 p8 p9 p10
  (try simp only [Exit.then])
  go_upto_region 4 with fail
  (try simp only [World.size_alloc, Act.put, sA, sZ, sS])
  obtain ⟨z5013, hz5013⟩ : ∃ z : List Int, z = nar (dig 18446744073709551616 4 (fadd dd dd)) := ⟨_, rfl⟩
  have HE5013 := Lib.hid hz5013
  have HL5013 : Hid (z5013.length = 4) := Lib.hid (by rw [hz5013]; exact (nar_len _).trans (dig_len _ _ _))
  clear hz5013
  obtain ⟨z5014, hz5014⟩ : ∃ z : List Int, z = nar (dig 18446744073709551616 4 (fmul P.t (fadd dd dd))) := ⟨_, rfl⟩
  have HE5014 := Lib.hid hz5014
  have HL5014 : Hid (z5014.length = 4) := Lib.hid (by rw [hz5014]; exact (nar_len _).trans (dig_len _ _ _))
  clear hz5014
  obtain ⟨z5015, hz5015⟩ : ∃ z : List Int, z = nar (dig 18446744073709551616 4 (fmul (fmul P.t (fadd dd dd)) Q.t)) := ⟨_, rfl⟩
  have HE5015 := Lib.hid hz5015
  have HL5015 : Hid (z5015.length = 4) := Lib.hid (by rw [hz5015]; exact (nar_len _).trans (dig_len _ _ _))
  clear hz5015
  refine wp_region_lin (fun (fF : Fill) (uF : World) => (∀ v, fF 0 = some v → v = .pointer (some ⟨w.heap.size, 12, none⟩) ∧ True) ∧ (∀ v, fF 1 = some v → v = .agg (arr .u64 mt) ∧ True) ∧ (∀ v, fF 2 = some v → v = .agg (arr .u64 z3201) ∧ True) ∧ (∀ v, fF 3 = some v → v = .agg (arr .u64 z3201) ∧ True) ∧ (∀ v, fF 4 = some v → v = .agg (arr .u64 z5013) ∧ N4 z5013 (fadd dd dd)) ∧ (∀ v, fF 5 = some v → v = .agg (arr .u64 z5014) ∧ N4 z5014 (fmul P.t (fadd dd dd))) ∧ (∀ v, fF 6 = some v → v = .pointer (some ⟨w.heap.size + 1, 12, none⟩) ∧ True) ∧ (∀ v, fF 7 = some v → v = .agg (arr .u64 ot) ∧ True) ∧ (∀ v, fF 8 = some v → v = .agg (arr .u64 z5015) ∧ N4 z5015 (fmul (fmul P.t (fadd dd dd)) Q.t)) ∧ (∀ v, fF 9 = some v → ∃ g : Nat, v = .pointer (some ⟨g, 0, none⟩)) ∧ Blk w uF ([(w.heap.size, arr .u64 ps, 58), (w.heap.size + 1, arr .u64 qs, 58), (w.heap.size + 1 + 1, arr .u64 zp, 58), (g3202, (arr .u64 z3201), 56), (ga2_4, arr .u64 z5003, 56), (ga3_5, arr .u64 z5009, 56)] ++ (ent (fF 9) ((if (fF 10).isSome = true then arr .u64 z5015 else arr .u64 zl)) 56))) (by kernel_rfl) (by kernel_rfl) ?za4 ?sa4 ?ea4
  case za4 => exact ⟨fun _ h => (by cases h), fun _ h => (by cases h), fun _ h => (by cases h), fun _ h => (by cases h), fun _ h => (by cases h), fun _ h => (by cases h), fun _ h => (by cases h), fun _ h => (by cases h), fun _ h => (by cases h), fun _ h => (by cases h), HBa3.out.drew⟩
  case sa4 =>
    refine LinAll.cons (fun fF bF uF kF hJF hfF hcF hupF hsF hKF => ?_) ?_
    · obtain ⟨j0, j1, j2, j3, j4, j5, j6, j7, j8, j9, hB⟩ := hJF
      have e2 : bF.eval (.tmp 2) = .pointer (some ⟨w.heap.size, 0, none⟩) := hsF.old' 2 (by kernel_rfl) rfl
      exact lin_pure rfl (.pointer (some ⟨w.heap.size, 12, none⟩)) (by simp only [execOp, e2] <;> first | rfl | kernel_rfl | (go_simp; done)) (hKF _ _ ⟨fun _ h => ⟨sI h, trivial⟩, j1, j2, j3, j4, j5, j6, j7, j8, j9, hB⟩)
    refine LinAll.cons (fun fF bF uF kF hJF hfF hcF hupF hsF hKF => ?_) ?_
    · obtain ⟨j0, j1, j2, j3, j4, j5, j6, j7, j8, j9, hB⟩ := hJF
      obtain ⟨e37, p37⟩ := hsF.at hupF 0 37 (by kernel_rfl) rfl j0
      have hB' := hB
      refine step_load_part rfl 56 _ rfl (w.heap.size) (12) (arr .u64 ps) 58 (0, 0) _ (hB'.get 0 rfl) e37 .u64 mt (HmP.out.2.2.2) Tryd.underlying56 rfl (lim_i HmtL.out) ?_
      exact hKF _ _ ⟨j0, fun _ h => ⟨sI h, trivial⟩, j2, j3, j4, j5, j6, j7, j8, j9, hB⟩
    refine LinAll.cons (fun fF bF uF kF hJF hfF hcF hupF hsF hKF => ?_) ?_
    · obtain ⟨j0, j1, j2, j3, j4, j5, j6, j7, j8, j9, hB⟩ := hJF
      have e5 : bF.eval (.tmp 5) = .pointer (some ⟨g3202, 0, none⟩) := hsF.old' 5 (by kernel_rfl) rfl
      have hB' := hB
      refine step_load_part rfl 56 _ rfl (g3202) (0) ((arr .u64 z3201)) 56 (0, 0) _ (hB'.get 3 rfl) e5 .u64 z3201 (arr_part _ _) Tryd.underlying56 rfl (lim_i HL3201.out) ?_
      exact hKF _ _ ⟨j0, j1, fun _ h => ⟨sI h, trivial⟩, j3, j4, j5, j6, j7, j8, j9, hB⟩
    refine LinAll.cons (fun fF bF uF kF hJF hfF hcF hupF hsF hKF => ?_) ?_
    · obtain ⟨j0, j1, j2, j3, j4, j5, j6, j7, j8, j9, hB⟩ := hJF
      have e5 : bF.eval (.tmp 5) = .pointer (some ⟨g3202, 0, none⟩) := hsF.old' 5 (by kernel_rfl) rfl
      have hB' := hB
      refine step_load_part rfl 56 _ rfl (g3202) (0) ((arr .u64 z3201)) 56 (0, 0) _ (hB'.get 3 rfl) e5 .u64 z3201 (arr_part _ _) Tryd.underlying56 rfl (lim_i HL3201.out) ?_
      exact hKF _ _ ⟨j0, j1, j2, fun _ h => ⟨sI h, trivial⟩, j4, j5, j6, j7, j8, j9, hB⟩
    refine LinAll.cons (fun fF bF uF kF hJF hfF hcF hupF hsF hKF => ?_) ?_
    · obtain ⟨j0, j1, j2, j3, j4, j5, j6, j7, j8, j9, hB⟩ := hJF
      obtain ⟨e39, p39⟩ := hsF.at hupF 2 39 (by kernel_rfl) rfl j2
      obtain ⟨e40, p40⟩ := hsF.at hupF 3 40 (by kernel_rfl) rfl j3
      refine lin_call rfl 73 [Operand.tmp 39, Operand.tmp 40] _ [.agg (arr .u64 z3201), .agg (arr .u64 z3201)] rfl (by simp only [List.map_cons, List.map_nil, e39, e40] <;> rfl) (fun _ _ => by kernel_rfl) ?_
      refine Calls.mono (plus_any _ _ _ HZ3201.out HZ3201.out) ?_
      rintro e w1 ⟨y5016_0, rfl, r5016_0, hb⟩
      obtain rfl : y5016_0 = z5013 := r5016_0.1.trans HE5013.out.symm
      exact ⟨_, rfl, hKF _ _ ⟨j0, j1, j2, j3, fun _ h => ⟨sI h, r5016_0⟩, j5, j6, j7, j8, j9, hB.kept hb⟩⟩
    refine LinAll.cons (fun fF bF uF kF hJF hfF hcF hupF hsF hKF => ?_) ?_
    · obtain ⟨j0, j1, j2, j3, j4, j5, j6, j7, j8, j9, hB⟩ := hJF
      obtain ⟨e38, p38⟩ := hsF.at hupF 1 38 (by kernel_rfl) rfl j1
      obtain ⟨e41, p41⟩ := hsF.at hupF 4 41 (by kernel_rfl) rfl j4
      have y4 := hupF 4 (by kernel_rfl)
      obtain ⟨v4, s4⟩ := sE y4
      have HZ5013 := Lib.hid (j4 _ s4).2
      refine lin_call rfl 58 [Operand.tmp 38, Operand.tmp 41] _ [.agg (arr .u64 mt), .agg (arr .u64 z5013)] rfl (by simp only [List.map_cons, List.map_nil, e38, e41] <;> rfl) (fun _ _ => by kernel_rfl) ?_
      refine Calls.mono (times_any _ _ _ Hmt.out HZ5013.out) ?_
      rintro e w1 ⟨y5017_0, rfl, r5017_0, hb⟩
      obtain rfl : y5017_0 = z5014 := r5017_0.1.trans HE5014.out.symm
      exact ⟨_, rfl, hKF _ _ ⟨j0, j1, j2, j3, j4, fun _ h => ⟨sI h, r5017_0⟩, j6, j7, j8, j9, hB.kept hb⟩⟩
    refine LinAll.cons (fun fF bF uF kF hJF hfF hcF hupF hsF hKF => ?_) ?_
    · obtain ⟨j0, j1, j2, j3, j4, j5, j6, j7, j8, j9, hB⟩ := hJF
      have e3 : bF.eval (.tmp 3) = .pointer (some ⟨w.heap.size + 1, 0, none⟩) := hsF.old' 3 (by kernel_rfl) rfl
      exact lin_pure rfl (.pointer (some ⟨w.heap.size + 1, 12, none⟩)) (by simp only [execOp, e3] <;> first | rfl | kernel_rfl | (go_simp; done)) (hKF _ _ ⟨j0, j1, j2, j3, j4, j5, fun _ h => ⟨sI h, trivial⟩, j7, j8, j9, hB⟩)
    refine LinAll.cons (fun fF bF uF kF hJF hfF hcF hupF hsF hKF => ?_) ?_
    · obtain ⟨j0, j1, j2, j3, j4, j5, j6, j7, j8, j9, hB⟩ := hJF
      obtain ⟨e43, p43⟩ := hsF.at hupF 6 43 (by kernel_rfl) rfl j6
      have hB' := hB
      refine step_load_part rfl 56 _ rfl (w.heap.size + 1) (12) (arr .u64 qs) 58 (0, 0) _ (hB'.get 1 rfl) e43 .u64 ot (HoP.out.2.2.2) Tryd.underlying56 rfl (lim_i HotL.out) ?_
      exact hKF _ _ ⟨j0, j1, j2, j3, j4, j5, j6, fun _ h => ⟨sI h, trivial⟩, j8, j9, hB⟩
    refine LinAll.cons (fun fF bF uF kF hJF hfF hcF hupF hsF hKF => ?_) ?_
    · obtain ⟨j0, j1, j2, j3, j4, j5, j6, j7, j8, j9, hB⟩ := hJF
      obtain ⟨e42, p42⟩ := hsF.at hupF 5 42 (by kernel_rfl) rfl j5
      obtain ⟨e44, p44⟩ := hsF.at hupF 7 44 (by kernel_rfl) rfl j7
      have y5 := hupF 5 (by kernel_rfl)
      obtain ⟨v5, s5⟩ := sE y5
      have HZ5014 := Lib.hid (j5 _ s5).2
      refine lin_call rfl 58 [Operand.tmp 42, Operand.tmp 44] _ [.agg (arr .u64 z5014), .agg (arr .u64 ot)] rfl (by simp only [List.map_cons, List.map_nil, e42, e44] <;> rfl) (fun _ _ => by kernel_rfl) ?_
      refine Calls.mono (times_any _ _ _ HZ5014.out Hot.out) ?_
      rintro e w1 ⟨y5018_0, rfl, r5018_0, hb⟩
      obtain rfl : y5018_0 = z5015 := r5018_0.1.trans HE5015.out.symm
      exact ⟨_, rfl, hKF _ _ ⟨j0, j1, j2, j3, j4, j5, j6, j7, fun _ h => ⟨sI h, r5018_0⟩, j9, hB.kept hb⟩⟩
    refine LinAll.cons (fun fF bF uF kF hJF hfF hcF hupF hsF hKF => ?_) ?_
    · obtain ⟨j0, j1, j2, j3, j4, j5, j6, j7, j8, j9, hB⟩ := hJF
      have n10 := hcF.down 10 9 (by kernel_rfl) hfF
      refine step_alloc_row rfl 56 rfl _ (HZzl.out _) ?_
      have hB1 : Blk w (uF.alloc (.cells (arr .u64 zl) 56)) ([(w.heap.size, arr .u64 ps, 58), (w.heap.size + 1, arr .u64 qs, 58), (w.heap.size + 1 + 1, arr .u64 zp, 58), (g3202, (arr .u64 z3201), 56), (ga2_4, arr .u64 z5003, 56), (ga3_5, arr .u64 z5009, 56)] ++ (ent ((some (.pointer (some ⟨uF.heap.size, 0, none⟩)) : Option Value)) ((if (fF 10).isSome = true then arr .u64 z5015 else arr .u64 zl)) 56)) := hB.ins (a := [(w.heap.size, arr .u64 ps, 58), (w.heap.size + 1, arr .u64 qs, 58), (w.heap.size + 1 + 1, arr .u64 zp, 58), (g3202, (arr .u64 z3201), 56), (ga2_4, arr .u64 z5003, 56), (ga3_5, arr .u64 z5009, 56)]) (b := []) _ _ (by rw [hfF, n10]; simp only [ent_none, List.nil_append, List.append_nil, List.append_assoc, List.cons_append]) (by rw [n10]; simp only [ent_some, List.nil_append, List.append_nil, List.append_assoc, List.cons_append, Option.isSome_none, Bool.false_eq_true, if_false])
      exact hKF _ _ ⟨j0, j1, j2, j3, j4, j5, j6, j7, j8, fun _ h => ⟨_, sI h⟩, hB1⟩
    refine LinAll.cons (fun fF bF uF kF hJF hfF hcF hupF hsF hKF => ?_) ?_
    · obtain ⟨j0, j1, j2, j3, j4, j5, j6, j7, j8, j9, hB⟩ := hJF
      have y9 := hupF 9 (by kernel_rfl)
      obtain ⟨v9, s9⟩ := sE y9
      obtain ⟨ga4_6, rfl⟩ := j9 _ s9
      have e8 := hsF.val 9 8 rfl s9
      obtain ⟨e45, p45⟩ := hsF.at hupF 8 45 (by kernel_rfl) rfl j8
      have y8 := hupF 8 (by kernel_rfl)
      obtain ⟨v8, s8⟩ := sE y8
      have HZ5015 := Lib.hid (j8 _ s8).2
      have hB' := hB
      rw [s9, hfF] at hB'
      refine step_store_whole rfl 56 (.tmp 8) (.tmp 45) rfl (ga4_6) (arr .u64 zl) _ 56 (hB'.get 6 rfl) e8 e45 (arr_len2 _ _ HL5015.out HLzl.out) (lim_s HL5015.out) (all_arr _ _) ?_
      intro w1 hb1 hk1 hz1
      have hB1 : Blk w w1 ([(w.heap.size, arr .u64 ps, 58), (w.heap.size + 1, arr .u64 qs, 58), (w.heap.size + 1 + 1, arr .u64 zp, 58), (g3202, (arr .u64 z3201), 56), (ga2_4, arr .u64 z5003, 56), (ga3_5, arr .u64 z5009, 56)] ++ (ent (fF 9) ((if ((some undef : Option Value)).isSome = true then arr .u64 z5015 else arr .u64 zl)) 56)) := by rw [s9]; exact hB'.put 6 rfl hk1 hb1
      exact hKF undef w1 ⟨j0, j1, j2, j3, j4, j5, j6, j7, j8, j9, hB1⟩
    exact LinAll.nil
  case ea4 =>
  intro fF ua4 hall hJF
  obtain ⟨j0, j1, j2, j3, j4, j5, j6, j7, j8, j9, hB⟩ := hJF
  obtain ⟨v0, h0⟩ := sE (hall 0 (by decide))
  obtain ⟨rfl, p0⟩ := j0 _ h0
  obtain ⟨v1, h1⟩ := sE (hall 1 (by decide))
  obtain ⟨rfl, p1⟩ := j1 _ h1
  obtain ⟨v2, h2⟩ := sE (hall 2 (by decide))
  obtain ⟨rfl, p2⟩ := j2 _ h2
  obtain ⟨v3, h3⟩ := sE (hall 3 (by decide))
  obtain ⟨rfl, p3⟩ := j3 _ h3
  obtain ⟨v4, h4⟩ := sE (hall 4 (by decide))
  obtain ⟨rfl, p4⟩ := j4 _ h4
  obtain ⟨v5, h5⟩ := sE (hall 5 (by decide))
  obtain ⟨rfl, p5⟩ := j5 _ h5
  obtain ⟨v6, h6⟩ := sE (hall 6 (by decide))
  obtain ⟨rfl, p6⟩ := j6 _ h6
  obtain ⟨v7, h7⟩ := sE (hall 7 (by decide))
  obtain ⟨rfl, p7⟩ := j7 _ h7
  obtain ⟨v8, h8⟩ := sE (hall 8 (by decide))
  obtain ⟨rfl, p8⟩ := j8 _ h8
  obtain ⟨v9, h9⟩ := sE (hall 9 (by decide))
  obtain ⟨ga4_6, rfl⟩ := j9 _ h9
  obtain ⟨v10, h10⟩ := sE (hall 10 (by decide))
  rw [h9, h10] at hB
  have HBa4 : Hid (Blk w ua4 [(w.heap.size, arr .u64 ps, 58), (w.heap.size + 1, arr .u64 qs, 58), (w.heap.size + 1 + 1, arr .u64 zp, 58), (g3202, (arr .u64 z3201), 56), (ga2_4, arr .u64 z5003, 56), (ga3_5, arr .u64 z5009, 56), (ga4_6, arr .u64 z5015, 56)]) := Lib.hid hB
  have HZ5013 := Lib.hid p4
  have HZ5014 := Lib.hid p5
  have HZ5015 := Lib.hid p8
  simp only [laid, Nat.zero_add, Nat.reduceAdd, h0, h1, h2, h3, h4, h5, h6, h7, h8, h9, h10, Act.put, sA, sZ, sS]
  clear j0 j1 j2 j3 j4 j5 j6 j7 j8 j9 hB h0 h1 h2 h3 h4 h5 h6 h7 h8 h9 h10 hall fF HBa3
  clear p0 p1 p2 p3 p4 p5 p6 p7 p8
  (try simp only [Exit.then])
  go_upto_region 5 with fail
  (try simp only [World.size_alloc, Act.put, sA, sZ, sS])
  obtain ⟨z5019, hz5019⟩ : ∃ z : List Int, z = nar (dig 18446744073709551616 4 (fadd Q.z Q.z)) := ⟨_, rfl⟩
  have HE5019 := Lib.hid hz5019
  have HL5019 : Hid (z5019.length = 4) := Lib.hid (by rw [hz5019]; exact (nar_len _).trans (dig_len _ _ _))
  clear hz5019
  obtain ⟨z5020, hz5020⟩ : ∃ z : List Int, z = nar (dig 18446744073709551616 4 (fmul P.z (fadd Q.z Q.z))) := ⟨_, rfl⟩
  have HE5020 := Lib.hid hz5020
  have HL5020 : Hid (z5020.length = 4) := Lib.hid (by rw [hz5020]; exact (nar_len _).trans (dig_len _ _ _))
  clear hz5020
  refine wp_region_lin (fun (fF : Fill) (uF : World) => (∀ v, fF 0 = some v → v = .pointer (some ⟨w.heap.size, 8, none⟩) ∧ True) ∧ (∀ v, fF 1 = some v → v = .agg (arr .u64 mz) ∧ True) ∧ (∀ v, fF 2 = some v → v = .pointer (some ⟨w.heap.size + 1, 8, none⟩) ∧ True) ∧ (∀ v, fF 3 = some v → v = .agg (arr .u64 oz) ∧ True) ∧ (∀ v, fF 4 = some v → v = .pointer (some ⟨w.heap.size + 1, 8, none⟩) ∧ True) ∧ (∀ v, fF 5 = some v → v = .agg (arr .u64 oz) ∧ True) ∧ (∀ v, fF 6 = some v → v = .agg (arr .u64 z5019) ∧ N4 z5019 (fadd Q.z Q.z)) ∧ (∀ v, fF 7 = some v → v = .agg (arr .u64 z5020) ∧ N4 z5020 (fmul P.z (fadd Q.z Q.z))) ∧ (∀ v, fF 8 = some v → ∃ g : Nat, v = .pointer (some ⟨g, 0, none⟩)) ∧ Blk w uF ([(w.heap.size, arr .u64 ps, 58), (w.heap.size + 1, arr .u64 qs, 58), (w.heap.size + 1 + 1, arr .u64 zp, 58), (g3202, (arr .u64 z3201), 56), (ga2_4, arr .u64 z5003, 56), (ga3_5, arr .u64 z5009, 56), (ga4_6, arr .u64 z5015, 56)] ++ (ent (fF 8) ((if (fF 9).isSome = true then arr .u64 z5020 else arr .u64 zl)) 56))) (by kernel_rfl) (by kernel_rfl) ?za5 ?sa5 ?ea5
  case za5 => exact ⟨fun _ h => (by cases h), fun _ h => (by cases h), fun _ h => (by cases h), fun _ h => (by cases h), fun _ h => (by cases h), fun _ h => (by cases h), fun _ h => (by cases h), fun _ h => (by cases h), fun _ h => (by cases h), HBa4.out.drew⟩
  case sa5 =>
    refine LinAll.cons (fun fF bF uF kF hJF hfF hcF hupF hsF hKF => ?_) ?_
    · obtain ⟨j0, j1, j2, j3, j4, j5, j6, j7, j8, hB⟩ := hJF
      have e2 : bF.eval (.tmp 2) = .pointer (some ⟨w.heap.size, 0, none⟩) := hsF.old' 2 (by kernel_rfl) rfl
      exact lin_pure rfl (.pointer (some ⟨w.heap.size, 8, none⟩)) (by simp only [execOp, e2] <;> first | rfl | kernel_rfl | (go_simp; done)) (hKF _ _ ⟨fun _ h => ⟨sI h, trivial⟩, j1, j2, j3, j4, j5, j6, j7, j8, hB⟩)
    refine LinAll.cons (fun fF bF uF kF hJF hfF hcF hupF hsF hKF => ?_) ?_
    · obtain ⟨j0, j1, j2, j3, j4, j5, j6, j7, j8, hB⟩ := hJF
      obtain ⟨e46, p46⟩ := hsF.at hupF 0 46 (by kernel_rfl) rfl j0
      have hB' := hB
      refine step_load_part rfl 56 _ rfl (w.heap.size) (8) (arr .u64 ps) 58 (0, 0) _ (hB'.get 0 rfl) e46 .u64 mz (HmP.out.2.2.1) Tryd.underlying56 rfl (lim_i HmzL.out) ?_
      exact hKF _ _ ⟨j0, fun _ h => ⟨sI h, trivial⟩, j2, j3, j4, j5, j6, j7, j8, hB⟩
    refine LinAll.cons (fun fF bF uF kF hJF hfF hcF hupF hsF hKF => ?_) ?_
    · obtain ⟨j0, j1, j2, j3, j4, j5, j6, j7, j8, hB⟩ := hJF
      have e3 : bF.eval (.tmp 3) = .pointer (some ⟨w.heap.size + 1, 0, none⟩) := hsF.old' 3 (by kernel_rfl) rfl
      exact lin_pure rfl (.pointer (some ⟨w.heap.size + 1, 8, none⟩)) (by simp only [execOp, e3] <;> first | rfl | kernel_rfl | (go_simp; done)) (hKF _ _ ⟨j0, j1, fun _ h => ⟨sI h, trivial⟩, j3, j4, j5, j6, j7, j8, hB⟩)
    refine LinAll.cons (fun fF bF uF kF hJF hfF hcF hupF hsF hKF => ?_) ?_
    · obtain ⟨j0, j1, j2, j3, j4, j5, j6, j7, j8, hB⟩ := hJF
      obtain ⟨e48, p48⟩ := hsF.at hupF 2 48 (by kernel_rfl) rfl j2
      have hB' := hB
      refine step_load_part rfl 56 _ rfl (w.heap.size + 1) (8) (arr .u64 qs) 58 (0, 0) _ (hB'.get 1 rfl) e48 .u64 oz (HoP.out.2.2.1) Tryd.underlying56 rfl (lim_i HozL.out) ?_
      exact hKF _ _ ⟨j0, j1, j2, fun _ h => ⟨sI h, trivial⟩, j4, j5, j6, j7, j8, hB⟩
    refine LinAll.cons (fun fF bF uF kF hJF hfF hcF hupF hsF hKF => ?_) ?_
    · obtain ⟨j0, j1, j2, j3, j4, j5, j6, j7, j8, hB⟩ := hJF
      have e3 : bF.eval (.tmp 3) = .pointer (some ⟨w.heap.size + 1, 0, none⟩) := hsF.old' 3 (by kernel_rfl) rfl
      exact lin_pure rfl (.pointer (some ⟨w.heap.size + 1, 8, none⟩)) (by simp only [execOp, e3] <;> first | rfl | kernel_rfl | (go_simp; done)) (hKF _ _ ⟨j0, j1, j2, j3, fun _ h => ⟨sI h, trivial⟩, j5, j6, j7, j8, hB⟩)
    refine LinAll.cons (fun fF bF uF kF hJF hfF hcF hupF hsF hKF => ?_) ?_
    · obtain ⟨j0, j1, j2, j3, j4, j5, j6, j7, j8, hB⟩ := hJF
      obtain ⟨e50, p50⟩ := hsF.at hupF 4 50 (by kernel_rfl) rfl j4
      have hB' := hB
      refine step_load_part rfl 56 _ rfl (w.heap.size + 1) (8) (arr .u64 qs) 58 (0, 0) _ (hB'.get 1 rfl) e50 .u64 oz (HoP.out.2.2.1) Tryd.underlying56 rfl (lim_i HozL.out) ?_
      exact hKF _ _ ⟨j0, j1, j2, j3, j4, fun _ h => ⟨sI h, trivial⟩, j6, j7, j8, hB⟩
    refine LinAll.cons (fun fF bF uF kF hJF hfF hcF hupF hsF hKF => ?_) ?_
    · obtain ⟨j0, j1, j2, j3, j4, j5, j6, j7, j8, hB⟩ := hJF
      obtain ⟨e49, p49⟩ := hsF.at hupF 3 49 (by kernel_rfl) rfl j3
      obtain ⟨e51, p51⟩ := hsF.at hupF 5 51 (by kernel_rfl) rfl j5
      refine lin_call rfl 73 [Operand.tmp 49, Operand.tmp 51] _ [.agg (arr .u64 oz), .agg (arr .u64 oz)] rfl (by simp only [List.map_cons, List.map_nil, e49, e51] <;> rfl) (fun _ _ => by kernel_rfl) ?_
      refine Calls.mono (plus_any _ _ _ Hoz.out Hoz.out) ?_
      rintro e w1 ⟨y5021_0, rfl, r5021_0, hb⟩
      obtain rfl : y5021_0 = z5019 := r5021_0.1.trans HE5019.out.symm
      exact ⟨_, rfl, hKF _ _ ⟨j0, j1, j2, j3, j4, j5, fun _ h => ⟨sI h, r5021_0⟩, j7, j8, hB.kept hb⟩⟩
    refine LinAll.cons (fun fF bF uF kF hJF hfF hcF hupF hsF hKF => ?_) ?_
    · obtain ⟨j0, j1, j2, j3, j4, j5, j6, j7, j8, hB⟩ := hJF
      obtain ⟨e47, p47⟩ := hsF.at hupF 1 47 (by kernel_rfl) rfl j1
      obtain ⟨e52, p52⟩ := hsF.at hupF 6 52 (by kernel_rfl) rfl j6
      have y6 := hupF 6 (by kernel_rfl)
      obtain ⟨v6, s6⟩ := sE y6
      have HZ5019 := Lib.hid (j6 _ s6).2
      refine lin_call rfl 58 [Operand.tmp 47, Operand.tmp 52] _ [.agg (arr .u64 mz), .agg (arr .u64 z5019)] rfl (by simp only [List.map_cons, List.map_nil, e47, e52] <;> rfl) (fun _ _ => by kernel_rfl) ?_
      refine Calls.mono (times_any _ _ _ Hmz.out HZ5019.out) ?_
      rintro e w1 ⟨y5022_0, rfl, r5022_0, hb⟩
      obtain rfl : y5022_0 = z5020 := r5022_0.1.trans HE5020.out.symm
      exact ⟨_, rfl, hKF _ _ ⟨j0, j1, j2, j3, j4, j5, j6, fun _ h => ⟨sI h, r5022_0⟩, j8, hB.kept hb⟩⟩
    refine LinAll.cons (fun fF bF uF kF hJF hfF hcF hupF hsF hKF => ?_) ?_
    · obtain ⟨j0, j1, j2, j3, j4, j5, j6, j7, j8, hB⟩ := hJF
      have n9 := hcF.down 9 8 (by kernel_rfl) hfF
      refine step_alloc_row rfl 56 rfl _ (HZzl.out _) ?_
      have hB1 : Blk w (uF.alloc (.cells (arr .u64 zl) 56)) ([(w.heap.size, arr .u64 ps, 58), (w.heap.size + 1, arr .u64 qs, 58), (w.heap.size + 1 + 1, arr .u64 zp, 58), (g3202, (arr .u64 z3201), 56), (ga2_4, arr .u64 z5003, 56), (ga3_5, arr .u64 z5009, 56), (ga4_6, arr .u64 z5015, 56)] ++ (ent ((some (.pointer (some ⟨uF.heap.size, 0, none⟩)) : Option Value)) ((if (fF 9).isSome = true then arr .u64 z5020 else arr .u64 zl)) 56)) := hB.ins (a := [(w.heap.size, arr .u64 ps, 58), (w.heap.size + 1, arr .u64 qs, 58), (w.heap.size + 1 + 1, arr .u64 zp, 58), (g3202, (arr .u64 z3201), 56), (ga2_4, arr .u64 z5003, 56), (ga3_5, arr .u64 z5009, 56), (ga4_6, arr .u64 z5015, 56)]) (b := []) _ _ (by rw [hfF, n9]; simp only [ent_none, List.nil_append, List.append_nil, List.append_assoc, List.cons_append]) (by rw [n9]; simp only [ent_some, List.nil_append, List.append_nil, List.append_assoc, List.cons_append, Option.isSome_none, Bool.false_eq_true, if_false])
      exact hKF _ _ ⟨j0, j1, j2, j3, j4, j5, j6, j7, fun _ h => ⟨_, sI h⟩, hB1⟩
    refine LinAll.cons (fun fF bF uF kF hJF hfF hcF hupF hsF hKF => ?_) ?_
    · obtain ⟨j0, j1, j2, j3, j4, j5, j6, j7, j8, hB⟩ := hJF
      have y8 := hupF 8 (by kernel_rfl)
      obtain ⟨v8, s8⟩ := sE y8
      obtain ⟨ga5_7, rfl⟩ := j8 _ s8
      have e9 := hsF.val 8 9 rfl s8
      obtain ⟨e53, p53⟩ := hsF.at hupF 7 53 (by kernel_rfl) rfl j7
      have y7 := hupF 7 (by kernel_rfl)
      obtain ⟨v7, s7⟩ := sE y7
      have HZ5020 := Lib.hid (j7 _ s7).2
      have hB' := hB
      rw [s8, hfF] at hB'
      refine step_store_whole rfl 56 (.tmp 9) (.tmp 53) rfl (ga5_7) (arr .u64 zl) _ 56 (hB'.get 7 rfl) e9 e53 (arr_len2 _ _ HL5020.out HLzl.out) (lim_s HL5020.out) (all_arr _ _) ?_
      intro w1 hb1 hk1 hz1
      have hB1 : Blk w w1 ([(w.heap.size, arr .u64 ps, 58), (w.heap.size + 1, arr .u64 qs, 58), (w.heap.size + 1 + 1, arr .u64 zp, 58), (g3202, (arr .u64 z3201), 56), (ga2_4, arr .u64 z5003, 56), (ga3_5, arr .u64 z5009, 56), (ga4_6, arr .u64 z5015, 56)] ++ (ent (fF 8) ((if ((some undef : Option Value)).isSome = true then arr .u64 z5020 else arr .u64 zl)) 56)) := by rw [s8]; exact hB'.put 7 rfl hk1 hb1
      exact hKF undef w1 ⟨j0, j1, j2, j3, j4, j5, j6, j7, j8, hB1⟩
    exact LinAll.nil
  case ea5 =>
  intro fF ua5 hall hJF
  obtain ⟨j0, j1, j2, j3, j4, j5, j6, j7, j8, hB⟩ := hJF
  obtain ⟨v0, h0⟩ := sE (hall 0 (by decide))
  obtain ⟨rfl, p0⟩ := j0 _ h0
  obtain ⟨v1, h1⟩ := sE (hall 1 (by decide))
  obtain ⟨rfl, p1⟩ := j1 _ h1
  obtain ⟨v2, h2⟩ := sE (hall 2 (by decide))
  obtain ⟨rfl, p2⟩ := j2 _ h2
  obtain ⟨v3, h3⟩ := sE (hall 3 (by decide))
  obtain ⟨rfl, p3⟩ := j3 _ h3
  obtain ⟨v4, h4⟩ := sE (hall 4 (by decide))
  obtain ⟨rfl, p4⟩ := j4 _ h4
  obtain ⟨v5, h5⟩ := sE (hall 5 (by decide))
  obtain ⟨rfl, p5⟩ := j5 _ h5
  obtain ⟨v6, h6⟩ := sE (hall 6 (by decide))
  obtain ⟨rfl, p6⟩ := j6 _ h6
  obtain ⟨v7, h7⟩ := sE (hall 7 (by decide))
  obtain ⟨rfl, p7⟩ := j7 _ h7
  obtain ⟨v8, h8⟩ := sE (hall 8 (by decide))
  obtain ⟨ga5_7, rfl⟩ := j8 _ h8
  obtain ⟨v9, h9⟩ := sE (hall 9 (by decide))
  rw [h8, h9] at hB
  have HBa5 : Hid (Blk w ua5 [(w.heap.size, arr .u64 ps, 58), (w.heap.size + 1, arr .u64 qs, 58), (w.heap.size + 1 + 1, arr .u64 zp, 58), (g3202, (arr .u64 z3201), 56), (ga2_4, arr .u64 z5003, 56), (ga3_5, arr .u64 z5009, 56), (ga4_6, arr .u64 z5015, 56), (ga5_7, arr .u64 z5020, 56)]) := Lib.hid hB
  have HZ5019 := Lib.hid p6
  have HZ5020 := Lib.hid p7
  simp only [laid, Nat.zero_add, Nat.reduceAdd, h0, h1, h2, h3, h4, h5, h6, h7, h8, h9, Act.put, sA, sZ, sS]
  clear j0 j1 j2 j3 j4 j5 j6 j7 j8 hB h0 h1 h2 h3 h4 h5 h6 h7 h8 h9 hall fF HBa4
  clear p0 p1 p2 p3 p4 p5 p6 p7
  (try simp only [Exit.then])
  go_upto_region 6 with fail
  (try simp only [World.size_alloc, Act.put, sA, sZ, sS])
  obtain ⟨z5023, hz5023⟩ : ∃ z : List Int, z = nar (dig 18446744073709551616 4 (fsub (fmul (fadd P.y P.x) (fadd Q.y Q.x)) (fmul (fsub P.y P.x) (fsub Q.y Q.x)))) := ⟨_, rfl⟩
  have HE5023 := Lib.hid hz5023
  have HL5023 : Hid (z5023.length = 4) := Lib.hid (by rw [hz5023]; exact (nar_len _).trans (dig_len _ _ _))
  clear hz5023
  obtain ⟨z5024, hz5024⟩ : ∃ z : List Int, z = nar (dig 18446744073709551616 4 (fsub (fmul P.z (fadd Q.z Q.z)) (fmul (fmul P.t (fadd dd dd)) Q.t))) := ⟨_, rfl⟩
  have HE5024 := Lib.hid hz5024
  have HL5024 : Hid (z5024.length = 4) := Lib.hid (by rw [hz5024]; exact (nar_len _).trans (dig_len _ _ _))
  clear hz5024
  obtain ⟨z5025, hz5025⟩ : ∃ z : List Int, z = nar (dig 18446744073709551616 4 (fadd (fmul P.z (fadd Q.z Q.z)) (fmul (fmul P.t (fadd dd dd)) Q.t))) := ⟨_, rfl⟩
  have HE5025 := Lib.hid hz5025
  have HL5025 : Hid (z5025.length = 4) := Lib.hid (by rw [hz5025]; exact (nar_len _).trans (dig_len _ _ _))
  clear hz5025
  obtain ⟨z5026, hz5026⟩ : ∃ z : List Int, z = nar (dig 18446744073709551616 4 (fadd (fmul (fadd P.y P.x) (fadd Q.y Q.x)) (fmul (fsub P.y P.x) (fsub Q.y Q.x)))) := ⟨_, rfl⟩
  have HE5026 := Lib.hid hz5026
  have HL5026 : Hid (z5026.length = 4) := Lib.hid (by rw [hz5026]; exact (nar_len _).trans (dig_len _ _ _))
  clear hz5026
  refine wp_region_lin (fun (fF : Fill) (uF : World) => (∀ v, fF 0 = some v → v = .agg (arr .u64 z5009) ∧ True) ∧ (∀ v, fF 1 = some v → v = .agg (arr .u64 z5003) ∧ True) ∧ (∀ v, fF 2 = some v → v = .agg (arr .u64 z5023) ∧ N4 z5023 (fsub (fmul (fadd P.y P.x) (fadd Q.y Q.x)) (fmul (fsub P.y P.x) (fsub Q.y Q.x)))) ∧ (∀ v, fF 3 = some v → v = .agg (arr .u64 z5020) ∧ True) ∧ (∀ v, fF 4 = some v → v = .agg (arr .u64 z5015) ∧ True) ∧ (∀ v, fF 5 = some v → v = .agg (arr .u64 z5024) ∧ N4 z5024 (fsub (fmul P.z (fadd Q.z Q.z)) (fmul (fmul P.t (fadd dd dd)) Q.t))) ∧ (∀ v, fF 6 = some v → v = .agg (arr .u64 z5020) ∧ True) ∧ (∀ v, fF 7 = some v → v = .agg (arr .u64 z5015) ∧ True) ∧ (∀ v, fF 8 = some v → v = .agg (arr .u64 z5025) ∧ N4 z5025 (fadd (fmul P.z (fadd Q.z Q.z)) (fmul (fmul P.t (fadd dd dd)) Q.t))) ∧ (∀ v, fF 9 = some v → v = .agg (arr .u64 z5009) ∧ True) ∧ (∀ v, fF 10 = some v → v = .agg (arr .u64 z5003) ∧ True) ∧ (∀ v, fF 11 = some v → v = .agg (arr .u64 z5026) ∧ N4 z5026 (fadd (fmul (fadd P.y P.x) (fadd Q.y Q.x)) (fmul (fsub P.y P.x) (fsub Q.y Q.x)))) ∧ (∀ v, fF 12 = some v → ∃ g : Nat, v = .pointer (some ⟨g, 0, none⟩)) ∧ (∀ v, fF 13 = some v → ∃ g : Nat, v = .pointer (some ⟨g, 0, none⟩)) ∧ (∀ v, fF 14 = some v → ∃ g : Nat, v = .pointer (some ⟨g, 0, none⟩)) ∧ (∀ v, fF 15 = some v → ∃ g : Nat, v = .pointer (some ⟨g, 0, none⟩)) ∧ Blk w uF ([(w.heap.size, arr .u64 ps, 58), (w.heap.size + 1, arr .u64 qs, 58), (w.heap.size + 1 + 1, arr .u64 zp, 58), (g3202, (arr .u64 z3201), 56), (ga2_4, arr .u64 z5003, 56), (ga3_5, arr .u64 z5009, 56), (ga4_6, arr .u64 z5015, 56), (ga5_7, arr .u64 z5020, 56)] ++ (ent (fF 12) ((if (fF 16).isSome = true then arr .u64 z5023 else arr .u64 zl)) 56 ++ (ent (fF 13) ((if (fF 17).isSome = true then arr .u64 z5024 else arr .u64 zl)) 56 ++ (ent (fF 14) ((if (fF 18).isSome = true then arr .u64 z5025 else arr .u64 zl)) 56 ++ (ent (fF 15) ((if (fF 19).isSome = true then arr .u64 z5026 else arr .u64 zl)) 56)))))) (by kernel_rfl) (by kernel_rfl) ?za6 ?sa6 ?ea6
  case za6 => exact ⟨fun _ h => (by cases h), fun _ h => (by cases h), fun _ h => (by cases h), fun _ h => (by cases h), fun _ h => (by cases h), fun _ h => (by cases h), fun _ h => (by cases h), fun _ h => (by cases h), fun _ h => (by cases h), fun _ h => (by cases h), fun _ h => (by cases h), fun _ h => (by cases h), fun _ h => (by cases h), fun _ h => (by cases h), fun _ h => (by cases h), fun _ h => (by cases h), HBa5.out.drew⟩
  case sa6 =>
    refine LinAll.cons (fun fF bF uF kF hJF hfF hcF hupF hsF hKF => ?_) ?_
    · obtain ⟨j0, j1, j2, j3, j4, j5, j6, j7, j8, j9, j10, j11, j12, j13, j14, j15, hB⟩ := hJF
      have e7 : bF.eval (.tmp 7) = .pointer (some ⟨ga3_5, 0, none⟩) := hsF.old' 7 (by kernel_rfl) rfl
      have hB' := hB
      refine step_load_part rfl 56 _ rfl (ga3_5) (0) (arr .u64 z5009) 56 (0, 0) _ (hB'.get 5 rfl) e7 .u64 z5009 (arr_part _ _) Tryd.underlying56 rfl (lim_i HL5009.out) ?_
      exact hKF _ _ ⟨fun _ h => ⟨sI h, trivial⟩, j1, j2, j3, j4, j5, j6, j7, j8, j9, j10, j11, j12, j13, j14, j15, hB⟩
    refine LinAll.cons (fun fF bF uF kF hJF hfF hcF hupF hsF hKF => ?_) ?_
    · obtain ⟨j0, j1, j2, j3, j4, j5, j6, j7, j8, j9, j10, j11, j12, j13, j14, j15, hB⟩ := hJF
      have e6 : bF.eval (.tmp 6) = .pointer (some ⟨ga2_4, 0, none⟩) := hsF.old' 6 (by kernel_rfl) rfl
      have hB' := hB
      refine step_load_part rfl 56 _ rfl (ga2_4) (0) (arr .u64 z5003) 56 (0, 0) _ (hB'.get 4 rfl) e6 .u64 z5003 (arr_part _ _) Tryd.underlying56 rfl (lim_i HL5003.out) ?_
      exact hKF _ _ ⟨j0, fun _ h => ⟨sI h, trivial⟩, j2, j3, j4, j5, j6, j7, j8, j9, j10, j11, j12, j13, j14, j15, hB⟩
    refine LinAll.cons (fun fF bF uF kF hJF hfF hcF hupF hsF hKF => ?_) ?_
    · obtain ⟨j0, j1, j2, j3, j4, j5, j6, j7, j8, j9, j10, j11, j12, j13, j14, j15, hB⟩ := hJF
      obtain ⟨e54, p54⟩ := hsF.at hupF 0 54 (by kernel_rfl) rfl j0
      obtain ⟨e55, p55⟩ := hsF.at hupF 1 55 (by kernel_rfl) rfl j1
      refine lin_call rfl 72 [Operand.tmp 54, Operand.tmp 55] _ [.agg (arr .u64 z5009), .agg (arr .u64 z5003)] rfl (by simp only [List.map_cons, List.map_nil, e54, e55] <;> rfl) (fun _ _ => by kernel_rfl) ?_
      refine Calls.mono (minus_any _ _ _ HZ5009.out HZ5003.out (fmul_lt _ _) (fmul_lt _ _)) ?_
      rintro e w1 ⟨y5027_0, rfl, r5027_0, hb⟩
      obtain rfl : y5027_0 = z5023 := r5027_0.1.trans HE5023.out.symm
      exact ⟨_, rfl, hKF _ _ ⟨j0, j1, fun _ h => ⟨sI h, r5027_0⟩, j3, j4, j5, j6, j7, j8, j9, j10, j11, j12, j13, j14, j15, hB.kept hb⟩⟩
    refine LinAll.cons (fun fF bF uF kF hJF hfF hcF hupF hsF hKF => ?_) ?_
    · obtain ⟨j0, j1, j2, j3, j4, j5, j6, j7, j8, j9, j10, j11, j12, j13, j14, j15, hB⟩ := hJF
      have e9 : bF.eval (.tmp 9) = .pointer (some ⟨ga5_7, 0, none⟩) := hsF.old' 9 (by kernel_rfl) rfl
      have hB' := hB
      refine step_load_part rfl 56 _ rfl (ga5_7) (0) (arr .u64 z5020) 56 (0, 0) _ (hB'.get 7 rfl) e9 .u64 z5020 (arr_part _ _) Tryd.underlying56 rfl (lim_i HL5020.out) ?_
      exact hKF _ _ ⟨j0, j1, j2, fun _ h => ⟨sI h, trivial⟩, j4, j5, j6, j7, j8, j9, j10, j11, j12, j13, j14, j15, hB⟩
    refine LinAll.cons (fun fF bF uF kF hJF hfF hcF hupF hsF hKF => ?_) ?_
    · obtain ⟨j0, j1, j2, j3, j4, j5, j6, j7, j8, j9, j10, j11, j12, j13, j14, j15, hB⟩ := hJF
      have e8 : bF.eval (.tmp 8) = .pointer (some ⟨ga4_6, 0, none⟩) := hsF.old' 8 (by kernel_rfl) rfl
      have hB' := hB
      refine step_load_part rfl 56 _ rfl (ga4_6) (0) (arr .u64 z5015) 56 (0, 0) _ (hB'.get 6 rfl) e8 .u64 z5015 (arr_part _ _) Tryd.underlying56 rfl (lim_i HL5015.out) ?_
      exact hKF _ _ ⟨j0, j1, j2, j3, fun _ h => ⟨sI h, trivial⟩, j5, j6, j7, j8, j9, j10, j11, j12, j13, j14, j15, hB⟩
    refine LinAll.cons (fun fF bF uF kF hJF hfF hcF hupF hsF hKF => ?_) ?_
    · obtain ⟨j0, j1, j2, j3, j4, j5, j6, j7, j8, j9, j10, j11, j12, j13, j14, j15, hB⟩ := hJF
      obtain ⟨e57, p57⟩ := hsF.at hupF 3 57 (by kernel_rfl) rfl j3
      obtain ⟨e58, p58⟩ := hsF.at hupF 4 58 (by kernel_rfl) rfl j4
      refine lin_call rfl 72 [Operand.tmp 57, Operand.tmp 58] _ [.agg (arr .u64 z5020), .agg (arr .u64 z5015)] rfl (by simp only [List.map_cons, List.map_nil, e57, e58] <;> rfl) (fun _ _ => by kernel_rfl) ?_
      refine Calls.mono (minus_any _ _ _ HZ5020.out HZ5015.out (fmul_lt _ _) (fmul_lt _ _)) ?_
      rintro e w1 ⟨y5028_0, rfl, r5028_0, hb⟩
      obtain rfl : y5028_0 = z5024 := r5028_0.1.trans HE5024.out.symm
      exact ⟨_, rfl, hKF _ _ ⟨j0, j1, j2, j3, j4, fun _ h => ⟨sI h, r5028_0⟩, j6, j7, j8, j9, j10, j11, j12, j13, j14, j15, hB.kept hb⟩⟩
    refine LinAll.cons (fun fF bF uF kF hJF hfF hcF hupF hsF hKF => ?_) ?_
    · obtain ⟨j0, j1, j2, j3, j4, j5, j6, j7, j8, j9, j10, j11, j12, j13, j14, j15, hB⟩ := hJF
      have e9 : bF.eval (.tmp 9) = .pointer (some ⟨ga5_7, 0, none⟩) := hsF.old' 9 (by kernel_rfl) rfl
      have hB' := hB
      refine step_load_part rfl 56 _ rfl (ga5_7) (0) (arr .u64 z5020) 56 (0, 0) _ (hB'.get 7 rfl) e9 .u64 z5020 (arr_part _ _) Tryd.underlying56 rfl (lim_i HL5020.out) ?_
      exact hKF _ _ ⟨j0, j1, j2, j3, j4, j5, fun _ h => ⟨sI h, trivial⟩, j7, j8, j9, j10, j11, j12, j13, j14, j15, hB⟩
    refine LinAll.cons (fun fF bF uF kF hJF hfF hcF hupF hsF hKF => ?_) ?_
    · obtain ⟨j0, j1, j2, j3, j4, j5, j6, j7, j8, j9, j10, j11, j12, j13, j14, j15, hB⟩ := hJF
      have e8 : bF.eval (.tmp 8) = .pointer (some ⟨ga4_6, 0, none⟩) := hsF.old' 8 (by kernel_rfl) rfl
      have hB' := hB
      refine step_load_part rfl 56 _ rfl (ga4_6) (0) (arr .u64 z5015) 56 (0, 0) _ (hB'.get 6 rfl) e8 .u64 z5015 (arr_part _ _) Tryd.underlying56 rfl (lim_i HL5015.out) ?_
      exact hKF _ _ ⟨j0, j1, j2, j3, j4, j5, j6, fun _ h => ⟨sI h, trivial⟩, j8, j9, j10, j11, j12, j13, j14, j15, hB⟩
    refine LinAll.cons (fun fF bF uF kF hJF hfF hcF hupF hsF hKF => ?_) ?_
    · obtain ⟨j0, j1, j2, j3, j4, j5, j6, j7, j8, j9, j10, j11, j12, j13, j14, j15, hB⟩ := hJF
      obtain ⟨e60, p60⟩ := hsF.at hupF 6 60 (by kernel_rfl) rfl j6
      obtain ⟨e61, p61⟩ := hsF.at hupF 7 61 (by kernel_rfl) rfl j7
      refine lin_call rfl 73 [Operand.tmp 60, Operand.tmp 61] _ [.agg (arr .u64 z5020), .agg (arr .u64 z5015)] rfl (by simp only [List.map_cons, List.map_nil, e60, e61] <;> rfl) (fun _ _ => by kernel_rfl) ?_
      refine Calls.mono (plus_any _ _ _ HZ5020.out HZ5015.out) ?_
      rintro e w1 ⟨y5029_0, rfl, r5029_0, hb⟩
      obtain rfl : y5029_0 = z5025 := r5029_0.1.trans HE5025.out.symm
      exact ⟨_, rfl, hKF _ _ ⟨j0, j1, j2, j3, j4, j5, j6, j7, fun _ h => ⟨sI h, r5029_0⟩, j9, j10, j11, j12, j13, j14, j15, hB.kept hb⟩⟩
    refine LinAll.cons (fun fF bF uF kF hJF hfF hcF hupF hsF hKF => ?_) ?_
    · obtain ⟨j0, j1, j2, j3, j4, j5, j6, j7, j8, j9, j10, j11, j12, j13, j14, j15, hB⟩ := hJF
      have e7 : bF.eval (.tmp 7) = .pointer (some ⟨ga3_5, 0, none⟩) := hsF.old' 7 (by kernel_rfl) rfl
      have hB' := hB
      refine step_load_part rfl 56 _ rfl (ga3_5) (0) (arr .u64 z5009) 56 (0, 0) _ (hB'.get 5 rfl) e7 .u64 z5009 (arr_part _ _) Tryd.underlying56 rfl (lim_i HL5009.out) ?_
      exact hKF _ _ ⟨j0, j1, j2, j3, j4, j5, j6, j7, j8, fun _ h => ⟨sI h, trivial⟩, j10, j11, j12, j13, j14, j15, hB⟩
    refine LinAll.cons (fun fF bF uF kF hJF hfF hcF hupF hsF hKF => ?_) ?_
    · obtain ⟨j0, j1, j2, j3, j4, j5, j6, j7, j8, j9, j10, j11, j12, j13, j14, j15, hB⟩ := hJF
      have e6 : bF.eval (.tmp 6) = .pointer (some ⟨ga2_4, 0, none⟩) := hsF.old' 6 (by kernel_rfl) rfl
      have hB' := hB
      refine step_load_part rfl 56 _ rfl (ga2_4) (0) (arr .u64 z5003) 56 (0, 0) _ (hB'.get 4 rfl) e6 .u64 z5003 (arr_part _ _) Tryd.underlying56 rfl (lim_i HL5003.out) ?_
      exact hKF _ _ ⟨j0, j1, j2, j3, j4, j5, j6, j7, j8, j9, fun _ h => ⟨sI h, trivial⟩, j11, j12, j13, j14, j15, hB⟩
    refine LinAll.cons (fun fF bF uF kF hJF hfF hcF hupF hsF hKF => ?_) ?_
    · obtain ⟨j0, j1, j2, j3, j4, j5, j6, j7, j8, j9, j10, j11, j12, j13, j14, j15, hB⟩ := hJF
      obtain ⟨e63, p63⟩ := hsF.at hupF 9 63 (by kernel_rfl) rfl j9
      obtain ⟨e64, p64⟩ := hsF.at hupF 10 64 (by kernel_rfl) rfl j10
      refine lin_call rfl 73 [Operand.tmp 63, Operand.tmp 64] _ [.agg (arr .u64 z5009), .agg (arr .u64 z5003)] rfl (by simp only [List.map_cons, List.map_nil, e63, e64] <;> rfl) (fun _ _ => by kernel_rfl) ?_
      refine Calls.mono (plus_any _ _ _ HZ5009.out HZ5003.out) ?_
      rintro e w1 ⟨y5030_0, rfl, r5030_0, hb⟩
      obtain rfl : y5030_0 = z5026 := r5030_0.1.trans HE5026.out.symm
      exact ⟨_, rfl, hKF _ _ ⟨j0, j1, j2, j3, j4, j5, j6, j7, j8, j9, j10, fun _ h => ⟨sI h, r5030_0⟩, j12, j13, j14, j15, hB.kept hb⟩⟩
    refine LinAll.cons (fun fF bF uF kF hJF hfF hcF hupF hsF hKF => ?_) ?_
    · obtain ⟨j0, j1, j2, j3, j4, j5, j6, j7, j8, j9, j10, j11, j12, j13, j14, j15, hB⟩ := hJF
      have n16 := hcF.down 16 12 (by kernel_rfl) hfF
      refine step_alloc_row rfl 56 rfl _ (HZzl.out _) ?_
      have hB1 : Blk w (uF.alloc (.cells (arr .u64 zl) 56)) ([(w.heap.size, arr .u64 ps, 58), (w.heap.size + 1, arr .u64 qs, 58), (w.heap.size + 1 + 1, arr .u64 zp, 58), (g3202, (arr .u64 z3201), 56), (ga2_4, arr .u64 z5003, 56), (ga3_5, arr .u64 z5009, 56), (ga4_6, arr .u64 z5015, 56), (ga5_7, arr .u64 z5020, 56)] ++ (ent ((some (.pointer (some ⟨uF.heap.size, 0, none⟩)) : Option Value)) ((if (fF 16).isSome = true then arr .u64 z5023 else arr .u64 zl)) 56 ++ (ent (fF 13) ((if (fF 17).isSome = true then arr .u64 z5024 else arr .u64 zl)) 56 ++ (ent (fF 14) ((if (fF 18).isSome = true then arr .u64 z5025 else arr .u64 zl)) 56 ++ (ent (fF 15) ((if (fF 19).isSome = true then arr .u64 z5026 else arr .u64 zl)) 56))))) := hB.ins (a := [(w.heap.size, arr .u64 ps, 58), (w.heap.size + 1, arr .u64 qs, 58), (w.heap.size + 1 + 1, arr .u64 zp, 58), (g3202, (arr .u64 z3201), 56), (ga2_4, arr .u64 z5003, 56), (ga3_5, arr .u64 z5009, 56), (ga4_6, arr .u64 z5015, 56), (ga5_7, arr .u64 z5020, 56)]) (b := ent (fF 13) ((if (fF 17).isSome = true then arr .u64 z5024 else arr .u64 zl)) 56 ++ (ent (fF 14) ((if (fF 18).isSome = true then arr .u64 z5025 else arr .u64 zl)) 56 ++ (ent (fF 15) ((if (fF 19).isSome = true then arr .u64 z5026 else arr .u64 zl)) 56))) _ _ (by rw [hfF, n16]; simp only [ent_none, List.nil_append, List.append_nil, List.append_assoc, List.cons_append]) (by rw [n16]; simp only [ent_some, List.nil_append, List.append_nil, List.append_assoc, List.cons_append, Option.isSome_none, Bool.false_eq_true, if_false])
      exact hKF _ _ ⟨j0, j1, j2, j3, j4, j5, j6, j7, j8, j9, j10, j11, fun _ h => ⟨_, sI h⟩, j13, j14, j15, hB1⟩
    refine LinAll.cons (fun fF bF uF kF hJF hfF hcF hupF hsF hKF => ?_) ?_
    · obtain ⟨j0, j1, j2, j3, j4, j5, j6, j7, j8, j9, j10, j11, j12, j13, j14, j15, hB⟩ := hJF
      have n17 := hcF.down 17 13 (by kernel_rfl) hfF
      refine step_alloc_row rfl 56 rfl _ (HZzl.out _) ?_
      have hB1 : Blk w (uF.alloc (.cells (arr .u64 zl) 56)) ([(w.heap.size, arr .u64 ps, 58), (w.heap.size + 1, arr .u64 qs, 58), (w.heap.size + 1 + 1, arr .u64 zp, 58), (g3202, (arr .u64 z3201), 56), (ga2_4, arr .u64 z5003, 56), (ga3_5, arr .u64 z5009, 56), (ga4_6, arr .u64 z5015, 56), (ga5_7, arr .u64 z5020, 56)] ++ (ent (fF 12) ((if (fF 16).isSome = true then arr .u64 z5023 else arr .u64 zl)) 56 ++ (ent ((some (.pointer (some ⟨uF.heap.size, 0, none⟩)) : Option Value)) ((if (fF 17).isSome = true then arr .u64 z5024 else arr .u64 zl)) 56 ++ (ent (fF 14) ((if (fF 18).isSome = true then arr .u64 z5025 else arr .u64 zl)) 56 ++ (ent (fF 15) ((if (fF 19).isSome = true then arr .u64 z5026 else arr .u64 zl)) 56))))) := hB.ins (a := [(w.heap.size, arr .u64 ps, 58), (w.heap.size + 1, arr .u64 qs, 58), (w.heap.size + 1 + 1, arr .u64 zp, 58), (g3202, (arr .u64 z3201), 56), (ga2_4, arr .u64 z5003, 56), (ga3_5, arr .u64 z5009, 56), (ga4_6, arr .u64 z5015, 56), (ga5_7, arr .u64 z5020, 56)] ++ ent (fF 12) ((if (fF 16).isSome = true then arr .u64 z5023 else arr .u64 zl)) 56) (b := ent (fF 14) ((if (fF 18).isSome = true then arr .u64 z5025 else arr .u64 zl)) 56 ++ (ent (fF 15) ((if (fF 19).isSome = true then arr .u64 z5026 else arr .u64 zl)) 56)) _ _ (by rw [hfF, n17]; simp only [ent_none, List.nil_append, List.append_nil, List.append_assoc, List.cons_append]) (by rw [n17]; simp only [ent_some, List.nil_append, List.append_nil, List.append_assoc, List.cons_append, Option.isSome_none, Bool.false_eq_true, if_false])
      exact hKF _ _ ⟨j0, j1, j2, j3, j4, j5, j6, j7, j8, j9, j10, j11, j12, fun _ h => ⟨_, sI h⟩, j14, j15, hB1⟩
    refine LinAll.cons (fun fF bF uF kF hJF hfF hcF hupF hsF hKF => ?_) ?_
    · obtain ⟨j0, j1, j2, j3, j4, j5, j6, j7, j8, j9, j10, j11, j12, j13, j14, j15, hB⟩ := hJF
      have n18 := hcF.down 18 14 (by kernel_rfl) hfF
      refine step_alloc_row rfl 56 rfl _ (HZzl.out _) ?_
      have hB1 : Blk w (uF.alloc (.cells (arr .u64 zl) 56)) ([(w.heap.size, arr .u64 ps, 58), (w.heap.size + 1, arr .u64 qs, 58), (w.heap.size + 1 + 1, arr .u64 zp, 58), (g3202, (arr .u64 z3201), 56), (ga2_4, arr .u64 z5003, 56), (ga3_5, arr .u64 z5009, 56), (ga4_6, arr .u64 z5015, 56), (ga5_7, arr .u64 z5020, 56)] ++ (ent (fF 12) ((if (fF 16).isSome = true then arr .u64 z5023 else arr .u64 zl)) 56 ++ (ent (fF 13) ((if (fF 17).isSome = true then arr .u64 z5024 else arr .u64 zl)) 56 ++ (ent ((some (.pointer (some ⟨uF.heap.size, 0, none⟩)) : Option Value)) ((if (fF 18).isSome = true then arr .u64 z5025 else arr .u64 zl)) 56 ++ (ent (fF 15) ((if (fF 19).isSome = true then arr .u64 z5026 else arr .u64 zl)) 56))))) := hB.ins (a := [(w.heap.size, arr .u64 ps, 58), (w.heap.size + 1, arr .u64 qs, 58), (w.heap.size + 1 + 1, arr .u64 zp, 58), (g3202, (arr .u64 z3201), 56), (ga2_4, arr .u64 z5003, 56), (ga3_5, arr .u64 z5009, 56), (ga4_6, arr .u64 z5015, 56), (ga5_7, arr .u64 z5020, 56)] ++ ent (fF 12) ((if (fF 16).isSome = true then arr .u64 z5023 else arr .u64 zl)) 56 ++ ent (fF 13) ((if (fF 17).isSome = true then arr .u64 z5024 else arr .u64 zl)) 56) (b := ent (fF 15) ((if (fF 19).isSome = true then arr .u64 z5026 else arr .u64 zl)) 56) _ _ (by rw [hfF, n18]; simp only [ent_none, List.nil_append, List.append_nil, List.append_assoc, List.cons_append]) (by rw [n18]; simp only [ent_some, List.nil_append, List.append_nil, List.append_assoc, List.cons_append, Option.isSome_none, Bool.false_eq_true, if_false])
      exact hKF _ _ ⟨j0, j1, j2, j3, j4, j5, j6, j7, j8, j9, j10, j11, j12, j13, fun _ h => ⟨_, sI h⟩, j15, hB1⟩
    refine LinAll.cons (fun fF bF uF kF hJF hfF hcF hupF hsF hKF => ?_) ?_
    · obtain ⟨j0, j1, j2, j3, j4, j5, j6, j7, j8, j9, j10, j11, j12, j13, j14, j15, hB⟩ := hJF
      have n19 := hcF.down 19 15 (by kernel_rfl) hfF
      refine step_alloc_row rfl 56 rfl _ (HZzl.out _) ?_
      have hB1 : Blk w (uF.alloc (.cells (arr .u64 zl) 56)) ([(w.heap.size, arr .u64 ps, 58), (w.heap.size + 1, arr .u64 qs, 58), (w.heap.size + 1 + 1, arr .u64 zp, 58), (g3202, (arr .u64 z3201), 56), (ga2_4, arr .u64 z5003, 56), (ga3_5, arr .u64 z5009, 56), (ga4_6, arr .u64 z5015, 56), (ga5_7, arr .u64 z5020, 56)] ++ (ent (fF 12) ((if (fF 16).isSome = true then arr .u64 z5023 else arr .u64 zl)) 56 ++ (ent (fF 13) ((if (fF 17).isSome = true then arr .u64 z5024 else arr .u64 zl)) 56 ++ (ent (fF 14) ((if (fF 18).isSome = true then arr .u64 z5025 else arr .u64 zl)) 56 ++ (ent ((some (.pointer (some ⟨uF.heap.size, 0, none⟩)) : Option Value)) ((if (fF 19).isSome = true then arr .u64 z5026 else arr .u64 zl)) 56))))) := hB.ins (a := [(w.heap.size, arr .u64 ps, 58), (w.heap.size + 1, arr .u64 qs, 58), (w.heap.size + 1 + 1, arr .u64 zp, 58), (g3202, (arr .u64 z3201), 56), (ga2_4, arr .u64 z5003, 56), (ga3_5, arr .u64 z5009, 56), (ga4_6, arr .u64 z5015, 56), (ga5_7, arr .u64 z5020, 56)] ++ ent (fF 12) ((if (fF 16).isSome = true then arr .u64 z5023 else arr .u64 zl)) 56 ++ ent (fF 13) ((if (fF 17).isSome = true then arr .u64 z5024 else arr .u64 zl)) 56 ++ ent (fF 14) ((if (fF 18).isSome = true then arr .u64 z5025 else arr .u64 zl)) 56) (b := []) _ _ (by rw [hfF, n19]; simp only [ent_none, List.nil_append, List.append_nil, List.append_assoc, List.cons_append]) (by rw [n19]; simp only [ent_some, List.nil_append, List.append_nil, List.append_assoc, List.cons_append, Option.isSome_none, Bool.false_eq_true, if_false])
      exact hKF _ _ ⟨j0, j1, j2, j3, j4, j5, j6, j7, j8, j9, j10, j11, j12, j13, j14, fun _ h => ⟨_, sI h⟩, hB1⟩
    refine LinAll.cons (fun fF bF uF kF hJF hfF hcF hupF hsF hKF => ?_) ?_
    · obtain ⟨j0, j1, j2, j3, j4, j5, j6, j7, j8, j9, j10, j11, j12, j13, j14, j15, hB⟩ := hJF
      have y12 := hupF 12 (by kernel_rfl)
      obtain ⟨v12, s12⟩ := sE y12
      obtain ⟨ga6_8, rfl⟩ := j12 _ s12
      have y13 := hupF 13 (by kernel_rfl)
      obtain ⟨v13, s13⟩ := sE y13
      obtain ⟨ga6_9, rfl⟩ := j13 _ s13
      have y14 := hupF 14 (by kernel_rfl)
      obtain ⟨v14, s14⟩ := sE y14
      obtain ⟨ga6_10, rfl⟩ := j14 _ s14
      have y15 := hupF 15 (by kernel_rfl)
      obtain ⟨v15, s15⟩ := sE y15
      obtain ⟨ga6_11, rfl⟩ := j15 _ s15
      have e10 := hsF.val 12 10 rfl s12
      obtain ⟨e56, p56⟩ := hsF.at hupF 2 56 (by kernel_rfl) rfl j2
      have y2 := hupF 2 (by kernel_rfl)
      obtain ⟨v2, s2⟩ := sE y2
      have HZ5023 := Lib.hid (j2 _ s2).2
      have hB' := hB
      rw [s12, s13, s14, s15, hfF] at hB'
      refine step_store_whole rfl 56 (.tmp 10) (.tmp 56) rfl (ga6_8) (arr .u64 zl) _ 56 (hB'.get 8 rfl) e10 e56 (arr_len2 _ _ HL5023.out HLzl.out) (lim_s HL5023.out) (all_arr _ _) ?_
      intro w1 hb1 hk1 hz1
      have hB1 : Blk w w1 ([(w.heap.size, arr .u64 ps, 58), (w.heap.size + 1, arr .u64 qs, 58), (w.heap.size + 1 + 1, arr .u64 zp, 58), (g3202, (arr .u64 z3201), 56), (ga2_4, arr .u64 z5003, 56), (ga3_5, arr .u64 z5009, 56), (ga4_6, arr .u64 z5015, 56), (ga5_7, arr .u64 z5020, 56)] ++ (ent (fF 12) ((if ((some undef : Option Value)).isSome = true then arr .u64 z5023 else arr .u64 zl)) 56 ++ (ent (fF 13) ((if (fF 17).isSome = true then arr .u64 z5024 else arr .u64 zl)) 56 ++ (ent (fF 14) ((if (fF 18).isSome = true then arr .u64 z5025 else arr .u64 zl)) 56 ++ (ent (fF 15) ((if (fF 19).isSome = true then arr .u64 z5026 else arr .u64 zl)) 56))))) := by rw [s12, s13, s14, s15]; exact hB'.put 8 rfl hk1 hb1
      exact hKF undef w1 ⟨j0, j1, j2, j3, j4, j5, j6, j7, j8, j9, j10, j11, j12, j13, j14, j15, hB1⟩
    refine LinAll.cons (fun fF bF uF kF hJF hfF hcF hupF hsF hKF => ?_) ?_
    · obtain ⟨j0, j1, j2, j3, j4, j5, j6, j7, j8, j9, j10, j11, j12, j13, j14, j15, hB⟩ := hJF
      have y12 := hupF 12 (by kernel_rfl)
      obtain ⟨v12, s12⟩ := sE y12
      obtain ⟨ga6_8, rfl⟩ := j12 _ s12
      have y13 := hupF 13 (by kernel_rfl)
      obtain ⟨v13, s13⟩ := sE y13
      obtain ⟨ga6_9, rfl⟩ := j13 _ s13
      have y14 := hupF 14 (by kernel_rfl)
      obtain ⟨v14, s14⟩ := sE y14
      obtain ⟨ga6_10, rfl⟩ := j14 _ s14
      have y15 := hupF 15 (by kernel_rfl)
      obtain ⟨v15, s15⟩ := sE y15
      obtain ⟨ga6_11, rfl⟩ := j15 _ s15
      have e11 := hsF.val 13 11 rfl s13
      obtain ⟨e59, p59⟩ := hsF.at hupF 5 59 (by kernel_rfl) rfl j5
      have y5 := hupF 5 (by kernel_rfl)
      obtain ⟨v5, s5⟩ := sE y5
      have HZ5024 := Lib.hid (j5 _ s5).2
      have hB' := hB
      rw [s12, s13, s14, s15, hfF] at hB'
      refine step_store_whole rfl 56 (.tmp 11) (.tmp 59) rfl (ga6_9) (arr .u64 zl) _ 56 (hB'.get 9 rfl) e11 e59 (arr_len2 _ _ HL5024.out HLzl.out) (lim_s HL5024.out) (all_arr _ _) ?_
      intro w1 hb1 hk1 hz1
      have hB1 : Blk w w1 ([(w.heap.size, arr .u64 ps, 58), (w.heap.size + 1, arr .u64 qs, 58), (w.heap.size + 1 + 1, arr .u64 zp, 58), (g3202, (arr .u64 z3201), 56), (ga2_4, arr .u64 z5003, 56), (ga3_5, arr .u64 z5009, 56), (ga4_6, arr .u64 z5015, 56), (ga5_7, arr .u64 z5020, 56)] ++ (ent (fF 12) ((if (fF 16).isSome = true then arr .u64 z5023 else arr .u64 zl)) 56 ++ (ent (fF 13) ((if ((some undef : Option Value)).isSome = true then arr .u64 z5024 else arr .u64 zl)) 56 ++ (ent (fF 14) ((if (fF 18).isSome = true then arr .u64 z5025 else arr .u64 zl)) 56 ++ (ent (fF 15) ((if (fF 19).isSome = true then arr .u64 z5026 else arr .u64 zl)) 56))))) := by rw [s12, s13, s14, s15]; exact hB'.put 9 rfl hk1 hb1
      exact hKF undef w1 ⟨j0, j1, j2, j3, j4, j5, j6, j7, j8, j9, j10, j11, j12, j13, j14, j15, hB1⟩
    refine LinAll.cons (fun fF bF uF kF hJF hfF hcF hupF hsF hKF => ?_) ?_
    · obtain ⟨j0, j1, j2, j3, j4, j5, j6, j7, j8, j9, j10, j11, j12, j13, j14, j15, hB⟩ := hJF
      have y12 := hupF 12 (by kernel_rfl)
      obtain ⟨v12, s12⟩ := sE y12
      obtain ⟨ga6_8, rfl⟩ := j12 _ s12
      have y13 := hupF 13 (by kernel_rfl)
      obtain ⟨v13, s13⟩ := sE y13
      obtain ⟨ga6_9, rfl⟩ := j13 _ s13
      have y14 := hupF 14 (by kernel_rfl)
      obtain ⟨v14, s14⟩ := sE y14
      obtain ⟨ga6_10, rfl⟩ := j14 _ s14
      have y15 := hupF 15 (by kernel_rfl)
      obtain ⟨v15, s15⟩ := sE y15
      obtain ⟨ga6_11, rfl⟩ := j15 _ s15
      have e12 := hsF.val 14 12 rfl s14
      obtain ⟨e62, p62⟩ := hsF.at hupF 8 62 (by kernel_rfl) rfl j8
      have y8 := hupF 8 (by kernel_rfl)
      obtain ⟨v8, s8⟩ := sE y8
      have HZ5025 := Lib.hid (j8 _ s8).2
      have hB' := hB
      rw [s12, s13, s14, s15, hfF] at hB'
      refine step_store_whole rfl 56 (.tmp 12) (.tmp 62) rfl (ga6_10) (arr .u64 zl) _ 56 (hB'.get 10 rfl) e12 e62 (arr_len2 _ _ HL5025.out HLzl.out) (lim_s HL5025.out) (all_arr _ _) ?_
      intro w1 hb1 hk1 hz1
      have hB1 : Blk w w1 ([(w.heap.size, arr .u64 ps, 58), (w.heap.size + 1, arr .u64 qs, 58), (w.heap.size + 1 + 1, arr .u64 zp, 58), (g3202, (arr .u64 z3201), 56), (ga2_4, arr .u64 z5003, 56), (ga3_5, arr .u64 z5009, 56), (ga4_6, arr .u64 z5015, 56), (ga5_7, arr .u64 z5020, 56)] ++ (ent (fF 12) ((if (fF 16).isSome = true then arr .u64 z5023 else arr .u64 zl)) 56 ++ (ent (fF 13) ((if (fF 17).isSome = true then arr .u64 z5024 else arr .u64 zl)) 56 ++ (ent (fF 14) ((if ((some undef : Option Value)).isSome = true then arr .u64 z5025 else arr .u64 zl)) 56 ++ (ent (fF 15) ((if (fF 19).isSome = true then arr .u64 z5026 else arr .u64 zl)) 56))))) := by rw [s12, s13, s14, s15]; exact hB'.put 10 rfl hk1 hb1
      exact hKF undef w1 ⟨j0, j1, j2, j3, j4, j5, j6, j7, j8, j9, j10, j11, j12, j13, j14, j15, hB1⟩
    refine LinAll.cons (fun fF bF uF kF hJF hfF hcF hupF hsF hKF => ?_) ?_
    · obtain ⟨j0, j1, j2, j3, j4, j5, j6, j7, j8, j9, j10, j11, j12, j13, j14, j15, hB⟩ := hJF
      have y12 := hupF 12 (by kernel_rfl)
      obtain ⟨v12, s12⟩ := sE y12
      obtain ⟨ga6_8, rfl⟩ := j12 _ s12
      have y13 := hupF 13 (by kernel_rfl)
      obtain ⟨v13, s13⟩ := sE y13
      obtain ⟨ga6_9, rfl⟩ := j13 _ s13
      have y14 := hupF 14 (by kernel_rfl)
      obtain ⟨v14, s14⟩ := sE y14
      obtain ⟨ga6_10, rfl⟩ := j14 _ s14
      have y15 := hupF 15 (by kernel_rfl)
      obtain ⟨v15, s15⟩ := sE y15
      obtain ⟨ga6_11, rfl⟩ := j15 _ s15
      have e13 := hsF.val 15 13 rfl s15
      obtain ⟨e65, p65⟩ := hsF.at hupF 11 65 (by kernel_rfl) rfl j11
      have y11 := hupF 11 (by kernel_rfl)
      obtain ⟨v11, s11⟩ := sE y11
      have HZ5026 := Lib.hid (j11 _ s11).2
      have hB' := hB
      rw [s12, s13, s14, s15, hfF] at hB'
      refine step_store_whole rfl 56 (.tmp 13) (.tmp 65) rfl (ga6_11) (arr .u64 zl) _ 56 (hB'.get 11 rfl) e13 e65 (arr_len2 _ _ HL5026.out HLzl.out) (lim_s HL5026.out) (all_arr _ _) ?_
      intro w1 hb1 hk1 hz1
      have hB1 : Blk w w1 ([(w.heap.size, arr .u64 ps, 58), (w.heap.size + 1, arr .u64 qs, 58), (w.heap.size + 1 + 1, arr .u64 zp, 58), (g3202, (arr .u64 z3201), 56), (ga2_4, arr .u64 z5003, 56), (ga3_5, arr .u64 z5009, 56), (ga4_6, arr .u64 z5015, 56), (ga5_7, arr .u64 z5020, 56)] ++ (ent (fF 12) ((if (fF 16).isSome = true then arr .u64 z5023 else arr .u64 zl)) 56 ++ (ent (fF 13) ((if (fF 17).isSome = true then arr .u64 z5024 else arr .u64 zl)) 56 ++ (ent (fF 14) ((if (fF 18).isSome = true then arr .u64 z5025 else arr .u64 zl)) 56 ++ (ent (fF 15) ((if ((some undef : Option Value)).isSome = true then arr .u64 z5026 else arr .u64 zl)) 56))))) := by rw [s12, s13, s14, s15]; exact hB'.put 11 rfl hk1 hb1
      exact hKF undef w1 ⟨j0, j1, j2, j3, j4, j5, j6, j7, j8, j9, j10, j11, j12, j13, j14, j15, hB1⟩
    exact LinAll.nil
  case ea6 =>
  intro fF ua6 hall hJF
  obtain ⟨j0, j1, j2, j3, j4, j5, j6, j7, j8, j9, j10, j11, j12, j13, j14, j15, hB⟩ := hJF
  obtain ⟨v0, h0⟩ := sE (hall 0 (by decide))
  obtain ⟨rfl, p0⟩ := j0 _ h0
  obtain ⟨v1, h1⟩ := sE (hall 1 (by decide))
  obtain ⟨rfl, p1⟩ := j1 _ h1
  obtain ⟨v2, h2⟩ := sE (hall 2 (by decide))
  obtain ⟨rfl, p2⟩ := j2 _ h2
  obtain ⟨v3, h3⟩ := sE (hall 3 (by decide))
  obtain ⟨rfl, p3⟩ := j3 _ h3
  obtain ⟨v4, h4⟩ := sE (hall 4 (by decide))
  obtain ⟨rfl, p4⟩ := j4 _ h4
  obtain ⟨v5, h5⟩ := sE (hall 5 (by decide))
  obtain ⟨rfl, p5⟩ := j5 _ h5
  obtain ⟨v6, h6⟩ := sE (hall 6 (by decide))
  obtain ⟨rfl, p6⟩ := j6 _ h6
  obtain ⟨v7, h7⟩ := sE (hall 7 (by decide))
  obtain ⟨rfl, p7⟩ := j7 _ h7
  obtain ⟨v8, h8⟩ := sE (hall 8 (by decide))
  obtain ⟨rfl, p8⟩ := j8 _ h8
  obtain ⟨v9, h9⟩ := sE (hall 9 (by decide))
  obtain ⟨rfl, p9⟩ := j9 _ h9
  obtain ⟨v10, h10⟩ := sE (hall 10 (by decide))
  obtain ⟨rfl, p10⟩ := j10 _ h10
  obtain ⟨v11, h11⟩ := sE (hall 11 (by decide))
  obtain ⟨rfl, p11⟩ := j11 _ h11
  obtain ⟨v12, h12⟩ := sE (hall 12 (by decide))
  obtain ⟨ga6_8, rfl⟩ := j12 _ h12
  obtain ⟨v13, h13⟩ := sE (hall 13 (by decide))
  obtain ⟨ga6_9, rfl⟩ := j13 _ h13
  obtain ⟨v14, h14⟩ := sE (hall 14 (by decide))
  obtain ⟨ga6_10, rfl⟩ := j14 _ h14
  obtain ⟨v15, h15⟩ := sE (hall 15 (by decide))
  obtain ⟨ga6_11, rfl⟩ := j15 _ h15
  obtain ⟨v16, h16⟩ := sE (hall 16 (by decide))
  obtain ⟨v17, h17⟩ := sE (hall 17 (by decide))
  obtain ⟨v18, h18⟩ := sE (hall 18 (by decide))
  obtain ⟨v19, h19⟩ := sE (hall 19 (by decide))
  rw [h12, h13, h14, h15, h16, h17, h18, h19] at hB
  have HBa6 : Hid (Blk w ua6 [(w.heap.size, arr .u64 ps, 58), (w.heap.size + 1, arr .u64 qs, 58), (w.heap.size + 1 + 1, arr .u64 zp, 58), (g3202, (arr .u64 z3201), 56), (ga2_4, arr .u64 z5003, 56), (ga3_5, arr .u64 z5009, 56), (ga4_6, arr .u64 z5015, 56), (ga5_7, arr .u64 z5020, 56), (ga6_8, arr .u64 z5023, 56), (ga6_9, arr .u64 z5024, 56), (ga6_10, arr .u64 z5025, 56), (ga6_11, arr .u64 z5026, 56)]) := Lib.hid hB
  have HZ5023 := Lib.hid p2
  have HZ5024 := Lib.hid p5
  have HZ5025 := Lib.hid p8
  have HZ5026 := Lib.hid p11
  simp only [laid, Nat.zero_add, Nat.reduceAdd, h0, h1, h2, h3, h4, h5, h6, h7, h8, h9, h10, h11, h12, h13, h14, h15, h16, h17, h18, h19, Act.put, sA, sZ, sS]
  clear j0 j1 j2 j3 j4 j5 j6 j7 j8 j9 j10 j11 j12 j13 j14 j15 hB h0 h1 h2 h3 h4 h5 h6 h7 h8 h9 h10 h11 h12 h13 h14 h15 h16 h17 h18 h19 hall fF HBa5
  clear p0 p1 p2 p3 p4 p5 p6 p7 p8 p9 p10 p11
  (try simp only [Exit.then])
  go_upto_region 7 with fail
  (try simp only [World.size_alloc, Act.put, sA, sZ, sS])
  obtain ⟨z5031, hz5031⟩ : ∃ z : List Int, z = nar (dig 18446744073709551616 4 (fmul (fsub (fmul (fadd P.y P.x) (fadd Q.y Q.x)) (fmul (fsub P.y P.x) (fsub Q.y Q.x))) (fsub (fmul P.z (fadd Q.z Q.z)) (fmul (fmul P.t (fadd dd dd)) Q.t)))) := ⟨_, rfl⟩
  have HE5031 := Lib.hid hz5031
  have HL5031 : Hid (z5031.length = 4) := Lib.hid (by rw [hz5031]; exact (nar_len _).trans (dig_len _ _ _))
  clear hz5031
  obtain ⟨z5032, hz5032⟩ : ∃ z : List Int, z = nar (dig 18446744073709551616 4 (fmul (fadd (fmul P.z (fadd Q.z Q.z)) (fmul (fmul P.t (fadd dd dd)) Q.t)) (fadd (fmul (fadd P.y P.x) (fadd Q.y Q.x)) (fmul (fsub P.y P.x) (fsub Q.y Q.x))))) := ⟨_, rfl⟩
  have HE5032 := Lib.hid hz5032
  have HL5032 : Hid (z5032.length = 4) := Lib.hid (by rw [hz5032]; exact (nar_len _).trans (dig_len _ _ _))
  clear hz5032
  obtain ⟨z5033, hz5033⟩ : ∃ z : List Int, z = nar (dig 18446744073709551616 4 (fmul (fsub (fmul P.z (fadd Q.z Q.z)) (fmul (fmul P.t (fadd dd dd)) Q.t)) (fadd (fmul P.z (fadd Q.z Q.z)) (fmul (fmul P.t (fadd dd dd)) Q.t)))) := ⟨_, rfl⟩
  have HE5033 := Lib.hid hz5033
  have HL5033 : Hid (z5033.length = 4) := Lib.hid (by rw [hz5033]; exact (nar_len _).trans (dig_len _ _ _))
  clear hz5033
  obtain ⟨z5034, hz5034⟩ : ∃ z : List Int, z = nar (dig 18446744073709551616 4 (fmul (fsub (fmul (fadd P.y P.x) (fadd Q.y Q.x)) (fmul (fsub P.y P.x) (fsub Q.y Q.x))) (fadd (fmul (fadd P.y P.x) (fadd Q.y Q.x)) (fmul (fsub P.y P.x) (fsub Q.y Q.x))))) := ⟨_, rfl⟩
  have HE5034 := Lib.hid hz5034
  have HL5034 : Hid (z5034.length = 4) := Lib.hid (by rw [hz5034]; exact (nar_len _).trans (dig_len _ _ _))
  clear hz5034
  obtain ⟨v5035, hv5035⟩ : ∃ x, x = z5031 ++ z5032 ++ z5033 ++ z5034 := ⟨_, rfl⟩
  have HR5035 : Hid (∀ w, (Instr.build 58 #[(0, .agg (arr .u64 z5031)), (1, .agg (arr .u64 z5032)), (2, .agg (arr .u64 z5033)), (3, .agg (arr .u64 z5034))]).run Tryd.prog w = .ok (.agg (arr .u64 v5035)) w) := Lib.hid (fun w => by rw [hv5035]; exact build_cpt _ _ _ _ HL5031.out HL5032.out HL5033.out HL5034.out w)
  have HL5035 : Hid (v5035.length = 16) := Lib.hid (by rw [hv5035]; exact cpt_len HL5031.out HL5032.out HL5033.out HL5034.out)
  have HV5035 := Lib.hid hv5035
  clear hv5035
  refine wp_region_lin (fun (fF : Fill) (uF : World) => (∀ v, fF 0 = some v → v = .agg (arr .u64 z5023) ∧ True) ∧ (∀ v, fF 1 = some v → v = .agg (arr .u64 z5024) ∧ True) ∧ (∀ v, fF 2 = some v → v = .agg (arr .u64 z5031) ∧ N4 z5031 (fmul (fsub (fmul (fadd P.y P.x) (fadd Q.y Q.x)) (fmul (fsub P.y P.x) (fsub Q.y Q.x))) (fsub (fmul P.z (fadd Q.z Q.z)) (fmul (fmul P.t (fadd dd dd)) Q.t)))) ∧ (∀ v, fF 3 = some v → v = .agg (arr .u64 z5025) ∧ True) ∧ (∀ v, fF 4 = some v → v = .agg (arr .u64 z5026) ∧ True) ∧ (∀ v, fF 5 = some v → v = .agg (arr .u64 z5032) ∧ N4 z5032 (fmul (fadd (fmul P.z (fadd Q.z Q.z)) (fmul (fmul P.t (fadd dd dd)) Q.t)) (fadd (fmul (fadd P.y P.x) (fadd Q.y Q.x)) (fmul (fsub P.y P.x) (fsub Q.y Q.x))))) ∧ (∀ v, fF 6 = some v → v = .agg (arr .u64 z5024) ∧ True) ∧ (∀ v, fF 7 = some v → v = .agg (arr .u64 z5025) ∧ True) ∧ (∀ v, fF 8 = some v → v = .agg (arr .u64 z5033) ∧ N4 z5033 (fmul (fsub (fmul P.z (fadd Q.z Q.z)) (fmul (fmul P.t (fadd dd dd)) Q.t)) (fadd (fmul P.z (fadd Q.z Q.z)) (fmul (fmul P.t (fadd dd dd)) Q.t)))) ∧ (∀ v, fF 9 = some v → v = .agg (arr .u64 z5023) ∧ True) ∧ (∀ v, fF 10 = some v → v = .agg (arr .u64 z5026) ∧ True) ∧ (∀ v, fF 11 = some v → v = .agg (arr .u64 z5034) ∧ N4 z5034 (fmul (fsub (fmul (fadd P.y P.x) (fadd Q.y Q.x)) (fmul (fsub P.y P.x) (fsub Q.y Q.x))) (fadd (fmul (fadd P.y P.x) (fadd Q.y Q.x)) (fmul (fsub P.y P.x) (fsub Q.y Q.x))))) ∧ (∀ v, fF 12 = some v → v = .agg (arr .u64 v5035) ∧ True) ∧ Blk w uF ([(w.heap.size, arr .u64 ps, 58), (w.heap.size + 1, arr .u64 qs, 58), (w.heap.size + 1 + 1, (if (fF 13).isSome = true then arr .u64 v5035 else arr .u64 zp), 58), (g3202, (arr .u64 z3201), 56), (ga2_4, arr .u64 z5003, 56), (ga3_5, arr .u64 z5009, 56), (ga4_6, arr .u64 z5015, 56), (ga5_7, arr .u64 z5020, 56), (ga6_8, arr .u64 z5023, 56), (ga6_9, arr .u64 z5024, 56), (ga6_10, arr .u64 z5025, 56), (ga6_11, arr .u64 z5026, 56)])) (by kernel_rfl) (by kernel_rfl) ?za7 ?sa7 ?ea7
  case za7 => exact ⟨fun _ h => (by cases h), fun _ h => (by cases h), fun _ h => (by cases h), fun _ h => (by cases h), fun _ h => (by cases h), fun _ h => (by cases h), fun _ h => (by cases h), fun _ h => (by cases h), fun _ h => (by cases h), fun _ h => (by cases h), fun _ h => (by cases h), fun _ h => (by cases h), fun _ h => (by cases h), HBa6.out.drew⟩
  case sa7 =>
    refine LinAll.cons (fun fF bF uF kF hJF hfF hcF hupF hsF hKF => ?_) ?_
    · obtain ⟨j0, j1, j2, j3, j4, j5, j6, j7, j8, j9, j10, j11, j12, hB⟩ := hJF
      have e10 : bF.eval (.tmp 10) = .pointer (some ⟨ga6_8, 0, none⟩) := hsF.old' 10 (by kernel_rfl) rfl
      have hB' := hB
      refine step_load_part rfl 56 _ rfl (ga6_8) (0) (arr .u64 z5023) 56 (0, 0) _ (hB'.get 8 rfl) e10 .u64 z5023 (arr_part _ _) Tryd.underlying56 rfl (lim_i HL5023.out) ?_
      exact hKF _ _ ⟨fun _ h => ⟨sI h, trivial⟩, j1, j2, j3, j4, j5, j6, j7, j8, j9, j10, j11, j12, hB⟩
    refine LinAll.cons (fun fF bF uF kF hJF hfF hcF hupF hsF hKF => ?_) ?_
    · obtain ⟨j0, j1, j2, j3, j4, j5, j6, j7, j8, j9, j10, j11, j12, hB⟩ := hJF
      have e11 : bF.eval (.tmp 11) = .pointer (some ⟨ga6_9, 0, none⟩) := hsF.old' 11 (by kernel_rfl) rfl
      have hB' := hB
      refine step_load_part rfl 56 _ rfl (ga6_9) (0) (arr .u64 z5024) 56 (0, 0) _ (hB'.get 9 rfl) e11 .u64 z5024 (arr_part _ _) Tryd.underlying56 rfl (lim_i HL5024.out) ?_
      exact hKF _ _ ⟨j0, fun _ h => ⟨sI h, trivial⟩, j2, j3, j4, j5, j6, j7, j8, j9, j10, j11, j12, hB⟩
    refine LinAll.cons (fun fF bF uF kF hJF hfF hcF hupF hsF hKF => ?_) ?_
    · obtain ⟨j0, j1, j2, j3, j4, j5, j6, j7, j8, j9, j10, j11, j12, hB⟩ := hJF
      obtain ⟨e66, p66⟩ := hsF.at hupF 0 66 (by kernel_rfl) rfl j0
      obtain ⟨e67, p67⟩ := hsF.at hupF 1 67 (by kernel_rfl) rfl j1
      refine lin_call rfl 58 [Operand.tmp 66, Operand.tmp 67] _ [.agg (arr .u64 z5023), .agg (arr .u64 z5024)] rfl (by simp only [List.map_cons, List.map_nil, e66, e67] <;> rfl) (fun _ _ => by kernel_rfl) ?_
      refine Calls.mono (times_any _ _ _ HZ5023.out HZ5024.out) ?_
      rintro e w1 ⟨y5036_0, rfl, r5036_0, hb⟩
      obtain rfl : y5036_0 = z5031 := r5036_0.1.trans HE5031.out.symm
      exact ⟨_, rfl, hKF _ _ ⟨j0, j1, fun _ h => ⟨sI h, r5036_0⟩, j3, j4, j5, j6, j7, j8, j9, j10, j11, j12, hB.kept hb⟩⟩
    refine LinAll.cons (fun fF bF uF kF hJF hfF hcF hupF hsF hKF => ?_) ?_
    · obtain ⟨j0, j1, j2, j3, j4, j5, j6, j7, j8, j9, j10, j11, j12, hB⟩ := hJF
      have e12 : bF.eval (.tmp 12) = .pointer (some ⟨ga6_10, 0, none⟩) := hsF.old' 12 (by kernel_rfl) rfl
      have hB' := hB
      refine step_load_part rfl 56 _ rfl (ga6_10) (0) (arr .u64 z5025) 56 (0, 0) _ (hB'.get 10 rfl) e12 .u64 z5025 (arr_part _ _) Tryd.underlying56 rfl (lim_i HL5025.out) ?_
      exact hKF _ _ ⟨j0, j1, j2, fun _ h => ⟨sI h, trivial⟩, j4, j5, j6, j7, j8, j9, j10, j11, j12, hB⟩
    refine LinAll.cons (fun fF bF uF kF hJF hfF hcF hupF hsF hKF => ?_) ?_
    · obtain ⟨j0, j1, j2, j3, j4, j5, j6, j7, j8, j9, j10, j11, j12, hB⟩ := hJF
      have e13 : bF.eval (.tmp 13) = .pointer (some ⟨ga6_11, 0, none⟩) := hsF.old' 13 (by kernel_rfl) rfl
      have hB' := hB
      refine step_load_part rfl 56 _ rfl (ga6_11) (0) (arr .u64 z5026) 56 (0, 0) _ (hB'.get 11 rfl) e13 .u64 z5026 (arr_part _ _) Tryd.underlying56 rfl (lim_i HL5026.out) ?_
      exact hKF _ _ ⟨j0, j1, j2, j3, fun _ h => ⟨sI h, trivial⟩, j5, j6, j7, j8, j9, j10, j11, j12, hB⟩
    refine LinAll.cons (fun fF bF uF kF hJF hfF hcF hupF hsF hKF => ?_) ?_
    · obtain ⟨j0, j1, j2, j3, j4, j5, j6, j7, j8, j9, j10, j11, j12, hB⟩ := hJF
      obtain ⟨e69, p69⟩ := hsF.at hupF 3 69 (by kernel_rfl) rfl j3
      obtain ⟨e70, p70⟩ := hsF.at hupF 4 70 (by kernel_rfl) rfl j4
      refine lin_call rfl 58 [Operand.tmp 69, Operand.tmp 70] _ [.agg (arr .u64 z5025), .agg (arr .u64 z5026)] rfl (by simp only [List.map_cons, List.map_nil, e69, e70] <;> rfl) (fun _ _ => by kernel_rfl) ?_
      refine Calls.mono (times_any _ _ _ HZ5025.out HZ5026.out) ?_
      rintro e w1 ⟨y5037_0, rfl, r5037_0, hb⟩
      obtain rfl : y5037_0 = z5032 := r5037_0.1.trans HE5032.out.symm
      exact ⟨_, rfl, hKF _ _ ⟨j0, j1, j2, j3, j4, fun _ h => ⟨sI h, r5037_0⟩, j6, j7, j8, j9, j10, j11, j12, hB.kept hb⟩⟩
    refine LinAll.cons (fun fF bF uF kF hJF hfF hcF hupF hsF hKF => ?_) ?_
    · obtain ⟨j0, j1, j2, j3, j4, j5, j6, j7, j8, j9, j10, j11, j12, hB⟩ := hJF
      have e11 : bF.eval (.tmp 11) = .pointer (some ⟨ga6_9, 0, none⟩) := hsF.old' 11 (by kernel_rfl) rfl
      have hB' := hB
      refine step_load_part rfl 56 _ rfl (ga6_9) (0) (arr .u64 z5024) 56 (0, 0) _ (hB'.get 9 rfl) e11 .u64 z5024 (arr_part _ _) Tryd.underlying56 rfl (lim_i HL5024.out) ?_
      exact hKF _ _ ⟨j0, j1, j2, j3, j4, j5, fun _ h => ⟨sI h, trivial⟩, j7, j8, j9, j10, j11, j12, hB⟩
    refine LinAll.cons (fun fF bF uF kF hJF hfF hcF hupF hsF hKF => ?_) ?_
    · obtain ⟨j0, j1, j2, j3, j4, j5, j6, j7, j8, j9, j10, j11, j12, hB⟩ := hJF
      have e12 : bF.eval (.tmp 12) = .pointer (some ⟨ga6_10, 0, none⟩) := hsF.old' 12 (by kernel_rfl) rfl
      have hB' := hB
      refine step_load_part rfl 56 _ rfl (ga6_10) (0) (arr .u64 z5025) 56 (0, 0) _ (hB'.get 10 rfl) e12 .u64 z5025 (arr_part _ _) Tryd.underlying56 rfl (lim_i HL5025.out) ?_
      exact hKF _ _ ⟨j0, j1, j2, j3, j4, j5, j6, fun _ h => ⟨sI h, trivial⟩, j8, j9, j10, j11, j12, hB⟩
    refine LinAll.cons (fun fF bF uF kF hJF hfF hcF hupF hsF hKF => ?_) ?_
    · obtain ⟨j0, j1, j2, j3, j4, j5, j6, j7, j8, j9, j10, j11, j12, hB⟩ := hJF
      obtain ⟨e72, p72⟩ := hsF.at hupF 6 72 (by kernel_rfl) rfl j6
      obtain ⟨e73, p73⟩ := hsF.at hupF 7 73 (by kernel_rfl) rfl j7
      refine lin_call rfl 58 [Operand.tmp 72, Operand.tmp 73] _ [.agg (arr .u64 z5024), .agg (arr .u64 z5025)] rfl (by simp only [List.map_cons, List.map_nil, e72, e73] <;> rfl) (fun _ _ => by kernel_rfl) ?_
      refine Calls.mono (times_any _ _ _ HZ5024.out HZ5025.out) ?_
      rintro e w1 ⟨y5038_0, rfl, r5038_0, hb⟩
      obtain rfl : y5038_0 = z5033 := r5038_0.1.trans HE5033.out.symm
      exact ⟨_, rfl, hKF _ _ ⟨j0, j1, j2, j3, j4, j5, j6, j7, fun _ h => ⟨sI h, r5038_0⟩, j9, j10, j11, j12, hB.kept hb⟩⟩
    refine LinAll.cons (fun fF bF uF kF hJF hfF hcF hupF hsF hKF => ?_) ?_
    · obtain ⟨j0, j1, j2, j3, j4, j5, j6, j7, j8, j9, j10, j11, j12, hB⟩ := hJF
      have e10 : bF.eval (.tmp 10) = .pointer (some ⟨ga6_8, 0, none⟩) := hsF.old' 10 (by kernel_rfl) rfl
      have hB' := hB
      refine step_load_part rfl 56 _ rfl (ga6_8) (0) (arr .u64 z5023) 56 (0, 0) _ (hB'.get 8 rfl) e10 .u64 z5023 (arr_part _ _) Tryd.underlying56 rfl (lim_i HL5023.out) ?_
      exact hKF _ _ ⟨j0, j1, j2, j3, j4, j5, j6, j7, j8, fun _ h => ⟨sI h, trivial⟩, j10, j11, j12, hB⟩
    refine LinAll.cons (fun fF bF uF kF hJF hfF hcF hupF hsF hKF => ?_) ?_
    · obtain ⟨j0, j1, j2, j3, j4, j5, j6, j7, j8, j9, j10, j11, j12, hB⟩ := hJF
      have e13 : bF.eval (.tmp 13) = .pointer (some ⟨ga6_11, 0, none⟩) := hsF.old' 13 (by kernel_rfl) rfl
      have hB' := hB
      refine step_load_part rfl 56 _ rfl (ga6_11) (0) (arr .u64 z5026) 56 (0, 0) _ (hB'.get 11 rfl) e13 .u64 z5026 (arr_part _ _) Tryd.underlying56 rfl (lim_i HL5026.out) ?_
      exact hKF _ _ ⟨j0, j1, j2, j3, j4, j5, j6, j7, j8, j9, fun _ h => ⟨sI h, trivial⟩, j11, j12, hB⟩
    refine LinAll.cons (fun fF bF uF kF hJF hfF hcF hupF hsF hKF => ?_) ?_
    · obtain ⟨j0, j1, j2, j3, j4, j5, j6, j7, j8, j9, j10, j11, j12, hB⟩ := hJF
      obtain ⟨e75, p75⟩ := hsF.at hupF 9 75 (by kernel_rfl) rfl j9
      obtain ⟨e76, p76⟩ := hsF.at hupF 10 76 (by kernel_rfl) rfl j10
      refine lin_call rfl 58 [Operand.tmp 75, Operand.tmp 76] _ [.agg (arr .u64 z5023), .agg (arr .u64 z5026)] rfl (by simp only [List.map_cons, List.map_nil, e75, e76] <;> rfl) (fun _ _ => by kernel_rfl) ?_
      refine Calls.mono (times_any _ _ _ HZ5023.out HZ5026.out) ?_
      rintro e w1 ⟨y5039_0, rfl, r5039_0, hb⟩
      obtain rfl : y5039_0 = z5034 := r5039_0.1.trans HE5034.out.symm
      exact ⟨_, rfl, hKF _ _ ⟨j0, j1, j2, j3, j4, j5, j6, j7, j8, j9, j10, fun _ h => ⟨sI h, r5039_0⟩, j12, hB.kept hb⟩⟩
    refine LinAll.cons (fun fF bF uF kF hJF hfF hcF hupF hsF hKF => ?_) ?_
    · obtain ⟨j0, j1, j2, j3, j4, j5, j6, j7, j8, j9, j10, j11, j12, hB⟩ := hJF
      obtain ⟨e68, p68⟩ := hsF.at hupF 2 68 (by kernel_rfl) rfl j2
      obtain ⟨e71, p71⟩ := hsF.at hupF 5 71 (by kernel_rfl) rfl j5
      obtain ⟨e74, p74⟩ := hsF.at hupF 8 74 (by kernel_rfl) rfl j8
      obtain ⟨e77, p77⟩ := hsF.at hupF 11 77 (by kernel_rfl) rfl j11
      have y2 := hupF 2 (by kernel_rfl)
      obtain ⟨v2, s2⟩ := sE y2
      have HZ5031 := Lib.hid (j2 _ s2).2
      have y5 := hupF 5 (by kernel_rfl)
      obtain ⟨v5, s5⟩ := sE y5
      have HZ5032 := Lib.hid (j5 _ s5).2
      have y8 := hupF 8 (by kernel_rfl)
      obtain ⟨v8, s8⟩ := sE y8
      have HZ5033 := Lib.hid (j8 _ s8).2
      have y11 := hupF 11 (by kernel_rfl)
      obtain ⟨v11, s11⟩ := sE y11
      have HZ5034 := Lib.hid (j11 _ s11).2
      exact lin_pure rfl (.agg (arr .u64 v5035)) (exec_build_l 58 _ rfl #[(0, .agg (arr .u64 z5031)), (1, .agg (arr .u64 z5032)), (2, .agg (arr .u64 z5033)), (3, .agg (arr .u64 z5034))] (by simp only [List.map_cons, List.map_nil, e68, e71, e74, e77] <;> rfl) _ (HR5035.out _)) (hKF _ _ ⟨j0, j1, j2, j3, j4, j5, j6, j7, j8, j9, j10, j11, fun _ h => ⟨sI h, trivial⟩, hB⟩)
    refine LinAll.cons (fun fF bF uF kF hJF hfF hcF hupF hsF hKF => ?_) ?_
    · obtain ⟨j0, j1, j2, j3, j4, j5, j6, j7, j8, j9, j10, j11, j12, hB⟩ := hJF
      have e4 : bF.eval (.tmp 4) = .pointer (some ⟨w.heap.size + 1 + 1, 0, none⟩) := hsF.old' 4 (by kernel_rfl) rfl
      obtain ⟨e78, p78⟩ := hsF.at hupF 12 78 (by kernel_rfl) rfl j12
      have hB' := hB
      rw [hfF] at hB'
      refine step_store_whole rfl 58 (.tmp 4) (.tmp 78) rfl (w.heap.size + 1 + 1) (arr .u64 zp) _ 58 (hB'.get 2 rfl) e4 e78 (arr_len2 _ _ HL5035.out HLzp.out) (cpt_s HL5035.out) (all_arr _ _) ?_
      intro w1 hb1 hk1 hz1
      have hB1 : Blk w w1 ([(w.heap.size, arr .u64 ps, 58), (w.heap.size + 1, arr .u64 qs, 58), (w.heap.size + 1 + 1, (if ((some undef : Option Value)).isSome = true then arr .u64 v5035 else arr .u64 zp), 58), (g3202, (arr .u64 z3201), 56), (ga2_4, arr .u64 z5003, 56), (ga3_5, arr .u64 z5009, 56), (ga4_6, arr .u64 z5015, 56), (ga5_7, arr .u64 z5020, 56), (ga6_8, arr .u64 z5023, 56), (ga6_9, arr .u64 z5024, 56), (ga6_10, arr .u64 z5025, 56), (ga6_11, arr .u64 z5026, 56)]) := hB'.put 2 rfl hk1 hb1
      exact hKF undef w1 ⟨j0, j1, j2, j3, j4, j5, j6, j7, j8, j9, j10, j11, j12, hB1⟩
    exact LinAll.nil
  case ea7 =>
  intro fF ua7 hall hJF
  obtain ⟨j0, j1, j2, j3, j4, j5, j6, j7, j8, j9, j10, j11, j12, hB⟩ := hJF
  obtain ⟨v0, h0⟩ := sE (hall 0 (by decide))
  obtain ⟨rfl, p0⟩ := j0 _ h0
  obtain ⟨v1, h1⟩ := sE (hall 1 (by decide))
  obtain ⟨rfl, p1⟩ := j1 _ h1
  obtain ⟨v2, h2⟩ := sE (hall 2 (by decide))
  obtain ⟨rfl, p2⟩ := j2 _ h2
  obtain ⟨v3, h3⟩ := sE (hall 3 (by decide))
  obtain ⟨rfl, p3⟩ := j3 _ h3
  obtain ⟨v4, h4⟩ := sE (hall 4 (by decide))
  obtain ⟨rfl, p4⟩ := j4 _ h4
  obtain ⟨v5, h5⟩ := sE (hall 5 (by decide))
  obtain ⟨rfl, p5⟩ := j5 _ h5
  obtain ⟨v6, h6⟩ := sE (hall 6 (by decide))
  obtain ⟨rfl, p6⟩ := j6 _ h6
  obtain ⟨v7, h7⟩ := sE (hall 7 (by decide))
  obtain ⟨rfl, p7⟩ := j7 _ h7
  obtain ⟨v8, h8⟩ := sE (hall 8 (by decide))
  obtain ⟨rfl, p8⟩ := j8 _ h8
  obtain ⟨v9, h9⟩ := sE (hall 9 (by decide))
  obtain ⟨rfl, p9⟩ := j9 _ h9
  obtain ⟨v10, h10⟩ := sE (hall 10 (by decide))
  obtain ⟨rfl, p10⟩ := j10 _ h10
  obtain ⟨v11, h11⟩ := sE (hall 11 (by decide))
  obtain ⟨rfl, p11⟩ := j11 _ h11
  obtain ⟨v12, h12⟩ := sE (hall 12 (by decide))
  obtain ⟨rfl, p12⟩ := j12 _ h12
  obtain ⟨v13, h13⟩ := sE (hall 13 (by decide))
  rw [h13] at hB
  have HBa7 : Hid (Blk w ua7 [(w.heap.size, arr .u64 ps, 58), (w.heap.size + 1, arr .u64 qs, 58), (w.heap.size + 1 + 1, arr .u64 v5035, 58), (g3202, (arr .u64 z3201), 56), (ga2_4, arr .u64 z5003, 56), (ga3_5, arr .u64 z5009, 56), (ga4_6, arr .u64 z5015, 56), (ga5_7, arr .u64 z5020, 56), (ga6_8, arr .u64 z5023, 56), (ga6_9, arr .u64 z5024, 56), (ga6_10, arr .u64 z5025, 56), (ga6_11, arr .u64 z5026, 56)]) := Lib.hid hB
  have HZ5031 := Lib.hid p2
  have HZ5032 := Lib.hid p5
  have HZ5033 := Lib.hid p8
  have HZ5034 := Lib.hid p11
  simp only [laid, Nat.zero_add, Nat.reduceAdd, h0, h1, h2, h3, h4, h5, h6, h7, h8, h9, h10, h11, h12, h13, Act.put, sA, sZ, sS]
  clear j0 j1 j2 j3 j4 j5 j6 j7 j8 j9 j10 j11 j12 hB h0 h1 h2 h3 h4 h5 h6 h7 h8 h9 h10 h11 h12 h13 hall fF HBa6
  clear p0 p1 p2 p3 p4 p5 p6 p7 p8 p9 p10 p11 p12
  (try simp only [Exit.then])
  go_wp2_with fail
  refine bodyPost_ret (results_cell_row rfl _ _ (w.heap.size + 1 + 1) 58 _ (0, 0) _ rfl (HBa7.out.get 2 rfl) Tryd.underlying58 rfl (cpt_s HL5035.out)) rfl ?_
  exact ⟨_, rfl, by rw [HV5035.out]; exact P4.of HZ5031.out HZ5032.out HZ5033.out HZ5034.out (eadd_ok P Q), HBa7.out.below⟩
end Go.Proofs.YtanjhngehfbpbaaDoor.Sl
