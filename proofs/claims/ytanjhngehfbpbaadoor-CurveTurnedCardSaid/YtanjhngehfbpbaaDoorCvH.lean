/- curve.Verify: what it answers. Condition: 32 bytes, 64 bytes; lists of the call's size. -/
import Derived.Test.YtanjhngehfbpbaaDoorCvG
namespace Go.Proofs.YtanjhngehfbpbaaDoor.Sl
open Go.RowKit Lm Fp Cu Rd Sc
set_option linter.unusedSimpArgs false

theorem exec_eql_arr {P : Program} {o : Oper} {ev : Operand → Value} {w : World} (t ty : TypeId) (e : TypeId) (x y : Operand) (ho : o.op = .binOp .eql t x y ty) (n : Nat) (k k' : IntKind)
    (ht : P.underlying t = some (.array n e)) (he : P.underlying e = some (.int k')) (hsz : ∀ w, (sizeOf e).run P w = .ok 1 w) (hm : P.eqGuardType P.depth t = false)
    (xs ys : List Int) (hx : ev x = .agg (arr k xs)) (hy : ev y = .agg (arr k ys)) (lx : xs.length = n) (ly : ys.length = n) (b : Bool) (hb : (xs == ys) = b) :
    (execOp ev o).run P w = .ok (.value (.bool b)) w := by
  simp only [execOp, ho, hx, hy, Sem.run_bind, run_eqGuard_agg w .eql t x y _ _ hm, Result.andThen_ok, run_eql_arr w t e n k k' ht he hsz xs ys lx ly, hb]
  rfl
theorem wpList_s2a {P : Program} {ops : Array Oper} {rest : List Oper} {o : Oper} {a : Act} {w : World} {Q : Exit → Act → World → Prop} (hg : o.guard = none) (t : TypeId) (x : Operand) (ho : o.op = .sliceToArrayPointer t x) (v u : Value) (hx : a.eval x = v) (hrun : (Instr.arrayAt t v).run P w = .ok u w)
    (h : wpList P ops Q rest (a.put o.dst u) w) : wpList P ops Q (o :: rest) a w := by
  refine wpList_plain hg fun _ hK => ?_
  unfold Oper.wp execOp
  simp only [ho, hx, Sem.run_bind, hrun, Result.andThen_ok]
  exact hK _ _ h
theorem bytes_n32 {xs : List Int} {a : Nat} (h : K32 xs a) : bytes xs := by rw [h.1]; exact n32_bytes a

set_option maxRecDepth 100000 in
set_option maxHeartbeats 16000000 in
theorem cverify_any {ks gs : List Int} (key : Nat) (sb : Option Addr) (nb cb : Nat) (LB : List (List Int)) (w : World) (hk : K32 ks key) (hg : gs.length = 64) (hgb : bytes gs) (hB : SrcL w sb nb LB) (bB : ∀ l ∈ LB, bytes l) (hN : LB.flatten.length ≤ 1125899906842624) (hn : nb ≤ 1099511627770) :
    Calls Tryd.prog 17 #[.agg (arr .u8 ks), .agg (arr .u8 gs), .slice sb nb cb] w fun e w' => e = .returned (.bool (everify key (hnum (gs.take 32)) (hnum (gs.drop 32)) LB.flatten)) ∧ Below w.heap.size w w' := by
  have hr0 : K32 (gs.take 32) (hnum (gs.take 32)) := ⟨(n32_hnum (bytes_take hgb 32) (by rw [List.length_take, hg]; rfl)).symm, by have := hnum_lt (bytes_take hgb 32); rwa [List.length_take, hg] at this⟩
  have hs0 : K32 (gs.drop 32) (hnum (gs.drop 32)) := ⟨(n32_hnum (bytes_drop hgb 32) (by rw [List.length_drop, hg])).symm, by have := hnum_lt (bytes_drop hgb 32); rwa [List.length_drop, hg] at this⟩
  have hp0 := part_take gs 32
  have hp1 := part_off gs 32 32 (by rw [hg]; decide)
  rw [List.take_of_length_le (show (gs.drop 32).length ≤ 32 by rw [List.length_drop, hg]; decide)] at hp1
  obtain ⟨rg0, hr0e⟩ : ∃ x, x = gs.take 32 := ⟨_, rfl⟩
  have hsr := fun (u : World) (g : Nat) (h : u.heap[g]? = some (.cells (arr .u8 gs) 30 (0, 0))) => src_off h 0 32 (by rw [hg]; decide)
  rw [List.drop_zero] at hsr
  rw [← hr0e] at hr0 hp0 hsr
  obtain ⟨sg0, hs0e⟩ : ∃ x, x = gs.drop 32 := ⟨_, rfl⟩
  rw [← hs0e] at hs0 hp1
  rw [← hr0e, ← hs0e]
  obtain ⟨RN, hRN⟩ : ∃ x, x = hnum rg0 := ⟨_, rfl⟩
  rw [← hRN] at hr0 ⊢
  obtain ⟨SN, hSN⟩ : ∃ x, x = hnum sg0 := ⟨_, rfl⟩
  rw [← hSN] at hs0 ⊢
  obtain ⟨BB, hBB⟩ : ∃ b, b = LB.flatten := ⟨_, rfl⟩
  have hsum3 : ∀ (g oa : Nat) (u : World), SrcL u (some ⟨g, oa, none⟩) 2 [rg0, ks] → SrcL u sb nb LB → Calls Tryd.prog 35 #[.slice sb nb cb, .slice (some ⟨g, oa, none⟩) 2 2] u fun e w' => ∃ zs, e = .returned (.agg (arr .u8 zs)) ∧ K32 zs (wide (n32 RN ++ (n32 key ++ BB))) ∧ Below u.heap.size u w' := by
    intro g oa u hA hB
    have := csum_any g oa 2 [rg0, ks] sb nb cb LB u hA hB (by intro l h; simp only [List.mem_cons, List.not_mem_nil, or_false] at h; rcases h with rfl | rfl; exact bytes_n32 hr0; exact bytes_n32 hk) bB (by rw [List.flatten_append, List.length_append, show [rg0, ks].flatten = rg0 ++ ks by simp, List.length_append, hr0.len, hk.len]; omega) (by omega)
    rw [show ([rg0, ks] ++ LB).flatten = rg0 ++ (ks ++ LB.flatten) by simp] at this
    rw [hBB, n32, n32, ← hr0.1, ← hk.1]
    exact this
  rw [← hBB]
  have hev : everify key RN SN BB = match eread RN, eread key with
    | some r, some a => decide (SN < q) && (ebytes (emul base SN 256) == ebytes (eadd r (emul a (wide (n32 RN ++ (n32 key ++ BB))) 256)))
    | _, _ => false := rfl
  obtain ⟨KK, hKK⟩ : ∃ k, k = wide (n32 RN ++ (n32 key ++ BB)) := ⟨_, rfl⟩
  rw [← hKK] at hev hsum3
  have hread1 := fun (w : World) => cread_any RN w hr0
  have hread2 := fun (w : World) => cread_any key w hk
  obtain ⟨er, her⟩ : ∃ x, x = eread RN := ⟨_, rfl⟩
  obtain ⟨ea, hea⟩ : ∃ x, x = eread key := ⟨_, rfl⟩
  rw [← her] at hev hread1
  rw [← hea] at hev hread2
  obtain ⟨ev, hevv⟩ : ∃ x, x = everify key RN SN BB := ⟨_, rfl⟩
  rw [← hevv] at hev ⊢
  obtain ⟨rb, hrb⟩ : ∃ x, x = er.isSome := ⟨_, rfl⟩
  obtain ⟨ab, hab⟩ : ∃ x, x = ea.isSome := ⟨_, rfl⟩
  rw [← hrb] at hread1
  rw [← hab] at hread2
  obtain ⟨lb, hlb⟩ : ∃ x, x = decide (SN < q) := ⟨_, rfl⟩
  have hless := fun (w : World) => sless_any SN w hs0
  rw [← hlb] at hev hless
  have HEV := Lib.hid hev
  have HRB := Lib.hid hrb
  have HAB := Lib.hid hab
  have HR1 := Lib.hid hread1
  have HR2 := Lib.hid hread2
  have HLESS := Lib.hid hless
  have HSUM3 := Lib.hid hsum3
  have HSR := Lib.hid hsr
  have HP0 := Lib.hid hp0
  have HP1 := Lib.hid hp1
  have HR0 := Lib.hid hr0
  have HR0L := Lib.hid hr0.len
  have HS0 := Lib.hid hs0
  have HS0L := Lib.hid hs0.len
  have HGL := Lib.hid hg
  have HK := Lib.hid hk
  have HKL := Lib.hid hk.len
  have HSB := Lib.hid hB
  obtain ⟨zn, hzn⟩ : ∃ zs : List Int, zs = List.replicate 32 0 := ⟨_, rfl⟩
  have HZzn : Hid (∀ w, (zeroValue 23).run Tryd.prog w = .ok (.agg (arr .u8 zn)) w) := Lib.hid (by intro w; rw [hzn]; exact zero_num w)
  have HLzn : Hid (zn.length = 32) := Lib.hid (by rw [hzn]; rfl)
  obtain ⟨zp, hzp⟩ : ∃ zs : List Int, zs = List.replicate 16 0 := ⟨_, rfl⟩
  have HZzp : Hid (∀ w, (zeroValue 58).run Tryd.prog w = .ok (.agg (arr .u64 zp)) w) := Lib.hid (by intro w; rw [hzp]; exact zero_cpt w)
  have HLzp : Hid (zp.length = 16) := Lib.hid (by rw [hzp]; rfl)
  have HI0 := Lib.hid (Blk.two w (arr .u8 ks) (arr .u8 gs) 23 30)
  clear hzn hzp hk hg hgb hB bB hN hn hr0 hs0 hp0 hp1 hr0e hs0e hsr hRN hSN hBB hsum3 hev hKK hread1 hread2 her hea hevv hrb hab hlb hless
  go_enter Tryd.func17, Tryd.ntmps17
  go_upto_region 1 with fail
  (try simp only [World.size_alloc, Act.put, sA, sZ, sS])
  generalize ((w.alloc (.cells (arr .u8 ks) 23)).alloc (.cells (arr .u8 gs) 30)) = wb at HI0 ⊢
  go_upto_region 2 with (first | ((with_reducible refine aS 14 ?_); refine wpList_s2a rfl 23 (.tmp 13) rfl (.slice (some ⟨w.heap.size + 1, 32, none⟩) 32 32) (.pointer (some ⟨w.heap.size + 1, 32, none⟩)) rfl (by first | rfl | kernel_rfl) ?_) | ((with_reducible refine aS 15 ?_); refine wpList_load_part rfl 23 _ rfl (w.heap.size + 1) (32) _ 30 (0, 0) _ (HI0.out.get 1 rfl) rfl .u8 sg0 (HP1.out) Tryd.underlying23 rfl (num_i HS0L.out) ?_) | ((with_reducible refine aS 7 ?_); refine wpList_alloc_row rfl 23 rfl _ (HZzn.out _) ?_; have HI1 := Lib.hid (HI0.out.alloc (arr .u8 zn) 23); generalize wb.heap.size = g7 at HI1 ⊢; generalize wb.alloc (.cells (arr .u8 zn) 23) = w1 at HI1 ⊢) | ((with_reducible refine aT 7 ?_); refine wpList_store_whole rfl 23 _ _ rfl (g7) _ _ 23 (HI1.out.get 2 rfl) rfl rfl (arr_len2 _ _ HS0L.out HLzn.out) (num_s HS0L.out) (all_arr _ _) ?_; intro w2 hb2 hk2 hz2; have HI2 := Lib.hid (HI1.out.put 2 rfl hk2 hb2); clear hb2 hk2 hz2))
  (try simp only [World.size_alloc, Act.put, sA, sZ, sS])
  go_upto_region 3 with (first | ((with_reducible refine aS 18 ?_); refine wpList_s2a rfl 23 (.tmp 17) rfl (.slice (some ⟨w.heap.size + 1, 0, none⟩) 32 64) (.pointer (some ⟨w.heap.size + 1, 0, none⟩)) rfl (by first | rfl | kernel_rfl) ?_) | ((with_reducible refine aS 19 ?_); refine wpList_load_part rfl 23 _ rfl (w.heap.size + 1) (0) _ 30 (0, 0) _ (HI2.out.get 1 rfl) rfl .u8 rg0 (HP0.out) Tryd.underlying23 rfl (num_i HR0L.out) ?_) | ((with_reducible show Calls _ 34 _ _ _); go_at_call 34; refine (HR1.out _).mono ?_; rintro e w3 ⟨z3, rfl, ⟨h3, k3⟩, hb3⟩; have HZ3 := Lib.hid k3; have HL3 := Lib.hid h3; have HI3 := Lib.hid (HI2.out.kept hb3); clear h3 k3 hb3) | ((with_reducible refine aS 8 ?_); refine wpList_alloc_row rfl 58 rfl _ (HZzp.out _) ?_; have HI4 := Lib.hid (HI3.out.alloc (arr .u64 zp) 58); generalize w3.heap.size = g8 at HI4 ⊢; generalize w3.alloc (.cells (arr .u64 zp) 58) = w4 at HI4 ⊢) | ((with_reducible refine aT 8 ?_); refine wpList_store_whole rfl 58 _ _ rfl (g8) _ _ 58 (HI4.out.get 3 rfl) rfl rfl (arr_len2 _ _ HL3.out HLzp.out) (cpt_s HL3.out) (all_arr _ _) ?_; intro w5 hb5 hk5 hz5; have HI5 := Lib.hid (HI4.out.put 3 rfl hk5 hb5); clear hb5 hk5 hz5))
  (try simp only [World.size_alloc, Act.put, sA, sZ, sS])
  go_upto_region 4 with (first | ((with_reducible refine aS 24 ?_); refine wpList_load_part rfl 23 _ rfl (w.heap.size) (0) _ 23 (0, 0) _ (HI5.out.get 0 rfl) rfl .u8 ks (arr_part _ _) Tryd.underlying23 rfl (num_i HKL.out) ?_) | ((with_reducible show Calls _ 34 _ _ _); go_at_call 34; refine (HR2.out _).mono ?_; rintro e w6 ⟨z6, rfl, ⟨h6, k6⟩, hb6⟩; have HZ6 := Lib.hid k6; have HL6 := Lib.hid h6; have HI6 := Lib.hid (HI5.out.kept hb6); clear h6 k6 hb6) | ((with_reducible refine aS 10 ?_); refine wpList_alloc_row rfl 58 rfl _ (HZzp.out _) ?_; have HI7 := Lib.hid (HI6.out.alloc (arr .u64 zp) 58); generalize w6.heap.size = g10 at HI7 ⊢; generalize w6.alloc (.cells (arr .u64 zp) 58) = w7 at HI7 ⊢) | ((with_reducible refine aT 10 ?_); refine wpList_store_whole rfl 58 _ _ rfl (g10) _ _ 58 (HI7.out.get 4 rfl) rfl rfl (arr_len2 _ _ HL6.out HLzp.out) (cpt_s HL6.out) (all_arr _ _) ?_; intro w8 hb8 hk8 hz8; have HI8 := Lib.hid (HI7.out.put 4 rfl hk8 hb8); clear hb8 hk8 hz8))
  (try simp only [World.size_alloc, Act.put, sA, sZ, sS])
  cases er with
  | none =>
    obtain rfl : rb = false := HRB.out
    obtain rfl : ev = false := HEV.out
    go_wp2_with fail
    (try simp only [Exit.then])
    go_ret
    exact ⟨rfl, HI8.out.below⟩
  | some pr =>
    obtain rfl : rb = true := HRB.out
    cases ea with
    | none =>
      obtain rfl : ab = false := HAB.out
      obtain rfl : ev = false := HEV.out
      go_wp2_with fail
      (try simp only [Exit.then])
      go_ret
      exact ⟨rfl, HI8.out.below⟩
    | some pa =>
      obtain rfl : ab = true := HAB.out
      have HPR := Lib.hid (HZ3.out pr rfl)
      have HPA := Lib.hid (HZ6.out pa rfl)
      obtain ⟨eb, heb⟩ : ∃ b, b = decide (ebytes (emul base SN 256) = ebytes (eadd pr (emul pa KK 256))) := ⟨_, rfl⟩
      have hev2 : ev = (lb && eb) := by rw [HEV.out, heb]; rfl
      have HEB := Lib.hid heb
      have HEV2 := Lib.hid hev2
      clear HEV HZ3 HZ6 HR1 HR2 HRB HAB heb hev2
      rcases Bool.eq_false_or_eq_true lb with hl | hl
      rotate_left
      · subst hl
        obtain rfl : ev = false := HEV2.out
        go_wp2_with (first | ((with_reducible refine aS 35 ?_); refine wpList_load_wanted (by rfl) 23 _ rfl (g7) (0) _ 23 (0, 0) _ (HI8.out.get 2 rfl) rfl .u8 sg0 (arr_part _ _) Tryd.underlying23 rfl (num_i HS0L.out) ?_) | ((with_reducible show Calls _ 41 _ _ _); go_at_call 41; refine (HLESS.out _).mono ?_; rintro e w9 ⟨rfl, hb9⟩; have HI9 := Lib.hid (HI8.out.kept hb9); clear hb9))
        (try simp only [Exit.then])
        go_ret
        exact ⟨rfl, HI9.out.below⟩
      · subst hl
        obtain rfl : ev = eb := HEV2.out
        go_upto_region 6 with (first | ((with_reducible refine aS 35 ?_); refine wpList_load_wanted (by rfl) 23 _ rfl (g7) (0) _ 23 (0, 0) _ (HI8.out.get 2 rfl) rfl .u8 sg0 (arr_part _ _) Tryd.underlying23 rfl (num_i HS0L.out) ?_) | ((with_reducible show Calls _ 41 _ _ _); go_at_call 41; refine (HLESS.out _).mono ?_; rintro e w9 ⟨rfl, hb9⟩; have HI9 := Lib.hid (HI8.out.kept hb9); clear hb9))
        (try simp only [World.size_alloc, Act.put, sA, sZ, sS])
        obtain ⟨z6301, hz6301⟩ : ∃ z : List Int, z = nar (dig 256 32 KK) := ⟨_, rfl⟩
        have HE6301 := Lib.hid hz6301
        have HL6301 : Hid (z6301.length = 32) := Lib.hid (by rw [hz6301]; exact (nar_len _).trans (dig_len _ _ _))
        clear hz6301
        refine wp_region_lin (fun (fF : Fill) (uF : World) => (∀ v, fF 0 = some v → v = .slice sb nb cb ∧ True) ∧ (∀ v, fF 1 = some v → v = .slice (some ⟨w.heap.size + 1, 0, none⟩) 32 64 ∧ True) ∧ (∀ v, fF 2 = some v → v = .slice (some ⟨w.heap.size, 0, none⟩) 32 32 ∧ True) ∧ (∀ v, fF 3 = some v → ∃ g : Nat, v = .slice (some ⟨g, 0, none⟩) 2 2) ∧ (∀ v, fF 4 = some v → v = .agg (arr .u8 z6301) ∧ K32 z6301 KK) ∧ (∀ v, fF 5 = some v → ∃ g : Nat, v = .pointer (some ⟨g, 0, none⟩)) ∧ Blk w uF ([(w.heap.size, arr .u8 ks, 23), (w.heap.size + 1, arr .u8 gs, 30), (g7, arr .u8 sg0, 23), (g8, arr .u64 z3, 58), (g10, arr .u64 z6, 58)] ++ (ent (fF 3) (#[.slice (some ⟨w.heap.size + 1, 0, none⟩) 32 64, .slice (some ⟨w.heap.size, 0, none⟩) 32 32]) 33 ++ (ent (fF 5) ((if (fF 6).isSome = true then arr .u8 z6301 else arr .u8 zn)) 23)))) (by kernel_rfl) (by kernel_rfl) ?zh6 ?sh6 ?eh6
        case zh6 => exact ⟨fun _ h => (by cases h), fun _ h => (by cases h), fun _ h => (by cases h), fun _ h => (by cases h), fun _ h => (by cases h), fun _ h => (by cases h), HI9.out.drew⟩
        case sh6 =>
          refine LinAll.cons (fun fF bF uF kF hJF hfF hcF hupF hsF hKF => ?_) ?_
          · obtain ⟨j0, j1, j2, j3, j4, j5, hB⟩ := hJF
            have e2 : bF.eval (.tmp 2) = .slice sb nb cb := hsF.old' 2 (by kernel_rfl) rfl
            exact lin_pure rfl (.slice sb nb cb) (by simp only [execOp, e2] <;> first | rfl | kernel_rfl | (go_simp; done)) (hKF _ _ ⟨fun _ h => ⟨sI h, trivial⟩, j1, j2, j3, j4, j5, hB⟩)
          refine LinAll.cons (fun fF bF uF kF hJF hfF hcF hupF hsF hKF => ?_) ?_
          · obtain ⟨j0, j1, j2, j3, j4, j5, hB⟩ := hJF
            have e4 : bF.eval (.tmp 4) = .pointer (some ⟨w.heap.size + 1, 0, none⟩) := hsF.old' 4 (by kernel_rfl) rfl
            exact lin_pure rfl (.slice (some ⟨w.heap.size + 1, 0, none⟩) 32 64) (by simp only [execOp, e4]; first | rfl | (go_simp; done)) (hKF _ _ ⟨j0, fun _ h => ⟨sI h, trivial⟩, j2, j3, j4, j5, hB⟩)
          refine LinAll.cons (fun fF bF uF kF hJF hfF hcF hupF hsF hKF => ?_) ?_
          · obtain ⟨j0, j1, j2, j3, j4, j5, hB⟩ := hJF
            have e3 : bF.eval (.tmp 3) = .pointer (some ⟨w.heap.size, 0, none⟩) := hsF.old' 3 (by kernel_rfl) rfl
            exact lin_pure rfl (.slice (some ⟨w.heap.size, 0, none⟩) 32 32) (by simp only [execOp, e3]; first | rfl | (go_simp; done)) (hKF _ _ ⟨j0, j1, fun _ h => ⟨sI h, trivial⟩, j3, j4, j5, hB⟩)
          refine LinAll.cons (fun fF bF uF kF hJF hfF hcF hupF hsF hKF => ?_) ?_
          · obtain ⟨j0, j1, j2, j3, j4, j5, hB⟩ := hJF
            obtain ⟨e40, p40⟩ := hsF.at hupF 1 40 (by kernel_rfl) rfl j1
            obtain ⟨e41, p41⟩ := hsF.at hupF 2 41 (by kernel_rfl) rfl j2
            have hB1 : Blk w (uF.alloc (.cells #[.slice (some ⟨w.heap.size + 1, 0, none⟩) 32 64, .slice (some ⟨w.heap.size, 0, none⟩) 32 32] 33)) ([(w.heap.size, arr .u8 ks, 23), (w.heap.size + 1, arr .u8 gs, 30), (g7, arr .u8 sg0, 23), (g8, arr .u64 z3, 58), (g10, arr .u64 z6, 58)] ++ (ent ((some (.slice (some ⟨uF.heap.size, 0, none⟩) 2 2) : Option Value)) (#[.slice (some ⟨w.heap.size + 1, 0, none⟩) 32 64, .slice (some ⟨w.heap.size, 0, none⟩) 32 32]) 33 ++ (ent (fF 5) ((if (fF 6).isSome = true then arr .u8 z6301 else arr .u8 zn)) 23))) := hB.ins (a := [(w.heap.size, arr .u8 ks, 23), (w.heap.size + 1, arr .u8 gs, 30), (g7, arr .u8 sg0, 23), (g8, arr .u64 z3, 58), (g10, arr .u64 z6, 58)]) (b := ent (fF 5) ((if (fF 6).isSome = true then arr .u8 z6301 else arr .u8 zn)) 23) _ _ (by rw [hfF]; simp only [ent_none, List.nil_append, List.append_nil, List.append_assoc, List.cons_append]) (by simp only [ent_slice, List.nil_append, List.append_nil, List.append_assoc, List.cons_append, Option.isSome_none, Bool.false_eq_true, if_false])
            rw [if_pos (by simp [Region.wanted])]
            unfold Oper.wp
            simp only [execOp, List.map_toArray, List.map_cons, List.map_nil, e40, e41]
            go_simp
            exact hKF _ _ ⟨j0, j1, j2, fun _ h => ⟨_, sI h⟩, j4, j5, hB1⟩
          refine LinAll.cons (fun fF bF uF kF hJF hfF hcF hupF hsF hKF => ?_) ?_
          · obtain ⟨j0, j1, j2, j3, j4, j5, hB⟩ := hJF
            obtain ⟨e39, p39⟩ := hsF.at hupF 0 39 (by kernel_rfl) rfl j0
            have y3 := hupF 3 (by kernel_rfl)
            obtain ⟨v3, s3⟩ := sE y3
            obtain ⟨gh6_5, rfl⟩ := j3 _ s3
            have e42 := hsF.val 3 42 rfl s3
            have hB' := hB
            rw [s3] at hB'
            have hsl := src_two (hB'.get 5 rfl) (HSR.out _ _ (hB'.get 1 rfl)) (src_all (hB'.get 0 rfl) 32 HKL.out) (by decide) (Nat.le_refl _)
            refine lin_call rfl 35 [Operand.tmp 39, Operand.tmp 42] _ [.slice sb nb cb, .slice (some ⟨gh6_5, 0, none⟩) 2 2] rfl (by simp only [List.map_cons, List.map_nil, e39, e42] <;> rfl) (fun _ _ => by kernel_rfl) ?_
            refine Calls.mono (HSUM3.out _ _ _ hsl (HSB.out.below hB.below)) ?_
            rintro e w1 ⟨y6302_0, rfl, r6302_0, hb⟩
            obtain rfl : y6302_0 = z6301 := r6302_0.1.trans HE6301.out.symm
            exact ⟨_, rfl, hKF _ _ ⟨j0, j1, j2, j3, fun _ h => ⟨sI h, r6302_0⟩, j5, hB.kept hb⟩⟩
          refine LinAll.cons (fun fF bF uF kF hJF hfF hcF hupF hsF hKF => ?_) ?_
          · obtain ⟨j0, j1, j2, j3, j4, j5, hB⟩ := hJF
            have n6 := hcF.down 6 5 (by kernel_rfl) hfF
            refine step_alloc_row rfl 23 rfl _ (HZzn.out _) ?_
            have hB1 : Blk w (uF.alloc (.cells (arr .u8 zn) 23)) ([(w.heap.size, arr .u8 ks, 23), (w.heap.size + 1, arr .u8 gs, 30), (g7, arr .u8 sg0, 23), (g8, arr .u64 z3, 58), (g10, arr .u64 z6, 58)] ++ (ent (fF 3) (#[.slice (some ⟨w.heap.size + 1, 0, none⟩) 32 64, .slice (some ⟨w.heap.size, 0, none⟩) 32 32]) 33 ++ (ent ((some (.pointer (some ⟨uF.heap.size, 0, none⟩)) : Option Value)) ((if (fF 6).isSome = true then arr .u8 z6301 else arr .u8 zn)) 23))) := hB.ins (a := [(w.heap.size, arr .u8 ks, 23), (w.heap.size + 1, arr .u8 gs, 30), (g7, arr .u8 sg0, 23), (g8, arr .u64 z3, 58), (g10, arr .u64 z6, 58)] ++ ent (fF 3) (#[.slice (some ⟨w.heap.size + 1, 0, none⟩) 32 64, .slice (some ⟨w.heap.size, 0, none⟩) 32 32]) 33) (b := []) _ _ (by rw [hfF, n6]; simp only [ent_none, List.nil_append, List.append_nil, List.append_assoc, List.cons_append]) (by rw [n6]; simp only [ent_some, List.nil_append, List.append_nil, List.append_assoc, List.cons_append, Option.isSome_none, Bool.false_eq_true, if_false])
            exact hKF _ _ ⟨j0, j1, j2, j3, j4, fun _ h => ⟨_, sI h⟩, hB1⟩
          refine LinAll.cons (fun fF bF uF kF hJF hfF hcF hupF hsF hKF => ?_) ?_
          · obtain ⟨j0, j1, j2, j3, j4, j5, hB⟩ := hJF
            have y3 := hupF 3 (by kernel_rfl)
            obtain ⟨v3, s3⟩ := sE y3
            obtain ⟨gh6_5, rfl⟩ := j3 _ s3
            have y5 := hupF 5 (by kernel_rfl)
            obtain ⟨v5, s5⟩ := sE y5
            obtain ⟨gh6_6, rfl⟩ := j5 _ s5
            have e12 := hsF.val 5 12 rfl s5
            obtain ⟨e43, p43⟩ := hsF.at hupF 4 43 (by kernel_rfl) rfl j4
            have y4 := hupF 4 (by kernel_rfl)
            obtain ⟨v4, s4⟩ := sE y4
            have HZ6301 := Lib.hid (j4 _ s4).2
            have hB' := hB
            rw [s3, s5, hfF] at hB'
            refine step_store_whole rfl 23 (.tmp 12) (.tmp 43) rfl (gh6_6) (arr .u8 zn) _ 23 (hB'.get 6 rfl) e12 e43 (arr_len2 _ _ HL6301.out HLzn.out) (num_s HL6301.out) (all_arr _ _) ?_
            intro w1 hb1 hk1 hz1
            have hB1 : Blk w w1 ([(w.heap.size, arr .u8 ks, 23), (w.heap.size + 1, arr .u8 gs, 30), (g7, arr .u8 sg0, 23), (g8, arr .u64 z3, 58), (g10, arr .u64 z6, 58)] ++ (ent (fF 3) (#[.slice (some ⟨w.heap.size + 1, 0, none⟩) 32 64, .slice (some ⟨w.heap.size, 0, none⟩) 32 32]) 33 ++ (ent (fF 5) ((if ((some undef : Option Value)).isSome = true then arr .u8 z6301 else arr .u8 zn)) 23))) := by rw [s3, s5]; exact hB'.put 6 rfl hk1 hb1
            exact hKF undef w1 ⟨j0, j1, j2, j3, j4, j5, hB1⟩
          exact LinAll.nil
        case eh6 =>
        intro fF uh6 hall hJF
        obtain ⟨j0, j1, j2, j3, j4, j5, hB⟩ := hJF
        obtain ⟨v0, h0⟩ := sE (hall 0 (by decide))
        obtain ⟨rfl, p0⟩ := j0 _ h0
        obtain ⟨v1, h1⟩ := sE (hall 1 (by decide))
        obtain ⟨rfl, p1⟩ := j1 _ h1
        obtain ⟨v2, h2⟩ := sE (hall 2 (by decide))
        obtain ⟨rfl, p2⟩ := j2 _ h2
        obtain ⟨v3, h3⟩ := sE (hall 3 (by decide))
        obtain ⟨gh6_5, rfl⟩ := j3 _ h3
        obtain ⟨v4, h4⟩ := sE (hall 4 (by decide))
        obtain ⟨rfl, p4⟩ := j4 _ h4
        obtain ⟨v5, h5⟩ := sE (hall 5 (by decide))
        obtain ⟨gh6_6, rfl⟩ := j5 _ h5
        obtain ⟨v6, h6⟩ := sE (hall 6 (by decide))
        rw [h3, h5, h6] at hB
        have HBh6 : Hid (Blk w uh6 [(w.heap.size, arr .u8 ks, 23), (w.heap.size + 1, arr .u8 gs, 30), (g7, arr .u8 sg0, 23), (g8, arr .u64 z3, 58), (g10, arr .u64 z6, 58), (gh6_5, #[.slice (some ⟨w.heap.size + 1, 0, none⟩) 32 64, .slice (some ⟨w.heap.size, 0, none⟩) 32 32], 33), (gh6_6, arr .u8 z6301, 23)]) := Lib.hid hB
        have HZ6301 := Lib.hid p4
        simp only [laid, Nat.zero_add, Nat.reduceAdd, h0, h1, h2, h3, h4, h5, h6, Act.put, sA, sZ, sS]
        clear j0 j1 j2 j3 j4 j5 hB h0 h1 h2 h3 h4 h5 h6 hall fF HI9
        clear p0 p1 p2 p4
        (try simp only [Exit.then])
        go_upto_region 7 with fail
        (try simp only [World.size_alloc, Act.put, sA, sZ, sS])
        obtain ⟨z6303, hz6303⟩ : ∃ z : List Int, z = ptl base := ⟨_, rfl⟩
        have HE6303 := Lib.hid hz6303
        have HL6303 : Hid (z6303.length = 16) := Lib.hid (by rw [hz6303]; exact ptl_len _)
        clear hz6303
        obtain ⟨z6304, hz6304⟩ : ∃ z : List Int, z = ptl (emul base SN 256) := ⟨_, rfl⟩
        have HE6304 := Lib.hid hz6304
        have HL6304 : Hid (z6304.length = 16) := Lib.hid (by rw [hz6304]; exact ptl_len _)
        clear hz6304
        obtain ⟨z6305, hz6305⟩ : ∃ z : List Int, z = nar (dig 256 32 (ebytes (emul base SN 256))) := ⟨_, rfl⟩
        have HE6305 := Lib.hid hz6305
        have HL6305 : Hid (z6305.length = 32) := Lib.hid (by rw [hz6305]; exact (nar_len _).trans (dig_len _ _ _))
        clear hz6305
        obtain ⟨z6306, hz6306⟩ : ∃ z : List Int, z = ptl (emul pa KK 256) := ⟨_, rfl⟩
        have HE6306 := Lib.hid hz6306
        have HL6306 : Hid (z6306.length = 16) := Lib.hid (by rw [hz6306]; exact ptl_len _)
        clear hz6306
        obtain ⟨z6307, hz6307⟩ : ∃ z : List Int, z = ptl (eadd pr (emul pa KK 256)) := ⟨_, rfl⟩
        have HE6307 := Lib.hid hz6307
        have HL6307 : Hid (z6307.length = 16) := Lib.hid (by rw [hz6307]; exact ptl_len _)
        clear hz6307
        obtain ⟨z6308, hz6308⟩ : ∃ z : List Int, z = nar (dig 256 32 (ebytes (eadd pr (emul pa KK 256)))) := ⟨_, rfl⟩
        have HE6308 := Lib.hid hz6308
        have HL6308 : Hid (z6308.length = 32) := Lib.hid (by rw [hz6308]; exact (nar_len _).trans (dig_len _ _ _))
        clear hz6308
        refine wp_region_lin (fun (fF : Fill) (uF : World) => (∀ v, fF 0 = some v → v = .agg (arr .u64 z6303) ∧ P4 z6303 base) ∧ (∀ v, fF 1 = some v → v = .agg (arr .u8 sg0) ∧ True) ∧ (∀ v, fF 2 = some v → v = .agg (arr .u64 z6304) ∧ P4 z6304 (emul base SN 256)) ∧ (∀ v, fF 3 = some v → v = .agg (arr .u8 z6305) ∧ K32 z6305 (ebytes (emul base SN 256))) ∧ (∀ v, fF 4 = some v → v = .agg (arr .u64 z3) ∧ True) ∧ (∀ v, fF 5 = some v → v = .agg (arr .u64 z6) ∧ True) ∧ (∀ v, fF 6 = some v → v = .agg (arr .u8 z6301) ∧ True) ∧ (∀ v, fF 7 = some v → v = .agg (arr .u64 z6306) ∧ P4 z6306 (emul pa KK 256)) ∧ (∀ v, fF 8 = some v → v = .agg (arr .u64 z6307) ∧ P4 z6307 (eadd pr (emul pa KK 256))) ∧ (∀ v, fF 9 = some v → v = .agg (arr .u8 z6308) ∧ K32 z6308 (ebytes (eadd pr (emul pa KK 256)))) ∧ (∀ v, fF 10 = some v → v = .bool ev ∧ True) ∧ (∀ v, fF 11 = some v → v = .bool ev ∧ True) ∧ Blk w uF ([(w.heap.size, arr .u8 ks, 23), (w.heap.size + 1, arr .u8 gs, 30), (g7, arr .u8 sg0, 23), (g8, arr .u64 z3, 58), (g10, arr .u64 z6, 58), (gh6_5, #[.slice (some ⟨w.heap.size + 1, 0, none⟩) 32 64, .slice (some ⟨w.heap.size, 0, none⟩) 32 32], 33), (gh6_6, arr .u8 z6301, 23)])) (by kernel_rfl) (by kernel_rfl) ?zh7 ?sh7 ?eh7
        case zh7 => exact ⟨fun _ h => (by cases h), fun _ h => (by cases h), fun _ h => (by cases h), fun _ h => (by cases h), fun _ h => (by cases h), fun _ h => (by cases h), fun _ h => (by cases h), fun _ h => (by cases h), fun _ h => (by cases h), fun _ h => (by cases h), fun _ h => (by cases h), fun _ h => (by cases h), HBh6.out.drew⟩
        case sh7 =>
          refine LinAll.cons (fun fF bF uF kF hJF hfF hcF hupF hsF hKF => ?_) ?_
          · obtain ⟨j0, j1, j2, j3, j4, j5, j6, j7, j8, j9, j10, j11, hB⟩ := hJF
            refine lin_call rfl 27 [] _ [] rfl (by simp only [List.map_cons, List.map_nil] <;> rfl) (fun _ _ => by kernel_rfl) ?_
            refine Calls.mono (base_any _) ?_
            rintro e w1 ⟨y6309_0, rfl, r6309_0, hb⟩
            obtain rfl : y6309_0 = z6303 := r6309_0.1.trans HE6303.out.symm
            exact ⟨_, rfl, hKF _ _ ⟨fun _ h => ⟨sI h, r6309_0⟩, j1, j2, j3, j4, j5, j6, j7, j8, j9, j10, j11, hB.kept hb⟩⟩
          refine LinAll.cons (fun fF bF uF kF hJF hfF hcF hupF hsF hKF => ?_) ?_
          · obtain ⟨j0, j1, j2, j3, j4, j5, j6, j7, j8, j9, j10, j11, hB⟩ := hJF
            have e7 : bF.eval (.tmp 7) = .pointer (some ⟨g7, 0, none⟩) := hsF.old' 7 (by kernel_rfl) rfl
            have hB' := hB
            refine step_load_part rfl 23 _ rfl (g7) (0) (arr .u8 sg0) 23 (0, 0) _ (hB'.get 2 rfl) e7 .u8 sg0 (arr_part _ _) Tryd.underlying23 rfl (num_i HS0L.out) ?_
            exact hKF _ _ ⟨j0, fun _ h => ⟨sI h, trivial⟩, j2, j3, j4, j5, j6, j7, j8, j9, j10, j11, hB⟩
          refine LinAll.cons (fun fF bF uF kF hJF hfF hcF hupF hsF hKF => ?_) ?_
          · obtain ⟨j0, j1, j2, j3, j4, j5, j6, j7, j8, j9, j10, j11, hB⟩ := hJF
            obtain ⟨e44, p44⟩ := hsF.at hupF 0 44 (by kernel_rfl) rfl j0
            obtain ⟨e45, p45⟩ := hsF.at hupF 1 45 (by kernel_rfl) rfl j1
            have y0 := hupF 0 (by kernel_rfl)
            obtain ⟨v0, s0⟩ := sE y0
            have HZ6303 := Lib.hid (j0 _ s0).2
            refine lin_call rfl 28 [Operand.tmp 44, Operand.tmp 45] _ [.agg (arr .u64 z6303), .agg (arr .u8 sg0)] rfl (by simp only [List.map_cons, List.map_nil, e44, e45] <;> rfl) (fun _ _ => by kernel_rfl) ?_
            refine Calls.mono (ptimes_any _ _ _ HZ6303.out HS0.out) ?_
            rintro e w1 ⟨y6310_0, rfl, r6310_0, hb⟩
            obtain rfl : y6310_0 = z6304 := r6310_0.1.trans HE6304.out.symm
            exact ⟨_, rfl, hKF _ _ ⟨j0, j1, fun _ h => ⟨sI h, r6310_0⟩, j3, j4, j5, j6, j7, j8, j9, j10, j11, hB.kept hb⟩⟩
          refine LinAll.cons (fun fF bF uF kF hJF hfF hcF hupF hsF hKF => ?_) ?_
          · obtain ⟨j0, j1, j2, j3, j4, j5, j6, j7, j8, j9, j10, j11, hB⟩ := hJF
            obtain ⟨e46, p46⟩ := hsF.at hupF 2 46 (by kernel_rfl) rfl j2
            have y2 := hupF 2 (by kernel_rfl)
            obtain ⟨v2, s2⟩ := sE y2
            have HZ6304 := Lib.hid (j2 _ s2).2
            refine lin_call rfl 29 [Operand.tmp 46] _ [.agg (arr .u64 z6304)] rfl (by simp only [List.map_cons, List.map_nil, e46] <;> rfl) (fun _ _ => by kernel_rfl) ?_
            refine Calls.mono (pbytes_any _ _ HZ6304.out) ?_
            rintro e w1 ⟨y6311_0, rfl, r6311_0, hb⟩
            obtain rfl : y6311_0 = z6305 := r6311_0.1.trans HE6305.out.symm
            exact ⟨_, rfl, hKF _ _ ⟨j0, j1, j2, fun _ h => ⟨sI h, r6311_0⟩, j4, j5, j6, j7, j8, j9, j10, j11, hB.kept hb⟩⟩
          refine LinAll.cons (fun fF bF uF kF hJF hfF hcF hupF hsF hKF => ?_) ?_
          · obtain ⟨j0, j1, j2, j3, j4, j5, j6, j7, j8, j9, j10, j11, hB⟩ := hJF
            have e8 : bF.eval (.tmp 8) = .pointer (some ⟨g8, 0, none⟩) := hsF.old' 8 (by kernel_rfl) rfl
            have hB' := hB
            refine step_load_part rfl 58 _ rfl (g8) (0) (arr .u64 z3) 58 (0, 0) _ (hB'.get 3 rfl) e8 .u64 z3 (arr_part _ _) Tryd.underlying58 rfl (cpt_i HL3.out) ?_
            exact hKF _ _ ⟨j0, j1, j2, j3, fun _ h => ⟨sI h, trivial⟩, j5, j6, j7, j8, j9, j10, j11, hB⟩
          refine LinAll.cons (fun fF bF uF kF hJF hfF hcF hupF hsF hKF => ?_) ?_
          · obtain ⟨j0, j1, j2, j3, j4, j5, j6, j7, j8, j9, j10, j11, hB⟩ := hJF
            have e10 : bF.eval (.tmp 10) = .pointer (some ⟨g10, 0, none⟩) := hsF.old' 10 (by kernel_rfl) rfl
            have hB' := hB
            refine step_load_part rfl 58 _ rfl (g10) (0) (arr .u64 z6) 58 (0, 0) _ (hB'.get 4 rfl) e10 .u64 z6 (arr_part _ _) Tryd.underlying58 rfl (cpt_i HL6.out) ?_
            exact hKF _ _ ⟨j0, j1, j2, j3, j4, fun _ h => ⟨sI h, trivial⟩, j6, j7, j8, j9, j10, j11, hB⟩
          refine LinAll.cons (fun fF bF uF kF hJF hfF hcF hupF hsF hKF => ?_) ?_
          · obtain ⟨j0, j1, j2, j3, j4, j5, j6, j7, j8, j9, j10, j11, hB⟩ := hJF
            have e12 : bF.eval (.tmp 12) = .pointer (some ⟨gh6_6, 0, none⟩) := hsF.old' 12 (by kernel_rfl) rfl
            have hB' := hB
            refine step_load_part rfl 23 _ rfl (gh6_6) (0) (arr .u8 z6301) 23 (0, 0) _ (hB'.get 6 rfl) e12 .u8 z6301 (arr_part _ _) Tryd.underlying23 rfl (num_i HL6301.out) ?_
            exact hKF _ _ ⟨j0, j1, j2, j3, j4, j5, fun _ h => ⟨sI h, trivial⟩, j7, j8, j9, j10, j11, hB⟩
          refine LinAll.cons (fun fF bF uF kF hJF hfF hcF hupF hsF hKF => ?_) ?_
          · obtain ⟨j0, j1, j2, j3, j4, j5, j6, j7, j8, j9, j10, j11, hB⟩ := hJF
            obtain ⟨e49, p49⟩ := hsF.at hupF 5 49 (by kernel_rfl) rfl j5
            obtain ⟨e50, p50⟩ := hsF.at hupF 6 50 (by kernel_rfl) rfl j6
            refine lin_call rfl 28 [Operand.tmp 49, Operand.tmp 50] _ [.agg (arr .u64 z6), .agg (arr .u8 z6301)] rfl (by simp only [List.map_cons, List.map_nil, e49, e50] <;> rfl) (fun _ _ => by kernel_rfl) ?_
            refine Calls.mono (ptimes_any _ _ _ HPA.out HZ6301.out) ?_
            rintro e w1 ⟨y6312_0, rfl, r6312_0, hb⟩
            obtain rfl : y6312_0 = z6306 := r6312_0.1.trans HE6306.out.symm
            exact ⟨_, rfl, hKF _ _ ⟨j0, j1, j2, j3, j4, j5, j6, fun _ h => ⟨sI h, r6312_0⟩, j8, j9, j10, j11, hB.kept hb⟩⟩
          refine LinAll.cons (fun fF bF uF kF hJF hfF hcF hupF hsF hKF => ?_) ?_
          · obtain ⟨j0, j1, j2, j3, j4, j5, j6, j7, j8, j9, j10, j11, hB⟩ := hJF
            obtain ⟨e48, p48⟩ := hsF.at hupF 4 48 (by kernel_rfl) rfl j4
            obtain ⟨e51, p51⟩ := hsF.at hupF 7 51 (by kernel_rfl) rfl j7
            have y7 := hupF 7 (by kernel_rfl)
            obtain ⟨v7, s7⟩ := sE y7
            have HZ6306 := Lib.hid (j7 _ s7).2
            refine lin_call rfl 42 [Operand.tmp 48, Operand.tmp 51] _ [.agg (arr .u64 z3), .agg (arr .u64 z6306)] rfl (by simp only [List.map_cons, List.map_nil, e48, e51] <;> rfl) (fun _ _ => by kernel_rfl) ?_
            refine Calls.mono (padd_any _ _ _ HPR.out HZ6306.out) ?_
            rintro e w1 ⟨y6313_0, rfl, r6313_0, hb⟩
            obtain rfl : y6313_0 = z6307 := r6313_0.1.trans HE6307.out.symm
            exact ⟨_, rfl, hKF _ _ ⟨j0, j1, j2, j3, j4, j5, j6, j7, fun _ h => ⟨sI h, r6313_0⟩, j9, j10, j11, hB.kept hb⟩⟩
          refine LinAll.cons (fun fF bF uF kF hJF hfF hcF hupF hsF hKF => ?_) ?_
          · obtain ⟨j0, j1, j2, j3, j4, j5, j6, j7, j8, j9, j10, j11, hB⟩ := hJF
            obtain ⟨e52, p52⟩ := hsF.at hupF 8 52 (by kernel_rfl) rfl j8
            have y8 := hupF 8 (by kernel_rfl)
            obtain ⟨v8, s8⟩ := sE y8
            have HZ6307 := Lib.hid (j8 _ s8).2
            refine lin_call rfl 29 [Operand.tmp 52] _ [.agg (arr .u64 z6307)] rfl (by simp only [List.map_cons, List.map_nil, e52] <;> rfl) (fun _ _ => by kernel_rfl) ?_
            refine Calls.mono (pbytes_any _ _ HZ6307.out) ?_
            rintro e w1 ⟨y6314_0, rfl, r6314_0, hb⟩
            obtain rfl : y6314_0 = z6308 := r6314_0.1.trans HE6308.out.symm
            exact ⟨_, rfl, hKF _ _ ⟨j0, j1, j2, j3, j4, j5, j6, j7, j8, fun _ h => ⟨sI h, r6314_0⟩, j10, j11, hB.kept hb⟩⟩
          refine LinAll.cons (fun fF bF uF kF hJF hfF hcF hupF hsF hKF => ?_) ?_
          · obtain ⟨j0, j1, j2, j3, j4, j5, j6, j7, j8, j9, j10, j11, hB⟩ := hJF
            obtain ⟨e47, p47⟩ := hsF.at hupF 3 47 (by kernel_rfl) rfl j3
            obtain ⟨e53, p53⟩ := hsF.at hupF 9 53 (by kernel_rfl) rfl j9
            have y3 := hupF 3 (by kernel_rfl)
            obtain ⟨v3, s3⟩ := sE y3
            have HZ6305 := Lib.hid (j3 _ s3).2
            have y9 := hupF 9 (by kernel_rfl)
            obtain ⟨v9, s9⟩ := sE y9
            have HZ6308 := Lib.hid (j9 _ s9).2
            have hq : (z6305 == z6308) = ev := by rw [HZ6305.out.inj HZ6308.out, HEB.out]
            exact lin_pure rfl (.bool ev) (exec_eql_arr 23 _ _ (.tmp 47) (.tmp 53) rfl 32 .u8 .u8 Tryd.underlying23 Tryd.underlying5 (fun w => by kernel_rfl) (by kernel_rfl) z6305 z6308 e47 e53 HL6305.out HL6308.out _ hq) (hKF _ _ ⟨j0, j1, j2, j3, j4, j5, j6, j7, j8, j9, fun _ h => ⟨sI h, trivial⟩, j11, hB⟩)
          refine LinAll.cons (fun fF bF uF kF hJF hfF hcF hupF hsF hKF => ?_) ?_
          · obtain ⟨j0, j1, j2, j3, j4, j5, j6, j7, j8, j9, j10, j11, hB⟩ := hJF
            obtain ⟨e54, p54⟩ := hsF.at hupF 10 54 (by kernel_rfl) rfl j10
            exact lin_pure rfl (.bool ev) (by simp only [execOp, e54] <;> first | rfl | kernel_rfl | (go_simp; done)) (hKF _ _ ⟨j0, j1, j2, j3, j4, j5, j6, j7, j8, j9, j10, fun _ h => ⟨sI h, trivial⟩, hB⟩)
          exact LinAll.nil
        case eh7 =>
        intro fF uh7 hall hJF
        obtain ⟨j0, j1, j2, j3, j4, j5, j6, j7, j8, j9, j10, j11, hB⟩ := hJF
        obtain ⟨v0, h0⟩ := sE (hall 0 (by decide))
        obtain ⟨rfl, p0⟩ := j0 _ h0
        obtain ⟨v1, h1⟩ := sE (hall 1 (by decide))
        obtain ⟨rfl, p1⟩ := j1 _ h1
        obtain ⟨v2, h2⟩ := sE (hall 2 (by decide))
        obtain ⟨rfl, p2⟩ := j2 _ h2
        obtain ⟨v3, h3⟩ := sE (hall 3 (by decide))
        obtain ⟨rfl, p3⟩ := j3 _ h3
        obtain ⟨v4, h4⟩ := sE (hall 4 (by decide))
        obtain ⟨rfl, p4⟩ := j4 _ h4
        obtain ⟨v5, h5⟩ := sE (hall 5 (by decide))
        obtain ⟨rfl, p5⟩ := j5 _ h5
        obtain ⟨v6, h6⟩ := sE (hall 6 (by decide))
        obtain ⟨rfl, p6⟩ := j6 _ h6
        obtain ⟨v7, h7⟩ := sE (hall 7 (by decide))
        obtain ⟨rfl, p7⟩ := j7 _ h7
        obtain ⟨v8, h8⟩ := sE (hall 8 (by decide))
        obtain ⟨rfl, p8⟩ := j8 _ h8
        obtain ⟨v9, h9⟩ := sE (hall 9 (by decide))
        obtain ⟨rfl, p9⟩ := j9 _ h9
        obtain ⟨v10, h10⟩ := sE (hall 10 (by decide))
        obtain ⟨rfl, p10⟩ := j10 _ h10
        obtain ⟨v11, h11⟩ := sE (hall 11 (by decide))
        obtain ⟨rfl, p11⟩ := j11 _ h11
        have HBh7 : Hid (Blk w uh7 [(w.heap.size, arr .u8 ks, 23), (w.heap.size + 1, arr .u8 gs, 30), (g7, arr .u8 sg0, 23), (g8, arr .u64 z3, 58), (g10, arr .u64 z6, 58), (gh6_5, #[.slice (some ⟨w.heap.size + 1, 0, none⟩) 32 64, .slice (some ⟨w.heap.size, 0, none⟩) 32 32], 33), (gh6_6, arr .u8 z6301, 23)]) := Lib.hid hB
        have HZ6303 := Lib.hid p0
        have HZ6304 := Lib.hid p2
        have HZ6305 := Lib.hid p3
        have HZ6306 := Lib.hid p7
        have HZ6307 := Lib.hid p8
        have HZ6308 := Lib.hid p9
        simp only [laid, Nat.zero_add, Nat.reduceAdd, h0, h1, h2, h3, h4, h5, h6, h7, h8, h9, h10, h11, Act.put, sA, sZ, sS]
        clear j0 j1 j2 j3 j4 j5 j6 j7 j8 j9 j10 j11 hB h0 h1 h2 h3 h4 h5 h6 h7 h8 h9 h10 h11 hall fF HBh6
        clear p0 p1 p2 p3 p4 p5 p6 p7 p8 p9 p10 p11
        (try simp only [Exit.then])
        go_wp2_with fail
        (try simp only [Exit.then])
        go_ret
        exact ⟨rfl, HBh7.out.below⟩
end Go.Proofs.YtanjhngehfbpbaaDoor.Sl
