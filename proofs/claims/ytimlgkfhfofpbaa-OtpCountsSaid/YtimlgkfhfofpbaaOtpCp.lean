/- OtpCounts: the walk through the loop. No condition. -/
import Derived.Test.YtimlgkfhfofpbaaOtpCo
namespace Go.Proofs.Ytimlgkfhfofpbaa
open Go.RowKit

theorem and_le (a b : Int) : bits .and .i64 a b ≤ 9223372036854775807 := by
  obtain ⟨z, hz⟩ : ∃ z : Int, bits .and .i64 a b = IntKind.i64.wrap z := ⟨_, rfl⟩
  rw [hz, IntKind.wrap_i64]
  omega

set_option maxRecDepth 100000 in
set_option maxHeartbeats 60000000 in
theorem oc_go (mo : Int) (n : Nat) (r sx : List Int) (hr : r.length = 32) (hs : sx.length = 32) (pa : Option Addr) (lp cp : Nat) (A : Nat → Int) (w : World) (hn : n ≤ 60) (hlp : lp ≤ 60)
    (hA : ∀ i, i < lp → ∃ x, pa = some x ∧ w.cell? (x.add i) = some (.int .i64 (A i))) :
    Calls Try.prog 4 #[.int .i64 mo, .agg (arr .u8 r), .agg (arr .u8 sx), .slice pa lp cp, .int .i64 n] w fun e w' => e = .returned (.bool true) ∧ Below w.heap.size w w' := by
  have h0 := fun w => alive20_any w
  have hnew := fun w => new_any 1 w
  have hrnew := fun w => rnew_any 1 w
  obtain ⟨s0, e0⟩ : ∃ s, s = Fl.new 1 := ⟨_, rfl⟩
  rw [← e0] at hnew hrnew
  obtain ⟨M, hM, hM2⟩ : ∃ M : Nat, min (max 0 mo) 1048576 = (M : Int) ∧ M ≤ 1048576 := ⟨(min (max 0 mo) 1048576).toNat, by omega, by omega⟩
  have o1 := fun f w => onew_any f r sx hr hs mo w
  have o2 := fun p w => ronew_any p mo w
  rw [hM] at o1 o2
  obtain ⟨x, hx⟩ : ∃ x, x = w.heap.size := ⟨_, rfl⟩
  obtain ⟨y, hy⟩ : ∃ y, y = x + 1 := ⟨_, rfl⟩
  have g1 : ((w.alloc (.cells (arr .u8 r) 31)).alloc (.cells (arr .u8 sx) 31)).heap[x]? = some (.cells (arr .u8 r) 31 (0, 0)) := by rw [hx]; exact blk_alloc (blk_new w _) _
  have g2 : ((w.alloc (.cells (arr .u8 r) 31)).alloc (.cells (arr .u8 sx) 31)).heap[y]? = some (.cells (arr .u8 sx) 31 (0, 0)) := by
    have := blk_new (w.alloc (.cells (arr .u8 r) 31)) (.cells (arr .u8 sx) 31)
    rwa [show (w.alloc (.cells (arr .u8 r) 31)).heap.size = y by simp [hx, hy]] at this
  have hb0 : Below w.heap.size w ((w.alloc (.cells (arr .u8 r) 31)).alloc (.cells (arr .u8 sx) 31)) := ((Below.refl _ w).alloc (Nat.le_refl _) _).alloc (by simp) _
  have hz0 : ((w.alloc (.cells (arr .u8 r) 31)).alloc (.cells (arr .u8 sx) 31)).heap.size = x + 2 := by simp [hx]
  have z1 : (Try.prog.info? 31).map (·.size) = some (arr .u8 r).size := by rw [arr_size, hr]; exact size_num
  have z2 : (Try.prog.info? 31).map (·.size) = some (arr .u8 sx).size := by rw [arr_size, hs]; exact size_num
  have hxw : w.heap.size ≤ x := by omega
  have hxy : x < y ∧ y < x + 2 := by omega
  have hyx : w.heap.size + 1 = y := by omega
  have H0 := Lib.hid h0
  have HNEW := Lib.hid hnew
  have HRNEW := Lib.hid hrnew
  have O1 := Lib.hid o1
  have O2 := Lib.hid o2
  have G1 := Lib.hid g1
  have G2 := Lib.hid g2
  have B0 := Lib.hid hb0
  have Z0 := Lib.hid hz0
  have Z1 := Lib.hid z1
  have Z2 := Lib.hid z2
  have HA := Lib.hid hA
  have HR := Lib.hid hr
  have HS := Lib.hid hs
  have HX := Lib.hid hx
  have HY := Lib.hid hyx
  clear h0 hnew hrnew o1 o2 g1 g2 hb0 hz0 z1 z2 hA hr hs e0 hM hx hy hyx
  go_enter Try.func4, Try.ntmps4
  go_wp2_with fail
  refine (H0.out _).mono ?_
  rintro e wa ⟨rfl, hba⟩
  have ga1 := Below.blk hba G1.out (by rw [Z0.out]; omega)
  have ga2 := Below.blk hba G2.out (by rw [Z0.out]; omega)
  have za := hba.size
  rw [Z0.out] at za
  have hbwa : Below w.heap.size w wa := B0.out.trans (hba.mono B0.out.size)
  clear hba
  go_wp2_with fail
  refine (HNEW.out wa).mono ?_
  rintro e w1 ⟨p, g, rfl, hf1, hp, hg, hb1⟩
  have gb1 := Below.blk hb1 ga1 (by omega)
  have gb2 := Below.blk hb1 ga2 (by omega)
  have zf1 := hf1.lt
  have hne1 := hf1.ne
  have zb := hb1.size
  have hbw1 : Below w.heap.size w w1 := hbwa.trans (hb1.mono hbwa.size)
  clear hb1 hbwa ga1 ga2
  go_wp2_with fail
  refine (HRNEW.out w1).mono ?_
  rintro e w2 ⟨pr, gr, rfl, hr2, hpr, hgr, hb2⟩
  have gc1 := Below.blk hb2 gb1 (by omega)
  have gc2 := Below.blk hb2 gb2 (by omega)
  have hf2 := hf1.below hb2
  have zf2 := hr2.lt
  have hne2 := hr2.ne
  have zc := hb2.size
  have hbw2 : Below w.heap.size w w2 := hbw1.trans (hb2.mono hbw1.size)
  clear hb2 hbw1 gb1 gb2 hf1
  go_wp2_with (first | ((with_reducible show wpList _ _ _ (Oper.mk (some 42) _ _ _ _ _ :: _) _ _); refine wpList_load_row rfl 31 _ rfl _ rfl 31 (arr .u8 r) (0, 0) _ (by rw [← HX.out]; exact gc1) Try.underlying31 rfl Z1.out ?_) | ((with_reducible show wpList _ _ _ (Oper.mk (some 43) _ _ _ _ _ :: _) _ _); refine wpList_load_row rfl 31 _ rfl _ rfl 31 (arr .u8 sx) (0, 0) _ (by rw [HY.out]; exact gc2) Try.underlying31 rfl Z2.out ?_))
  refine (O1.out _ w2).mono ?_
  rintro e w3 ⟨q, rfl, ho3, hq, hb3⟩
  have gd1 := Below.blk hb3 gc1 (by omega)
  have gd2 := Below.blk hb3 gc2 (by omega)
  have hf3 := hf2.below hb3
  have hr3 := hr2.below hb3
  have zd := hb3.size
  have zq := blk_lt ho3.1
  have hbw3 : Below w.heap.size w w3 := hbw2.trans (hb3.mono hbw2.size)
  clear hb3 hbw2 gc1 gc2 hf2 hr2
  go_wp2_with fail
  refine (O2.out _ w3).mono ?_
  rintro e w4 ⟨qr, rfl, hro4, hqr, hb4⟩
  have oc0 : OcR w w4 x y p g q pr gr qr s0 0 M r sx := ⟨hf3.below hb4, ho3.below hb4, hr3.below hb4, hro4, Below.blk hb4 gd1 (by omega), Below.blk hb4 gd2 (by omega), hbw3.trans (hb4.mono hbw3.size)⟩
  have ob : OcB w.heap.size x y p g q pr gr qr := ⟨by omega, by omega, by omega, by omega⟩
  have OC0 := Lib.hid oc0
  have OB := Lib.hid ob
  clear oc0 ob hb4 hbw3 gd1 gd2 hf3 hr3 ho3 hro4 za zb zc zd zq zf1 zf2 hp hg hpr hgr hq hqr hne1 hne2
  go_wp2_with fail
  rw [HY.out, ← HX.out]
  go_loopw [16] (fun i wr => ∃ (j c : Nat) (s : Fl), j ≤ n ∧ c ≤ M ∧ i = .int .i64 j ∧ OcR w wr x y p g q pr gr qr s c M r sx) (fun i _ => n - (intOf i).toNat)
  case atStart => exact ⟨0, 0, s0, by omega, by omega, rfl, OC0.out⟩
  case round =>
    obtain ⟨j, c, s, hj, hc, rfl, hr⟩ := hrel
    clear OC0
    have OC := Lib.hid hr
    clear hr
    obtain ⟨rc, hrc⟩ : ∃ z, z = r.map (Value.int .u8) := ⟨_, rfl⟩
    obtain ⟨sc, hsc⟩ : ∃ z, z = sx.map (Value.int .u8) := ⟨_, rfl⟩
    have RC := Lib.hid hrc
    have SC := Lib.hid hsc
    have q1 := eq_num r HR.out
    have q2 := eq_num sx HS.out
    rw [← hrc] at q1
    rw [← hsc] at q2
    have u1 := Try.underlying31
    have i1 : (Try.prog.info? 31).map (·.size) = some rc.length := by rw [hrc, List.length_map, HR.out]; exact size_num
    have i2 : (Try.prog.info? 31).map (·.size) = some sc.length := by rw [hsc, List.length_map, HS.out]; exact size_num
    have gn := guard_num
    clear hrc hsc
    by_cases hlt : j < n
    · by_cases hjl : j < lp
      · obtain ⟨xa, rfl, hxa⟩ := HA.out j hjl
        have hca : wr.cell? (xa.add j) = some (.int .i64 (A j)) := below_cell OC.out.below hxa
        clear hxa
        by_cases h3 : bits .and .i64 (A j) 3 = 0
        · have h3b : (bits .and .i64 (A j) 3 == 0) = true := by simp [h3]
          have pl : ∀ o, o ≤ 9223372036854775807 → Calls Try.prog 16 #[.pointer (some ⟨p, 0, none⟩), .agg #[.int .i64 o, .int .i64 0]] (wr.alloc (.cells #[.int .i64 o, .int .i64 0] 24)) fun e w' =>
              e = .returned (.tuple #[]) ∧ IsFl w' p g (s.plan o 0) ∧ IsOtp w' q (.pointer (some ⟨p, 0, none⟩)) r sx c M ∧ (IsRf w' pr gr s ∧ IsRo w' qr pr c M ∧ w'.heap[x]? = some (.cells (arr .u8 r) 31 (0, 0)) ∧ w'.heap[y]? = some (.cells (arr .u8 sx) 31 (0, 0)) ∧ Below w.heap.size w w') ∧
                w'.cell? ⟨wr.heap.size, 0, none⟩ = some (.int .i64 o) ∧ w'.cell? ⟨wr.heap.size, 1, none⟩ = some (.int .i64 0) := by
            intro o ho
            have hlt5 := OC.out.fl.lt
            have hA1 := OC.out.belowR ((Below.refl _ wr).alloc (Nat.le_refl _) (.cells #[.int .i64 o, .int .i64 0] 24))
            refine (plan_any p g s o 0 _ hA1.fl ho).mono ?_
            rintro e w' ⟨rfl, hf, hk⟩
            have d1 : q ≠ p := by have := OB.out.pg; omega
            have ho' := hA1.o.kept hk d1
            refine ⟨rfl, hf, ho', hA1.own OB.out (hk.mono (fun _ _ => .inl)) hf ho', ?_, ?_⟩
            · exact hk.cellX (by rw [cell_blk (blk_new wr _)]; rfl) (by show ¬ wr.heap.size = p; omega)
            · exact hk.cellX (by rw [cell_blk (blk_new wr _)]; rfl) (by show ¬ wr.heap.size = p; omega)
          have d3p : qr ≠ pr := by have := OB.out.pg; omega
          have PL := Lib.hid pl
          clear pl
          go_wp2_with fail
          refine (PL.out _ (and_le _ _)).mono ?_
          rintro e w5 ⟨rfl, hf5, ho5, ⟨e1, e2, e3⟩, hc0, hc1⟩
          have E1 := Lib.hid e1
          have E2 := Lib.hid e2
          have E3 := Lib.hid e3
          have F5 := Lib.hid hf5
          have O5 := Lib.hid ho5
          clear e1 e2 e3 hf5 ho5
          go_wp2_with fail
          refine (rplan_any pr gr s _ 0 w5 E1.out (and_le _ _)).mono ?_
          rintro e wP ⟨rfl, hrP, hkP⟩
          obtain ⟨s2, h2⟩ : ∃ s2, OcR w wP x y p g q pr gr qr s2 c M r sx := ⟨_, OcR.both OB.out F5.out O5.out E3.out (hkP.mono (fun _ _ => .inl)) hrP (IsRo.kept E2.out hkP d3p)⟩
          have OC2 := Lib.hid h2
          clear h2 hrP hkP hc0 hc1 PL F5 O5 E1 E2 E3 h3 h3b
          by_cases hcm : c = M
          · skip
            have hst := ostep_full q _ _ _ _ _ wP OC2.out.o (by omega)
            have hst2 := fun k => rostep_full qr pr _ _ _ (OC2.out.ro.drewN k) (by omega)
            have HST := Lib.hid hst
            have HST2 := Lib.hid hst2
            clear hst hst2
            go_wp2_with fail
            refine HST.out.mono ?_
            rintro e w5 ⟨rfl, k5, rfl⟩
            go_wp2_with fail
            refine (HST2.out k5).mono ?_
            rintro e w6 ⟨rfl, k6, rfl⟩
            go_wp2_with fail
            have h6 := OC2.out.drewN (k5 + k6)
            have h6d := OC2.out.drewN (k5 + k6 + 1)
            obtain ⟨k1, k2, k3, k4⟩ := OcR.calls (w := w) (x := x) (y := y) (p := p) (g := g) (q := q) (pr := pr) (gr := gr) (qr := qr) (s := s2) (c := c) (M := M) rc sc RC.out SC.out
            have H6 := Lib.hid h6
            have H6D := Lib.hid h6d
            have K1 := Lib.hid k1
            have K2 := Lib.hid k2
            have K3 := Lib.hid k3
            have K4 := Lib.hid k4
            clear h6 h6d k1 k2 k3 k4
            refine wp_region_held_drew (S := (fun w' => w'.cell? ⟨qr, 1, none⟩ = some (.int .i64 c) ∧ w'.cell? ⟨qr, 2, none⟩ = some (.int .i64 M) ∧ w'.rangeAt x 0 rc ∧ w'.rangeAt y 0 sc)) (by kernel_rfl) (H6.out.S _ _ RC.out SC.out) (fun hHeld => ?_)
            refine wpAnyH_take (i := 0) (oi := ({ dst := some 83, op := Op.move (Operand.tmp 18), type := 33, pos := "law.go:44", after := #[], guard := none } : Oper)) (v := ?v0_1) rfl (by kernel_rfl) (by kernel_rfl) (by kernel_rfl) (fun _ _ _ h => h) (Or.inl ⟨by rfl, ?hy0_1⟩) (by assumption) ?rest0_1
            case hy0_1 => (intro w hSw; (try dsimp only at hSw); go_simp; try (with_reducible rfl))
            (try simp only [Act.put, List.setIfInBounds_toArray, List.set_cons_zero, List.set_cons_succ])
            refine wpAnyH_take (i := 2) (oi := ({ dst := some 85, op := Op.move (Operand.tmp 19), type := 3, pos := "law.go:44", after := #[], guard := none } : Oper)) (v := ?v2_1) rfl (by kernel_rfl) (by kernel_rfl) (by kernel_rfl) (fun _ _ _ h => h) (Or.inl ⟨by rfl, ?hy2_1⟩) (by assumption) ?rest2_1
            case hy2_1 => (intro w hSw; (try dsimp only at hSw); go_simp; try (with_reducible rfl))
            (try simp only [Act.put, List.setIfInBounds_toArray, List.set_cons_zero, List.set_cons_succ])
            refine wpAnyH_ready (rs := [1]) (by kernel_rfl) (by simp) ?_
            refine AllReadyH.cons (o := ({ dst := some 84, op := Op.call { callee := Callee.value (Operand.func 18), args := #[Operand.tmp 83], argTypes := #[33] }, type := 3, pos := "law.go:44", after := #[{ on := 0, ground := Ground.data }], guard := none } : Oper)) rfl (fun K hK => ?_) AllReadyH.nil
            go_simp
            (refine (num20_any _ _).mono ?_; rintro e w' ⟨rfl, rfl⟩)
            (try dsimp only)
            refine hK.out _ _ (H6.out.S _ _ RC.out SC.out) (fun hHeld => ?_)
            clear hK K
            (try simp only [Act.put, List.setIfInBounds_toArray, List.set_cons_zero, List.set_cons_succ])
            refine wpAnyH_take (i := 3) (oi := ({ dst := some 86, op := Op.binOp BinOp.neq 3 (Operand.tmp 84) (Operand.tmp 85) 3, type := 4, pos := "law.go:44", after := #[{ on := 1, ground := Ground.data }, { on := 2, ground := Ground.data }], guard := none } : Oper)) (v := ?v3_1) rfl (by kernel_rfl) (by kernel_rfl) (by kernel_rfl) (fun _ _ _ h => h) (Or.inl ⟨by rfl, ?hy3_1⟩) (by assumption) ?rest3_1
            case hy3_1 => (intro w hSw; (try dsimp only at hSw); go_simp; try (with_reducible rfl))
            (try simp only [Act.put, List.setIfInBounds_toArray, List.set_cons_zero, List.set_cons_succ])
            refine wpAnyH_take (i := 4) (oi := ({ dst := some 87, op := Op.move (Operand.tmp 86), type := 4, pos := "law.go:44", after := #[{ on := 3, ground := Ground.data }, { on := 1, ground := Ground.chain }], guard := none } : Oper)) (v := ?v4_1) rfl (by kernel_rfl) (by kernel_rfl) (by kernel_rfl) (fun _ _ _ h => h) (Or.inl ⟨by rfl, ?hy4_1⟩) (by assumption) ?rest4_1
            case hy4_1 => (intro w hSw; (try dsimp only at hSw); go_simp; try (with_reducible rfl))
            (try simp only [Act.put, List.setIfInBounds_toArray, List.set_cons_zero, List.set_cons_succ])
            refine wpAnyH_take (i := 5) (oi := ({ dst := some 88, op := Op.move (Operand.tmp 14), type := 28, pos := "law.go:44", after := #[{ on := 4, ground := Ground.guard }], guard := some (4, false) } : Oper)) (v := ?v5_1) rfl (by kernel_rfl) (by kernel_rfl) (by kernel_rfl) (fun _ _ _ h => h) (Or.inl ⟨by rfl, ?hy5_1⟩) (by assumption) ?rest5_1
            case hy5_1 => (intro w hSw; (try dsimp only at hSw); go_simp; try (with_reducible rfl))
            (try simp only [Act.put, List.setIfInBounds_toArray, List.set_cons_zero, List.set_cons_succ])
            refine wpAnyH_take (i := 7) (oi := ({ dst := some 90, op := Op.move (Operand.tmp 15), type := 42, pos := "law.go:44", after := #[{ on := 4, ground := Ground.guard }], guard := some (4, false) } : Oper)) (v := ?v7_1) rfl (by kernel_rfl) (by kernel_rfl) (by kernel_rfl) (fun _ _ _ h => h) (Or.inl ⟨by rfl, ?hy7_1⟩) (by assumption) ?rest7_1
            case hy7_1 => (intro w hSw; (try dsimp only at hSw); go_simp; try (with_reducible rfl))
            (try simp only [Act.put, List.setIfInBounds_toArray, List.set_cons_zero, List.set_cons_succ])
            refine wpAnyH_take (i := 8) (oi := ({ dst := some 91, op := Op.nilCheck (Operand.tmp 90), type := 0, pos := "law.go:44", after := #[{ on := 7, ground := Ground.data }, { on := 4, ground := Ground.guard }], guard := some (4, false) } : Oper)) (v := ?v8_1) rfl (by kernel_rfl) (by kernel_rfl) (by kernel_rfl) (fun _ _ _ h => h) (Or.inl ⟨by rfl, ?hy8_1⟩) (by assumption) ?rest8_1
            case hy8_1 => (intro w hSw; (try dsimp only at hSw); go_simp; try (with_reducible rfl))
            (try simp only [Act.put, List.setIfInBounds_toArray, List.set_cons_zero, List.set_cons_succ])
            refine wpAnyH_take (i := 9) (oi := ({ dst := some 92, op := Op.fieldAddr 46 (Operand.tmp 91) 1, type := 0, pos := "law.go:44", after := #[{ on := 8, ground := Ground.data }, { on := 4, ground := Ground.guard }], guard := some (4, false) } : Oper)) (v := ?v9_1) rfl (by kernel_rfl) (by kernel_rfl) (by kernel_rfl) (fun _ _ _ h => h) (Or.inl ⟨by rfl, ?hy9_1⟩) (by assumption) ?rest9_1
            case hy9_1 => (intro w hSw; (try dsimp only at hSw); go_simp; try (with_reducible rfl))
            (try simp only [Act.put, List.setIfInBounds_toArray, List.set_cons_zero, List.set_cons_succ])
            refine wpAnyH_take (i := 10) (oi := ({ dst := some 93, op := Op.load 3 (Operand.tmp 92), type := 3, pos := "law.go:44", after := #[{ on := 9, ground := Ground.data }, { on := 4, ground := Ground.guard }], guard := some (4, false) } : Oper)) (v := ?v10_1) rfl (by kernel_rfl) (by kernel_rfl) (by kernel_rfl) (fun _ _ _ h => h) (Or.inl ⟨by rfl, ?hy10_1⟩) (by assumption) ?rest10_1
            case hy10_1 => (intro w hSw; (try dsimp only at hSw); go_simp; try (with_reducible rfl))
            (try simp only [Act.put, List.setIfInBounds_toArray, List.set_cons_zero, List.set_cons_succ])
            refine wpAnyH_ready (rs := [6]) (by kernel_rfl) (by simp) ?_
            refine AllReadyH.cons (o := ({ dst := some 89, op := Op.call { callee := Callee.value (Operand.func 19), args := #[Operand.tmp 88], argTypes := #[28] }, type := 3, pos := "law.go:44", after := #[{ on := 5, ground := Ground.data }, { on := 4, ground := Ground.chain }, { on := 4, ground := Ground.guard }], guard := some (4, false) } : Oper)) rfl (fun K hK => ?_) AllReadyH.nil
            go_simp
            (refine (K1.out _ H6D.out).mono ?_; rintro e w' ⟨rfl, rfl⟩)
            (try dsimp only)
            refine hK.out _ _ (H6.out.S _ _ RC.out SC.out) (fun hHeld => ?_)
            clear hK K
            (try simp only [Act.put, List.setIfInBounds_toArray, List.set_cons_zero, List.set_cons_succ])
            refine wpAnyH_take (i := 11) (oi := ({ dst := some 94, op := Op.binOp BinOp.neq 3 (Operand.tmp 89) (Operand.tmp 93) 3, type := 4, pos := "law.go:44", after := #[{ on := 6, ground := Ground.data }, { on := 10, ground := Ground.data }, { on := 4, ground := Ground.guard }], guard := some (4, false) } : Oper)) (v := ?v11_1) rfl (by kernel_rfl) (by kernel_rfl) (by kernel_rfl) (fun _ _ _ h => h) (Or.inl ⟨by rfl, ?hy11_1⟩) (by assumption) ?rest11_1
            case hy11_1 => (intro w hSw; (try dsimp only at hSw); go_simp; try (with_reducible rfl))
            (try simp only [Act.put, List.setIfInBounds_toArray, List.set_cons_zero, List.set_cons_succ])
            refine wpAnyH_take (i := 12) (oi := ({ dst := some 95, op := Op.pick (Operand.tmp 87) (Operand.const (Value.bool true)) (Operand.tmp 94), type := 4, pos := "law.go:44", after := #[{ on := 4, ground := Ground.data }, { on := 11, ground := Ground.data }], guard := none } : Oper)) (v := ?v12_1) rfl (by kernel_rfl) (by kernel_rfl) (by kernel_rfl) (fun _ _ _ h => h) (Or.inl ⟨by rfl, ?hy12_1⟩) (by assumption) ?rest12_1
            case hy12_1 => (intro w hSw; (try dsimp only at hSw); go_simp; try (with_reducible rfl))
            (try simp only [Act.put, List.setIfInBounds_toArray, List.set_cons_zero, List.set_cons_succ])
            refine wpAnyH_take (i := 13) (oi := ({ dst := some 96, op := Op.move (Operand.tmp 95), type := 4, pos := "law.go:44", after := #[{ on := 12, ground := Ground.data }, { on := 6, ground := Ground.chain }], guard := none } : Oper)) (v := ?v13_1) rfl (by kernel_rfl) (by kernel_rfl) (by kernel_rfl) (fun _ _ _ h => h) (Or.inl ⟨by rfl, ?hy13_1⟩) (by assumption) ?rest13_1
            case hy13_1 => (intro w hSw; (try dsimp only at hSw); go_simp; try (with_reducible rfl))
            (try simp only [Act.put, List.setIfInBounds_toArray, List.set_cons_zero, List.set_cons_succ])
            refine wpAnyH_take (i := 14) (oi := ({ dst := some 97, op := Op.move (Operand.tmp 14), type := 28, pos := "law.go:44", after := #[{ on := 13, ground := Ground.guard }], guard := some (13, false) } : Oper)) (v := ?v14_1) rfl (by kernel_rfl) (by kernel_rfl) (by kernel_rfl) (fun _ _ _ h => h) (Or.inl ⟨by rfl, ?hy14_1⟩) (by assumption) ?rest14_1
            case hy14_1 => (intro w hSw; (try dsimp only at hSw); go_simp; try (with_reducible rfl))
            (try simp only [Act.put, List.setIfInBounds_toArray, List.set_cons_zero, List.set_cons_succ])
            refine wpAnyH_take (i := 16) (oi := ({ dst := some 99, op := Op.move (Operand.tmp 15), type := 42, pos := "law.go:44", after := #[{ on := 13, ground := Ground.guard }], guard := some (13, false) } : Oper)) (v := ?v16_1) rfl (by kernel_rfl) (by kernel_rfl) (by kernel_rfl) (fun _ _ _ h => h) (Or.inl ⟨by rfl, ?hy16_1⟩) (by assumption) ?rest16_1
            case hy16_1 => (intro w hSw; (try dsimp only at hSw); go_simp; try (with_reducible rfl))
            (try simp only [Act.put, List.setIfInBounds_toArray, List.set_cons_zero, List.set_cons_succ])
            refine wpAnyH_take (i := 17) (oi := ({ dst := some 100, op := Op.nilCheck (Operand.tmp 99), type := 0, pos := "law.go:44", after := #[{ on := 16, ground := Ground.data }, { on := 13, ground := Ground.guard }], guard := some (13, false) } : Oper)) (v := ?v17_1) rfl (by kernel_rfl) (by kernel_rfl) (by kernel_rfl) (fun _ _ _ h => h) (Or.inl ⟨by rfl, ?hy17_1⟩) (by assumption) ?rest17_1
            case hy17_1 => (intro w hSw; (try dsimp only at hSw); go_simp; try (with_reducible rfl))
            (try simp only [Act.put, List.setIfInBounds_toArray, List.set_cons_zero, List.set_cons_succ])
            refine wpAnyH_take (i := 18) (oi := ({ dst := some 101, op := Op.fieldAddr 46 (Operand.tmp 100) 2, type := 0, pos := "law.go:44", after := #[{ on := 17, ground := Ground.data }, { on := 13, ground := Ground.guard }], guard := some (13, false) } : Oper)) (v := ?v18_1) rfl (by kernel_rfl) (by kernel_rfl) (by kernel_rfl) (fun _ _ _ h => h) (Or.inl ⟨by rfl, ?hy18_1⟩) (by assumption) ?rest18_1
            case hy18_1 => (intro w hSw; (try dsimp only at hSw); go_simp; try (with_reducible rfl))
            (try simp only [Act.put, List.setIfInBounds_toArray, List.set_cons_zero, List.set_cons_succ])
            refine wpAnyH_take (i := 19) (oi := ({ dst := some 102, op := Op.load 3 (Operand.tmp 101), type := 3, pos := "law.go:44", after := #[{ on := 18, ground := Ground.data }, { on := 13, ground := Ground.guard }], guard := some (13, false) } : Oper)) (v := ?v19_1) rfl (by kernel_rfl) (by kernel_rfl) (by kernel_rfl) (fun _ _ _ h => h) (Or.inl ⟨by rfl, ?hy19_1⟩) (by assumption) ?rest19_1
            case hy19_1 => (intro w hSw; (try dsimp only at hSw); go_simp; try (with_reducible rfl))
            (try simp only [Act.put, List.setIfInBounds_toArray, List.set_cons_zero, List.set_cons_succ])
            refine wpAnyH_ready (rs := [15]) (by kernel_rfl) (by simp) ?_
            refine AllReadyH.cons (o := ({ dst := some 98, op := Op.call { callee := Callee.value (Operand.func 26), args := #[Operand.tmp 97], argTypes := #[28] }, type := 3, pos := "law.go:44", after := #[{ on := 14, ground := Ground.data }, { on := 13, ground := Ground.chain }, { on := 13, ground := Ground.guard }], guard := some (13, false) } : Oper)) rfl (fun K hK => ?_) AllReadyH.nil
            go_simp
            (refine (K2.out _ H6D.out).mono ?_; rintro e w' ⟨rfl, rfl⟩)
            (try dsimp only)
            refine hK.out _ _ (H6.out.S _ _ RC.out SC.out) (fun hHeld => ?_)
            clear hK K
            (try simp only [Act.put, List.setIfInBounds_toArray, List.set_cons_zero, List.set_cons_succ])
            refine wpAnyH_take (i := 20) (oi := ({ dst := some 103, op := Op.binOp BinOp.neq 3 (Operand.tmp 98) (Operand.tmp 102) 3, type := 4, pos := "law.go:44", after := #[{ on := 15, ground := Ground.data }, { on := 19, ground := Ground.data }, { on := 13, ground := Ground.guard }], guard := some (13, false) } : Oper)) (v := ?v20_1) rfl (by kernel_rfl) (by kernel_rfl) (by kernel_rfl) (fun _ _ _ h => h) (Or.inl ⟨by rfl, ?hy20_1⟩) (by assumption) ?rest20_1
            case hy20_1 => (intro w hSw; (try dsimp only at hSw); go_simp; try (with_reducible rfl))
            (try simp only [Act.put, List.setIfInBounds_toArray, List.set_cons_zero, List.set_cons_succ])
            refine wpAnyH_take (i := 21) (oi := ({ dst := some 104, op := Op.pick (Operand.tmp 96) (Operand.const (Value.bool true)) (Operand.tmp 103), type := 4, pos := "law.go:44", after := #[{ on := 13, ground := Ground.data }, { on := 20, ground := Ground.data }], guard := none } : Oper)) (v := ?v21_1) rfl (by kernel_rfl) (by kernel_rfl) (by kernel_rfl) (fun _ _ _ h => h) (Or.inl ⟨by rfl, ?hy21_1⟩) (by assumption) ?rest21_1
            case hy21_1 => (intro w hSw; (try dsimp only at hSw); go_simp; try (with_reducible rfl))
            (try simp only [Act.put, List.setIfInBounds_toArray, List.set_cons_zero, List.set_cons_succ])
            refine wpAnyH_take (i := 22) (oi := ({ dst := some 105, op := Op.move (Operand.tmp 104), type := 4, pos := "law.go:44", after := #[{ on := 21, ground := Ground.data }, { on := 15, ground := Ground.chain }], guard := none } : Oper)) (v := ?v22_1) rfl (by kernel_rfl) (by kernel_rfl) (by kernel_rfl) (fun _ _ _ h => h) (Or.inl ⟨by rfl, ?hy22_1⟩) (by assumption) ?rest22_1
            case hy22_1 => (intro w hSw; (try dsimp only at hSw); go_simp; try (with_reducible rfl))
            (try simp only [Act.put, List.setIfInBounds_toArray, List.set_cons_zero, List.set_cons_succ])
            refine wpAnyH_take (i := 23) (oi := ({ dst := some 106, op := Op.move (Operand.tmp 14), type := 28, pos := "law.go:44", after := #[{ on := 22, ground := Ground.guard }], guard := some (22, false) } : Oper)) (v := ?v23_1) rfl (by kernel_rfl) (by kernel_rfl) (by kernel_rfl) (fun _ _ _ h => h) (Or.inl ⟨by rfl, ?hy23_1⟩) (by assumption) ?rest23_1
            case hy23_1 => (intro w hSw; (try dsimp only at hSw); go_simp; try (with_reducible rfl))
            (try simp only [Act.put, List.setIfInBounds_toArray, List.set_cons_zero, List.set_cons_succ])
            refine' wpAnyH_take (i := 25) (oi := ({ dst := some 108, op := Op.load 31 (Operand.tmp 6), type := 31, pos := "law.go:44", after := #[{ on := 22, ground := Ground.guard }], guard := some (22, false) } : Oper)) (v := _) rfl (by kernel_rfl) (by kernel_rfl) (by kernel_rfl) (fun _ _ _ h => h) (yieldsIf_load_mid (by rfl) _ _ rfl _ _ rfl rc _ ?hS25_1 u1 rfl i1) (by assumption) ?rest25_1
            case hS25_1 => (intro w hSw; exact hSw.2.2.1)
            (try simp only [Act.put, List.setIfInBounds_toArray, List.set_cons_zero, List.set_cons_succ])
            refine wpAnyH_ready (rs := [24]) (by kernel_rfl) (by simp) ?_
            refine AllReadyH.cons (o := ({ dst := some 107, op := Op.call { callee := Callee.value (Operand.func 20), args := #[Operand.tmp 106], argTypes := #[28] }, type := 31, pos := "law.go:44", after := #[{ on := 23, ground := Ground.data }, { on := 22, ground := Ground.chain }, { on := 22, ground := Ground.guard }], guard := some (22, false) } : Oper)) rfl (fun K hK => ?_) AllReadyH.nil
            go_simp
            (refine (K3.out _ H6D.out).mono ?_; rintro e w7 ⟨rfl, h7⟩; have H7 := Lib.hid h7; clear h7)
            (try dsimp only)
            refine hK.out _ _ (H7.out.S _ _ RC.out SC.out) (fun hHeld => ?_)
            clear hK K
            (try simp only [Act.put, List.setIfInBounds_toArray, List.set_cons_zero, List.set_cons_succ])
            refine wpAnyH_take (i := 26) (oi := ({ dst := some 109, op := Op.binOp BinOp.neq 31 (Operand.tmp 107) (Operand.tmp 108) 31, type := 4, pos := "law.go:44", after := #[{ on := 24, ground := Ground.data }, { on := 25, ground := Ground.data }, { on := 22, ground := Ground.guard }], guard := some (22, false) } : Oper)) (v := ?v26_1) rfl (by kernel_rfl) (by kernel_rfl) (by kernel_rfl) (fun _ _ _ h => h) (Or.inl ⟨by rfl, ?hy26_1⟩) (by assumption) ?rest26_1
            case hy26_1 => (intro w hSw; (try dsimp only at hSw); go_simp; try (with_reducible rfl))
            (try simp only [Act.put, List.setIfInBounds_toArray, List.set_cons_zero, List.set_cons_succ])
            refine wpAnyH_take (i := 27) (oi := ({ dst := some 110, op := Op.pick (Operand.tmp 105) (Operand.const (Value.bool true)) (Operand.tmp 109), type := 4, pos := "law.go:44", after := #[{ on := 22, ground := Ground.data }, { on := 26, ground := Ground.data }], guard := none } : Oper)) (v := ?v27_1) rfl (by kernel_rfl) (by kernel_rfl) (by kernel_rfl) (fun _ _ _ h => h) (Or.inl ⟨by rfl, ?hy27_1⟩) (by assumption) ?rest27_1
            case hy27_1 => (intro w hSw; (try dsimp only at hSw); go_simp; try (with_reducible rfl))
            (try simp only [Act.put, List.setIfInBounds_toArray, List.set_cons_zero, List.set_cons_succ])
            refine wpAnyH_take (i := 28) (oi := ({ dst := some 111, op := Op.move (Operand.tmp 110), type := 4, pos := "law.go:44", after := #[{ on := 27, ground := Ground.data }, { on := 24, ground := Ground.chain }], guard := none } : Oper)) (v := ?v28_1) rfl (by kernel_rfl) (by kernel_rfl) (by kernel_rfl) (fun _ _ _ h => h) (Or.inl ⟨by rfl, ?hy28_1⟩) (by assumption) ?rest28_1
            case hy28_1 => (intro w hSw; (try dsimp only at hSw); go_simp; try (with_reducible rfl))
            (try simp only [Act.put, List.setIfInBounds_toArray, List.set_cons_zero, List.set_cons_succ])
            refine wpAnyH_take (i := 29) (oi := ({ dst := some 112, op := Op.move (Operand.tmp 14), type := 28, pos := "law.go:44", after := #[{ on := 28, ground := Ground.guard }], guard := some (28, false) } : Oper)) (v := ?v29_1) rfl (by kernel_rfl) (by kernel_rfl) (by kernel_rfl) (fun _ _ _ h => h) (Or.inl ⟨by rfl, ?hy29_1⟩) (by assumption) ?rest29_1
            case hy29_1 => (intro w hSw; (try dsimp only at hSw); go_simp; try (with_reducible rfl))
            (try simp only [Act.put, List.setIfInBounds_toArray, List.set_cons_zero, List.set_cons_succ])
            refine' wpAnyH_take (i := 31) (oi := ({ dst := some 114, op := Op.load 31 (Operand.tmp 7), type := 31, pos := "law.go:44", after := #[{ on := 28, ground := Ground.guard }], guard := some (28, false) } : Oper)) (v := _) rfl (by kernel_rfl) (by kernel_rfl) (by kernel_rfl) (fun _ _ _ h => h) (yieldsIf_load_mid (by rfl) _ _ rfl _ _ rfl sc _ ?hS31_1 u1 rfl i2) (by assumption) ?rest31_1
            case hS31_1 => (intro w hSw; exact hSw.2.2.2)
            (try simp only [Act.put, List.setIfInBounds_toArray, List.set_cons_zero, List.set_cons_succ])
            refine wpAnyH_ready (rs := [30]) (by kernel_rfl) (by simp) ?_
            refine AllReadyH.cons (o := ({ dst := some 113, op := Op.call { callee := Callee.value (Operand.func 21), args := #[Operand.tmp 112], argTypes := #[28] }, type := 31, pos := "law.go:44", after := #[{ on := 29, ground := Ground.data }, { on := 28, ground := Ground.chain }, { on := 28, ground := Ground.guard }], guard := some (28, false) } : Oper)) rfl (fun K hK => ?_) AllReadyH.nil
            go_simp
            (refine (K4.out _ H7.out).mono ?_; rintro e w8 ⟨rfl, h8⟩; have H8 := Lib.hid h8; clear h8)
            (try dsimp only)
            refine hK.out _ _ (H8.out.S _ _ RC.out SC.out) (fun hHeld => ?_)
            clear hK K
            (try simp only [Act.put, List.setIfInBounds_toArray, List.set_cons_zero, List.set_cons_succ])
            refine wpAnyH_take (i := 32) (oi := ({ dst := some 115, op := Op.binOp BinOp.neq 31 (Operand.tmp 113) (Operand.tmp 114) 31, type := 4, pos := "law.go:44", after := #[{ on := 30, ground := Ground.data }, { on := 31, ground := Ground.data }, { on := 28, ground := Ground.guard }], guard := some (28, false) } : Oper)) (v := ?v32_1) rfl (by kernel_rfl) (by kernel_rfl) (by kernel_rfl) (fun _ _ _ h => h) (Or.inl ⟨by rfl, ?hy32_1⟩) (by assumption) ?rest32_1
            case hy32_1 => (intro w hSw; (try dsimp only at hSw); go_simp; try (with_reducible rfl))
            (try simp only [Act.put, List.setIfInBounds_toArray, List.set_cons_zero, List.set_cons_succ])
            refine wpAnyH_take (i := 33) (oi := ({ dst := some 116, op := Op.pick (Operand.tmp 111) (Operand.const (Value.bool true)) (Operand.tmp 115), type := 4, pos := "law.go:44", after := #[{ on := 28, ground := Ground.data }, { on := 32, ground := Ground.data }], guard := none } : Oper)) (v := ?v33_1) rfl (by kernel_rfl) (by kernel_rfl) (by kernel_rfl) (fun _ _ _ h => h) (Or.inl ⟨by rfl, ?hy33_1⟩) (by assumption) ?rest33_1
            case hy33_1 => (intro w hSw; (try dsimp only at hSw); go_simp; try (with_reducible rfl))
            (try simp only [Act.put, List.setIfInBounds_toArray, List.set_cons_zero, List.set_cons_succ])
            refine wpAnyH_done (by kernel_rfl) ?_ _
            go_wp2_with fail
            go_roundw
            case rel => exact ⟨j + 1, c, s2, by omega, by omega, by go_num, H8.out⟩
            case measure => simp [intOf]; omega
          · have hcm2 : ((c : Int) == (M : Int)) = false := by rw [beq_eq_false_iff_ne]; omega
            have hqs : q ≠ p ∧ q ≠ g ∧ qr ≠ pr ∧ qr ≠ gr := by have := OB.out.pg; omega
            obtain ⟨d1, d2, d3, d4⟩ := hqs
            have HCM := Lib.hid hcm2
            clear hcm2
            cases ht : s2.turnOk with
            | true =>
              have hst := ostep_ok q p g s2 _ _ c M wP OC2.out.o OC2.out.fl d1 d2 HCM.out ht (by omega)
              have hst2 := fun w h1 h2 => rostep_ok qr pr gr s2 c M w h1 h2 d3 d4 HCM.out ht (by omega)
              have HST := Lib.hid hst
              have HST2 := Lib.hid hst2
              clear hst hst2 ht
              go_wp2_with fail
              refine HST.out.mono ?_
              rintro e w5 ⟨rfl, hf5, ho5, hk5, -⟩
              obtain ⟨e1, e2, e3⟩ := OC2.out.own OB.out hk5 hf5 (by simpa using ho5 : IsOtp w5 q (.pointer (some ⟨p, 0, none⟩)) r sx ((c + 1 : Nat) : Int) M)
              have E1 := Lib.hid e1
              have E2 := Lib.hid e2
              have E3 := Lib.hid e3
              have F5 := Lib.hid hf5
              have O5 := Lib.hid ho5
              clear e1 e2 e3 hf5 ho5 hk5
              go_wp2_with fail
              refine (HST2.out w5 E2.out E1.out).mono ?_
              rintro e w6 ⟨rfl, hf6, ho6, hk6, -⟩
              have h6 := OcR.both (c' := c + 1) OB.out F5.out (by simpa using O5.out) E3.out hk6 hf6 (by simpa using ho6)
              have h6d := h6.drew
              clear hf6 ho6 hk6
              go_wp2_with fail
              obtain ⟨k1, k2, k3, k4⟩ := OcR.calls (w := w) (x := x) (y := y) (p := p) (g := g) (q := q) (pr := pr) (gr := gr) (qr := qr) (s := s2.turn) (c := (c + 1)) (M := M) rc sc RC.out SC.out
              have H6 := Lib.hid h6
              have H6D := Lib.hid h6d
              have K1 := Lib.hid k1
              have K2 := Lib.hid k2
              have K3 := Lib.hid k3
              have K4 := Lib.hid k4
              clear h6 h6d k1 k2 k3 k4
              refine wp_region_held_drew (S := (fun w' => w'.cell? ⟨qr, 1, none⟩ = some (.int .i64 (c + 1 : Nat)) ∧ w'.cell? ⟨qr, 2, none⟩ = some (.int .i64 M) ∧ w'.rangeAt x 0 rc ∧ w'.rangeAt y 0 sc)) (by kernel_rfl) (H6.out.S _ _ RC.out SC.out) (fun hHeld => ?_)
              refine wpAnyH_take (i := 0) (oi := ({ dst := some 83, op := Op.move (Operand.tmp 18), type := 33, pos := "law.go:44", after := #[], guard := none } : Oper)) (v := ?v0_2) rfl (by kernel_rfl) (by kernel_rfl) (by kernel_rfl) (fun _ _ _ h => h) (Or.inl ⟨by rfl, ?hy0_2⟩) (by assumption) ?rest0_2
              case hy0_2 => (intro w hSw; (try dsimp only at hSw); go_simp; try (with_reducible rfl))
              (try simp only [Act.put, List.setIfInBounds_toArray, List.set_cons_zero, List.set_cons_succ])
              refine wpAnyH_take (i := 2) (oi := ({ dst := some 85, op := Op.move (Operand.tmp 19), type := 3, pos := "law.go:44", after := #[], guard := none } : Oper)) (v := ?v2_2) rfl (by kernel_rfl) (by kernel_rfl) (by kernel_rfl) (fun _ _ _ h => h) (Or.inl ⟨by rfl, ?hy2_2⟩) (by assumption) ?rest2_2
              case hy2_2 => (intro w hSw; (try dsimp only at hSw); go_simp; try (with_reducible rfl))
              (try simp only [Act.put, List.setIfInBounds_toArray, List.set_cons_zero, List.set_cons_succ])
              refine wpAnyH_ready (rs := [1]) (by kernel_rfl) (by simp) ?_
              refine AllReadyH.cons (o := ({ dst := some 84, op := Op.call { callee := Callee.value (Operand.func 18), args := #[Operand.tmp 83], argTypes := #[33] }, type := 3, pos := "law.go:44", after := #[{ on := 0, ground := Ground.data }], guard := none } : Oper)) rfl (fun K hK => ?_) AllReadyH.nil
              go_simp
              (refine (num20_any _ _).mono ?_; rintro e w' ⟨rfl, rfl⟩)
              (try dsimp only)
              refine hK.out _ _ (H6.out.S _ _ RC.out SC.out) (fun hHeld => ?_)
              clear hK K
              (try simp only [Act.put, List.setIfInBounds_toArray, List.set_cons_zero, List.set_cons_succ])
              refine wpAnyH_take (i := 3) (oi := ({ dst := some 86, op := Op.binOp BinOp.neq 3 (Operand.tmp 84) (Operand.tmp 85) 3, type := 4, pos := "law.go:44", after := #[{ on := 1, ground := Ground.data }, { on := 2, ground := Ground.data }], guard := none } : Oper)) (v := ?v3_2) rfl (by kernel_rfl) (by kernel_rfl) (by kernel_rfl) (fun _ _ _ h => h) (Or.inl ⟨by rfl, ?hy3_2⟩) (by assumption) ?rest3_2
              case hy3_2 => (intro w hSw; (try dsimp only at hSw); go_simp; try (with_reducible rfl))
              (try simp only [Act.put, List.setIfInBounds_toArray, List.set_cons_zero, List.set_cons_succ])
              refine wpAnyH_take (i := 4) (oi := ({ dst := some 87, op := Op.move (Operand.tmp 86), type := 4, pos := "law.go:44", after := #[{ on := 3, ground := Ground.data }, { on := 1, ground := Ground.chain }], guard := none } : Oper)) (v := ?v4_2) rfl (by kernel_rfl) (by kernel_rfl) (by kernel_rfl) (fun _ _ _ h => h) (Or.inl ⟨by rfl, ?hy4_2⟩) (by assumption) ?rest4_2
              case hy4_2 => (intro w hSw; (try dsimp only at hSw); go_simp; try (with_reducible rfl))
              (try simp only [Act.put, List.setIfInBounds_toArray, List.set_cons_zero, List.set_cons_succ])
              refine wpAnyH_take (i := 5) (oi := ({ dst := some 88, op := Op.move (Operand.tmp 14), type := 28, pos := "law.go:44", after := #[{ on := 4, ground := Ground.guard }], guard := some (4, false) } : Oper)) (v := ?v5_2) rfl (by kernel_rfl) (by kernel_rfl) (by kernel_rfl) (fun _ _ _ h => h) (Or.inl ⟨by rfl, ?hy5_2⟩) (by assumption) ?rest5_2
              case hy5_2 => (intro w hSw; (try dsimp only at hSw); go_simp; try (with_reducible rfl))
              (try simp only [Act.put, List.setIfInBounds_toArray, List.set_cons_zero, List.set_cons_succ])
              refine wpAnyH_take (i := 7) (oi := ({ dst := some 90, op := Op.move (Operand.tmp 15), type := 42, pos := "law.go:44", after := #[{ on := 4, ground := Ground.guard }], guard := some (4, false) } : Oper)) (v := ?v7_2) rfl (by kernel_rfl) (by kernel_rfl) (by kernel_rfl) (fun _ _ _ h => h) (Or.inl ⟨by rfl, ?hy7_2⟩) (by assumption) ?rest7_2
              case hy7_2 => (intro w hSw; (try dsimp only at hSw); go_simp; try (with_reducible rfl))
              (try simp only [Act.put, List.setIfInBounds_toArray, List.set_cons_zero, List.set_cons_succ])
              refine wpAnyH_take (i := 8) (oi := ({ dst := some 91, op := Op.nilCheck (Operand.tmp 90), type := 0, pos := "law.go:44", after := #[{ on := 7, ground := Ground.data }, { on := 4, ground := Ground.guard }], guard := some (4, false) } : Oper)) (v := ?v8_2) rfl (by kernel_rfl) (by kernel_rfl) (by kernel_rfl) (fun _ _ _ h => h) (Or.inl ⟨by rfl, ?hy8_2⟩) (by assumption) ?rest8_2
              case hy8_2 => (intro w hSw; (try dsimp only at hSw); go_simp; try (with_reducible rfl))
              (try simp only [Act.put, List.setIfInBounds_toArray, List.set_cons_zero, List.set_cons_succ])
              refine wpAnyH_take (i := 9) (oi := ({ dst := some 92, op := Op.fieldAddr 46 (Operand.tmp 91) 1, type := 0, pos := "law.go:44", after := #[{ on := 8, ground := Ground.data }, { on := 4, ground := Ground.guard }], guard := some (4, false) } : Oper)) (v := ?v9_2) rfl (by kernel_rfl) (by kernel_rfl) (by kernel_rfl) (fun _ _ _ h => h) (Or.inl ⟨by rfl, ?hy9_2⟩) (by assumption) ?rest9_2
              case hy9_2 => (intro w hSw; (try dsimp only at hSw); go_simp; try (with_reducible rfl))
              (try simp only [Act.put, List.setIfInBounds_toArray, List.set_cons_zero, List.set_cons_succ])
              refine wpAnyH_take (i := 10) (oi := ({ dst := some 93, op := Op.load 3 (Operand.tmp 92), type := 3, pos := "law.go:44", after := #[{ on := 9, ground := Ground.data }, { on := 4, ground := Ground.guard }], guard := some (4, false) } : Oper)) (v := ?v10_2) rfl (by kernel_rfl) (by kernel_rfl) (by kernel_rfl) (fun _ _ _ h => h) (Or.inl ⟨by rfl, ?hy10_2⟩) (by assumption) ?rest10_2
              case hy10_2 => (intro w hSw; (try dsimp only at hSw); go_simp; try (with_reducible rfl))
              (try simp only [Act.put, List.setIfInBounds_toArray, List.set_cons_zero, List.set_cons_succ])
              refine wpAnyH_ready (rs := [6]) (by kernel_rfl) (by simp) ?_
              refine AllReadyH.cons (o := ({ dst := some 89, op := Op.call { callee := Callee.value (Operand.func 19), args := #[Operand.tmp 88], argTypes := #[28] }, type := 3, pos := "law.go:44", after := #[{ on := 5, ground := Ground.data }, { on := 4, ground := Ground.chain }, { on := 4, ground := Ground.guard }], guard := some (4, false) } : Oper)) rfl (fun K hK => ?_) AllReadyH.nil
              go_simp
              (refine (K1.out _ H6D.out).mono ?_; rintro e w' ⟨rfl, rfl⟩)
              (try dsimp only)
              refine hK.out _ _ (H6.out.S _ _ RC.out SC.out) (fun hHeld => ?_)
              clear hK K
              (try simp only [Act.put, List.setIfInBounds_toArray, List.set_cons_zero, List.set_cons_succ])
              refine wpAnyH_take (i := 11) (oi := ({ dst := some 94, op := Op.binOp BinOp.neq 3 (Operand.tmp 89) (Operand.tmp 93) 3, type := 4, pos := "law.go:44", after := #[{ on := 6, ground := Ground.data }, { on := 10, ground := Ground.data }, { on := 4, ground := Ground.guard }], guard := some (4, false) } : Oper)) (v := ?v11_2) rfl (by kernel_rfl) (by kernel_rfl) (by kernel_rfl) (fun _ _ _ h => h) (Or.inl ⟨by rfl, ?hy11_2⟩) (by assumption) ?rest11_2
              case hy11_2 => (intro w hSw; (try dsimp only at hSw); go_simp; try (with_reducible rfl))
              (try simp only [Act.put, List.setIfInBounds_toArray, List.set_cons_zero, List.set_cons_succ])
              refine wpAnyH_take (i := 12) (oi := ({ dst := some 95, op := Op.pick (Operand.tmp 87) (Operand.const (Value.bool true)) (Operand.tmp 94), type := 4, pos := "law.go:44", after := #[{ on := 4, ground := Ground.data }, { on := 11, ground := Ground.data }], guard := none } : Oper)) (v := ?v12_2) rfl (by kernel_rfl) (by kernel_rfl) (by kernel_rfl) (fun _ _ _ h => h) (Or.inl ⟨by rfl, ?hy12_2⟩) (by assumption) ?rest12_2
              case hy12_2 => (intro w hSw; (try dsimp only at hSw); go_simp; try (with_reducible rfl))
              (try simp only [Act.put, List.setIfInBounds_toArray, List.set_cons_zero, List.set_cons_succ])
              refine wpAnyH_take (i := 13) (oi := ({ dst := some 96, op := Op.move (Operand.tmp 95), type := 4, pos := "law.go:44", after := #[{ on := 12, ground := Ground.data }, { on := 6, ground := Ground.chain }], guard := none } : Oper)) (v := ?v13_2) rfl (by kernel_rfl) (by kernel_rfl) (by kernel_rfl) (fun _ _ _ h => h) (Or.inl ⟨by rfl, ?hy13_2⟩) (by assumption) ?rest13_2
              case hy13_2 => (intro w hSw; (try dsimp only at hSw); go_simp; try (with_reducible rfl))
              (try simp only [Act.put, List.setIfInBounds_toArray, List.set_cons_zero, List.set_cons_succ])
              refine wpAnyH_take (i := 14) (oi := ({ dst := some 97, op := Op.move (Operand.tmp 14), type := 28, pos := "law.go:44", after := #[{ on := 13, ground := Ground.guard }], guard := some (13, false) } : Oper)) (v := ?v14_2) rfl (by kernel_rfl) (by kernel_rfl) (by kernel_rfl) (fun _ _ _ h => h) (Or.inl ⟨by rfl, ?hy14_2⟩) (by assumption) ?rest14_2
              case hy14_2 => (intro w hSw; (try dsimp only at hSw); go_simp; try (with_reducible rfl))
              (try simp only [Act.put, List.setIfInBounds_toArray, List.set_cons_zero, List.set_cons_succ])
              refine wpAnyH_take (i := 16) (oi := ({ dst := some 99, op := Op.move (Operand.tmp 15), type := 42, pos := "law.go:44", after := #[{ on := 13, ground := Ground.guard }], guard := some (13, false) } : Oper)) (v := ?v16_2) rfl (by kernel_rfl) (by kernel_rfl) (by kernel_rfl) (fun _ _ _ h => h) (Or.inl ⟨by rfl, ?hy16_2⟩) (by assumption) ?rest16_2
              case hy16_2 => (intro w hSw; (try dsimp only at hSw); go_simp; try (with_reducible rfl))
              (try simp only [Act.put, List.setIfInBounds_toArray, List.set_cons_zero, List.set_cons_succ])
              refine wpAnyH_take (i := 17) (oi := ({ dst := some 100, op := Op.nilCheck (Operand.tmp 99), type := 0, pos := "law.go:44", after := #[{ on := 16, ground := Ground.data }, { on := 13, ground := Ground.guard }], guard := some (13, false) } : Oper)) (v := ?v17_2) rfl (by kernel_rfl) (by kernel_rfl) (by kernel_rfl) (fun _ _ _ h => h) (Or.inl ⟨by rfl, ?hy17_2⟩) (by assumption) ?rest17_2
              case hy17_2 => (intro w hSw; (try dsimp only at hSw); go_simp; try (with_reducible rfl))
              (try simp only [Act.put, List.setIfInBounds_toArray, List.set_cons_zero, List.set_cons_succ])
              refine wpAnyH_take (i := 18) (oi := ({ dst := some 101, op := Op.fieldAddr 46 (Operand.tmp 100) 2, type := 0, pos := "law.go:44", after := #[{ on := 17, ground := Ground.data }, { on := 13, ground := Ground.guard }], guard := some (13, false) } : Oper)) (v := ?v18_2) rfl (by kernel_rfl) (by kernel_rfl) (by kernel_rfl) (fun _ _ _ h => h) (Or.inl ⟨by rfl, ?hy18_2⟩) (by assumption) ?rest18_2
              case hy18_2 => (intro w hSw; (try dsimp only at hSw); go_simp; try (with_reducible rfl))
              (try simp only [Act.put, List.setIfInBounds_toArray, List.set_cons_zero, List.set_cons_succ])
              refine wpAnyH_take (i := 19) (oi := ({ dst := some 102, op := Op.load 3 (Operand.tmp 101), type := 3, pos := "law.go:44", after := #[{ on := 18, ground := Ground.data }, { on := 13, ground := Ground.guard }], guard := some (13, false) } : Oper)) (v := ?v19_2) rfl (by kernel_rfl) (by kernel_rfl) (by kernel_rfl) (fun _ _ _ h => h) (Or.inl ⟨by rfl, ?hy19_2⟩) (by assumption) ?rest19_2
              case hy19_2 => (intro w hSw; (try dsimp only at hSw); go_simp; try (with_reducible rfl))
              (try simp only [Act.put, List.setIfInBounds_toArray, List.set_cons_zero, List.set_cons_succ])
              refine wpAnyH_ready (rs := [15]) (by kernel_rfl) (by simp) ?_
              refine AllReadyH.cons (o := ({ dst := some 98, op := Op.call { callee := Callee.value (Operand.func 26), args := #[Operand.tmp 97], argTypes := #[28] }, type := 3, pos := "law.go:44", after := #[{ on := 14, ground := Ground.data }, { on := 13, ground := Ground.chain }, { on := 13, ground := Ground.guard }], guard := some (13, false) } : Oper)) rfl (fun K hK => ?_) AllReadyH.nil
              go_simp
              (refine (K2.out _ H6D.out).mono ?_; rintro e w' ⟨rfl, rfl⟩)
              (try dsimp only)
              refine hK.out _ _ (H6.out.S _ _ RC.out SC.out) (fun hHeld => ?_)
              clear hK K
              (try simp only [Act.put, List.setIfInBounds_toArray, List.set_cons_zero, List.set_cons_succ])
              refine wpAnyH_take (i := 20) (oi := ({ dst := some 103, op := Op.binOp BinOp.neq 3 (Operand.tmp 98) (Operand.tmp 102) 3, type := 4, pos := "law.go:44", after := #[{ on := 15, ground := Ground.data }, { on := 19, ground := Ground.data }, { on := 13, ground := Ground.guard }], guard := some (13, false) } : Oper)) (v := ?v20_2) rfl (by kernel_rfl) (by kernel_rfl) (by kernel_rfl) (fun _ _ _ h => h) (Or.inl ⟨by rfl, ?hy20_2⟩) (by assumption) ?rest20_2
              case hy20_2 => (intro w hSw; (try dsimp only at hSw); go_simp; try (with_reducible rfl))
              (try simp only [Act.put, List.setIfInBounds_toArray, List.set_cons_zero, List.set_cons_succ])
              refine wpAnyH_take (i := 21) (oi := ({ dst := some 104, op := Op.pick (Operand.tmp 96) (Operand.const (Value.bool true)) (Operand.tmp 103), type := 4, pos := "law.go:44", after := #[{ on := 13, ground := Ground.data }, { on := 20, ground := Ground.data }], guard := none } : Oper)) (v := ?v21_2) rfl (by kernel_rfl) (by kernel_rfl) (by kernel_rfl) (fun _ _ _ h => h) (Or.inl ⟨by rfl, ?hy21_2⟩) (by assumption) ?rest21_2
              case hy21_2 => (intro w hSw; (try dsimp only at hSw); go_simp; try (with_reducible rfl))
              (try simp only [Act.put, List.setIfInBounds_toArray, List.set_cons_zero, List.set_cons_succ])
              refine wpAnyH_take (i := 22) (oi := ({ dst := some 105, op := Op.move (Operand.tmp 104), type := 4, pos := "law.go:44", after := #[{ on := 21, ground := Ground.data }, { on := 15, ground := Ground.chain }], guard := none } : Oper)) (v := ?v22_2) rfl (by kernel_rfl) (by kernel_rfl) (by kernel_rfl) (fun _ _ _ h => h) (Or.inl ⟨by rfl, ?hy22_2⟩) (by assumption) ?rest22_2
              case hy22_2 => (intro w hSw; (try dsimp only at hSw); go_simp; try (with_reducible rfl))
              (try simp only [Act.put, List.setIfInBounds_toArray, List.set_cons_zero, List.set_cons_succ])
              refine wpAnyH_take (i := 23) (oi := ({ dst := some 106, op := Op.move (Operand.tmp 14), type := 28, pos := "law.go:44", after := #[{ on := 22, ground := Ground.guard }], guard := some (22, false) } : Oper)) (v := ?v23_2) rfl (by kernel_rfl) (by kernel_rfl) (by kernel_rfl) (fun _ _ _ h => h) (Or.inl ⟨by rfl, ?hy23_2⟩) (by assumption) ?rest23_2
              case hy23_2 => (intro w hSw; (try dsimp only at hSw); go_simp; try (with_reducible rfl))
              (try simp only [Act.put, List.setIfInBounds_toArray, List.set_cons_zero, List.set_cons_succ])
              refine' wpAnyH_take (i := 25) (oi := ({ dst := some 108, op := Op.load 31 (Operand.tmp 6), type := 31, pos := "law.go:44", after := #[{ on := 22, ground := Ground.guard }], guard := some (22, false) } : Oper)) (v := _) rfl (by kernel_rfl) (by kernel_rfl) (by kernel_rfl) (fun _ _ _ h => h) (yieldsIf_load_mid (by rfl) _ _ rfl _ _ rfl rc _ ?hS25_2 u1 rfl i1) (by assumption) ?rest25_2
              case hS25_2 => (intro w hSw; exact hSw.2.2.1)
              (try simp only [Act.put, List.setIfInBounds_toArray, List.set_cons_zero, List.set_cons_succ])
              refine wpAnyH_ready (rs := [24]) (by kernel_rfl) (by simp) ?_
              refine AllReadyH.cons (o := ({ dst := some 107, op := Op.call { callee := Callee.value (Operand.func 20), args := #[Operand.tmp 106], argTypes := #[28] }, type := 31, pos := "law.go:44", after := #[{ on := 23, ground := Ground.data }, { on := 22, ground := Ground.chain }, { on := 22, ground := Ground.guard }], guard := some (22, false) } : Oper)) rfl (fun K hK => ?_) AllReadyH.nil
              go_simp
              (refine (K3.out _ H6D.out).mono ?_; rintro e w7 ⟨rfl, h7⟩; have H7 := Lib.hid h7; clear h7)
              (try dsimp only)
              refine hK.out _ _ (H7.out.S _ _ RC.out SC.out) (fun hHeld => ?_)
              clear hK K
              (try simp only [Act.put, List.setIfInBounds_toArray, List.set_cons_zero, List.set_cons_succ])
              refine wpAnyH_take (i := 26) (oi := ({ dst := some 109, op := Op.binOp BinOp.neq 31 (Operand.tmp 107) (Operand.tmp 108) 31, type := 4, pos := "law.go:44", after := #[{ on := 24, ground := Ground.data }, { on := 25, ground := Ground.data }, { on := 22, ground := Ground.guard }], guard := some (22, false) } : Oper)) (v := ?v26_2) rfl (by kernel_rfl) (by kernel_rfl) (by kernel_rfl) (fun _ _ _ h => h) (Or.inl ⟨by rfl, ?hy26_2⟩) (by assumption) ?rest26_2
              case hy26_2 => (intro w hSw; (try dsimp only at hSw); go_simp; try (with_reducible rfl))
              (try simp only [Act.put, List.setIfInBounds_toArray, List.set_cons_zero, List.set_cons_succ])
              refine wpAnyH_take (i := 27) (oi := ({ dst := some 110, op := Op.pick (Operand.tmp 105) (Operand.const (Value.bool true)) (Operand.tmp 109), type := 4, pos := "law.go:44", after := #[{ on := 22, ground := Ground.data }, { on := 26, ground := Ground.data }], guard := none } : Oper)) (v := ?v27_2) rfl (by kernel_rfl) (by kernel_rfl) (by kernel_rfl) (fun _ _ _ h => h) (Or.inl ⟨by rfl, ?hy27_2⟩) (by assumption) ?rest27_2
              case hy27_2 => (intro w hSw; (try dsimp only at hSw); go_simp; try (with_reducible rfl))
              (try simp only [Act.put, List.setIfInBounds_toArray, List.set_cons_zero, List.set_cons_succ])
              refine wpAnyH_take (i := 28) (oi := ({ dst := some 111, op := Op.move (Operand.tmp 110), type := 4, pos := "law.go:44", after := #[{ on := 27, ground := Ground.data }, { on := 24, ground := Ground.chain }], guard := none } : Oper)) (v := ?v28_2) rfl (by kernel_rfl) (by kernel_rfl) (by kernel_rfl) (fun _ _ _ h => h) (Or.inl ⟨by rfl, ?hy28_2⟩) (by assumption) ?rest28_2
              case hy28_2 => (intro w hSw; (try dsimp only at hSw); go_simp; try (with_reducible rfl))
              (try simp only [Act.put, List.setIfInBounds_toArray, List.set_cons_zero, List.set_cons_succ])
              refine wpAnyH_take (i := 29) (oi := ({ dst := some 112, op := Op.move (Operand.tmp 14), type := 28, pos := "law.go:44", after := #[{ on := 28, ground := Ground.guard }], guard := some (28, false) } : Oper)) (v := ?v29_2) rfl (by kernel_rfl) (by kernel_rfl) (by kernel_rfl) (fun _ _ _ h => h) (Or.inl ⟨by rfl, ?hy29_2⟩) (by assumption) ?rest29_2
              case hy29_2 => (intro w hSw; (try dsimp only at hSw); go_simp; try (with_reducible rfl))
              (try simp only [Act.put, List.setIfInBounds_toArray, List.set_cons_zero, List.set_cons_succ])
              refine' wpAnyH_take (i := 31) (oi := ({ dst := some 114, op := Op.load 31 (Operand.tmp 7), type := 31, pos := "law.go:44", after := #[{ on := 28, ground := Ground.guard }], guard := some (28, false) } : Oper)) (v := _) rfl (by kernel_rfl) (by kernel_rfl) (by kernel_rfl) (fun _ _ _ h => h) (yieldsIf_load_mid (by rfl) _ _ rfl _ _ rfl sc _ ?hS31_2 u1 rfl i2) (by assumption) ?rest31_2
              case hS31_2 => (intro w hSw; exact hSw.2.2.2)
              (try simp only [Act.put, List.setIfInBounds_toArray, List.set_cons_zero, List.set_cons_succ])
              refine wpAnyH_ready (rs := [30]) (by kernel_rfl) (by simp) ?_
              refine AllReadyH.cons (o := ({ dst := some 113, op := Op.call { callee := Callee.value (Operand.func 21), args := #[Operand.tmp 112], argTypes := #[28] }, type := 31, pos := "law.go:44", after := #[{ on := 29, ground := Ground.data }, { on := 28, ground := Ground.chain }, { on := 28, ground := Ground.guard }], guard := some (28, false) } : Oper)) rfl (fun K hK => ?_) AllReadyH.nil
              go_simp
              (refine (K4.out _ H7.out).mono ?_; rintro e w8 ⟨rfl, h8⟩; have H8 := Lib.hid h8; clear h8)
              (try dsimp only)
              refine hK.out _ _ (H8.out.S _ _ RC.out SC.out) (fun hHeld => ?_)
              clear hK K
              (try simp only [Act.put, List.setIfInBounds_toArray, List.set_cons_zero, List.set_cons_succ])
              refine wpAnyH_take (i := 32) (oi := ({ dst := some 115, op := Op.binOp BinOp.neq 31 (Operand.tmp 113) (Operand.tmp 114) 31, type := 4, pos := "law.go:44", after := #[{ on := 30, ground := Ground.data }, { on := 31, ground := Ground.data }, { on := 28, ground := Ground.guard }], guard := some (28, false) } : Oper)) (v := ?v32_2) rfl (by kernel_rfl) (by kernel_rfl) (by kernel_rfl) (fun _ _ _ h => h) (Or.inl ⟨by rfl, ?hy32_2⟩) (by assumption) ?rest32_2
              case hy32_2 => (intro w hSw; (try dsimp only at hSw); go_simp; try (with_reducible rfl))
              (try simp only [Act.put, List.setIfInBounds_toArray, List.set_cons_zero, List.set_cons_succ])
              refine wpAnyH_take (i := 33) (oi := ({ dst := some 116, op := Op.pick (Operand.tmp 111) (Operand.const (Value.bool true)) (Operand.tmp 115), type := 4, pos := "law.go:44", after := #[{ on := 28, ground := Ground.data }, { on := 32, ground := Ground.data }], guard := none } : Oper)) (v := ?v33_2) rfl (by kernel_rfl) (by kernel_rfl) (by kernel_rfl) (fun _ _ _ h => h) (Or.inl ⟨by rfl, ?hy33_2⟩) (by assumption) ?rest33_2
              case hy33_2 => (intro w hSw; (try dsimp only at hSw); go_simp; try (with_reducible rfl))
              (try simp only [Act.put, List.setIfInBounds_toArray, List.set_cons_zero, List.set_cons_succ])
              refine wpAnyH_done (by kernel_rfl) ?_ _
              go_wp2_with fail
              go_roundw
              case rel => exact ⟨j + 1, c + 1, s2.turn, by omega, by omega, by go_num, H8.out⟩
              case measure => simp [intOf]; omega
            | false =>
              have hst := ostep_no q p g s2 _ _ c M wP OC2.out.o OC2.out.fl d1 HCM.out ht
              have hst2 := fun w h1 h2 => rostep_no qr pr gr s2 c M w h1 h2 d3 HCM.out ht
              have HST := Lib.hid hst
              have HST2 := Lib.hid hst2
              clear hst hst2 ht
              go_wp2_with fail
              refine HST.out.mono ?_
              rintro e w5 ⟨rfl, hf5, ho5, hk5, -⟩
              obtain ⟨e1, e2, e3⟩ := OC2.out.own OB.out hk5 hf5 ho5
              have E1 := Lib.hid e1
              have E2 := Lib.hid e2
              have E3 := Lib.hid e3
              have F5 := Lib.hid hf5
              have O5 := Lib.hid ho5
              clear e1 e2 e3 hf5 ho5 hk5
              go_wp2_with fail
              refine (HST2.out w5 E2.out E1.out).mono ?_
              rintro e w6 ⟨rfl, hf6, ho6, hk6, -⟩
              have h6 := OcR.both OB.out F5.out O5.out E3.out hk6 hf6 ho6
              have h6d := h6.drew
              clear hf6 ho6 hk6
              go_wp2_with fail
              obtain ⟨k1, k2, k3, k4⟩ := OcR.calls (w := w) (x := x) (y := y) (p := p) (g := g) (q := q) (pr := pr) (gr := gr) (qr := qr) (s := s2.turn) (c := c) (M := M) rc sc RC.out SC.out
              have H6 := Lib.hid h6
              have H6D := Lib.hid h6d
              have K1 := Lib.hid k1
              have K2 := Lib.hid k2
              have K3 := Lib.hid k3
              have K4 := Lib.hid k4
              clear h6 h6d k1 k2 k3 k4
              refine wp_region_held_drew (S := (fun w' => w'.cell? ⟨qr, 1, none⟩ = some (.int .i64 c) ∧ w'.cell? ⟨qr, 2, none⟩ = some (.int .i64 M) ∧ w'.rangeAt x 0 rc ∧ w'.rangeAt y 0 sc)) (by kernel_rfl) (H6.out.S _ _ RC.out SC.out) (fun hHeld => ?_)
              refine wpAnyH_take (i := 0) (oi := ({ dst := some 83, op := Op.move (Operand.tmp 18), type := 33, pos := "law.go:44", after := #[], guard := none } : Oper)) (v := ?v0_3) rfl (by kernel_rfl) (by kernel_rfl) (by kernel_rfl) (fun _ _ _ h => h) (Or.inl ⟨by rfl, ?hy0_3⟩) (by assumption) ?rest0_3
              case hy0_3 => (intro w hSw; (try dsimp only at hSw); go_simp; try (with_reducible rfl))
              (try simp only [Act.put, List.setIfInBounds_toArray, List.set_cons_zero, List.set_cons_succ])
              refine wpAnyH_take (i := 2) (oi := ({ dst := some 85, op := Op.move (Operand.tmp 19), type := 3, pos := "law.go:44", after := #[], guard := none } : Oper)) (v := ?v2_3) rfl (by kernel_rfl) (by kernel_rfl) (by kernel_rfl) (fun _ _ _ h => h) (Or.inl ⟨by rfl, ?hy2_3⟩) (by assumption) ?rest2_3
              case hy2_3 => (intro w hSw; (try dsimp only at hSw); go_simp; try (with_reducible rfl))
              (try simp only [Act.put, List.setIfInBounds_toArray, List.set_cons_zero, List.set_cons_succ])
              refine wpAnyH_ready (rs := [1]) (by kernel_rfl) (by simp) ?_
              refine AllReadyH.cons (o := ({ dst := some 84, op := Op.call { callee := Callee.value (Operand.func 18), args := #[Operand.tmp 83], argTypes := #[33] }, type := 3, pos := "law.go:44", after := #[{ on := 0, ground := Ground.data }], guard := none } : Oper)) rfl (fun K hK => ?_) AllReadyH.nil
              go_simp
              (refine (num20_any _ _).mono ?_; rintro e w' ⟨rfl, rfl⟩)
              (try dsimp only)
              refine hK.out _ _ (H6.out.S _ _ RC.out SC.out) (fun hHeld => ?_)
              clear hK K
              (try simp only [Act.put, List.setIfInBounds_toArray, List.set_cons_zero, List.set_cons_succ])
              refine wpAnyH_take (i := 3) (oi := ({ dst := some 86, op := Op.binOp BinOp.neq 3 (Operand.tmp 84) (Operand.tmp 85) 3, type := 4, pos := "law.go:44", after := #[{ on := 1, ground := Ground.data }, { on := 2, ground := Ground.data }], guard := none } : Oper)) (v := ?v3_3) rfl (by kernel_rfl) (by kernel_rfl) (by kernel_rfl) (fun _ _ _ h => h) (Or.inl ⟨by rfl, ?hy3_3⟩) (by assumption) ?rest3_3
              case hy3_3 => (intro w hSw; (try dsimp only at hSw); go_simp; try (with_reducible rfl))
              (try simp only [Act.put, List.setIfInBounds_toArray, List.set_cons_zero, List.set_cons_succ])
              refine wpAnyH_take (i := 4) (oi := ({ dst := some 87, op := Op.move (Operand.tmp 86), type := 4, pos := "law.go:44", after := #[{ on := 3, ground := Ground.data }, { on := 1, ground := Ground.chain }], guard := none } : Oper)) (v := ?v4_3) rfl (by kernel_rfl) (by kernel_rfl) (by kernel_rfl) (fun _ _ _ h => h) (Or.inl ⟨by rfl, ?hy4_3⟩) (by assumption) ?rest4_3
              case hy4_3 => (intro w hSw; (try dsimp only at hSw); go_simp; try (with_reducible rfl))
              (try simp only [Act.put, List.setIfInBounds_toArray, List.set_cons_zero, List.set_cons_succ])
              refine wpAnyH_take (i := 5) (oi := ({ dst := some 88, op := Op.move (Operand.tmp 14), type := 28, pos := "law.go:44", after := #[{ on := 4, ground := Ground.guard }], guard := some (4, false) } : Oper)) (v := ?v5_3) rfl (by kernel_rfl) (by kernel_rfl) (by kernel_rfl) (fun _ _ _ h => h) (Or.inl ⟨by rfl, ?hy5_3⟩) (by assumption) ?rest5_3
              case hy5_3 => (intro w hSw; (try dsimp only at hSw); go_simp; try (with_reducible rfl))
              (try simp only [Act.put, List.setIfInBounds_toArray, List.set_cons_zero, List.set_cons_succ])
              refine wpAnyH_take (i := 7) (oi := ({ dst := some 90, op := Op.move (Operand.tmp 15), type := 42, pos := "law.go:44", after := #[{ on := 4, ground := Ground.guard }], guard := some (4, false) } : Oper)) (v := ?v7_3) rfl (by kernel_rfl) (by kernel_rfl) (by kernel_rfl) (fun _ _ _ h => h) (Or.inl ⟨by rfl, ?hy7_3⟩) (by assumption) ?rest7_3
              case hy7_3 => (intro w hSw; (try dsimp only at hSw); go_simp; try (with_reducible rfl))
              (try simp only [Act.put, List.setIfInBounds_toArray, List.set_cons_zero, List.set_cons_succ])
              refine wpAnyH_take (i := 8) (oi := ({ dst := some 91, op := Op.nilCheck (Operand.tmp 90), type := 0, pos := "law.go:44", after := #[{ on := 7, ground := Ground.data }, { on := 4, ground := Ground.guard }], guard := some (4, false) } : Oper)) (v := ?v8_3) rfl (by kernel_rfl) (by kernel_rfl) (by kernel_rfl) (fun _ _ _ h => h) (Or.inl ⟨by rfl, ?hy8_3⟩) (by assumption) ?rest8_3
              case hy8_3 => (intro w hSw; (try dsimp only at hSw); go_simp; try (with_reducible rfl))
              (try simp only [Act.put, List.setIfInBounds_toArray, List.set_cons_zero, List.set_cons_succ])
              refine wpAnyH_take (i := 9) (oi := ({ dst := some 92, op := Op.fieldAddr 46 (Operand.tmp 91) 1, type := 0, pos := "law.go:44", after := #[{ on := 8, ground := Ground.data }, { on := 4, ground := Ground.guard }], guard := some (4, false) } : Oper)) (v := ?v9_3) rfl (by kernel_rfl) (by kernel_rfl) (by kernel_rfl) (fun _ _ _ h => h) (Or.inl ⟨by rfl, ?hy9_3⟩) (by assumption) ?rest9_3
              case hy9_3 => (intro w hSw; (try dsimp only at hSw); go_simp; try (with_reducible rfl))
              (try simp only [Act.put, List.setIfInBounds_toArray, List.set_cons_zero, List.set_cons_succ])
              refine wpAnyH_take (i := 10) (oi := ({ dst := some 93, op := Op.load 3 (Operand.tmp 92), type := 3, pos := "law.go:44", after := #[{ on := 9, ground := Ground.data }, { on := 4, ground := Ground.guard }], guard := some (4, false) } : Oper)) (v := ?v10_3) rfl (by kernel_rfl) (by kernel_rfl) (by kernel_rfl) (fun _ _ _ h => h) (Or.inl ⟨by rfl, ?hy10_3⟩) (by assumption) ?rest10_3
              case hy10_3 => (intro w hSw; (try dsimp only at hSw); go_simp; try (with_reducible rfl))
              (try simp only [Act.put, List.setIfInBounds_toArray, List.set_cons_zero, List.set_cons_succ])
              refine wpAnyH_ready (rs := [6]) (by kernel_rfl) (by simp) ?_
              refine AllReadyH.cons (o := ({ dst := some 89, op := Op.call { callee := Callee.value (Operand.func 19), args := #[Operand.tmp 88], argTypes := #[28] }, type := 3, pos := "law.go:44", after := #[{ on := 5, ground := Ground.data }, { on := 4, ground := Ground.chain }, { on := 4, ground := Ground.guard }], guard := some (4, false) } : Oper)) rfl (fun K hK => ?_) AllReadyH.nil
              go_simp
              (refine (K1.out _ H6D.out).mono ?_; rintro e w' ⟨rfl, rfl⟩)
              (try dsimp only)
              refine hK.out _ _ (H6.out.S _ _ RC.out SC.out) (fun hHeld => ?_)
              clear hK K
              (try simp only [Act.put, List.setIfInBounds_toArray, List.set_cons_zero, List.set_cons_succ])
              refine wpAnyH_take (i := 11) (oi := ({ dst := some 94, op := Op.binOp BinOp.neq 3 (Operand.tmp 89) (Operand.tmp 93) 3, type := 4, pos := "law.go:44", after := #[{ on := 6, ground := Ground.data }, { on := 10, ground := Ground.data }, { on := 4, ground := Ground.guard }], guard := some (4, false) } : Oper)) (v := ?v11_3) rfl (by kernel_rfl) (by kernel_rfl) (by kernel_rfl) (fun _ _ _ h => h) (Or.inl ⟨by rfl, ?hy11_3⟩) (by assumption) ?rest11_3
              case hy11_3 => (intro w hSw; (try dsimp only at hSw); go_simp; try (with_reducible rfl))
              (try simp only [Act.put, List.setIfInBounds_toArray, List.set_cons_zero, List.set_cons_succ])
              refine wpAnyH_take (i := 12) (oi := ({ dst := some 95, op := Op.pick (Operand.tmp 87) (Operand.const (Value.bool true)) (Operand.tmp 94), type := 4, pos := "law.go:44", after := #[{ on := 4, ground := Ground.data }, { on := 11, ground := Ground.data }], guard := none } : Oper)) (v := ?v12_3) rfl (by kernel_rfl) (by kernel_rfl) (by kernel_rfl) (fun _ _ _ h => h) (Or.inl ⟨by rfl, ?hy12_3⟩) (by assumption) ?rest12_3
              case hy12_3 => (intro w hSw; (try dsimp only at hSw); go_simp; try (with_reducible rfl))
              (try simp only [Act.put, List.setIfInBounds_toArray, List.set_cons_zero, List.set_cons_succ])
              refine wpAnyH_take (i := 13) (oi := ({ dst := some 96, op := Op.move (Operand.tmp 95), type := 4, pos := "law.go:44", after := #[{ on := 12, ground := Ground.data }, { on := 6, ground := Ground.chain }], guard := none } : Oper)) (v := ?v13_3) rfl (by kernel_rfl) (by kernel_rfl) (by kernel_rfl) (fun _ _ _ h => h) (Or.inl ⟨by rfl, ?hy13_3⟩) (by assumption) ?rest13_3
              case hy13_3 => (intro w hSw; (try dsimp only at hSw); go_simp; try (with_reducible rfl))
              (try simp only [Act.put, List.setIfInBounds_toArray, List.set_cons_zero, List.set_cons_succ])
              refine wpAnyH_take (i := 14) (oi := ({ dst := some 97, op := Op.move (Operand.tmp 14), type := 28, pos := "law.go:44", after := #[{ on := 13, ground := Ground.guard }], guard := some (13, false) } : Oper)) (v := ?v14_3) rfl (by kernel_rfl) (by kernel_rfl) (by kernel_rfl) (fun _ _ _ h => h) (Or.inl ⟨by rfl, ?hy14_3⟩) (by assumption) ?rest14_3
              case hy14_3 => (intro w hSw; (try dsimp only at hSw); go_simp; try (with_reducible rfl))
              (try simp only [Act.put, List.setIfInBounds_toArray, List.set_cons_zero, List.set_cons_succ])
              refine wpAnyH_take (i := 16) (oi := ({ dst := some 99, op := Op.move (Operand.tmp 15), type := 42, pos := "law.go:44", after := #[{ on := 13, ground := Ground.guard }], guard := some (13, false) } : Oper)) (v := ?v16_3) rfl (by kernel_rfl) (by kernel_rfl) (by kernel_rfl) (fun _ _ _ h => h) (Or.inl ⟨by rfl, ?hy16_3⟩) (by assumption) ?rest16_3
              case hy16_3 => (intro w hSw; (try dsimp only at hSw); go_simp; try (with_reducible rfl))
              (try simp only [Act.put, List.setIfInBounds_toArray, List.set_cons_zero, List.set_cons_succ])
              refine wpAnyH_take (i := 17) (oi := ({ dst := some 100, op := Op.nilCheck (Operand.tmp 99), type := 0, pos := "law.go:44", after := #[{ on := 16, ground := Ground.data }, { on := 13, ground := Ground.guard }], guard := some (13, false) } : Oper)) (v := ?v17_3) rfl (by kernel_rfl) (by kernel_rfl) (by kernel_rfl) (fun _ _ _ h => h) (Or.inl ⟨by rfl, ?hy17_3⟩) (by assumption) ?rest17_3
              case hy17_3 => (intro w hSw; (try dsimp only at hSw); go_simp; try (with_reducible rfl))
              (try simp only [Act.put, List.setIfInBounds_toArray, List.set_cons_zero, List.set_cons_succ])
              refine wpAnyH_take (i := 18) (oi := ({ dst := some 101, op := Op.fieldAddr 46 (Operand.tmp 100) 2, type := 0, pos := "law.go:44", after := #[{ on := 17, ground := Ground.data }, { on := 13, ground := Ground.guard }], guard := some (13, false) } : Oper)) (v := ?v18_3) rfl (by kernel_rfl) (by kernel_rfl) (by kernel_rfl) (fun _ _ _ h => h) (Or.inl ⟨by rfl, ?hy18_3⟩) (by assumption) ?rest18_3
              case hy18_3 => (intro w hSw; (try dsimp only at hSw); go_simp; try (with_reducible rfl))
              (try simp only [Act.put, List.setIfInBounds_toArray, List.set_cons_zero, List.set_cons_succ])
              refine wpAnyH_take (i := 19) (oi := ({ dst := some 102, op := Op.load 3 (Operand.tmp 101), type := 3, pos := "law.go:44", after := #[{ on := 18, ground := Ground.data }, { on := 13, ground := Ground.guard }], guard := some (13, false) } : Oper)) (v := ?v19_3) rfl (by kernel_rfl) (by kernel_rfl) (by kernel_rfl) (fun _ _ _ h => h) (Or.inl ⟨by rfl, ?hy19_3⟩) (by assumption) ?rest19_3
              case hy19_3 => (intro w hSw; (try dsimp only at hSw); go_simp; try (with_reducible rfl))
              (try simp only [Act.put, List.setIfInBounds_toArray, List.set_cons_zero, List.set_cons_succ])
              refine wpAnyH_ready (rs := [15]) (by kernel_rfl) (by simp) ?_
              refine AllReadyH.cons (o := ({ dst := some 98, op := Op.call { callee := Callee.value (Operand.func 26), args := #[Operand.tmp 97], argTypes := #[28] }, type := 3, pos := "law.go:44", after := #[{ on := 14, ground := Ground.data }, { on := 13, ground := Ground.chain }, { on := 13, ground := Ground.guard }], guard := some (13, false) } : Oper)) rfl (fun K hK => ?_) AllReadyH.nil
              go_simp
              (refine (K2.out _ H6D.out).mono ?_; rintro e w' ⟨rfl, rfl⟩)
              (try dsimp only)
              refine hK.out _ _ (H6.out.S _ _ RC.out SC.out) (fun hHeld => ?_)
              clear hK K
              (try simp only [Act.put, List.setIfInBounds_toArray, List.set_cons_zero, List.set_cons_succ])
              refine wpAnyH_take (i := 20) (oi := ({ dst := some 103, op := Op.binOp BinOp.neq 3 (Operand.tmp 98) (Operand.tmp 102) 3, type := 4, pos := "law.go:44", after := #[{ on := 15, ground := Ground.data }, { on := 19, ground := Ground.data }, { on := 13, ground := Ground.guard }], guard := some (13, false) } : Oper)) (v := ?v20_3) rfl (by kernel_rfl) (by kernel_rfl) (by kernel_rfl) (fun _ _ _ h => h) (Or.inl ⟨by rfl, ?hy20_3⟩) (by assumption) ?rest20_3
              case hy20_3 => (intro w hSw; (try dsimp only at hSw); go_simp; try (with_reducible rfl))
              (try simp only [Act.put, List.setIfInBounds_toArray, List.set_cons_zero, List.set_cons_succ])
              refine wpAnyH_take (i := 21) (oi := ({ dst := some 104, op := Op.pick (Operand.tmp 96) (Operand.const (Value.bool true)) (Operand.tmp 103), type := 4, pos := "law.go:44", after := #[{ on := 13, ground := Ground.data }, { on := 20, ground := Ground.data }], guard := none } : Oper)) (v := ?v21_3) rfl (by kernel_rfl) (by kernel_rfl) (by kernel_rfl) (fun _ _ _ h => h) (Or.inl ⟨by rfl, ?hy21_3⟩) (by assumption) ?rest21_3
              case hy21_3 => (intro w hSw; (try dsimp only at hSw); go_simp; try (with_reducible rfl))
              (try simp only [Act.put, List.setIfInBounds_toArray, List.set_cons_zero, List.set_cons_succ])
              refine wpAnyH_take (i := 22) (oi := ({ dst := some 105, op := Op.move (Operand.tmp 104), type := 4, pos := "law.go:44", after := #[{ on := 21, ground := Ground.data }, { on := 15, ground := Ground.chain }], guard := none } : Oper)) (v := ?v22_3) rfl (by kernel_rfl) (by kernel_rfl) (by kernel_rfl) (fun _ _ _ h => h) (Or.inl ⟨by rfl, ?hy22_3⟩) (by assumption) ?rest22_3
              case hy22_3 => (intro w hSw; (try dsimp only at hSw); go_simp; try (with_reducible rfl))
              (try simp only [Act.put, List.setIfInBounds_toArray, List.set_cons_zero, List.set_cons_succ])
              refine wpAnyH_take (i := 23) (oi := ({ dst := some 106, op := Op.move (Operand.tmp 14), type := 28, pos := "law.go:44", after := #[{ on := 22, ground := Ground.guard }], guard := some (22, false) } : Oper)) (v := ?v23_3) rfl (by kernel_rfl) (by kernel_rfl) (by kernel_rfl) (fun _ _ _ h => h) (Or.inl ⟨by rfl, ?hy23_3⟩) (by assumption) ?rest23_3
              case hy23_3 => (intro w hSw; (try dsimp only at hSw); go_simp; try (with_reducible rfl))
              (try simp only [Act.put, List.setIfInBounds_toArray, List.set_cons_zero, List.set_cons_succ])
              refine' wpAnyH_take (i := 25) (oi := ({ dst := some 108, op := Op.load 31 (Operand.tmp 6), type := 31, pos := "law.go:44", after := #[{ on := 22, ground := Ground.guard }], guard := some (22, false) } : Oper)) (v := _) rfl (by kernel_rfl) (by kernel_rfl) (by kernel_rfl) (fun _ _ _ h => h) (yieldsIf_load_mid (by rfl) _ _ rfl _ _ rfl rc _ ?hS25_3 u1 rfl i1) (by assumption) ?rest25_3
              case hS25_3 => (intro w hSw; exact hSw.2.2.1)
              (try simp only [Act.put, List.setIfInBounds_toArray, List.set_cons_zero, List.set_cons_succ])
              refine wpAnyH_ready (rs := [24]) (by kernel_rfl) (by simp) ?_
              refine AllReadyH.cons (o := ({ dst := some 107, op := Op.call { callee := Callee.value (Operand.func 20), args := #[Operand.tmp 106], argTypes := #[28] }, type := 31, pos := "law.go:44", after := #[{ on := 23, ground := Ground.data }, { on := 22, ground := Ground.chain }, { on := 22, ground := Ground.guard }], guard := some (22, false) } : Oper)) rfl (fun K hK => ?_) AllReadyH.nil
              go_simp
              (refine (K3.out _ H6D.out).mono ?_; rintro e w7 ⟨rfl, h7⟩; have H7 := Lib.hid h7; clear h7)
              (try dsimp only)
              refine hK.out _ _ (H7.out.S _ _ RC.out SC.out) (fun hHeld => ?_)
              clear hK K
              (try simp only [Act.put, List.setIfInBounds_toArray, List.set_cons_zero, List.set_cons_succ])
              refine wpAnyH_take (i := 26) (oi := ({ dst := some 109, op := Op.binOp BinOp.neq 31 (Operand.tmp 107) (Operand.tmp 108) 31, type := 4, pos := "law.go:44", after := #[{ on := 24, ground := Ground.data }, { on := 25, ground := Ground.data }, { on := 22, ground := Ground.guard }], guard := some (22, false) } : Oper)) (v := ?v26_3) rfl (by kernel_rfl) (by kernel_rfl) (by kernel_rfl) (fun _ _ _ h => h) (Or.inl ⟨by rfl, ?hy26_3⟩) (by assumption) ?rest26_3
              case hy26_3 => (intro w hSw; (try dsimp only at hSw); go_simp; try (with_reducible rfl))
              (try simp only [Act.put, List.setIfInBounds_toArray, List.set_cons_zero, List.set_cons_succ])
              refine wpAnyH_take (i := 27) (oi := ({ dst := some 110, op := Op.pick (Operand.tmp 105) (Operand.const (Value.bool true)) (Operand.tmp 109), type := 4, pos := "law.go:44", after := #[{ on := 22, ground := Ground.data }, { on := 26, ground := Ground.data }], guard := none } : Oper)) (v := ?v27_3) rfl (by kernel_rfl) (by kernel_rfl) (by kernel_rfl) (fun _ _ _ h => h) (Or.inl ⟨by rfl, ?hy27_3⟩) (by assumption) ?rest27_3
              case hy27_3 => (intro w hSw; (try dsimp only at hSw); go_simp; try (with_reducible rfl))
              (try simp only [Act.put, List.setIfInBounds_toArray, List.set_cons_zero, List.set_cons_succ])
              refine wpAnyH_take (i := 28) (oi := ({ dst := some 111, op := Op.move (Operand.tmp 110), type := 4, pos := "law.go:44", after := #[{ on := 27, ground := Ground.data }, { on := 24, ground := Ground.chain }], guard := none } : Oper)) (v := ?v28_3) rfl (by kernel_rfl) (by kernel_rfl) (by kernel_rfl) (fun _ _ _ h => h) (Or.inl ⟨by rfl, ?hy28_3⟩) (by assumption) ?rest28_3
              case hy28_3 => (intro w hSw; (try dsimp only at hSw); go_simp; try (with_reducible rfl))
              (try simp only [Act.put, List.setIfInBounds_toArray, List.set_cons_zero, List.set_cons_succ])
              refine wpAnyH_take (i := 29) (oi := ({ dst := some 112, op := Op.move (Operand.tmp 14), type := 28, pos := "law.go:44", after := #[{ on := 28, ground := Ground.guard }], guard := some (28, false) } : Oper)) (v := ?v29_3) rfl (by kernel_rfl) (by kernel_rfl) (by kernel_rfl) (fun _ _ _ h => h) (Or.inl ⟨by rfl, ?hy29_3⟩) (by assumption) ?rest29_3
              case hy29_3 => (intro w hSw; (try dsimp only at hSw); go_simp; try (with_reducible rfl))
              (try simp only [Act.put, List.setIfInBounds_toArray, List.set_cons_zero, List.set_cons_succ])
              refine' wpAnyH_take (i := 31) (oi := ({ dst := some 114, op := Op.load 31 (Operand.tmp 7), type := 31, pos := "law.go:44", after := #[{ on := 28, ground := Ground.guard }], guard := some (28, false) } : Oper)) (v := _) rfl (by kernel_rfl) (by kernel_rfl) (by kernel_rfl) (fun _ _ _ h => h) (yieldsIf_load_mid (by rfl) _ _ rfl _ _ rfl sc _ ?hS31_3 u1 rfl i2) (by assumption) ?rest31_3
              case hS31_3 => (intro w hSw; exact hSw.2.2.2)
              (try simp only [Act.put, List.setIfInBounds_toArray, List.set_cons_zero, List.set_cons_succ])
              refine wpAnyH_ready (rs := [30]) (by kernel_rfl) (by simp) ?_
              refine AllReadyH.cons (o := ({ dst := some 113, op := Op.call { callee := Callee.value (Operand.func 21), args := #[Operand.tmp 112], argTypes := #[28] }, type := 31, pos := "law.go:44", after := #[{ on := 29, ground := Ground.data }, { on := 28, ground := Ground.chain }, { on := 28, ground := Ground.guard }], guard := some (28, false) } : Oper)) rfl (fun K hK => ?_) AllReadyH.nil
              go_simp
              (refine (K4.out _ H7.out).mono ?_; rintro e w8 ⟨rfl, h8⟩; have H8 := Lib.hid h8; clear h8)
              (try dsimp only)
              refine hK.out _ _ (H8.out.S _ _ RC.out SC.out) (fun hHeld => ?_)
              clear hK K
              (try simp only [Act.put, List.setIfInBounds_toArray, List.set_cons_zero, List.set_cons_succ])
              refine wpAnyH_take (i := 32) (oi := ({ dst := some 115, op := Op.binOp BinOp.neq 31 (Operand.tmp 113) (Operand.tmp 114) 31, type := 4, pos := "law.go:44", after := #[{ on := 30, ground := Ground.data }, { on := 31, ground := Ground.data }, { on := 28, ground := Ground.guard }], guard := some (28, false) } : Oper)) (v := ?v32_3) rfl (by kernel_rfl) (by kernel_rfl) (by kernel_rfl) (fun _ _ _ h => h) (Or.inl ⟨by rfl, ?hy32_3⟩) (by assumption) ?rest32_3
              case hy32_3 => (intro w hSw; (try dsimp only at hSw); go_simp; try (with_reducible rfl))
              (try simp only [Act.put, List.setIfInBounds_toArray, List.set_cons_zero, List.set_cons_succ])
              refine wpAnyH_take (i := 33) (oi := ({ dst := some 116, op := Op.pick (Operand.tmp 111) (Operand.const (Value.bool true)) (Operand.tmp 115), type := 4, pos := "law.go:44", after := #[{ on := 28, ground := Ground.data }, { on := 32, ground := Ground.data }], guard := none } : Oper)) (v := ?v33_3) rfl (by kernel_rfl) (by kernel_rfl) (by kernel_rfl) (fun _ _ _ h => h) (Or.inl ⟨by rfl, ?hy33_3⟩) (by assumption) ?rest33_3
              case hy33_3 => (intro w hSw; (try dsimp only at hSw); go_simp; try (with_reducible rfl))
              (try simp only [Act.put, List.setIfInBounds_toArray, List.set_cons_zero, List.set_cons_succ])
              refine wpAnyH_done (by kernel_rfl) ?_ _
              by_cases h30 : (j : Int) % 3 = 0
              · have hst := start_any p g s2.turn _ H8.out.fl
                have HST3 := Lib.hid hst
                clear hst
                go_wp2_with fail
                refine HST3.out.mono ?_
                rintro e w9 ⟨rfl, hf9, hk9, -⟩
                have hk9' : Kept (fun y => y = p ∨ y = q) w8 w9 := hk9.mono (fun _ _ => .inl)
                obtain ⟨e1, e2, e3⟩ := H8.out.own OB.out hk9' hf9 (H8.out.o.kept hk9 d1)
                have O9 := Lib.hid (H8.out.o.kept hk9 d1)
                have hst2 := rstart_any pr gr s2.turn w9 e1
                have HST4 := Lib.hid hst2
                have E2 := Lib.hid e2
                have E3 := Lib.hid e3
                have F9 := Lib.hid hf9
                clear hst2 e1 e2 e3 hf9 hk9 hk9'
                go_wp2_with fail
                refine HST4.out.mono ?_
                rintro e wA ⟨rfl, hrA, hkA, -⟩
                have hA9 := Lib.hid (OcR.both OB.out F9.out O9.out E3.out (hkA.mono (fun _ _ => .inl)) hrA (IsRo.kept E2.out hkA d3))
                clear hrA hkA
                go_wp2_with fail
                go_roundw
                case rel => exact ⟨j + 1, c, s2.turn.start, by omega, by omega, by go_num, hA9.out⟩
                case measure => simp [intOf]; omega
              · go_wp2_with fail
                go_roundw
                case rel => exact ⟨j + 1, c, s2.turn, by omega, by omega, by go_num, H8.out⟩
                case measure => simp [intOf]; omega
        · have h3b : (bits .and .i64 (A j) 3 == 0) = false := by simpa using h3
          by_cases hcm : c = M
          · skip
            have hst := ostep_full q _ _ _ _ _ wr OC.out.o (by omega)
            have hst2 := fun k => rostep_full qr pr _ _ _ (OC.out.ro.drewN k) (by omega)
            have HST := Lib.hid hst
            have HST2 := Lib.hid hst2
            clear hst hst2
            go_wp2_with fail
            refine HST.out.mono ?_
            rintro e w5 ⟨rfl, k5, rfl⟩
            go_wp2_with fail
            refine (HST2.out k5).mono ?_
            rintro e w6 ⟨rfl, k6, rfl⟩
            go_wp2_with fail
            have h6 := OC.out.drewN (k5 + k6)
            have h6d := OC.out.drewN (k5 + k6 + 1)
            obtain ⟨k1, k2, k3, k4⟩ := OcR.calls (w := w) (x := x) (y := y) (p := p) (g := g) (q := q) (pr := pr) (gr := gr) (qr := qr) (s := s) (c := c) (M := M) rc sc RC.out SC.out
            have H6 := Lib.hid h6
            have H6D := Lib.hid h6d
            have K1 := Lib.hid k1
            have K2 := Lib.hid k2
            have K3 := Lib.hid k3
            have K4 := Lib.hid k4
            clear h6 h6d k1 k2 k3 k4
            refine wp_region_held_drew (S := (fun w' => w'.cell? ⟨qr, 1, none⟩ = some (.int .i64 c) ∧ w'.cell? ⟨qr, 2, none⟩ = some (.int .i64 M) ∧ w'.rangeAt x 0 rc ∧ w'.rangeAt y 0 sc)) (by kernel_rfl) (H6.out.S _ _ RC.out SC.out) (fun hHeld => ?_)
            refine wpAnyH_take (i := 0) (oi := ({ dst := some 83, op := Op.move (Operand.tmp 18), type := 33, pos := "law.go:44", after := #[], guard := none } : Oper)) (v := ?v0_4) rfl (by kernel_rfl) (by kernel_rfl) (by kernel_rfl) (fun _ _ _ h => h) (Or.inl ⟨by rfl, ?hy0_4⟩) (by assumption) ?rest0_4
            case hy0_4 => (intro w hSw; (try dsimp only at hSw); go_simp; try (with_reducible rfl))
            (try simp only [Act.put, List.setIfInBounds_toArray, List.set_cons_zero, List.set_cons_succ])
            refine wpAnyH_take (i := 2) (oi := ({ dst := some 85, op := Op.move (Operand.tmp 19), type := 3, pos := "law.go:44", after := #[], guard := none } : Oper)) (v := ?v2_4) rfl (by kernel_rfl) (by kernel_rfl) (by kernel_rfl) (fun _ _ _ h => h) (Or.inl ⟨by rfl, ?hy2_4⟩) (by assumption) ?rest2_4
            case hy2_4 => (intro w hSw; (try dsimp only at hSw); go_simp; try (with_reducible rfl))
            (try simp only [Act.put, List.setIfInBounds_toArray, List.set_cons_zero, List.set_cons_succ])
            refine wpAnyH_ready (rs := [1]) (by kernel_rfl) (by simp) ?_
            refine AllReadyH.cons (o := ({ dst := some 84, op := Op.call { callee := Callee.value (Operand.func 18), args := #[Operand.tmp 83], argTypes := #[33] }, type := 3, pos := "law.go:44", after := #[{ on := 0, ground := Ground.data }], guard := none } : Oper)) rfl (fun K hK => ?_) AllReadyH.nil
            go_simp
            (refine (num20_any _ _).mono ?_; rintro e w' ⟨rfl, rfl⟩)
            (try dsimp only)
            refine hK.out _ _ (H6.out.S _ _ RC.out SC.out) (fun hHeld => ?_)
            clear hK K
            (try simp only [Act.put, List.setIfInBounds_toArray, List.set_cons_zero, List.set_cons_succ])
            refine wpAnyH_take (i := 3) (oi := ({ dst := some 86, op := Op.binOp BinOp.neq 3 (Operand.tmp 84) (Operand.tmp 85) 3, type := 4, pos := "law.go:44", after := #[{ on := 1, ground := Ground.data }, { on := 2, ground := Ground.data }], guard := none } : Oper)) (v := ?v3_4) rfl (by kernel_rfl) (by kernel_rfl) (by kernel_rfl) (fun _ _ _ h => h) (Or.inl ⟨by rfl, ?hy3_4⟩) (by assumption) ?rest3_4
            case hy3_4 => (intro w hSw; (try dsimp only at hSw); go_simp; try (with_reducible rfl))
            (try simp only [Act.put, List.setIfInBounds_toArray, List.set_cons_zero, List.set_cons_succ])
            refine wpAnyH_take (i := 4) (oi := ({ dst := some 87, op := Op.move (Operand.tmp 86), type := 4, pos := "law.go:44", after := #[{ on := 3, ground := Ground.data }, { on := 1, ground := Ground.chain }], guard := none } : Oper)) (v := ?v4_4) rfl (by kernel_rfl) (by kernel_rfl) (by kernel_rfl) (fun _ _ _ h => h) (Or.inl ⟨by rfl, ?hy4_4⟩) (by assumption) ?rest4_4
            case hy4_4 => (intro w hSw; (try dsimp only at hSw); go_simp; try (with_reducible rfl))
            (try simp only [Act.put, List.setIfInBounds_toArray, List.set_cons_zero, List.set_cons_succ])
            refine wpAnyH_take (i := 5) (oi := ({ dst := some 88, op := Op.move (Operand.tmp 14), type := 28, pos := "law.go:44", after := #[{ on := 4, ground := Ground.guard }], guard := some (4, false) } : Oper)) (v := ?v5_4) rfl (by kernel_rfl) (by kernel_rfl) (by kernel_rfl) (fun _ _ _ h => h) (Or.inl ⟨by rfl, ?hy5_4⟩) (by assumption) ?rest5_4
            case hy5_4 => (intro w hSw; (try dsimp only at hSw); go_simp; try (with_reducible rfl))
            (try simp only [Act.put, List.setIfInBounds_toArray, List.set_cons_zero, List.set_cons_succ])
            refine wpAnyH_take (i := 7) (oi := ({ dst := some 90, op := Op.move (Operand.tmp 15), type := 42, pos := "law.go:44", after := #[{ on := 4, ground := Ground.guard }], guard := some (4, false) } : Oper)) (v := ?v7_4) rfl (by kernel_rfl) (by kernel_rfl) (by kernel_rfl) (fun _ _ _ h => h) (Or.inl ⟨by rfl, ?hy7_4⟩) (by assumption) ?rest7_4
            case hy7_4 => (intro w hSw; (try dsimp only at hSw); go_simp; try (with_reducible rfl))
            (try simp only [Act.put, List.setIfInBounds_toArray, List.set_cons_zero, List.set_cons_succ])
            refine wpAnyH_take (i := 8) (oi := ({ dst := some 91, op := Op.nilCheck (Operand.tmp 90), type := 0, pos := "law.go:44", after := #[{ on := 7, ground := Ground.data }, { on := 4, ground := Ground.guard }], guard := some (4, false) } : Oper)) (v := ?v8_4) rfl (by kernel_rfl) (by kernel_rfl) (by kernel_rfl) (fun _ _ _ h => h) (Or.inl ⟨by rfl, ?hy8_4⟩) (by assumption) ?rest8_4
            case hy8_4 => (intro w hSw; (try dsimp only at hSw); go_simp; try (with_reducible rfl))
            (try simp only [Act.put, List.setIfInBounds_toArray, List.set_cons_zero, List.set_cons_succ])
            refine wpAnyH_take (i := 9) (oi := ({ dst := some 92, op := Op.fieldAddr 46 (Operand.tmp 91) 1, type := 0, pos := "law.go:44", after := #[{ on := 8, ground := Ground.data }, { on := 4, ground := Ground.guard }], guard := some (4, false) } : Oper)) (v := ?v9_4) rfl (by kernel_rfl) (by kernel_rfl) (by kernel_rfl) (fun _ _ _ h => h) (Or.inl ⟨by rfl, ?hy9_4⟩) (by assumption) ?rest9_4
            case hy9_4 => (intro w hSw; (try dsimp only at hSw); go_simp; try (with_reducible rfl))
            (try simp only [Act.put, List.setIfInBounds_toArray, List.set_cons_zero, List.set_cons_succ])
            refine wpAnyH_take (i := 10) (oi := ({ dst := some 93, op := Op.load 3 (Operand.tmp 92), type := 3, pos := "law.go:44", after := #[{ on := 9, ground := Ground.data }, { on := 4, ground := Ground.guard }], guard := some (4, false) } : Oper)) (v := ?v10_4) rfl (by kernel_rfl) (by kernel_rfl) (by kernel_rfl) (fun _ _ _ h => h) (Or.inl ⟨by rfl, ?hy10_4⟩) (by assumption) ?rest10_4
            case hy10_4 => (intro w hSw; (try dsimp only at hSw); go_simp; try (with_reducible rfl))
            (try simp only [Act.put, List.setIfInBounds_toArray, List.set_cons_zero, List.set_cons_succ])
            refine wpAnyH_ready (rs := [6]) (by kernel_rfl) (by simp) ?_
            refine AllReadyH.cons (o := ({ dst := some 89, op := Op.call { callee := Callee.value (Operand.func 19), args := #[Operand.tmp 88], argTypes := #[28] }, type := 3, pos := "law.go:44", after := #[{ on := 5, ground := Ground.data }, { on := 4, ground := Ground.chain }, { on := 4, ground := Ground.guard }], guard := some (4, false) } : Oper)) rfl (fun K hK => ?_) AllReadyH.nil
            go_simp
            (refine (K1.out _ H6D.out).mono ?_; rintro e w' ⟨rfl, rfl⟩)
            (try dsimp only)
            refine hK.out _ _ (H6.out.S _ _ RC.out SC.out) (fun hHeld => ?_)
            clear hK K
            (try simp only [Act.put, List.setIfInBounds_toArray, List.set_cons_zero, List.set_cons_succ])
            refine wpAnyH_take (i := 11) (oi := ({ dst := some 94, op := Op.binOp BinOp.neq 3 (Operand.tmp 89) (Operand.tmp 93) 3, type := 4, pos := "law.go:44", after := #[{ on := 6, ground := Ground.data }, { on := 10, ground := Ground.data }, { on := 4, ground := Ground.guard }], guard := some (4, false) } : Oper)) (v := ?v11_4) rfl (by kernel_rfl) (by kernel_rfl) (by kernel_rfl) (fun _ _ _ h => h) (Or.inl ⟨by rfl, ?hy11_4⟩) (by assumption) ?rest11_4
            case hy11_4 => (intro w hSw; (try dsimp only at hSw); go_simp; try (with_reducible rfl))
            (try simp only [Act.put, List.setIfInBounds_toArray, List.set_cons_zero, List.set_cons_succ])
            refine wpAnyH_take (i := 12) (oi := ({ dst := some 95, op := Op.pick (Operand.tmp 87) (Operand.const (Value.bool true)) (Operand.tmp 94), type := 4, pos := "law.go:44", after := #[{ on := 4, ground := Ground.data }, { on := 11, ground := Ground.data }], guard := none } : Oper)) (v := ?v12_4) rfl (by kernel_rfl) (by kernel_rfl) (by kernel_rfl) (fun _ _ _ h => h) (Or.inl ⟨by rfl, ?hy12_4⟩) (by assumption) ?rest12_4
            case hy12_4 => (intro w hSw; (try dsimp only at hSw); go_simp; try (with_reducible rfl))
            (try simp only [Act.put, List.setIfInBounds_toArray, List.set_cons_zero, List.set_cons_succ])
            refine wpAnyH_take (i := 13) (oi := ({ dst := some 96, op := Op.move (Operand.tmp 95), type := 4, pos := "law.go:44", after := #[{ on := 12, ground := Ground.data }, { on := 6, ground := Ground.chain }], guard := none } : Oper)) (v := ?v13_4) rfl (by kernel_rfl) (by kernel_rfl) (by kernel_rfl) (fun _ _ _ h => h) (Or.inl ⟨by rfl, ?hy13_4⟩) (by assumption) ?rest13_4
            case hy13_4 => (intro w hSw; (try dsimp only at hSw); go_simp; try (with_reducible rfl))
            (try simp only [Act.put, List.setIfInBounds_toArray, List.set_cons_zero, List.set_cons_succ])
            refine wpAnyH_take (i := 14) (oi := ({ dst := some 97, op := Op.move (Operand.tmp 14), type := 28, pos := "law.go:44", after := #[{ on := 13, ground := Ground.guard }], guard := some (13, false) } : Oper)) (v := ?v14_4) rfl (by kernel_rfl) (by kernel_rfl) (by kernel_rfl) (fun _ _ _ h => h) (Or.inl ⟨by rfl, ?hy14_4⟩) (by assumption) ?rest14_4
            case hy14_4 => (intro w hSw; (try dsimp only at hSw); go_simp; try (with_reducible rfl))
            (try simp only [Act.put, List.setIfInBounds_toArray, List.set_cons_zero, List.set_cons_succ])
            refine wpAnyH_take (i := 16) (oi := ({ dst := some 99, op := Op.move (Operand.tmp 15), type := 42, pos := "law.go:44", after := #[{ on := 13, ground := Ground.guard }], guard := some (13, false) } : Oper)) (v := ?v16_4) rfl (by kernel_rfl) (by kernel_rfl) (by kernel_rfl) (fun _ _ _ h => h) (Or.inl ⟨by rfl, ?hy16_4⟩) (by assumption) ?rest16_4
            case hy16_4 => (intro w hSw; (try dsimp only at hSw); go_simp; try (with_reducible rfl))
            (try simp only [Act.put, List.setIfInBounds_toArray, List.set_cons_zero, List.set_cons_succ])
            refine wpAnyH_take (i := 17) (oi := ({ dst := some 100, op := Op.nilCheck (Operand.tmp 99), type := 0, pos := "law.go:44", after := #[{ on := 16, ground := Ground.data }, { on := 13, ground := Ground.guard }], guard := some (13, false) } : Oper)) (v := ?v17_4) rfl (by kernel_rfl) (by kernel_rfl) (by kernel_rfl) (fun _ _ _ h => h) (Or.inl ⟨by rfl, ?hy17_4⟩) (by assumption) ?rest17_4
            case hy17_4 => (intro w hSw; (try dsimp only at hSw); go_simp; try (with_reducible rfl))
            (try simp only [Act.put, List.setIfInBounds_toArray, List.set_cons_zero, List.set_cons_succ])
            refine wpAnyH_take (i := 18) (oi := ({ dst := some 101, op := Op.fieldAddr 46 (Operand.tmp 100) 2, type := 0, pos := "law.go:44", after := #[{ on := 17, ground := Ground.data }, { on := 13, ground := Ground.guard }], guard := some (13, false) } : Oper)) (v := ?v18_4) rfl (by kernel_rfl) (by kernel_rfl) (by kernel_rfl) (fun _ _ _ h => h) (Or.inl ⟨by rfl, ?hy18_4⟩) (by assumption) ?rest18_4
            case hy18_4 => (intro w hSw; (try dsimp only at hSw); go_simp; try (with_reducible rfl))
            (try simp only [Act.put, List.setIfInBounds_toArray, List.set_cons_zero, List.set_cons_succ])
            refine wpAnyH_take (i := 19) (oi := ({ dst := some 102, op := Op.load 3 (Operand.tmp 101), type := 3, pos := "law.go:44", after := #[{ on := 18, ground := Ground.data }, { on := 13, ground := Ground.guard }], guard := some (13, false) } : Oper)) (v := ?v19_4) rfl (by kernel_rfl) (by kernel_rfl) (by kernel_rfl) (fun _ _ _ h => h) (Or.inl ⟨by rfl, ?hy19_4⟩) (by assumption) ?rest19_4
            case hy19_4 => (intro w hSw; (try dsimp only at hSw); go_simp; try (with_reducible rfl))
            (try simp only [Act.put, List.setIfInBounds_toArray, List.set_cons_zero, List.set_cons_succ])
            refine wpAnyH_ready (rs := [15]) (by kernel_rfl) (by simp) ?_
            refine AllReadyH.cons (o := ({ dst := some 98, op := Op.call { callee := Callee.value (Operand.func 26), args := #[Operand.tmp 97], argTypes := #[28] }, type := 3, pos := "law.go:44", after := #[{ on := 14, ground := Ground.data }, { on := 13, ground := Ground.chain }, { on := 13, ground := Ground.guard }], guard := some (13, false) } : Oper)) rfl (fun K hK => ?_) AllReadyH.nil
            go_simp
            (refine (K2.out _ H6D.out).mono ?_; rintro e w' ⟨rfl, rfl⟩)
            (try dsimp only)
            refine hK.out _ _ (H6.out.S _ _ RC.out SC.out) (fun hHeld => ?_)
            clear hK K
            (try simp only [Act.put, List.setIfInBounds_toArray, List.set_cons_zero, List.set_cons_succ])
            refine wpAnyH_take (i := 20) (oi := ({ dst := some 103, op := Op.binOp BinOp.neq 3 (Operand.tmp 98) (Operand.tmp 102) 3, type := 4, pos := "law.go:44", after := #[{ on := 15, ground := Ground.data }, { on := 19, ground := Ground.data }, { on := 13, ground := Ground.guard }], guard := some (13, false) } : Oper)) (v := ?v20_4) rfl (by kernel_rfl) (by kernel_rfl) (by kernel_rfl) (fun _ _ _ h => h) (Or.inl ⟨by rfl, ?hy20_4⟩) (by assumption) ?rest20_4
            case hy20_4 => (intro w hSw; (try dsimp only at hSw); go_simp; try (with_reducible rfl))
            (try simp only [Act.put, List.setIfInBounds_toArray, List.set_cons_zero, List.set_cons_succ])
            refine wpAnyH_take (i := 21) (oi := ({ dst := some 104, op := Op.pick (Operand.tmp 96) (Operand.const (Value.bool true)) (Operand.tmp 103), type := 4, pos := "law.go:44", after := #[{ on := 13, ground := Ground.data }, { on := 20, ground := Ground.data }], guard := none } : Oper)) (v := ?v21_4) rfl (by kernel_rfl) (by kernel_rfl) (by kernel_rfl) (fun _ _ _ h => h) (Or.inl ⟨by rfl, ?hy21_4⟩) (by assumption) ?rest21_4
            case hy21_4 => (intro w hSw; (try dsimp only at hSw); go_simp; try (with_reducible rfl))
            (try simp only [Act.put, List.setIfInBounds_toArray, List.set_cons_zero, List.set_cons_succ])
            refine wpAnyH_take (i := 22) (oi := ({ dst := some 105, op := Op.move (Operand.tmp 104), type := 4, pos := "law.go:44", after := #[{ on := 21, ground := Ground.data }, { on := 15, ground := Ground.chain }], guard := none } : Oper)) (v := ?v22_4) rfl (by kernel_rfl) (by kernel_rfl) (by kernel_rfl) (fun _ _ _ h => h) (Or.inl ⟨by rfl, ?hy22_4⟩) (by assumption) ?rest22_4
            case hy22_4 => (intro w hSw; (try dsimp only at hSw); go_simp; try (with_reducible rfl))
            (try simp only [Act.put, List.setIfInBounds_toArray, List.set_cons_zero, List.set_cons_succ])
            refine wpAnyH_take (i := 23) (oi := ({ dst := some 106, op := Op.move (Operand.tmp 14), type := 28, pos := "law.go:44", after := #[{ on := 22, ground := Ground.guard }], guard := some (22, false) } : Oper)) (v := ?v23_4) rfl (by kernel_rfl) (by kernel_rfl) (by kernel_rfl) (fun _ _ _ h => h) (Or.inl ⟨by rfl, ?hy23_4⟩) (by assumption) ?rest23_4
            case hy23_4 => (intro w hSw; (try dsimp only at hSw); go_simp; try (with_reducible rfl))
            (try simp only [Act.put, List.setIfInBounds_toArray, List.set_cons_zero, List.set_cons_succ])
            refine' wpAnyH_take (i := 25) (oi := ({ dst := some 108, op := Op.load 31 (Operand.tmp 6), type := 31, pos := "law.go:44", after := #[{ on := 22, ground := Ground.guard }], guard := some (22, false) } : Oper)) (v := _) rfl (by kernel_rfl) (by kernel_rfl) (by kernel_rfl) (fun _ _ _ h => h) (yieldsIf_load_mid (by rfl) _ _ rfl _ _ rfl rc _ ?hS25_4 u1 rfl i1) (by assumption) ?rest25_4
            case hS25_4 => (intro w hSw; exact hSw.2.2.1)
            (try simp only [Act.put, List.setIfInBounds_toArray, List.set_cons_zero, List.set_cons_succ])
            refine wpAnyH_ready (rs := [24]) (by kernel_rfl) (by simp) ?_
            refine AllReadyH.cons (o := ({ dst := some 107, op := Op.call { callee := Callee.value (Operand.func 20), args := #[Operand.tmp 106], argTypes := #[28] }, type := 31, pos := "law.go:44", after := #[{ on := 23, ground := Ground.data }, { on := 22, ground := Ground.chain }, { on := 22, ground := Ground.guard }], guard := some (22, false) } : Oper)) rfl (fun K hK => ?_) AllReadyH.nil
            go_simp
            (refine (K3.out _ H6D.out).mono ?_; rintro e w7 ⟨rfl, h7⟩; have H7 := Lib.hid h7; clear h7)
            (try dsimp only)
            refine hK.out _ _ (H7.out.S _ _ RC.out SC.out) (fun hHeld => ?_)
            clear hK K
            (try simp only [Act.put, List.setIfInBounds_toArray, List.set_cons_zero, List.set_cons_succ])
            refine wpAnyH_take (i := 26) (oi := ({ dst := some 109, op := Op.binOp BinOp.neq 31 (Operand.tmp 107) (Operand.tmp 108) 31, type := 4, pos := "law.go:44", after := #[{ on := 24, ground := Ground.data }, { on := 25, ground := Ground.data }, { on := 22, ground := Ground.guard }], guard := some (22, false) } : Oper)) (v := ?v26_4) rfl (by kernel_rfl) (by kernel_rfl) (by kernel_rfl) (fun _ _ _ h => h) (Or.inl ⟨by rfl, ?hy26_4⟩) (by assumption) ?rest26_4
            case hy26_4 => (intro w hSw; (try dsimp only at hSw); go_simp; try (with_reducible rfl))
            (try simp only [Act.put, List.setIfInBounds_toArray, List.set_cons_zero, List.set_cons_succ])
            refine wpAnyH_take (i := 27) (oi := ({ dst := some 110, op := Op.pick (Operand.tmp 105) (Operand.const (Value.bool true)) (Operand.tmp 109), type := 4, pos := "law.go:44", after := #[{ on := 22, ground := Ground.data }, { on := 26, ground := Ground.data }], guard := none } : Oper)) (v := ?v27_4) rfl (by kernel_rfl) (by kernel_rfl) (by kernel_rfl) (fun _ _ _ h => h) (Or.inl ⟨by rfl, ?hy27_4⟩) (by assumption) ?rest27_4
            case hy27_4 => (intro w hSw; (try dsimp only at hSw); go_simp; try (with_reducible rfl))
            (try simp only [Act.put, List.setIfInBounds_toArray, List.set_cons_zero, List.set_cons_succ])
            refine wpAnyH_take (i := 28) (oi := ({ dst := some 111, op := Op.move (Operand.tmp 110), type := 4, pos := "law.go:44", after := #[{ on := 27, ground := Ground.data }, { on := 24, ground := Ground.chain }], guard := none } : Oper)) (v := ?v28_4) rfl (by kernel_rfl) (by kernel_rfl) (by kernel_rfl) (fun _ _ _ h => h) (Or.inl ⟨by rfl, ?hy28_4⟩) (by assumption) ?rest28_4
            case hy28_4 => (intro w hSw; (try dsimp only at hSw); go_simp; try (with_reducible rfl))
            (try simp only [Act.put, List.setIfInBounds_toArray, List.set_cons_zero, List.set_cons_succ])
            refine wpAnyH_take (i := 29) (oi := ({ dst := some 112, op := Op.move (Operand.tmp 14), type := 28, pos := "law.go:44", after := #[{ on := 28, ground := Ground.guard }], guard := some (28, false) } : Oper)) (v := ?v29_4) rfl (by kernel_rfl) (by kernel_rfl) (by kernel_rfl) (fun _ _ _ h => h) (Or.inl ⟨by rfl, ?hy29_4⟩) (by assumption) ?rest29_4
            case hy29_4 => (intro w hSw; (try dsimp only at hSw); go_simp; try (with_reducible rfl))
            (try simp only [Act.put, List.setIfInBounds_toArray, List.set_cons_zero, List.set_cons_succ])
            refine' wpAnyH_take (i := 31) (oi := ({ dst := some 114, op := Op.load 31 (Operand.tmp 7), type := 31, pos := "law.go:44", after := #[{ on := 28, ground := Ground.guard }], guard := some (28, false) } : Oper)) (v := _) rfl (by kernel_rfl) (by kernel_rfl) (by kernel_rfl) (fun _ _ _ h => h) (yieldsIf_load_mid (by rfl) _ _ rfl _ _ rfl sc _ ?hS31_4 u1 rfl i2) (by assumption) ?rest31_4
            case hS31_4 => (intro w hSw; exact hSw.2.2.2)
            (try simp only [Act.put, List.setIfInBounds_toArray, List.set_cons_zero, List.set_cons_succ])
            refine wpAnyH_ready (rs := [30]) (by kernel_rfl) (by simp) ?_
            refine AllReadyH.cons (o := ({ dst := some 113, op := Op.call { callee := Callee.value (Operand.func 21), args := #[Operand.tmp 112], argTypes := #[28] }, type := 31, pos := "law.go:44", after := #[{ on := 29, ground := Ground.data }, { on := 28, ground := Ground.chain }, { on := 28, ground := Ground.guard }], guard := some (28, false) } : Oper)) rfl (fun K hK => ?_) AllReadyH.nil
            go_simp
            (refine (K4.out _ H7.out).mono ?_; rintro e w8 ⟨rfl, h8⟩; have H8 := Lib.hid h8; clear h8)
            (try dsimp only)
            refine hK.out _ _ (H8.out.S _ _ RC.out SC.out) (fun hHeld => ?_)
            clear hK K
            (try simp only [Act.put, List.setIfInBounds_toArray, List.set_cons_zero, List.set_cons_succ])
            refine wpAnyH_take (i := 32) (oi := ({ dst := some 115, op := Op.binOp BinOp.neq 31 (Operand.tmp 113) (Operand.tmp 114) 31, type := 4, pos := "law.go:44", after := #[{ on := 30, ground := Ground.data }, { on := 31, ground := Ground.data }, { on := 28, ground := Ground.guard }], guard := some (28, false) } : Oper)) (v := ?v32_4) rfl (by kernel_rfl) (by kernel_rfl) (by kernel_rfl) (fun _ _ _ h => h) (Or.inl ⟨by rfl, ?hy32_4⟩) (by assumption) ?rest32_4
            case hy32_4 => (intro w hSw; (try dsimp only at hSw); go_simp; try (with_reducible rfl))
            (try simp only [Act.put, List.setIfInBounds_toArray, List.set_cons_zero, List.set_cons_succ])
            refine wpAnyH_take (i := 33) (oi := ({ dst := some 116, op := Op.pick (Operand.tmp 111) (Operand.const (Value.bool true)) (Operand.tmp 115), type := 4, pos := "law.go:44", after := #[{ on := 28, ground := Ground.data }, { on := 32, ground := Ground.data }], guard := none } : Oper)) (v := ?v33_4) rfl (by kernel_rfl) (by kernel_rfl) (by kernel_rfl) (fun _ _ _ h => h) (Or.inl ⟨by rfl, ?hy33_4⟩) (by assumption) ?rest33_4
            case hy33_4 => (intro w hSw; (try dsimp only at hSw); go_simp; try (with_reducible rfl))
            (try simp only [Act.put, List.setIfInBounds_toArray, List.set_cons_zero, List.set_cons_succ])
            refine wpAnyH_done (by kernel_rfl) ?_ _
            go_wp2_with fail
            go_roundw
            case rel => exact ⟨j + 1, c, s, by omega, by omega, by go_num, H8.out⟩
            case measure => simp [intOf]; omega
          · have hcm2 : ((c : Int) == (M : Int)) = false := by rw [beq_eq_false_iff_ne]; omega
            have hqs : q ≠ p ∧ q ≠ g ∧ qr ≠ pr ∧ qr ≠ gr := by have := OB.out.pg; omega
            obtain ⟨d1, d2, d3, d4⟩ := hqs
            have HCM := Lib.hid hcm2
            clear hcm2
            cases ht : s.turnOk with
            | true =>
              have hst := ostep_ok q p g s _ _ c M wr OC.out.o OC.out.fl d1 d2 HCM.out ht (by omega)
              have hst2 := fun w h1 h2 => rostep_ok qr pr gr s c M w h1 h2 d3 d4 HCM.out ht (by omega)
              have HST := Lib.hid hst
              have HST2 := Lib.hid hst2
              clear hst hst2 ht
              go_wp2_with fail
              refine HST.out.mono ?_
              rintro e w5 ⟨rfl, hf5, ho5, hk5, -⟩
              obtain ⟨e1, e2, e3⟩ := OC.out.own OB.out hk5 hf5 (by simpa using ho5 : IsOtp w5 q (.pointer (some ⟨p, 0, none⟩)) r sx ((c + 1 : Nat) : Int) M)
              have E1 := Lib.hid e1
              have E2 := Lib.hid e2
              have E3 := Lib.hid e3
              have F5 := Lib.hid hf5
              have O5 := Lib.hid ho5
              clear e1 e2 e3 hf5 ho5 hk5
              go_wp2_with fail
              refine (HST2.out w5 E2.out E1.out).mono ?_
              rintro e w6 ⟨rfl, hf6, ho6, hk6, -⟩
              have h6 := OcR.both (c' := c + 1) OB.out F5.out (by simpa using O5.out) E3.out hk6 hf6 (by simpa using ho6)
              have h6d := h6.drew
              clear hf6 ho6 hk6
              go_wp2_with fail
              obtain ⟨k1, k2, k3, k4⟩ := OcR.calls (w := w) (x := x) (y := y) (p := p) (g := g) (q := q) (pr := pr) (gr := gr) (qr := qr) (s := s.turn) (c := (c + 1)) (M := M) rc sc RC.out SC.out
              have H6 := Lib.hid h6
              have H6D := Lib.hid h6d
              have K1 := Lib.hid k1
              have K2 := Lib.hid k2
              have K3 := Lib.hid k3
              have K4 := Lib.hid k4
              clear h6 h6d k1 k2 k3 k4
              refine wp_region_held_drew (S := (fun w' => w'.cell? ⟨qr, 1, none⟩ = some (.int .i64 (c + 1 : Nat)) ∧ w'.cell? ⟨qr, 2, none⟩ = some (.int .i64 M) ∧ w'.rangeAt x 0 rc ∧ w'.rangeAt y 0 sc)) (by kernel_rfl) (H6.out.S _ _ RC.out SC.out) (fun hHeld => ?_)
              refine wpAnyH_take (i := 0) (oi := ({ dst := some 83, op := Op.move (Operand.tmp 18), type := 33, pos := "law.go:44", after := #[], guard := none } : Oper)) (v := ?v0_5) rfl (by kernel_rfl) (by kernel_rfl) (by kernel_rfl) (fun _ _ _ h => h) (Or.inl ⟨by rfl, ?hy0_5⟩) (by assumption) ?rest0_5
              case hy0_5 => (intro w hSw; (try dsimp only at hSw); go_simp; try (with_reducible rfl))
              (try simp only [Act.put, List.setIfInBounds_toArray, List.set_cons_zero, List.set_cons_succ])
              refine wpAnyH_take (i := 2) (oi := ({ dst := some 85, op := Op.move (Operand.tmp 19), type := 3, pos := "law.go:44", after := #[], guard := none } : Oper)) (v := ?v2_5) rfl (by kernel_rfl) (by kernel_rfl) (by kernel_rfl) (fun _ _ _ h => h) (Or.inl ⟨by rfl, ?hy2_5⟩) (by assumption) ?rest2_5
              case hy2_5 => (intro w hSw; (try dsimp only at hSw); go_simp; try (with_reducible rfl))
              (try simp only [Act.put, List.setIfInBounds_toArray, List.set_cons_zero, List.set_cons_succ])
              refine wpAnyH_ready (rs := [1]) (by kernel_rfl) (by simp) ?_
              refine AllReadyH.cons (o := ({ dst := some 84, op := Op.call { callee := Callee.value (Operand.func 18), args := #[Operand.tmp 83], argTypes := #[33] }, type := 3, pos := "law.go:44", after := #[{ on := 0, ground := Ground.data }], guard := none } : Oper)) rfl (fun K hK => ?_) AllReadyH.nil
              go_simp
              (refine (num20_any _ _).mono ?_; rintro e w' ⟨rfl, rfl⟩)
              (try dsimp only)
              refine hK.out _ _ (H6.out.S _ _ RC.out SC.out) (fun hHeld => ?_)
              clear hK K
              (try simp only [Act.put, List.setIfInBounds_toArray, List.set_cons_zero, List.set_cons_succ])
              refine wpAnyH_take (i := 3) (oi := ({ dst := some 86, op := Op.binOp BinOp.neq 3 (Operand.tmp 84) (Operand.tmp 85) 3, type := 4, pos := "law.go:44", after := #[{ on := 1, ground := Ground.data }, { on := 2, ground := Ground.data }], guard := none } : Oper)) (v := ?v3_5) rfl (by kernel_rfl) (by kernel_rfl) (by kernel_rfl) (fun _ _ _ h => h) (Or.inl ⟨by rfl, ?hy3_5⟩) (by assumption) ?rest3_5
              case hy3_5 => (intro w hSw; (try dsimp only at hSw); go_simp; try (with_reducible rfl))
              (try simp only [Act.put, List.setIfInBounds_toArray, List.set_cons_zero, List.set_cons_succ])
              refine wpAnyH_take (i := 4) (oi := ({ dst := some 87, op := Op.move (Operand.tmp 86), type := 4, pos := "law.go:44", after := #[{ on := 3, ground := Ground.data }, { on := 1, ground := Ground.chain }], guard := none } : Oper)) (v := ?v4_5) rfl (by kernel_rfl) (by kernel_rfl) (by kernel_rfl) (fun _ _ _ h => h) (Or.inl ⟨by rfl, ?hy4_5⟩) (by assumption) ?rest4_5
              case hy4_5 => (intro w hSw; (try dsimp only at hSw); go_simp; try (with_reducible rfl))
              (try simp only [Act.put, List.setIfInBounds_toArray, List.set_cons_zero, List.set_cons_succ])
              refine wpAnyH_take (i := 5) (oi := ({ dst := some 88, op := Op.move (Operand.tmp 14), type := 28, pos := "law.go:44", after := #[{ on := 4, ground := Ground.guard }], guard := some (4, false) } : Oper)) (v := ?v5_5) rfl (by kernel_rfl) (by kernel_rfl) (by kernel_rfl) (fun _ _ _ h => h) (Or.inl ⟨by rfl, ?hy5_5⟩) (by assumption) ?rest5_5
              case hy5_5 => (intro w hSw; (try dsimp only at hSw); go_simp; try (with_reducible rfl))
              (try simp only [Act.put, List.setIfInBounds_toArray, List.set_cons_zero, List.set_cons_succ])
              refine wpAnyH_take (i := 7) (oi := ({ dst := some 90, op := Op.move (Operand.tmp 15), type := 42, pos := "law.go:44", after := #[{ on := 4, ground := Ground.guard }], guard := some (4, false) } : Oper)) (v := ?v7_5) rfl (by kernel_rfl) (by kernel_rfl) (by kernel_rfl) (fun _ _ _ h => h) (Or.inl ⟨by rfl, ?hy7_5⟩) (by assumption) ?rest7_5
              case hy7_5 => (intro w hSw; (try dsimp only at hSw); go_simp; try (with_reducible rfl))
              (try simp only [Act.put, List.setIfInBounds_toArray, List.set_cons_zero, List.set_cons_succ])
              refine wpAnyH_take (i := 8) (oi := ({ dst := some 91, op := Op.nilCheck (Operand.tmp 90), type := 0, pos := "law.go:44", after := #[{ on := 7, ground := Ground.data }, { on := 4, ground := Ground.guard }], guard := some (4, false) } : Oper)) (v := ?v8_5) rfl (by kernel_rfl) (by kernel_rfl) (by kernel_rfl) (fun _ _ _ h => h) (Or.inl ⟨by rfl, ?hy8_5⟩) (by assumption) ?rest8_5
              case hy8_5 => (intro w hSw; (try dsimp only at hSw); go_simp; try (with_reducible rfl))
              (try simp only [Act.put, List.setIfInBounds_toArray, List.set_cons_zero, List.set_cons_succ])
              refine wpAnyH_take (i := 9) (oi := ({ dst := some 92, op := Op.fieldAddr 46 (Operand.tmp 91) 1, type := 0, pos := "law.go:44", after := #[{ on := 8, ground := Ground.data }, { on := 4, ground := Ground.guard }], guard := some (4, false) } : Oper)) (v := ?v9_5) rfl (by kernel_rfl) (by kernel_rfl) (by kernel_rfl) (fun _ _ _ h => h) (Or.inl ⟨by rfl, ?hy9_5⟩) (by assumption) ?rest9_5
              case hy9_5 => (intro w hSw; (try dsimp only at hSw); go_simp; try (with_reducible rfl))
              (try simp only [Act.put, List.setIfInBounds_toArray, List.set_cons_zero, List.set_cons_succ])
              refine wpAnyH_take (i := 10) (oi := ({ dst := some 93, op := Op.load 3 (Operand.tmp 92), type := 3, pos := "law.go:44", after := #[{ on := 9, ground := Ground.data }, { on := 4, ground := Ground.guard }], guard := some (4, false) } : Oper)) (v := ?v10_5) rfl (by kernel_rfl) (by kernel_rfl) (by kernel_rfl) (fun _ _ _ h => h) (Or.inl ⟨by rfl, ?hy10_5⟩) (by assumption) ?rest10_5
              case hy10_5 => (intro w hSw; (try dsimp only at hSw); go_simp; try (with_reducible rfl))
              (try simp only [Act.put, List.setIfInBounds_toArray, List.set_cons_zero, List.set_cons_succ])
              refine wpAnyH_ready (rs := [6]) (by kernel_rfl) (by simp) ?_
              refine AllReadyH.cons (o := ({ dst := some 89, op := Op.call { callee := Callee.value (Operand.func 19), args := #[Operand.tmp 88], argTypes := #[28] }, type := 3, pos := "law.go:44", after := #[{ on := 5, ground := Ground.data }, { on := 4, ground := Ground.chain }, { on := 4, ground := Ground.guard }], guard := some (4, false) } : Oper)) rfl (fun K hK => ?_) AllReadyH.nil
              go_simp
              (refine (K1.out _ H6D.out).mono ?_; rintro e w' ⟨rfl, rfl⟩)
              (try dsimp only)
              refine hK.out _ _ (H6.out.S _ _ RC.out SC.out) (fun hHeld => ?_)
              clear hK K
              (try simp only [Act.put, List.setIfInBounds_toArray, List.set_cons_zero, List.set_cons_succ])
              refine wpAnyH_take (i := 11) (oi := ({ dst := some 94, op := Op.binOp BinOp.neq 3 (Operand.tmp 89) (Operand.tmp 93) 3, type := 4, pos := "law.go:44", after := #[{ on := 6, ground := Ground.data }, { on := 10, ground := Ground.data }, { on := 4, ground := Ground.guard }], guard := some (4, false) } : Oper)) (v := ?v11_5) rfl (by kernel_rfl) (by kernel_rfl) (by kernel_rfl) (fun _ _ _ h => h) (Or.inl ⟨by rfl, ?hy11_5⟩) (by assumption) ?rest11_5
              case hy11_5 => (intro w hSw; (try dsimp only at hSw); go_simp; try (with_reducible rfl))
              (try simp only [Act.put, List.setIfInBounds_toArray, List.set_cons_zero, List.set_cons_succ])
              refine wpAnyH_take (i := 12) (oi := ({ dst := some 95, op := Op.pick (Operand.tmp 87) (Operand.const (Value.bool true)) (Operand.tmp 94), type := 4, pos := "law.go:44", after := #[{ on := 4, ground := Ground.data }, { on := 11, ground := Ground.data }], guard := none } : Oper)) (v := ?v12_5) rfl (by kernel_rfl) (by kernel_rfl) (by kernel_rfl) (fun _ _ _ h => h) (Or.inl ⟨by rfl, ?hy12_5⟩) (by assumption) ?rest12_5
              case hy12_5 => (intro w hSw; (try dsimp only at hSw); go_simp; try (with_reducible rfl))
              (try simp only [Act.put, List.setIfInBounds_toArray, List.set_cons_zero, List.set_cons_succ])
              refine wpAnyH_take (i := 13) (oi := ({ dst := some 96, op := Op.move (Operand.tmp 95), type := 4, pos := "law.go:44", after := #[{ on := 12, ground := Ground.data }, { on := 6, ground := Ground.chain }], guard := none } : Oper)) (v := ?v13_5) rfl (by kernel_rfl) (by kernel_rfl) (by kernel_rfl) (fun _ _ _ h => h) (Or.inl ⟨by rfl, ?hy13_5⟩) (by assumption) ?rest13_5
              case hy13_5 => (intro w hSw; (try dsimp only at hSw); go_simp; try (with_reducible rfl))
              (try simp only [Act.put, List.setIfInBounds_toArray, List.set_cons_zero, List.set_cons_succ])
              refine wpAnyH_take (i := 14) (oi := ({ dst := some 97, op := Op.move (Operand.tmp 14), type := 28, pos := "law.go:44", after := #[{ on := 13, ground := Ground.guard }], guard := some (13, false) } : Oper)) (v := ?v14_5) rfl (by kernel_rfl) (by kernel_rfl) (by kernel_rfl) (fun _ _ _ h => h) (Or.inl ⟨by rfl, ?hy14_5⟩) (by assumption) ?rest14_5
              case hy14_5 => (intro w hSw; (try dsimp only at hSw); go_simp; try (with_reducible rfl))
              (try simp only [Act.put, List.setIfInBounds_toArray, List.set_cons_zero, List.set_cons_succ])
              refine wpAnyH_take (i := 16) (oi := ({ dst := some 99, op := Op.move (Operand.tmp 15), type := 42, pos := "law.go:44", after := #[{ on := 13, ground := Ground.guard }], guard := some (13, false) } : Oper)) (v := ?v16_5) rfl (by kernel_rfl) (by kernel_rfl) (by kernel_rfl) (fun _ _ _ h => h) (Or.inl ⟨by rfl, ?hy16_5⟩) (by assumption) ?rest16_5
              case hy16_5 => (intro w hSw; (try dsimp only at hSw); go_simp; try (with_reducible rfl))
              (try simp only [Act.put, List.setIfInBounds_toArray, List.set_cons_zero, List.set_cons_succ])
              refine wpAnyH_take (i := 17) (oi := ({ dst := some 100, op := Op.nilCheck (Operand.tmp 99), type := 0, pos := "law.go:44", after := #[{ on := 16, ground := Ground.data }, { on := 13, ground := Ground.guard }], guard := some (13, false) } : Oper)) (v := ?v17_5) rfl (by kernel_rfl) (by kernel_rfl) (by kernel_rfl) (fun _ _ _ h => h) (Or.inl ⟨by rfl, ?hy17_5⟩) (by assumption) ?rest17_5
              case hy17_5 => (intro w hSw; (try dsimp only at hSw); go_simp; try (with_reducible rfl))
              (try simp only [Act.put, List.setIfInBounds_toArray, List.set_cons_zero, List.set_cons_succ])
              refine wpAnyH_take (i := 18) (oi := ({ dst := some 101, op := Op.fieldAddr 46 (Operand.tmp 100) 2, type := 0, pos := "law.go:44", after := #[{ on := 17, ground := Ground.data }, { on := 13, ground := Ground.guard }], guard := some (13, false) } : Oper)) (v := ?v18_5) rfl (by kernel_rfl) (by kernel_rfl) (by kernel_rfl) (fun _ _ _ h => h) (Or.inl ⟨by rfl, ?hy18_5⟩) (by assumption) ?rest18_5
              case hy18_5 => (intro w hSw; (try dsimp only at hSw); go_simp; try (with_reducible rfl))
              (try simp only [Act.put, List.setIfInBounds_toArray, List.set_cons_zero, List.set_cons_succ])
              refine wpAnyH_take (i := 19) (oi := ({ dst := some 102, op := Op.load 3 (Operand.tmp 101), type := 3, pos := "law.go:44", after := #[{ on := 18, ground := Ground.data }, { on := 13, ground := Ground.guard }], guard := some (13, false) } : Oper)) (v := ?v19_5) rfl (by kernel_rfl) (by kernel_rfl) (by kernel_rfl) (fun _ _ _ h => h) (Or.inl ⟨by rfl, ?hy19_5⟩) (by assumption) ?rest19_5
              case hy19_5 => (intro w hSw; (try dsimp only at hSw); go_simp; try (with_reducible rfl))
              (try simp only [Act.put, List.setIfInBounds_toArray, List.set_cons_zero, List.set_cons_succ])
              refine wpAnyH_ready (rs := [15]) (by kernel_rfl) (by simp) ?_
              refine AllReadyH.cons (o := ({ dst := some 98, op := Op.call { callee := Callee.value (Operand.func 26), args := #[Operand.tmp 97], argTypes := #[28] }, type := 3, pos := "law.go:44", after := #[{ on := 14, ground := Ground.data }, { on := 13, ground := Ground.chain }, { on := 13, ground := Ground.guard }], guard := some (13, false) } : Oper)) rfl (fun K hK => ?_) AllReadyH.nil
              go_simp
              (refine (K2.out _ H6D.out).mono ?_; rintro e w' ⟨rfl, rfl⟩)
              (try dsimp only)
              refine hK.out _ _ (H6.out.S _ _ RC.out SC.out) (fun hHeld => ?_)
              clear hK K
              (try simp only [Act.put, List.setIfInBounds_toArray, List.set_cons_zero, List.set_cons_succ])
              refine wpAnyH_take (i := 20) (oi := ({ dst := some 103, op := Op.binOp BinOp.neq 3 (Operand.tmp 98) (Operand.tmp 102) 3, type := 4, pos := "law.go:44", after := #[{ on := 15, ground := Ground.data }, { on := 19, ground := Ground.data }, { on := 13, ground := Ground.guard }], guard := some (13, false) } : Oper)) (v := ?v20_5) rfl (by kernel_rfl) (by kernel_rfl) (by kernel_rfl) (fun _ _ _ h => h) (Or.inl ⟨by rfl, ?hy20_5⟩) (by assumption) ?rest20_5
              case hy20_5 => (intro w hSw; (try dsimp only at hSw); go_simp; try (with_reducible rfl))
              (try simp only [Act.put, List.setIfInBounds_toArray, List.set_cons_zero, List.set_cons_succ])
              refine wpAnyH_take (i := 21) (oi := ({ dst := some 104, op := Op.pick (Operand.tmp 96) (Operand.const (Value.bool true)) (Operand.tmp 103), type := 4, pos := "law.go:44", after := #[{ on := 13, ground := Ground.data }, { on := 20, ground := Ground.data }], guard := none } : Oper)) (v := ?v21_5) rfl (by kernel_rfl) (by kernel_rfl) (by kernel_rfl) (fun _ _ _ h => h) (Or.inl ⟨by rfl, ?hy21_5⟩) (by assumption) ?rest21_5
              case hy21_5 => (intro w hSw; (try dsimp only at hSw); go_simp; try (with_reducible rfl))
              (try simp only [Act.put, List.setIfInBounds_toArray, List.set_cons_zero, List.set_cons_succ])
              refine wpAnyH_take (i := 22) (oi := ({ dst := some 105, op := Op.move (Operand.tmp 104), type := 4, pos := "law.go:44", after := #[{ on := 21, ground := Ground.data }, { on := 15, ground := Ground.chain }], guard := none } : Oper)) (v := ?v22_5) rfl (by kernel_rfl) (by kernel_rfl) (by kernel_rfl) (fun _ _ _ h => h) (Or.inl ⟨by rfl, ?hy22_5⟩) (by assumption) ?rest22_5
              case hy22_5 => (intro w hSw; (try dsimp only at hSw); go_simp; try (with_reducible rfl))
              (try simp only [Act.put, List.setIfInBounds_toArray, List.set_cons_zero, List.set_cons_succ])
              refine wpAnyH_take (i := 23) (oi := ({ dst := some 106, op := Op.move (Operand.tmp 14), type := 28, pos := "law.go:44", after := #[{ on := 22, ground := Ground.guard }], guard := some (22, false) } : Oper)) (v := ?v23_5) rfl (by kernel_rfl) (by kernel_rfl) (by kernel_rfl) (fun _ _ _ h => h) (Or.inl ⟨by rfl, ?hy23_5⟩) (by assumption) ?rest23_5
              case hy23_5 => (intro w hSw; (try dsimp only at hSw); go_simp; try (with_reducible rfl))
              (try simp only [Act.put, List.setIfInBounds_toArray, List.set_cons_zero, List.set_cons_succ])
              refine' wpAnyH_take (i := 25) (oi := ({ dst := some 108, op := Op.load 31 (Operand.tmp 6), type := 31, pos := "law.go:44", after := #[{ on := 22, ground := Ground.guard }], guard := some (22, false) } : Oper)) (v := _) rfl (by kernel_rfl) (by kernel_rfl) (by kernel_rfl) (fun _ _ _ h => h) (yieldsIf_load_mid (by rfl) _ _ rfl _ _ rfl rc _ ?hS25_5 u1 rfl i1) (by assumption) ?rest25_5
              case hS25_5 => (intro w hSw; exact hSw.2.2.1)
              (try simp only [Act.put, List.setIfInBounds_toArray, List.set_cons_zero, List.set_cons_succ])
              refine wpAnyH_ready (rs := [24]) (by kernel_rfl) (by simp) ?_
              refine AllReadyH.cons (o := ({ dst := some 107, op := Op.call { callee := Callee.value (Operand.func 20), args := #[Operand.tmp 106], argTypes := #[28] }, type := 31, pos := "law.go:44", after := #[{ on := 23, ground := Ground.data }, { on := 22, ground := Ground.chain }, { on := 22, ground := Ground.guard }], guard := some (22, false) } : Oper)) rfl (fun K hK => ?_) AllReadyH.nil
              go_simp
              (refine (K3.out _ H6D.out).mono ?_; rintro e w7 ⟨rfl, h7⟩; have H7 := Lib.hid h7; clear h7)
              (try dsimp only)
              refine hK.out _ _ (H7.out.S _ _ RC.out SC.out) (fun hHeld => ?_)
              clear hK K
              (try simp only [Act.put, List.setIfInBounds_toArray, List.set_cons_zero, List.set_cons_succ])
              refine wpAnyH_take (i := 26) (oi := ({ dst := some 109, op := Op.binOp BinOp.neq 31 (Operand.tmp 107) (Operand.tmp 108) 31, type := 4, pos := "law.go:44", after := #[{ on := 24, ground := Ground.data }, { on := 25, ground := Ground.data }, { on := 22, ground := Ground.guard }], guard := some (22, false) } : Oper)) (v := ?v26_5) rfl (by kernel_rfl) (by kernel_rfl) (by kernel_rfl) (fun _ _ _ h => h) (Or.inl ⟨by rfl, ?hy26_5⟩) (by assumption) ?rest26_5
              case hy26_5 => (intro w hSw; (try dsimp only at hSw); go_simp; try (with_reducible rfl))
              (try simp only [Act.put, List.setIfInBounds_toArray, List.set_cons_zero, List.set_cons_succ])
              refine wpAnyH_take (i := 27) (oi := ({ dst := some 110, op := Op.pick (Operand.tmp 105) (Operand.const (Value.bool true)) (Operand.tmp 109), type := 4, pos := "law.go:44", after := #[{ on := 22, ground := Ground.data }, { on := 26, ground := Ground.data }], guard := none } : Oper)) (v := ?v27_5) rfl (by kernel_rfl) (by kernel_rfl) (by kernel_rfl) (fun _ _ _ h => h) (Or.inl ⟨by rfl, ?hy27_5⟩) (by assumption) ?rest27_5
              case hy27_5 => (intro w hSw; (try dsimp only at hSw); go_simp; try (with_reducible rfl))
              (try simp only [Act.put, List.setIfInBounds_toArray, List.set_cons_zero, List.set_cons_succ])
              refine wpAnyH_take (i := 28) (oi := ({ dst := some 111, op := Op.move (Operand.tmp 110), type := 4, pos := "law.go:44", after := #[{ on := 27, ground := Ground.data }, { on := 24, ground := Ground.chain }], guard := none } : Oper)) (v := ?v28_5) rfl (by kernel_rfl) (by kernel_rfl) (by kernel_rfl) (fun _ _ _ h => h) (Or.inl ⟨by rfl, ?hy28_5⟩) (by assumption) ?rest28_5
              case hy28_5 => (intro w hSw; (try dsimp only at hSw); go_simp; try (with_reducible rfl))
              (try simp only [Act.put, List.setIfInBounds_toArray, List.set_cons_zero, List.set_cons_succ])
              refine wpAnyH_take (i := 29) (oi := ({ dst := some 112, op := Op.move (Operand.tmp 14), type := 28, pos := "law.go:44", after := #[{ on := 28, ground := Ground.guard }], guard := some (28, false) } : Oper)) (v := ?v29_5) rfl (by kernel_rfl) (by kernel_rfl) (by kernel_rfl) (fun _ _ _ h => h) (Or.inl ⟨by rfl, ?hy29_5⟩) (by assumption) ?rest29_5
              case hy29_5 => (intro w hSw; (try dsimp only at hSw); go_simp; try (with_reducible rfl))
              (try simp only [Act.put, List.setIfInBounds_toArray, List.set_cons_zero, List.set_cons_succ])
              refine' wpAnyH_take (i := 31) (oi := ({ dst := some 114, op := Op.load 31 (Operand.tmp 7), type := 31, pos := "law.go:44", after := #[{ on := 28, ground := Ground.guard }], guard := some (28, false) } : Oper)) (v := _) rfl (by kernel_rfl) (by kernel_rfl) (by kernel_rfl) (fun _ _ _ h => h) (yieldsIf_load_mid (by rfl) _ _ rfl _ _ rfl sc _ ?hS31_5 u1 rfl i2) (by assumption) ?rest31_5
              case hS31_5 => (intro w hSw; exact hSw.2.2.2)
              (try simp only [Act.put, List.setIfInBounds_toArray, List.set_cons_zero, List.set_cons_succ])
              refine wpAnyH_ready (rs := [30]) (by kernel_rfl) (by simp) ?_
              refine AllReadyH.cons (o := ({ dst := some 113, op := Op.call { callee := Callee.value (Operand.func 21), args := #[Operand.tmp 112], argTypes := #[28] }, type := 31, pos := "law.go:44", after := #[{ on := 29, ground := Ground.data }, { on := 28, ground := Ground.chain }, { on := 28, ground := Ground.guard }], guard := some (28, false) } : Oper)) rfl (fun K hK => ?_) AllReadyH.nil
              go_simp
              (refine (K4.out _ H7.out).mono ?_; rintro e w8 ⟨rfl, h8⟩; have H8 := Lib.hid h8; clear h8)
              (try dsimp only)
              refine hK.out _ _ (H8.out.S _ _ RC.out SC.out) (fun hHeld => ?_)
              clear hK K
              (try simp only [Act.put, List.setIfInBounds_toArray, List.set_cons_zero, List.set_cons_succ])
              refine wpAnyH_take (i := 32) (oi := ({ dst := some 115, op := Op.binOp BinOp.neq 31 (Operand.tmp 113) (Operand.tmp 114) 31, type := 4, pos := "law.go:44", after := #[{ on := 30, ground := Ground.data }, { on := 31, ground := Ground.data }, { on := 28, ground := Ground.guard }], guard := some (28, false) } : Oper)) (v := ?v32_5) rfl (by kernel_rfl) (by kernel_rfl) (by kernel_rfl) (fun _ _ _ h => h) (Or.inl ⟨by rfl, ?hy32_5⟩) (by assumption) ?rest32_5
              case hy32_5 => (intro w hSw; (try dsimp only at hSw); go_simp; try (with_reducible rfl))
              (try simp only [Act.put, List.setIfInBounds_toArray, List.set_cons_zero, List.set_cons_succ])
              refine wpAnyH_take (i := 33) (oi := ({ dst := some 116, op := Op.pick (Operand.tmp 111) (Operand.const (Value.bool true)) (Operand.tmp 115), type := 4, pos := "law.go:44", after := #[{ on := 28, ground := Ground.data }, { on := 32, ground := Ground.data }], guard := none } : Oper)) (v := ?v33_5) rfl (by kernel_rfl) (by kernel_rfl) (by kernel_rfl) (fun _ _ _ h => h) (Or.inl ⟨by rfl, ?hy33_5⟩) (by assumption) ?rest33_5
              case hy33_5 => (intro w hSw; (try dsimp only at hSw); go_simp; try (with_reducible rfl))
              (try simp only [Act.put, List.setIfInBounds_toArray, List.set_cons_zero, List.set_cons_succ])
              refine wpAnyH_done (by kernel_rfl) ?_ _
              go_wp2_with fail
              go_roundw
              case rel => exact ⟨j + 1, c + 1, s.turn, by omega, by omega, by go_num, H8.out⟩
              case measure => simp [intOf]; omega
            | false =>
              have hst := ostep_no q p g s _ _ c M wr OC.out.o OC.out.fl d1 HCM.out ht
              have hst2 := fun w h1 h2 => rostep_no qr pr gr s c M w h1 h2 d3 HCM.out ht
              have HST := Lib.hid hst
              have HST2 := Lib.hid hst2
              clear hst hst2 ht
              go_wp2_with fail
              refine HST.out.mono ?_
              rintro e w5 ⟨rfl, hf5, ho5, hk5, -⟩
              obtain ⟨e1, e2, e3⟩ := OC.out.own OB.out hk5 hf5 ho5
              have E1 := Lib.hid e1
              have E2 := Lib.hid e2
              have E3 := Lib.hid e3
              have F5 := Lib.hid hf5
              have O5 := Lib.hid ho5
              clear e1 e2 e3 hf5 ho5 hk5
              go_wp2_with fail
              refine (HST2.out w5 E2.out E1.out).mono ?_
              rintro e w6 ⟨rfl, hf6, ho6, hk6, -⟩
              have h6 := OcR.both OB.out F5.out O5.out E3.out hk6 hf6 ho6
              have h6d := h6.drew
              clear hf6 ho6 hk6
              go_wp2_with fail
              obtain ⟨k1, k2, k3, k4⟩ := OcR.calls (w := w) (x := x) (y := y) (p := p) (g := g) (q := q) (pr := pr) (gr := gr) (qr := qr) (s := s.turn) (c := c) (M := M) rc sc RC.out SC.out
              have H6 := Lib.hid h6
              have H6D := Lib.hid h6d
              have K1 := Lib.hid k1
              have K2 := Lib.hid k2
              have K3 := Lib.hid k3
              have K4 := Lib.hid k4
              clear h6 h6d k1 k2 k3 k4
              refine wp_region_held_drew (S := (fun w' => w'.cell? ⟨qr, 1, none⟩ = some (.int .i64 c) ∧ w'.cell? ⟨qr, 2, none⟩ = some (.int .i64 M) ∧ w'.rangeAt x 0 rc ∧ w'.rangeAt y 0 sc)) (by kernel_rfl) (H6.out.S _ _ RC.out SC.out) (fun hHeld => ?_)
              refine wpAnyH_take (i := 0) (oi := ({ dst := some 83, op := Op.move (Operand.tmp 18), type := 33, pos := "law.go:44", after := #[], guard := none } : Oper)) (v := ?v0_6) rfl (by kernel_rfl) (by kernel_rfl) (by kernel_rfl) (fun _ _ _ h => h) (Or.inl ⟨by rfl, ?hy0_6⟩) (by assumption) ?rest0_6
              case hy0_6 => (intro w hSw; (try dsimp only at hSw); go_simp; try (with_reducible rfl))
              (try simp only [Act.put, List.setIfInBounds_toArray, List.set_cons_zero, List.set_cons_succ])
              refine wpAnyH_take (i := 2) (oi := ({ dst := some 85, op := Op.move (Operand.tmp 19), type := 3, pos := "law.go:44", after := #[], guard := none } : Oper)) (v := ?v2_6) rfl (by kernel_rfl) (by kernel_rfl) (by kernel_rfl) (fun _ _ _ h => h) (Or.inl ⟨by rfl, ?hy2_6⟩) (by assumption) ?rest2_6
              case hy2_6 => (intro w hSw; (try dsimp only at hSw); go_simp; try (with_reducible rfl))
              (try simp only [Act.put, List.setIfInBounds_toArray, List.set_cons_zero, List.set_cons_succ])
              refine wpAnyH_ready (rs := [1]) (by kernel_rfl) (by simp) ?_
              refine AllReadyH.cons (o := ({ dst := some 84, op := Op.call { callee := Callee.value (Operand.func 18), args := #[Operand.tmp 83], argTypes := #[33] }, type := 3, pos := "law.go:44", after := #[{ on := 0, ground := Ground.data }], guard := none } : Oper)) rfl (fun K hK => ?_) AllReadyH.nil
              go_simp
              (refine (num20_any _ _).mono ?_; rintro e w' ⟨rfl, rfl⟩)
              (try dsimp only)
              refine hK.out _ _ (H6.out.S _ _ RC.out SC.out) (fun hHeld => ?_)
              clear hK K
              (try simp only [Act.put, List.setIfInBounds_toArray, List.set_cons_zero, List.set_cons_succ])
              refine wpAnyH_take (i := 3) (oi := ({ dst := some 86, op := Op.binOp BinOp.neq 3 (Operand.tmp 84) (Operand.tmp 85) 3, type := 4, pos := "law.go:44", after := #[{ on := 1, ground := Ground.data }, { on := 2, ground := Ground.data }], guard := none } : Oper)) (v := ?v3_6) rfl (by kernel_rfl) (by kernel_rfl) (by kernel_rfl) (fun _ _ _ h => h) (Or.inl ⟨by rfl, ?hy3_6⟩) (by assumption) ?rest3_6
              case hy3_6 => (intro w hSw; (try dsimp only at hSw); go_simp; try (with_reducible rfl))
              (try simp only [Act.put, List.setIfInBounds_toArray, List.set_cons_zero, List.set_cons_succ])
              refine wpAnyH_take (i := 4) (oi := ({ dst := some 87, op := Op.move (Operand.tmp 86), type := 4, pos := "law.go:44", after := #[{ on := 3, ground := Ground.data }, { on := 1, ground := Ground.chain }], guard := none } : Oper)) (v := ?v4_6) rfl (by kernel_rfl) (by kernel_rfl) (by kernel_rfl) (fun _ _ _ h => h) (Or.inl ⟨by rfl, ?hy4_6⟩) (by assumption) ?rest4_6
              case hy4_6 => (intro w hSw; (try dsimp only at hSw); go_simp; try (with_reducible rfl))
              (try simp only [Act.put, List.setIfInBounds_toArray, List.set_cons_zero, List.set_cons_succ])
              refine wpAnyH_take (i := 5) (oi := ({ dst := some 88, op := Op.move (Operand.tmp 14), type := 28, pos := "law.go:44", after := #[{ on := 4, ground := Ground.guard }], guard := some (4, false) } : Oper)) (v := ?v5_6) rfl (by kernel_rfl) (by kernel_rfl) (by kernel_rfl) (fun _ _ _ h => h) (Or.inl ⟨by rfl, ?hy5_6⟩) (by assumption) ?rest5_6
              case hy5_6 => (intro w hSw; (try dsimp only at hSw); go_simp; try (with_reducible rfl))
              (try simp only [Act.put, List.setIfInBounds_toArray, List.set_cons_zero, List.set_cons_succ])
              refine wpAnyH_take (i := 7) (oi := ({ dst := some 90, op := Op.move (Operand.tmp 15), type := 42, pos := "law.go:44", after := #[{ on := 4, ground := Ground.guard }], guard := some (4, false) } : Oper)) (v := ?v7_6) rfl (by kernel_rfl) (by kernel_rfl) (by kernel_rfl) (fun _ _ _ h => h) (Or.inl ⟨by rfl, ?hy7_6⟩) (by assumption) ?rest7_6
              case hy7_6 => (intro w hSw; (try dsimp only at hSw); go_simp; try (with_reducible rfl))
              (try simp only [Act.put, List.setIfInBounds_toArray, List.set_cons_zero, List.set_cons_succ])
              refine wpAnyH_take (i := 8) (oi := ({ dst := some 91, op := Op.nilCheck (Operand.tmp 90), type := 0, pos := "law.go:44", after := #[{ on := 7, ground := Ground.data }, { on := 4, ground := Ground.guard }], guard := some (4, false) } : Oper)) (v := ?v8_6) rfl (by kernel_rfl) (by kernel_rfl) (by kernel_rfl) (fun _ _ _ h => h) (Or.inl ⟨by rfl, ?hy8_6⟩) (by assumption) ?rest8_6
              case hy8_6 => (intro w hSw; (try dsimp only at hSw); go_simp; try (with_reducible rfl))
              (try simp only [Act.put, List.setIfInBounds_toArray, List.set_cons_zero, List.set_cons_succ])
              refine wpAnyH_take (i := 9) (oi := ({ dst := some 92, op := Op.fieldAddr 46 (Operand.tmp 91) 1, type := 0, pos := "law.go:44", after := #[{ on := 8, ground := Ground.data }, { on := 4, ground := Ground.guard }], guard := some (4, false) } : Oper)) (v := ?v9_6) rfl (by kernel_rfl) (by kernel_rfl) (by kernel_rfl) (fun _ _ _ h => h) (Or.inl ⟨by rfl, ?hy9_6⟩) (by assumption) ?rest9_6
              case hy9_6 => (intro w hSw; (try dsimp only at hSw); go_simp; try (with_reducible rfl))
              (try simp only [Act.put, List.setIfInBounds_toArray, List.set_cons_zero, List.set_cons_succ])
              refine wpAnyH_take (i := 10) (oi := ({ dst := some 93, op := Op.load 3 (Operand.tmp 92), type := 3, pos := "law.go:44", after := #[{ on := 9, ground := Ground.data }, { on := 4, ground := Ground.guard }], guard := some (4, false) } : Oper)) (v := ?v10_6) rfl (by kernel_rfl) (by kernel_rfl) (by kernel_rfl) (fun _ _ _ h => h) (Or.inl ⟨by rfl, ?hy10_6⟩) (by assumption) ?rest10_6
              case hy10_6 => (intro w hSw; (try dsimp only at hSw); go_simp; try (with_reducible rfl))
              (try simp only [Act.put, List.setIfInBounds_toArray, List.set_cons_zero, List.set_cons_succ])
              refine wpAnyH_ready (rs := [6]) (by kernel_rfl) (by simp) ?_
              refine AllReadyH.cons (o := ({ dst := some 89, op := Op.call { callee := Callee.value (Operand.func 19), args := #[Operand.tmp 88], argTypes := #[28] }, type := 3, pos := "law.go:44", after := #[{ on := 5, ground := Ground.data }, { on := 4, ground := Ground.chain }, { on := 4, ground := Ground.guard }], guard := some (4, false) } : Oper)) rfl (fun K hK => ?_) AllReadyH.nil
              go_simp
              (refine (K1.out _ H6D.out).mono ?_; rintro e w' ⟨rfl, rfl⟩)
              (try dsimp only)
              refine hK.out _ _ (H6.out.S _ _ RC.out SC.out) (fun hHeld => ?_)
              clear hK K
              (try simp only [Act.put, List.setIfInBounds_toArray, List.set_cons_zero, List.set_cons_succ])
              refine wpAnyH_take (i := 11) (oi := ({ dst := some 94, op := Op.binOp BinOp.neq 3 (Operand.tmp 89) (Operand.tmp 93) 3, type := 4, pos := "law.go:44", after := #[{ on := 6, ground := Ground.data }, { on := 10, ground := Ground.data }, { on := 4, ground := Ground.guard }], guard := some (4, false) } : Oper)) (v := ?v11_6) rfl (by kernel_rfl) (by kernel_rfl) (by kernel_rfl) (fun _ _ _ h => h) (Or.inl ⟨by rfl, ?hy11_6⟩) (by assumption) ?rest11_6
              case hy11_6 => (intro w hSw; (try dsimp only at hSw); go_simp; try (with_reducible rfl))
              (try simp only [Act.put, List.setIfInBounds_toArray, List.set_cons_zero, List.set_cons_succ])
              refine wpAnyH_take (i := 12) (oi := ({ dst := some 95, op := Op.pick (Operand.tmp 87) (Operand.const (Value.bool true)) (Operand.tmp 94), type := 4, pos := "law.go:44", after := #[{ on := 4, ground := Ground.data }, { on := 11, ground := Ground.data }], guard := none } : Oper)) (v := ?v12_6) rfl (by kernel_rfl) (by kernel_rfl) (by kernel_rfl) (fun _ _ _ h => h) (Or.inl ⟨by rfl, ?hy12_6⟩) (by assumption) ?rest12_6
              case hy12_6 => (intro w hSw; (try dsimp only at hSw); go_simp; try (with_reducible rfl))
              (try simp only [Act.put, List.setIfInBounds_toArray, List.set_cons_zero, List.set_cons_succ])
              refine wpAnyH_take (i := 13) (oi := ({ dst := some 96, op := Op.move (Operand.tmp 95), type := 4, pos := "law.go:44", after := #[{ on := 12, ground := Ground.data }, { on := 6, ground := Ground.chain }], guard := none } : Oper)) (v := ?v13_6) rfl (by kernel_rfl) (by kernel_rfl) (by kernel_rfl) (fun _ _ _ h => h) (Or.inl ⟨by rfl, ?hy13_6⟩) (by assumption) ?rest13_6
              case hy13_6 => (intro w hSw; (try dsimp only at hSw); go_simp; try (with_reducible rfl))
              (try simp only [Act.put, List.setIfInBounds_toArray, List.set_cons_zero, List.set_cons_succ])
              refine wpAnyH_take (i := 14) (oi := ({ dst := some 97, op := Op.move (Operand.tmp 14), type := 28, pos := "law.go:44", after := #[{ on := 13, ground := Ground.guard }], guard := some (13, false) } : Oper)) (v := ?v14_6) rfl (by kernel_rfl) (by kernel_rfl) (by kernel_rfl) (fun _ _ _ h => h) (Or.inl ⟨by rfl, ?hy14_6⟩) (by assumption) ?rest14_6
              case hy14_6 => (intro w hSw; (try dsimp only at hSw); go_simp; try (with_reducible rfl))
              (try simp only [Act.put, List.setIfInBounds_toArray, List.set_cons_zero, List.set_cons_succ])
              refine wpAnyH_take (i := 16) (oi := ({ dst := some 99, op := Op.move (Operand.tmp 15), type := 42, pos := "law.go:44", after := #[{ on := 13, ground := Ground.guard }], guard := some (13, false) } : Oper)) (v := ?v16_6) rfl (by kernel_rfl) (by kernel_rfl) (by kernel_rfl) (fun _ _ _ h => h) (Or.inl ⟨by rfl, ?hy16_6⟩) (by assumption) ?rest16_6
              case hy16_6 => (intro w hSw; (try dsimp only at hSw); go_simp; try (with_reducible rfl))
              (try simp only [Act.put, List.setIfInBounds_toArray, List.set_cons_zero, List.set_cons_succ])
              refine wpAnyH_take (i := 17) (oi := ({ dst := some 100, op := Op.nilCheck (Operand.tmp 99), type := 0, pos := "law.go:44", after := #[{ on := 16, ground := Ground.data }, { on := 13, ground := Ground.guard }], guard := some (13, false) } : Oper)) (v := ?v17_6) rfl (by kernel_rfl) (by kernel_rfl) (by kernel_rfl) (fun _ _ _ h => h) (Or.inl ⟨by rfl, ?hy17_6⟩) (by assumption) ?rest17_6
              case hy17_6 => (intro w hSw; (try dsimp only at hSw); go_simp; try (with_reducible rfl))
              (try simp only [Act.put, List.setIfInBounds_toArray, List.set_cons_zero, List.set_cons_succ])
              refine wpAnyH_take (i := 18) (oi := ({ dst := some 101, op := Op.fieldAddr 46 (Operand.tmp 100) 2, type := 0, pos := "law.go:44", after := #[{ on := 17, ground := Ground.data }, { on := 13, ground := Ground.guard }], guard := some (13, false) } : Oper)) (v := ?v18_6) rfl (by kernel_rfl) (by kernel_rfl) (by kernel_rfl) (fun _ _ _ h => h) (Or.inl ⟨by rfl, ?hy18_6⟩) (by assumption) ?rest18_6
              case hy18_6 => (intro w hSw; (try dsimp only at hSw); go_simp; try (with_reducible rfl))
              (try simp only [Act.put, List.setIfInBounds_toArray, List.set_cons_zero, List.set_cons_succ])
              refine wpAnyH_take (i := 19) (oi := ({ dst := some 102, op := Op.load 3 (Operand.tmp 101), type := 3, pos := "law.go:44", after := #[{ on := 18, ground := Ground.data }, { on := 13, ground := Ground.guard }], guard := some (13, false) } : Oper)) (v := ?v19_6) rfl (by kernel_rfl) (by kernel_rfl) (by kernel_rfl) (fun _ _ _ h => h) (Or.inl ⟨by rfl, ?hy19_6⟩) (by assumption) ?rest19_6
              case hy19_6 => (intro w hSw; (try dsimp only at hSw); go_simp; try (with_reducible rfl))
              (try simp only [Act.put, List.setIfInBounds_toArray, List.set_cons_zero, List.set_cons_succ])
              refine wpAnyH_ready (rs := [15]) (by kernel_rfl) (by simp) ?_
              refine AllReadyH.cons (o := ({ dst := some 98, op := Op.call { callee := Callee.value (Operand.func 26), args := #[Operand.tmp 97], argTypes := #[28] }, type := 3, pos := "law.go:44", after := #[{ on := 14, ground := Ground.data }, { on := 13, ground := Ground.chain }, { on := 13, ground := Ground.guard }], guard := some (13, false) } : Oper)) rfl (fun K hK => ?_) AllReadyH.nil
              go_simp
              (refine (K2.out _ H6D.out).mono ?_; rintro e w' ⟨rfl, rfl⟩)
              (try dsimp only)
              refine hK.out _ _ (H6.out.S _ _ RC.out SC.out) (fun hHeld => ?_)
              clear hK K
              (try simp only [Act.put, List.setIfInBounds_toArray, List.set_cons_zero, List.set_cons_succ])
              refine wpAnyH_take (i := 20) (oi := ({ dst := some 103, op := Op.binOp BinOp.neq 3 (Operand.tmp 98) (Operand.tmp 102) 3, type := 4, pos := "law.go:44", after := #[{ on := 15, ground := Ground.data }, { on := 19, ground := Ground.data }, { on := 13, ground := Ground.guard }], guard := some (13, false) } : Oper)) (v := ?v20_6) rfl (by kernel_rfl) (by kernel_rfl) (by kernel_rfl) (fun _ _ _ h => h) (Or.inl ⟨by rfl, ?hy20_6⟩) (by assumption) ?rest20_6
              case hy20_6 => (intro w hSw; (try dsimp only at hSw); go_simp; try (with_reducible rfl))
              (try simp only [Act.put, List.setIfInBounds_toArray, List.set_cons_zero, List.set_cons_succ])
              refine wpAnyH_take (i := 21) (oi := ({ dst := some 104, op := Op.pick (Operand.tmp 96) (Operand.const (Value.bool true)) (Operand.tmp 103), type := 4, pos := "law.go:44", after := #[{ on := 13, ground := Ground.data }, { on := 20, ground := Ground.data }], guard := none } : Oper)) (v := ?v21_6) rfl (by kernel_rfl) (by kernel_rfl) (by kernel_rfl) (fun _ _ _ h => h) (Or.inl ⟨by rfl, ?hy21_6⟩) (by assumption) ?rest21_6
              case hy21_6 => (intro w hSw; (try dsimp only at hSw); go_simp; try (with_reducible rfl))
              (try simp only [Act.put, List.setIfInBounds_toArray, List.set_cons_zero, List.set_cons_succ])
              refine wpAnyH_take (i := 22) (oi := ({ dst := some 105, op := Op.move (Operand.tmp 104), type := 4, pos := "law.go:44", after := #[{ on := 21, ground := Ground.data }, { on := 15, ground := Ground.chain }], guard := none } : Oper)) (v := ?v22_6) rfl (by kernel_rfl) (by kernel_rfl) (by kernel_rfl) (fun _ _ _ h => h) (Or.inl ⟨by rfl, ?hy22_6⟩) (by assumption) ?rest22_6
              case hy22_6 => (intro w hSw; (try dsimp only at hSw); go_simp; try (with_reducible rfl))
              (try simp only [Act.put, List.setIfInBounds_toArray, List.set_cons_zero, List.set_cons_succ])
              refine wpAnyH_take (i := 23) (oi := ({ dst := some 106, op := Op.move (Operand.tmp 14), type := 28, pos := "law.go:44", after := #[{ on := 22, ground := Ground.guard }], guard := some (22, false) } : Oper)) (v := ?v23_6) rfl (by kernel_rfl) (by kernel_rfl) (by kernel_rfl) (fun _ _ _ h => h) (Or.inl ⟨by rfl, ?hy23_6⟩) (by assumption) ?rest23_6
              case hy23_6 => (intro w hSw; (try dsimp only at hSw); go_simp; try (with_reducible rfl))
              (try simp only [Act.put, List.setIfInBounds_toArray, List.set_cons_zero, List.set_cons_succ])
              refine' wpAnyH_take (i := 25) (oi := ({ dst := some 108, op := Op.load 31 (Operand.tmp 6), type := 31, pos := "law.go:44", after := #[{ on := 22, ground := Ground.guard }], guard := some (22, false) } : Oper)) (v := _) rfl (by kernel_rfl) (by kernel_rfl) (by kernel_rfl) (fun _ _ _ h => h) (yieldsIf_load_mid (by rfl) _ _ rfl _ _ rfl rc _ ?hS25_6 u1 rfl i1) (by assumption) ?rest25_6
              case hS25_6 => (intro w hSw; exact hSw.2.2.1)
              (try simp only [Act.put, List.setIfInBounds_toArray, List.set_cons_zero, List.set_cons_succ])
              refine wpAnyH_ready (rs := [24]) (by kernel_rfl) (by simp) ?_
              refine AllReadyH.cons (o := ({ dst := some 107, op := Op.call { callee := Callee.value (Operand.func 20), args := #[Operand.tmp 106], argTypes := #[28] }, type := 31, pos := "law.go:44", after := #[{ on := 23, ground := Ground.data }, { on := 22, ground := Ground.chain }, { on := 22, ground := Ground.guard }], guard := some (22, false) } : Oper)) rfl (fun K hK => ?_) AllReadyH.nil
              go_simp
              (refine (K3.out _ H6D.out).mono ?_; rintro e w7 ⟨rfl, h7⟩; have H7 := Lib.hid h7; clear h7)
              (try dsimp only)
              refine hK.out _ _ (H7.out.S _ _ RC.out SC.out) (fun hHeld => ?_)
              clear hK K
              (try simp only [Act.put, List.setIfInBounds_toArray, List.set_cons_zero, List.set_cons_succ])
              refine wpAnyH_take (i := 26) (oi := ({ dst := some 109, op := Op.binOp BinOp.neq 31 (Operand.tmp 107) (Operand.tmp 108) 31, type := 4, pos := "law.go:44", after := #[{ on := 24, ground := Ground.data }, { on := 25, ground := Ground.data }, { on := 22, ground := Ground.guard }], guard := some (22, false) } : Oper)) (v := ?v26_6) rfl (by kernel_rfl) (by kernel_rfl) (by kernel_rfl) (fun _ _ _ h => h) (Or.inl ⟨by rfl, ?hy26_6⟩) (by assumption) ?rest26_6
              case hy26_6 => (intro w hSw; (try dsimp only at hSw); go_simp; try (with_reducible rfl))
              (try simp only [Act.put, List.setIfInBounds_toArray, List.set_cons_zero, List.set_cons_succ])
              refine wpAnyH_take (i := 27) (oi := ({ dst := some 110, op := Op.pick (Operand.tmp 105) (Operand.const (Value.bool true)) (Operand.tmp 109), type := 4, pos := "law.go:44", after := #[{ on := 22, ground := Ground.data }, { on := 26, ground := Ground.data }], guard := none } : Oper)) (v := ?v27_6) rfl (by kernel_rfl) (by kernel_rfl) (by kernel_rfl) (fun _ _ _ h => h) (Or.inl ⟨by rfl, ?hy27_6⟩) (by assumption) ?rest27_6
              case hy27_6 => (intro w hSw; (try dsimp only at hSw); go_simp; try (with_reducible rfl))
              (try simp only [Act.put, List.setIfInBounds_toArray, List.set_cons_zero, List.set_cons_succ])
              refine wpAnyH_take (i := 28) (oi := ({ dst := some 111, op := Op.move (Operand.tmp 110), type := 4, pos := "law.go:44", after := #[{ on := 27, ground := Ground.data }, { on := 24, ground := Ground.chain }], guard := none } : Oper)) (v := ?v28_6) rfl (by kernel_rfl) (by kernel_rfl) (by kernel_rfl) (fun _ _ _ h => h) (Or.inl ⟨by rfl, ?hy28_6⟩) (by assumption) ?rest28_6
              case hy28_6 => (intro w hSw; (try dsimp only at hSw); go_simp; try (with_reducible rfl))
              (try simp only [Act.put, List.setIfInBounds_toArray, List.set_cons_zero, List.set_cons_succ])
              refine wpAnyH_take (i := 29) (oi := ({ dst := some 112, op := Op.move (Operand.tmp 14), type := 28, pos := "law.go:44", after := #[{ on := 28, ground := Ground.guard }], guard := some (28, false) } : Oper)) (v := ?v29_6) rfl (by kernel_rfl) (by kernel_rfl) (by kernel_rfl) (fun _ _ _ h => h) (Or.inl ⟨by rfl, ?hy29_6⟩) (by assumption) ?rest29_6
              case hy29_6 => (intro w hSw; (try dsimp only at hSw); go_simp; try (with_reducible rfl))
              (try simp only [Act.put, List.setIfInBounds_toArray, List.set_cons_zero, List.set_cons_succ])
              refine' wpAnyH_take (i := 31) (oi := ({ dst := some 114, op := Op.load 31 (Operand.tmp 7), type := 31, pos := "law.go:44", after := #[{ on := 28, ground := Ground.guard }], guard := some (28, false) } : Oper)) (v := _) rfl (by kernel_rfl) (by kernel_rfl) (by kernel_rfl) (fun _ _ _ h => h) (yieldsIf_load_mid (by rfl) _ _ rfl _ _ rfl sc _ ?hS31_6 u1 rfl i2) (by assumption) ?rest31_6
              case hS31_6 => (intro w hSw; exact hSw.2.2.2)
              (try simp only [Act.put, List.setIfInBounds_toArray, List.set_cons_zero, List.set_cons_succ])
              refine wpAnyH_ready (rs := [30]) (by kernel_rfl) (by simp) ?_
              refine AllReadyH.cons (o := ({ dst := some 113, op := Op.call { callee := Callee.value (Operand.func 21), args := #[Operand.tmp 112], argTypes := #[28] }, type := 31, pos := "law.go:44", after := #[{ on := 29, ground := Ground.data }, { on := 28, ground := Ground.chain }, { on := 28, ground := Ground.guard }], guard := some (28, false) } : Oper)) rfl (fun K hK => ?_) AllReadyH.nil
              go_simp
              (refine (K4.out _ H7.out).mono ?_; rintro e w8 ⟨rfl, h8⟩; have H8 := Lib.hid h8; clear h8)
              (try dsimp only)
              refine hK.out _ _ (H8.out.S _ _ RC.out SC.out) (fun hHeld => ?_)
              clear hK K
              (try simp only [Act.put, List.setIfInBounds_toArray, List.set_cons_zero, List.set_cons_succ])
              refine wpAnyH_take (i := 32) (oi := ({ dst := some 115, op := Op.binOp BinOp.neq 31 (Operand.tmp 113) (Operand.tmp 114) 31, type := 4, pos := "law.go:44", after := #[{ on := 30, ground := Ground.data }, { on := 31, ground := Ground.data }, { on := 28, ground := Ground.guard }], guard := some (28, false) } : Oper)) (v := ?v32_6) rfl (by kernel_rfl) (by kernel_rfl) (by kernel_rfl) (fun _ _ _ h => h) (Or.inl ⟨by rfl, ?hy32_6⟩) (by assumption) ?rest32_6
              case hy32_6 => (intro w hSw; (try dsimp only at hSw); go_simp; try (with_reducible rfl))
              (try simp only [Act.put, List.setIfInBounds_toArray, List.set_cons_zero, List.set_cons_succ])
              refine wpAnyH_take (i := 33) (oi := ({ dst := some 116, op := Op.pick (Operand.tmp 111) (Operand.const (Value.bool true)) (Operand.tmp 115), type := 4, pos := "law.go:44", after := #[{ on := 28, ground := Ground.data }, { on := 32, ground := Ground.data }], guard := none } : Oper)) (v := ?v33_6) rfl (by kernel_rfl) (by kernel_rfl) (by kernel_rfl) (fun _ _ _ h => h) (Or.inl ⟨by rfl, ?hy33_6⟩) (by assumption) ?rest33_6
              case hy33_6 => (intro w hSw; (try dsimp only at hSw); go_simp; try (with_reducible rfl))
              (try simp only [Act.put, List.setIfInBounds_toArray, List.set_cons_zero, List.set_cons_succ])
              refine wpAnyH_done (by kernel_rfl) ?_ _
              by_cases h30 : (j : Int) % 3 = 0
              · have hst := start_any p g s.turn _ H8.out.fl
                have HST3 := Lib.hid hst
                clear hst
                go_wp2_with fail
                refine HST3.out.mono ?_
                rintro e w9 ⟨rfl, hf9, hk9, -⟩
                have hk9' : Kept (fun y => y = p ∨ y = q) w8 w9 := hk9.mono (fun _ _ => .inl)
                obtain ⟨e1, e2, e3⟩ := H8.out.own OB.out hk9' hf9 (H8.out.o.kept hk9 d1)
                have O9 := Lib.hid (H8.out.o.kept hk9 d1)
                have hst2 := rstart_any pr gr s.turn w9 e1
                have HST4 := Lib.hid hst2
                have E2 := Lib.hid e2
                have E3 := Lib.hid e3
                have F9 := Lib.hid hf9
                clear hst2 e1 e2 e3 hf9 hk9 hk9'
                go_wp2_with fail
                refine HST4.out.mono ?_
                rintro e wA ⟨rfl, hrA, hkA, -⟩
                have hA9 := Lib.hid (OcR.both OB.out F9.out O9.out E3.out (hkA.mono (fun _ _ => .inl)) hrA (IsRo.kept E2.out hkA d3))
                clear hrA hkA
                go_wp2_with fail
                go_roundw
                case rel => exact ⟨j + 1, c, s.turn.start, by omega, by omega, by go_num, hA9.out⟩
                case measure => simp [intOf]; omega
              · go_wp2_with fail
                go_roundw
                case rel => exact ⟨j + 1, c, s.turn, by omega, by omega, by go_num, H8.out⟩
                case measure => simp [intOf]; omega
      · skip
        by_cases hcm : c = M
        · skip
          have hst := ostep_full q _ _ _ _ _ wr OC.out.o (by omega)
          have hst2 := fun k => rostep_full qr pr _ _ _ (OC.out.ro.drewN k) (by omega)
          have HST := Lib.hid hst
          have HST2 := Lib.hid hst2
          clear hst hst2
          go_wp2_with fail
          refine HST.out.mono ?_
          rintro e w5 ⟨rfl, k5, rfl⟩
          go_wp2_with fail
          refine (HST2.out k5).mono ?_
          rintro e w6 ⟨rfl, k6, rfl⟩
          go_wp2_with fail
          have h6 := OC.out.drewN (k5 + k6)
          have h6d := OC.out.drewN (k5 + k6 + 1)
          obtain ⟨k1, k2, k3, k4⟩ := OcR.calls (w := w) (x := x) (y := y) (p := p) (g := g) (q := q) (pr := pr) (gr := gr) (qr := qr) (s := s) (c := c) (M := M) rc sc RC.out SC.out
          have H6 := Lib.hid h6
          have H6D := Lib.hid h6d
          have K1 := Lib.hid k1
          have K2 := Lib.hid k2
          have K3 := Lib.hid k3
          have K4 := Lib.hid k4
          clear h6 h6d k1 k2 k3 k4
          refine wp_region_held_drew (S := (fun w' => w'.cell? ⟨qr, 1, none⟩ = some (.int .i64 c) ∧ w'.cell? ⟨qr, 2, none⟩ = some (.int .i64 M) ∧ w'.rangeAt x 0 rc ∧ w'.rangeAt y 0 sc)) (by kernel_rfl) (H6.out.S _ _ RC.out SC.out) (fun hHeld => ?_)
          refine wpAnyH_take (i := 0) (oi := ({ dst := some 83, op := Op.move (Operand.tmp 18), type := 33, pos := "law.go:44", after := #[], guard := none } : Oper)) (v := ?v0_7) rfl (by kernel_rfl) (by kernel_rfl) (by kernel_rfl) (fun _ _ _ h => h) (Or.inl ⟨by rfl, ?hy0_7⟩) (by assumption) ?rest0_7
          case hy0_7 => (intro w hSw; (try dsimp only at hSw); go_simp; try (with_reducible rfl))
          (try simp only [Act.put, List.setIfInBounds_toArray, List.set_cons_zero, List.set_cons_succ])
          refine wpAnyH_take (i := 2) (oi := ({ dst := some 85, op := Op.move (Operand.tmp 19), type := 3, pos := "law.go:44", after := #[], guard := none } : Oper)) (v := ?v2_7) rfl (by kernel_rfl) (by kernel_rfl) (by kernel_rfl) (fun _ _ _ h => h) (Or.inl ⟨by rfl, ?hy2_7⟩) (by assumption) ?rest2_7
          case hy2_7 => (intro w hSw; (try dsimp only at hSw); go_simp; try (with_reducible rfl))
          (try simp only [Act.put, List.setIfInBounds_toArray, List.set_cons_zero, List.set_cons_succ])
          refine wpAnyH_ready (rs := [1]) (by kernel_rfl) (by simp) ?_
          refine AllReadyH.cons (o := ({ dst := some 84, op := Op.call { callee := Callee.value (Operand.func 18), args := #[Operand.tmp 83], argTypes := #[33] }, type := 3, pos := "law.go:44", after := #[{ on := 0, ground := Ground.data }], guard := none } : Oper)) rfl (fun K hK => ?_) AllReadyH.nil
          go_simp
          (refine (num20_any _ _).mono ?_; rintro e w' ⟨rfl, rfl⟩)
          (try dsimp only)
          refine hK.out _ _ (H6.out.S _ _ RC.out SC.out) (fun hHeld => ?_)
          clear hK K
          (try simp only [Act.put, List.setIfInBounds_toArray, List.set_cons_zero, List.set_cons_succ])
          refine wpAnyH_take (i := 3) (oi := ({ dst := some 86, op := Op.binOp BinOp.neq 3 (Operand.tmp 84) (Operand.tmp 85) 3, type := 4, pos := "law.go:44", after := #[{ on := 1, ground := Ground.data }, { on := 2, ground := Ground.data }], guard := none } : Oper)) (v := ?v3_7) rfl (by kernel_rfl) (by kernel_rfl) (by kernel_rfl) (fun _ _ _ h => h) (Or.inl ⟨by rfl, ?hy3_7⟩) (by assumption) ?rest3_7
          case hy3_7 => (intro w hSw; (try dsimp only at hSw); go_simp; try (with_reducible rfl))
          (try simp only [Act.put, List.setIfInBounds_toArray, List.set_cons_zero, List.set_cons_succ])
          refine wpAnyH_take (i := 4) (oi := ({ dst := some 87, op := Op.move (Operand.tmp 86), type := 4, pos := "law.go:44", after := #[{ on := 3, ground := Ground.data }, { on := 1, ground := Ground.chain }], guard := none } : Oper)) (v := ?v4_7) rfl (by kernel_rfl) (by kernel_rfl) (by kernel_rfl) (fun _ _ _ h => h) (Or.inl ⟨by rfl, ?hy4_7⟩) (by assumption) ?rest4_7
          case hy4_7 => (intro w hSw; (try dsimp only at hSw); go_simp; try (with_reducible rfl))
          (try simp only [Act.put, List.setIfInBounds_toArray, List.set_cons_zero, List.set_cons_succ])
          refine wpAnyH_take (i := 5) (oi := ({ dst := some 88, op := Op.move (Operand.tmp 14), type := 28, pos := "law.go:44", after := #[{ on := 4, ground := Ground.guard }], guard := some (4, false) } : Oper)) (v := ?v5_7) rfl (by kernel_rfl) (by kernel_rfl) (by kernel_rfl) (fun _ _ _ h => h) (Or.inl ⟨by rfl, ?hy5_7⟩) (by assumption) ?rest5_7
          case hy5_7 => (intro w hSw; (try dsimp only at hSw); go_simp; try (with_reducible rfl))
          (try simp only [Act.put, List.setIfInBounds_toArray, List.set_cons_zero, List.set_cons_succ])
          refine wpAnyH_take (i := 7) (oi := ({ dst := some 90, op := Op.move (Operand.tmp 15), type := 42, pos := "law.go:44", after := #[{ on := 4, ground := Ground.guard }], guard := some (4, false) } : Oper)) (v := ?v7_7) rfl (by kernel_rfl) (by kernel_rfl) (by kernel_rfl) (fun _ _ _ h => h) (Or.inl ⟨by rfl, ?hy7_7⟩) (by assumption) ?rest7_7
          case hy7_7 => (intro w hSw; (try dsimp only at hSw); go_simp; try (with_reducible rfl))
          (try simp only [Act.put, List.setIfInBounds_toArray, List.set_cons_zero, List.set_cons_succ])
          refine wpAnyH_take (i := 8) (oi := ({ dst := some 91, op := Op.nilCheck (Operand.tmp 90), type := 0, pos := "law.go:44", after := #[{ on := 7, ground := Ground.data }, { on := 4, ground := Ground.guard }], guard := some (4, false) } : Oper)) (v := ?v8_7) rfl (by kernel_rfl) (by kernel_rfl) (by kernel_rfl) (fun _ _ _ h => h) (Or.inl ⟨by rfl, ?hy8_7⟩) (by assumption) ?rest8_7
          case hy8_7 => (intro w hSw; (try dsimp only at hSw); go_simp; try (with_reducible rfl))
          (try simp only [Act.put, List.setIfInBounds_toArray, List.set_cons_zero, List.set_cons_succ])
          refine wpAnyH_take (i := 9) (oi := ({ dst := some 92, op := Op.fieldAddr 46 (Operand.tmp 91) 1, type := 0, pos := "law.go:44", after := #[{ on := 8, ground := Ground.data }, { on := 4, ground := Ground.guard }], guard := some (4, false) } : Oper)) (v := ?v9_7) rfl (by kernel_rfl) (by kernel_rfl) (by kernel_rfl) (fun _ _ _ h => h) (Or.inl ⟨by rfl, ?hy9_7⟩) (by assumption) ?rest9_7
          case hy9_7 => (intro w hSw; (try dsimp only at hSw); go_simp; try (with_reducible rfl))
          (try simp only [Act.put, List.setIfInBounds_toArray, List.set_cons_zero, List.set_cons_succ])
          refine wpAnyH_take (i := 10) (oi := ({ dst := some 93, op := Op.load 3 (Operand.tmp 92), type := 3, pos := "law.go:44", after := #[{ on := 9, ground := Ground.data }, { on := 4, ground := Ground.guard }], guard := some (4, false) } : Oper)) (v := ?v10_7) rfl (by kernel_rfl) (by kernel_rfl) (by kernel_rfl) (fun _ _ _ h => h) (Or.inl ⟨by rfl, ?hy10_7⟩) (by assumption) ?rest10_7
          case hy10_7 => (intro w hSw; (try dsimp only at hSw); go_simp; try (with_reducible rfl))
          (try simp only [Act.put, List.setIfInBounds_toArray, List.set_cons_zero, List.set_cons_succ])
          refine wpAnyH_ready (rs := [6]) (by kernel_rfl) (by simp) ?_
          refine AllReadyH.cons (o := ({ dst := some 89, op := Op.call { callee := Callee.value (Operand.func 19), args := #[Operand.tmp 88], argTypes := #[28] }, type := 3, pos := "law.go:44", after := #[{ on := 5, ground := Ground.data }, { on := 4, ground := Ground.chain }, { on := 4, ground := Ground.guard }], guard := some (4, false) } : Oper)) rfl (fun K hK => ?_) AllReadyH.nil
          go_simp
          (refine (K1.out _ H6D.out).mono ?_; rintro e w' ⟨rfl, rfl⟩)
          (try dsimp only)
          refine hK.out _ _ (H6.out.S _ _ RC.out SC.out) (fun hHeld => ?_)
          clear hK K
          (try simp only [Act.put, List.setIfInBounds_toArray, List.set_cons_zero, List.set_cons_succ])
          refine wpAnyH_take (i := 11) (oi := ({ dst := some 94, op := Op.binOp BinOp.neq 3 (Operand.tmp 89) (Operand.tmp 93) 3, type := 4, pos := "law.go:44", after := #[{ on := 6, ground := Ground.data }, { on := 10, ground := Ground.data }, { on := 4, ground := Ground.guard }], guard := some (4, false) } : Oper)) (v := ?v11_7) rfl (by kernel_rfl) (by kernel_rfl) (by kernel_rfl) (fun _ _ _ h => h) (Or.inl ⟨by rfl, ?hy11_7⟩) (by assumption) ?rest11_7
          case hy11_7 => (intro w hSw; (try dsimp only at hSw); go_simp; try (with_reducible rfl))
          (try simp only [Act.put, List.setIfInBounds_toArray, List.set_cons_zero, List.set_cons_succ])
          refine wpAnyH_take (i := 12) (oi := ({ dst := some 95, op := Op.pick (Operand.tmp 87) (Operand.const (Value.bool true)) (Operand.tmp 94), type := 4, pos := "law.go:44", after := #[{ on := 4, ground := Ground.data }, { on := 11, ground := Ground.data }], guard := none } : Oper)) (v := ?v12_7) rfl (by kernel_rfl) (by kernel_rfl) (by kernel_rfl) (fun _ _ _ h => h) (Or.inl ⟨by rfl, ?hy12_7⟩) (by assumption) ?rest12_7
          case hy12_7 => (intro w hSw; (try dsimp only at hSw); go_simp; try (with_reducible rfl))
          (try simp only [Act.put, List.setIfInBounds_toArray, List.set_cons_zero, List.set_cons_succ])
          refine wpAnyH_take (i := 13) (oi := ({ dst := some 96, op := Op.move (Operand.tmp 95), type := 4, pos := "law.go:44", after := #[{ on := 12, ground := Ground.data }, { on := 6, ground := Ground.chain }], guard := none } : Oper)) (v := ?v13_7) rfl (by kernel_rfl) (by kernel_rfl) (by kernel_rfl) (fun _ _ _ h => h) (Or.inl ⟨by rfl, ?hy13_7⟩) (by assumption) ?rest13_7
          case hy13_7 => (intro w hSw; (try dsimp only at hSw); go_simp; try (with_reducible rfl))
          (try simp only [Act.put, List.setIfInBounds_toArray, List.set_cons_zero, List.set_cons_succ])
          refine wpAnyH_take (i := 14) (oi := ({ dst := some 97, op := Op.move (Operand.tmp 14), type := 28, pos := "law.go:44", after := #[{ on := 13, ground := Ground.guard }], guard := some (13, false) } : Oper)) (v := ?v14_7) rfl (by kernel_rfl) (by kernel_rfl) (by kernel_rfl) (fun _ _ _ h => h) (Or.inl ⟨by rfl, ?hy14_7⟩) (by assumption) ?rest14_7
          case hy14_7 => (intro w hSw; (try dsimp only at hSw); go_simp; try (with_reducible rfl))
          (try simp only [Act.put, List.setIfInBounds_toArray, List.set_cons_zero, List.set_cons_succ])
          refine wpAnyH_take (i := 16) (oi := ({ dst := some 99, op := Op.move (Operand.tmp 15), type := 42, pos := "law.go:44", after := #[{ on := 13, ground := Ground.guard }], guard := some (13, false) } : Oper)) (v := ?v16_7) rfl (by kernel_rfl) (by kernel_rfl) (by kernel_rfl) (fun _ _ _ h => h) (Or.inl ⟨by rfl, ?hy16_7⟩) (by assumption) ?rest16_7
          case hy16_7 => (intro w hSw; (try dsimp only at hSw); go_simp; try (with_reducible rfl))
          (try simp only [Act.put, List.setIfInBounds_toArray, List.set_cons_zero, List.set_cons_succ])
          refine wpAnyH_take (i := 17) (oi := ({ dst := some 100, op := Op.nilCheck (Operand.tmp 99), type := 0, pos := "law.go:44", after := #[{ on := 16, ground := Ground.data }, { on := 13, ground := Ground.guard }], guard := some (13, false) } : Oper)) (v := ?v17_7) rfl (by kernel_rfl) (by kernel_rfl) (by kernel_rfl) (fun _ _ _ h => h) (Or.inl ⟨by rfl, ?hy17_7⟩) (by assumption) ?rest17_7
          case hy17_7 => (intro w hSw; (try dsimp only at hSw); go_simp; try (with_reducible rfl))
          (try simp only [Act.put, List.setIfInBounds_toArray, List.set_cons_zero, List.set_cons_succ])
          refine wpAnyH_take (i := 18) (oi := ({ dst := some 101, op := Op.fieldAddr 46 (Operand.tmp 100) 2, type := 0, pos := "law.go:44", after := #[{ on := 17, ground := Ground.data }, { on := 13, ground := Ground.guard }], guard := some (13, false) } : Oper)) (v := ?v18_7) rfl (by kernel_rfl) (by kernel_rfl) (by kernel_rfl) (fun _ _ _ h => h) (Or.inl ⟨by rfl, ?hy18_7⟩) (by assumption) ?rest18_7
          case hy18_7 => (intro w hSw; (try dsimp only at hSw); go_simp; try (with_reducible rfl))
          (try simp only [Act.put, List.setIfInBounds_toArray, List.set_cons_zero, List.set_cons_succ])
          refine wpAnyH_take (i := 19) (oi := ({ dst := some 102, op := Op.load 3 (Operand.tmp 101), type := 3, pos := "law.go:44", after := #[{ on := 18, ground := Ground.data }, { on := 13, ground := Ground.guard }], guard := some (13, false) } : Oper)) (v := ?v19_7) rfl (by kernel_rfl) (by kernel_rfl) (by kernel_rfl) (fun _ _ _ h => h) (Or.inl ⟨by rfl, ?hy19_7⟩) (by assumption) ?rest19_7
          case hy19_7 => (intro w hSw; (try dsimp only at hSw); go_simp; try (with_reducible rfl))
          (try simp only [Act.put, List.setIfInBounds_toArray, List.set_cons_zero, List.set_cons_succ])
          refine wpAnyH_ready (rs := [15]) (by kernel_rfl) (by simp) ?_
          refine AllReadyH.cons (o := ({ dst := some 98, op := Op.call { callee := Callee.value (Operand.func 26), args := #[Operand.tmp 97], argTypes := #[28] }, type := 3, pos := "law.go:44", after := #[{ on := 14, ground := Ground.data }, { on := 13, ground := Ground.chain }, { on := 13, ground := Ground.guard }], guard := some (13, false) } : Oper)) rfl (fun K hK => ?_) AllReadyH.nil
          go_simp
          (refine (K2.out _ H6D.out).mono ?_; rintro e w' ⟨rfl, rfl⟩)
          (try dsimp only)
          refine hK.out _ _ (H6.out.S _ _ RC.out SC.out) (fun hHeld => ?_)
          clear hK K
          (try simp only [Act.put, List.setIfInBounds_toArray, List.set_cons_zero, List.set_cons_succ])
          refine wpAnyH_take (i := 20) (oi := ({ dst := some 103, op := Op.binOp BinOp.neq 3 (Operand.tmp 98) (Operand.tmp 102) 3, type := 4, pos := "law.go:44", after := #[{ on := 15, ground := Ground.data }, { on := 19, ground := Ground.data }, { on := 13, ground := Ground.guard }], guard := some (13, false) } : Oper)) (v := ?v20_7) rfl (by kernel_rfl) (by kernel_rfl) (by kernel_rfl) (fun _ _ _ h => h) (Or.inl ⟨by rfl, ?hy20_7⟩) (by assumption) ?rest20_7
          case hy20_7 => (intro w hSw; (try dsimp only at hSw); go_simp; try (with_reducible rfl))
          (try simp only [Act.put, List.setIfInBounds_toArray, List.set_cons_zero, List.set_cons_succ])
          refine wpAnyH_take (i := 21) (oi := ({ dst := some 104, op := Op.pick (Operand.tmp 96) (Operand.const (Value.bool true)) (Operand.tmp 103), type := 4, pos := "law.go:44", after := #[{ on := 13, ground := Ground.data }, { on := 20, ground := Ground.data }], guard := none } : Oper)) (v := ?v21_7) rfl (by kernel_rfl) (by kernel_rfl) (by kernel_rfl) (fun _ _ _ h => h) (Or.inl ⟨by rfl, ?hy21_7⟩) (by assumption) ?rest21_7
          case hy21_7 => (intro w hSw; (try dsimp only at hSw); go_simp; try (with_reducible rfl))
          (try simp only [Act.put, List.setIfInBounds_toArray, List.set_cons_zero, List.set_cons_succ])
          refine wpAnyH_take (i := 22) (oi := ({ dst := some 105, op := Op.move (Operand.tmp 104), type := 4, pos := "law.go:44", after := #[{ on := 21, ground := Ground.data }, { on := 15, ground := Ground.chain }], guard := none } : Oper)) (v := ?v22_7) rfl (by kernel_rfl) (by kernel_rfl) (by kernel_rfl) (fun _ _ _ h => h) (Or.inl ⟨by rfl, ?hy22_7⟩) (by assumption) ?rest22_7
          case hy22_7 => (intro w hSw; (try dsimp only at hSw); go_simp; try (with_reducible rfl))
          (try simp only [Act.put, List.setIfInBounds_toArray, List.set_cons_zero, List.set_cons_succ])
          refine wpAnyH_take (i := 23) (oi := ({ dst := some 106, op := Op.move (Operand.tmp 14), type := 28, pos := "law.go:44", after := #[{ on := 22, ground := Ground.guard }], guard := some (22, false) } : Oper)) (v := ?v23_7) rfl (by kernel_rfl) (by kernel_rfl) (by kernel_rfl) (fun _ _ _ h => h) (Or.inl ⟨by rfl, ?hy23_7⟩) (by assumption) ?rest23_7
          case hy23_7 => (intro w hSw; (try dsimp only at hSw); go_simp; try (with_reducible rfl))
          (try simp only [Act.put, List.setIfInBounds_toArray, List.set_cons_zero, List.set_cons_succ])
          refine' wpAnyH_take (i := 25) (oi := ({ dst := some 108, op := Op.load 31 (Operand.tmp 6), type := 31, pos := "law.go:44", after := #[{ on := 22, ground := Ground.guard }], guard := some (22, false) } : Oper)) (v := _) rfl (by kernel_rfl) (by kernel_rfl) (by kernel_rfl) (fun _ _ _ h => h) (yieldsIf_load_mid (by rfl) _ _ rfl _ _ rfl rc _ ?hS25_7 u1 rfl i1) (by assumption) ?rest25_7
          case hS25_7 => (intro w hSw; exact hSw.2.2.1)
          (try simp only [Act.put, List.setIfInBounds_toArray, List.set_cons_zero, List.set_cons_succ])
          refine wpAnyH_ready (rs := [24]) (by kernel_rfl) (by simp) ?_
          refine AllReadyH.cons (o := ({ dst := some 107, op := Op.call { callee := Callee.value (Operand.func 20), args := #[Operand.tmp 106], argTypes := #[28] }, type := 31, pos := "law.go:44", after := #[{ on := 23, ground := Ground.data }, { on := 22, ground := Ground.chain }, { on := 22, ground := Ground.guard }], guard := some (22, false) } : Oper)) rfl (fun K hK => ?_) AllReadyH.nil
          go_simp
          (refine (K3.out _ H6D.out).mono ?_; rintro e w7 ⟨rfl, h7⟩; have H7 := Lib.hid h7; clear h7)
          (try dsimp only)
          refine hK.out _ _ (H7.out.S _ _ RC.out SC.out) (fun hHeld => ?_)
          clear hK K
          (try simp only [Act.put, List.setIfInBounds_toArray, List.set_cons_zero, List.set_cons_succ])
          refine wpAnyH_take (i := 26) (oi := ({ dst := some 109, op := Op.binOp BinOp.neq 31 (Operand.tmp 107) (Operand.tmp 108) 31, type := 4, pos := "law.go:44", after := #[{ on := 24, ground := Ground.data }, { on := 25, ground := Ground.data }, { on := 22, ground := Ground.guard }], guard := some (22, false) } : Oper)) (v := ?v26_7) rfl (by kernel_rfl) (by kernel_rfl) (by kernel_rfl) (fun _ _ _ h => h) (Or.inl ⟨by rfl, ?hy26_7⟩) (by assumption) ?rest26_7
          case hy26_7 => (intro w hSw; (try dsimp only at hSw); go_simp; try (with_reducible rfl))
          (try simp only [Act.put, List.setIfInBounds_toArray, List.set_cons_zero, List.set_cons_succ])
          refine wpAnyH_take (i := 27) (oi := ({ dst := some 110, op := Op.pick (Operand.tmp 105) (Operand.const (Value.bool true)) (Operand.tmp 109), type := 4, pos := "law.go:44", after := #[{ on := 22, ground := Ground.data }, { on := 26, ground := Ground.data }], guard := none } : Oper)) (v := ?v27_7) rfl (by kernel_rfl) (by kernel_rfl) (by kernel_rfl) (fun _ _ _ h => h) (Or.inl ⟨by rfl, ?hy27_7⟩) (by assumption) ?rest27_7
          case hy27_7 => (intro w hSw; (try dsimp only at hSw); go_simp; try (with_reducible rfl))
          (try simp only [Act.put, List.setIfInBounds_toArray, List.set_cons_zero, List.set_cons_succ])
          refine wpAnyH_take (i := 28) (oi := ({ dst := some 111, op := Op.move (Operand.tmp 110), type := 4, pos := "law.go:44", after := #[{ on := 27, ground := Ground.data }, { on := 24, ground := Ground.chain }], guard := none } : Oper)) (v := ?v28_7) rfl (by kernel_rfl) (by kernel_rfl) (by kernel_rfl) (fun _ _ _ h => h) (Or.inl ⟨by rfl, ?hy28_7⟩) (by assumption) ?rest28_7
          case hy28_7 => (intro w hSw; (try dsimp only at hSw); go_simp; try (with_reducible rfl))
          (try simp only [Act.put, List.setIfInBounds_toArray, List.set_cons_zero, List.set_cons_succ])
          refine wpAnyH_take (i := 29) (oi := ({ dst := some 112, op := Op.move (Operand.tmp 14), type := 28, pos := "law.go:44", after := #[{ on := 28, ground := Ground.guard }], guard := some (28, false) } : Oper)) (v := ?v29_7) rfl (by kernel_rfl) (by kernel_rfl) (by kernel_rfl) (fun _ _ _ h => h) (Or.inl ⟨by rfl, ?hy29_7⟩) (by assumption) ?rest29_7
          case hy29_7 => (intro w hSw; (try dsimp only at hSw); go_simp; try (with_reducible rfl))
          (try simp only [Act.put, List.setIfInBounds_toArray, List.set_cons_zero, List.set_cons_succ])
          refine' wpAnyH_take (i := 31) (oi := ({ dst := some 114, op := Op.load 31 (Operand.tmp 7), type := 31, pos := "law.go:44", after := #[{ on := 28, ground := Ground.guard }], guard := some (28, false) } : Oper)) (v := _) rfl (by kernel_rfl) (by kernel_rfl) (by kernel_rfl) (fun _ _ _ h => h) (yieldsIf_load_mid (by rfl) _ _ rfl _ _ rfl sc _ ?hS31_7 u1 rfl i2) (by assumption) ?rest31_7
          case hS31_7 => (intro w hSw; exact hSw.2.2.2)
          (try simp only [Act.put, List.setIfInBounds_toArray, List.set_cons_zero, List.set_cons_succ])
          refine wpAnyH_ready (rs := [30]) (by kernel_rfl) (by simp) ?_
          refine AllReadyH.cons (o := ({ dst := some 113, op := Op.call { callee := Callee.value (Operand.func 21), args := #[Operand.tmp 112], argTypes := #[28] }, type := 31, pos := "law.go:44", after := #[{ on := 29, ground := Ground.data }, { on := 28, ground := Ground.chain }, { on := 28, ground := Ground.guard }], guard := some (28, false) } : Oper)) rfl (fun K hK => ?_) AllReadyH.nil
          go_simp
          (refine (K4.out _ H7.out).mono ?_; rintro e w8 ⟨rfl, h8⟩; have H8 := Lib.hid h8; clear h8)
          (try dsimp only)
          refine hK.out _ _ (H8.out.S _ _ RC.out SC.out) (fun hHeld => ?_)
          clear hK K
          (try simp only [Act.put, List.setIfInBounds_toArray, List.set_cons_zero, List.set_cons_succ])
          refine wpAnyH_take (i := 32) (oi := ({ dst := some 115, op := Op.binOp BinOp.neq 31 (Operand.tmp 113) (Operand.tmp 114) 31, type := 4, pos := "law.go:44", after := #[{ on := 30, ground := Ground.data }, { on := 31, ground := Ground.data }, { on := 28, ground := Ground.guard }], guard := some (28, false) } : Oper)) (v := ?v32_7) rfl (by kernel_rfl) (by kernel_rfl) (by kernel_rfl) (fun _ _ _ h => h) (Or.inl ⟨by rfl, ?hy32_7⟩) (by assumption) ?rest32_7
          case hy32_7 => (intro w hSw; (try dsimp only at hSw); go_simp; try (with_reducible rfl))
          (try simp only [Act.put, List.setIfInBounds_toArray, List.set_cons_zero, List.set_cons_succ])
          refine wpAnyH_take (i := 33) (oi := ({ dst := some 116, op := Op.pick (Operand.tmp 111) (Operand.const (Value.bool true)) (Operand.tmp 115), type := 4, pos := "law.go:44", after := #[{ on := 28, ground := Ground.data }, { on := 32, ground := Ground.data }], guard := none } : Oper)) (v := ?v33_7) rfl (by kernel_rfl) (by kernel_rfl) (by kernel_rfl) (fun _ _ _ h => h) (Or.inl ⟨by rfl, ?hy33_7⟩) (by assumption) ?rest33_7
          case hy33_7 => (intro w hSw; (try dsimp only at hSw); go_simp; try (with_reducible rfl))
          (try simp only [Act.put, List.setIfInBounds_toArray, List.set_cons_zero, List.set_cons_succ])
          refine wpAnyH_done (by kernel_rfl) ?_ _
          go_wp2_with fail
          go_roundw
          case rel => exact ⟨j + 1, c, s, by omega, by omega, by go_num, H8.out⟩
          case measure => simp [intOf]; omega
        · have hcm2 : ((c : Int) == (M : Int)) = false := by rw [beq_eq_false_iff_ne]; omega
          have hqs : q ≠ p ∧ q ≠ g ∧ qr ≠ pr ∧ qr ≠ gr := by have := OB.out.pg; omega
          obtain ⟨d1, d2, d3, d4⟩ := hqs
          have HCM := Lib.hid hcm2
          clear hcm2
          cases ht : s.turnOk with
          | true =>
            have hst := ostep_ok q p g s _ _ c M wr OC.out.o OC.out.fl d1 d2 HCM.out ht (by omega)
            have hst2 := fun w h1 h2 => rostep_ok qr pr gr s c M w h1 h2 d3 d4 HCM.out ht (by omega)
            have HST := Lib.hid hst
            have HST2 := Lib.hid hst2
            clear hst hst2 ht
            go_wp2_with fail
            refine HST.out.mono ?_
            rintro e w5 ⟨rfl, hf5, ho5, hk5, -⟩
            obtain ⟨e1, e2, e3⟩ := OC.out.own OB.out hk5 hf5 (by simpa using ho5 : IsOtp w5 q (.pointer (some ⟨p, 0, none⟩)) r sx ((c + 1 : Nat) : Int) M)
            have E1 := Lib.hid e1
            have E2 := Lib.hid e2
            have E3 := Lib.hid e3
            have F5 := Lib.hid hf5
            have O5 := Lib.hid ho5
            clear e1 e2 e3 hf5 ho5 hk5
            go_wp2_with fail
            refine (HST2.out w5 E2.out E1.out).mono ?_
            rintro e w6 ⟨rfl, hf6, ho6, hk6, -⟩
            have h6 := OcR.both (c' := c + 1) OB.out F5.out (by simpa using O5.out) E3.out hk6 hf6 (by simpa using ho6)
            have h6d := h6.drew
            clear hf6 ho6 hk6
            go_wp2_with fail
            obtain ⟨k1, k2, k3, k4⟩ := OcR.calls (w := w) (x := x) (y := y) (p := p) (g := g) (q := q) (pr := pr) (gr := gr) (qr := qr) (s := s.turn) (c := (c + 1)) (M := M) rc sc RC.out SC.out
            have H6 := Lib.hid h6
            have H6D := Lib.hid h6d
            have K1 := Lib.hid k1
            have K2 := Lib.hid k2
            have K3 := Lib.hid k3
            have K4 := Lib.hid k4
            clear h6 h6d k1 k2 k3 k4
            refine wp_region_held_drew (S := (fun w' => w'.cell? ⟨qr, 1, none⟩ = some (.int .i64 (c + 1 : Nat)) ∧ w'.cell? ⟨qr, 2, none⟩ = some (.int .i64 M) ∧ w'.rangeAt x 0 rc ∧ w'.rangeAt y 0 sc)) (by kernel_rfl) (H6.out.S _ _ RC.out SC.out) (fun hHeld => ?_)
            refine wpAnyH_take (i := 0) (oi := ({ dst := some 83, op := Op.move (Operand.tmp 18), type := 33, pos := "law.go:44", after := #[], guard := none } : Oper)) (v := ?v0_8) rfl (by kernel_rfl) (by kernel_rfl) (by kernel_rfl) (fun _ _ _ h => h) (Or.inl ⟨by rfl, ?hy0_8⟩) (by assumption) ?rest0_8
            case hy0_8 => (intro w hSw; (try dsimp only at hSw); go_simp; try (with_reducible rfl))
            (try simp only [Act.put, List.setIfInBounds_toArray, List.set_cons_zero, List.set_cons_succ])
            refine wpAnyH_take (i := 2) (oi := ({ dst := some 85, op := Op.move (Operand.tmp 19), type := 3, pos := "law.go:44", after := #[], guard := none } : Oper)) (v := ?v2_8) rfl (by kernel_rfl) (by kernel_rfl) (by kernel_rfl) (fun _ _ _ h => h) (Or.inl ⟨by rfl, ?hy2_8⟩) (by assumption) ?rest2_8
            case hy2_8 => (intro w hSw; (try dsimp only at hSw); go_simp; try (with_reducible rfl))
            (try simp only [Act.put, List.setIfInBounds_toArray, List.set_cons_zero, List.set_cons_succ])
            refine wpAnyH_ready (rs := [1]) (by kernel_rfl) (by simp) ?_
            refine AllReadyH.cons (o := ({ dst := some 84, op := Op.call { callee := Callee.value (Operand.func 18), args := #[Operand.tmp 83], argTypes := #[33] }, type := 3, pos := "law.go:44", after := #[{ on := 0, ground := Ground.data }], guard := none } : Oper)) rfl (fun K hK => ?_) AllReadyH.nil
            go_simp
            (refine (num20_any _ _).mono ?_; rintro e w' ⟨rfl, rfl⟩)
            (try dsimp only)
            refine hK.out _ _ (H6.out.S _ _ RC.out SC.out) (fun hHeld => ?_)
            clear hK K
            (try simp only [Act.put, List.setIfInBounds_toArray, List.set_cons_zero, List.set_cons_succ])
            refine wpAnyH_take (i := 3) (oi := ({ dst := some 86, op := Op.binOp BinOp.neq 3 (Operand.tmp 84) (Operand.tmp 85) 3, type := 4, pos := "law.go:44", after := #[{ on := 1, ground := Ground.data }, { on := 2, ground := Ground.data }], guard := none } : Oper)) (v := ?v3_8) rfl (by kernel_rfl) (by kernel_rfl) (by kernel_rfl) (fun _ _ _ h => h) (Or.inl ⟨by rfl, ?hy3_8⟩) (by assumption) ?rest3_8
            case hy3_8 => (intro w hSw; (try dsimp only at hSw); go_simp; try (with_reducible rfl))
            (try simp only [Act.put, List.setIfInBounds_toArray, List.set_cons_zero, List.set_cons_succ])
            refine wpAnyH_take (i := 4) (oi := ({ dst := some 87, op := Op.move (Operand.tmp 86), type := 4, pos := "law.go:44", after := #[{ on := 3, ground := Ground.data }, { on := 1, ground := Ground.chain }], guard := none } : Oper)) (v := ?v4_8) rfl (by kernel_rfl) (by kernel_rfl) (by kernel_rfl) (fun _ _ _ h => h) (Or.inl ⟨by rfl, ?hy4_8⟩) (by assumption) ?rest4_8
            case hy4_8 => (intro w hSw; (try dsimp only at hSw); go_simp; try (with_reducible rfl))
            (try simp only [Act.put, List.setIfInBounds_toArray, List.set_cons_zero, List.set_cons_succ])
            refine wpAnyH_take (i := 5) (oi := ({ dst := some 88, op := Op.move (Operand.tmp 14), type := 28, pos := "law.go:44", after := #[{ on := 4, ground := Ground.guard }], guard := some (4, false) } : Oper)) (v := ?v5_8) rfl (by kernel_rfl) (by kernel_rfl) (by kernel_rfl) (fun _ _ _ h => h) (Or.inl ⟨by rfl, ?hy5_8⟩) (by assumption) ?rest5_8
            case hy5_8 => (intro w hSw; (try dsimp only at hSw); go_simp; try (with_reducible rfl))
            (try simp only [Act.put, List.setIfInBounds_toArray, List.set_cons_zero, List.set_cons_succ])
            refine wpAnyH_take (i := 7) (oi := ({ dst := some 90, op := Op.move (Operand.tmp 15), type := 42, pos := "law.go:44", after := #[{ on := 4, ground := Ground.guard }], guard := some (4, false) } : Oper)) (v := ?v7_8) rfl (by kernel_rfl) (by kernel_rfl) (by kernel_rfl) (fun _ _ _ h => h) (Or.inl ⟨by rfl, ?hy7_8⟩) (by assumption) ?rest7_8
            case hy7_8 => (intro w hSw; (try dsimp only at hSw); go_simp; try (with_reducible rfl))
            (try simp only [Act.put, List.setIfInBounds_toArray, List.set_cons_zero, List.set_cons_succ])
            refine wpAnyH_take (i := 8) (oi := ({ dst := some 91, op := Op.nilCheck (Operand.tmp 90), type := 0, pos := "law.go:44", after := #[{ on := 7, ground := Ground.data }, { on := 4, ground := Ground.guard }], guard := some (4, false) } : Oper)) (v := ?v8_8) rfl (by kernel_rfl) (by kernel_rfl) (by kernel_rfl) (fun _ _ _ h => h) (Or.inl ⟨by rfl, ?hy8_8⟩) (by assumption) ?rest8_8
            case hy8_8 => (intro w hSw; (try dsimp only at hSw); go_simp; try (with_reducible rfl))
            (try simp only [Act.put, List.setIfInBounds_toArray, List.set_cons_zero, List.set_cons_succ])
            refine wpAnyH_take (i := 9) (oi := ({ dst := some 92, op := Op.fieldAddr 46 (Operand.tmp 91) 1, type := 0, pos := "law.go:44", after := #[{ on := 8, ground := Ground.data }, { on := 4, ground := Ground.guard }], guard := some (4, false) } : Oper)) (v := ?v9_8) rfl (by kernel_rfl) (by kernel_rfl) (by kernel_rfl) (fun _ _ _ h => h) (Or.inl ⟨by rfl, ?hy9_8⟩) (by assumption) ?rest9_8
            case hy9_8 => (intro w hSw; (try dsimp only at hSw); go_simp; try (with_reducible rfl))
            (try simp only [Act.put, List.setIfInBounds_toArray, List.set_cons_zero, List.set_cons_succ])
            refine wpAnyH_take (i := 10) (oi := ({ dst := some 93, op := Op.load 3 (Operand.tmp 92), type := 3, pos := "law.go:44", after := #[{ on := 9, ground := Ground.data }, { on := 4, ground := Ground.guard }], guard := some (4, false) } : Oper)) (v := ?v10_8) rfl (by kernel_rfl) (by kernel_rfl) (by kernel_rfl) (fun _ _ _ h => h) (Or.inl ⟨by rfl, ?hy10_8⟩) (by assumption) ?rest10_8
            case hy10_8 => (intro w hSw; (try dsimp only at hSw); go_simp; try (with_reducible rfl))
            (try simp only [Act.put, List.setIfInBounds_toArray, List.set_cons_zero, List.set_cons_succ])
            refine wpAnyH_ready (rs := [6]) (by kernel_rfl) (by simp) ?_
            refine AllReadyH.cons (o := ({ dst := some 89, op := Op.call { callee := Callee.value (Operand.func 19), args := #[Operand.tmp 88], argTypes := #[28] }, type := 3, pos := "law.go:44", after := #[{ on := 5, ground := Ground.data }, { on := 4, ground := Ground.chain }, { on := 4, ground := Ground.guard }], guard := some (4, false) } : Oper)) rfl (fun K hK => ?_) AllReadyH.nil
            go_simp
            (refine (K1.out _ H6D.out).mono ?_; rintro e w' ⟨rfl, rfl⟩)
            (try dsimp only)
            refine hK.out _ _ (H6.out.S _ _ RC.out SC.out) (fun hHeld => ?_)
            clear hK K
            (try simp only [Act.put, List.setIfInBounds_toArray, List.set_cons_zero, List.set_cons_succ])
            refine wpAnyH_take (i := 11) (oi := ({ dst := some 94, op := Op.binOp BinOp.neq 3 (Operand.tmp 89) (Operand.tmp 93) 3, type := 4, pos := "law.go:44", after := #[{ on := 6, ground := Ground.data }, { on := 10, ground := Ground.data }, { on := 4, ground := Ground.guard }], guard := some (4, false) } : Oper)) (v := ?v11_8) rfl (by kernel_rfl) (by kernel_rfl) (by kernel_rfl) (fun _ _ _ h => h) (Or.inl ⟨by rfl, ?hy11_8⟩) (by assumption) ?rest11_8
            case hy11_8 => (intro w hSw; (try dsimp only at hSw); go_simp; try (with_reducible rfl))
            (try simp only [Act.put, List.setIfInBounds_toArray, List.set_cons_zero, List.set_cons_succ])
            refine wpAnyH_take (i := 12) (oi := ({ dst := some 95, op := Op.pick (Operand.tmp 87) (Operand.const (Value.bool true)) (Operand.tmp 94), type := 4, pos := "law.go:44", after := #[{ on := 4, ground := Ground.data }, { on := 11, ground := Ground.data }], guard := none } : Oper)) (v := ?v12_8) rfl (by kernel_rfl) (by kernel_rfl) (by kernel_rfl) (fun _ _ _ h => h) (Or.inl ⟨by rfl, ?hy12_8⟩) (by assumption) ?rest12_8
            case hy12_8 => (intro w hSw; (try dsimp only at hSw); go_simp; try (with_reducible rfl))
            (try simp only [Act.put, List.setIfInBounds_toArray, List.set_cons_zero, List.set_cons_succ])
            refine wpAnyH_take (i := 13) (oi := ({ dst := some 96, op := Op.move (Operand.tmp 95), type := 4, pos := "law.go:44", after := #[{ on := 12, ground := Ground.data }, { on := 6, ground := Ground.chain }], guard := none } : Oper)) (v := ?v13_8) rfl (by kernel_rfl) (by kernel_rfl) (by kernel_rfl) (fun _ _ _ h => h) (Or.inl ⟨by rfl, ?hy13_8⟩) (by assumption) ?rest13_8
            case hy13_8 => (intro w hSw; (try dsimp only at hSw); go_simp; try (with_reducible rfl))
            (try simp only [Act.put, List.setIfInBounds_toArray, List.set_cons_zero, List.set_cons_succ])
            refine wpAnyH_take (i := 14) (oi := ({ dst := some 97, op := Op.move (Operand.tmp 14), type := 28, pos := "law.go:44", after := #[{ on := 13, ground := Ground.guard }], guard := some (13, false) } : Oper)) (v := ?v14_8) rfl (by kernel_rfl) (by kernel_rfl) (by kernel_rfl) (fun _ _ _ h => h) (Or.inl ⟨by rfl, ?hy14_8⟩) (by assumption) ?rest14_8
            case hy14_8 => (intro w hSw; (try dsimp only at hSw); go_simp; try (with_reducible rfl))
            (try simp only [Act.put, List.setIfInBounds_toArray, List.set_cons_zero, List.set_cons_succ])
            refine wpAnyH_take (i := 16) (oi := ({ dst := some 99, op := Op.move (Operand.tmp 15), type := 42, pos := "law.go:44", after := #[{ on := 13, ground := Ground.guard }], guard := some (13, false) } : Oper)) (v := ?v16_8) rfl (by kernel_rfl) (by kernel_rfl) (by kernel_rfl) (fun _ _ _ h => h) (Or.inl ⟨by rfl, ?hy16_8⟩) (by assumption) ?rest16_8
            case hy16_8 => (intro w hSw; (try dsimp only at hSw); go_simp; try (with_reducible rfl))
            (try simp only [Act.put, List.setIfInBounds_toArray, List.set_cons_zero, List.set_cons_succ])
            refine wpAnyH_take (i := 17) (oi := ({ dst := some 100, op := Op.nilCheck (Operand.tmp 99), type := 0, pos := "law.go:44", after := #[{ on := 16, ground := Ground.data }, { on := 13, ground := Ground.guard }], guard := some (13, false) } : Oper)) (v := ?v17_8) rfl (by kernel_rfl) (by kernel_rfl) (by kernel_rfl) (fun _ _ _ h => h) (Or.inl ⟨by rfl, ?hy17_8⟩) (by assumption) ?rest17_8
            case hy17_8 => (intro w hSw; (try dsimp only at hSw); go_simp; try (with_reducible rfl))
            (try simp only [Act.put, List.setIfInBounds_toArray, List.set_cons_zero, List.set_cons_succ])
            refine wpAnyH_take (i := 18) (oi := ({ dst := some 101, op := Op.fieldAddr 46 (Operand.tmp 100) 2, type := 0, pos := "law.go:44", after := #[{ on := 17, ground := Ground.data }, { on := 13, ground := Ground.guard }], guard := some (13, false) } : Oper)) (v := ?v18_8) rfl (by kernel_rfl) (by kernel_rfl) (by kernel_rfl) (fun _ _ _ h => h) (Or.inl ⟨by rfl, ?hy18_8⟩) (by assumption) ?rest18_8
            case hy18_8 => (intro w hSw; (try dsimp only at hSw); go_simp; try (with_reducible rfl))
            (try simp only [Act.put, List.setIfInBounds_toArray, List.set_cons_zero, List.set_cons_succ])
            refine wpAnyH_take (i := 19) (oi := ({ dst := some 102, op := Op.load 3 (Operand.tmp 101), type := 3, pos := "law.go:44", after := #[{ on := 18, ground := Ground.data }, { on := 13, ground := Ground.guard }], guard := some (13, false) } : Oper)) (v := ?v19_8) rfl (by kernel_rfl) (by kernel_rfl) (by kernel_rfl) (fun _ _ _ h => h) (Or.inl ⟨by rfl, ?hy19_8⟩) (by assumption) ?rest19_8
            case hy19_8 => (intro w hSw; (try dsimp only at hSw); go_simp; try (with_reducible rfl))
            (try simp only [Act.put, List.setIfInBounds_toArray, List.set_cons_zero, List.set_cons_succ])
            refine wpAnyH_ready (rs := [15]) (by kernel_rfl) (by simp) ?_
            refine AllReadyH.cons (o := ({ dst := some 98, op := Op.call { callee := Callee.value (Operand.func 26), args := #[Operand.tmp 97], argTypes := #[28] }, type := 3, pos := "law.go:44", after := #[{ on := 14, ground := Ground.data }, { on := 13, ground := Ground.chain }, { on := 13, ground := Ground.guard }], guard := some (13, false) } : Oper)) rfl (fun K hK => ?_) AllReadyH.nil
            go_simp
            (refine (K2.out _ H6D.out).mono ?_; rintro e w' ⟨rfl, rfl⟩)
            (try dsimp only)
            refine hK.out _ _ (H6.out.S _ _ RC.out SC.out) (fun hHeld => ?_)
            clear hK K
            (try simp only [Act.put, List.setIfInBounds_toArray, List.set_cons_zero, List.set_cons_succ])
            refine wpAnyH_take (i := 20) (oi := ({ dst := some 103, op := Op.binOp BinOp.neq 3 (Operand.tmp 98) (Operand.tmp 102) 3, type := 4, pos := "law.go:44", after := #[{ on := 15, ground := Ground.data }, { on := 19, ground := Ground.data }, { on := 13, ground := Ground.guard }], guard := some (13, false) } : Oper)) (v := ?v20_8) rfl (by kernel_rfl) (by kernel_rfl) (by kernel_rfl) (fun _ _ _ h => h) (Or.inl ⟨by rfl, ?hy20_8⟩) (by assumption) ?rest20_8
            case hy20_8 => (intro w hSw; (try dsimp only at hSw); go_simp; try (with_reducible rfl))
            (try simp only [Act.put, List.setIfInBounds_toArray, List.set_cons_zero, List.set_cons_succ])
            refine wpAnyH_take (i := 21) (oi := ({ dst := some 104, op := Op.pick (Operand.tmp 96) (Operand.const (Value.bool true)) (Operand.tmp 103), type := 4, pos := "law.go:44", after := #[{ on := 13, ground := Ground.data }, { on := 20, ground := Ground.data }], guard := none } : Oper)) (v := ?v21_8) rfl (by kernel_rfl) (by kernel_rfl) (by kernel_rfl) (fun _ _ _ h => h) (Or.inl ⟨by rfl, ?hy21_8⟩) (by assumption) ?rest21_8
            case hy21_8 => (intro w hSw; (try dsimp only at hSw); go_simp; try (with_reducible rfl))
            (try simp only [Act.put, List.setIfInBounds_toArray, List.set_cons_zero, List.set_cons_succ])
            refine wpAnyH_take (i := 22) (oi := ({ dst := some 105, op := Op.move (Operand.tmp 104), type := 4, pos := "law.go:44", after := #[{ on := 21, ground := Ground.data }, { on := 15, ground := Ground.chain }], guard := none } : Oper)) (v := ?v22_8) rfl (by kernel_rfl) (by kernel_rfl) (by kernel_rfl) (fun _ _ _ h => h) (Or.inl ⟨by rfl, ?hy22_8⟩) (by assumption) ?rest22_8
            case hy22_8 => (intro w hSw; (try dsimp only at hSw); go_simp; try (with_reducible rfl))
            (try simp only [Act.put, List.setIfInBounds_toArray, List.set_cons_zero, List.set_cons_succ])
            refine wpAnyH_take (i := 23) (oi := ({ dst := some 106, op := Op.move (Operand.tmp 14), type := 28, pos := "law.go:44", after := #[{ on := 22, ground := Ground.guard }], guard := some (22, false) } : Oper)) (v := ?v23_8) rfl (by kernel_rfl) (by kernel_rfl) (by kernel_rfl) (fun _ _ _ h => h) (Or.inl ⟨by rfl, ?hy23_8⟩) (by assumption) ?rest23_8
            case hy23_8 => (intro w hSw; (try dsimp only at hSw); go_simp; try (with_reducible rfl))
            (try simp only [Act.put, List.setIfInBounds_toArray, List.set_cons_zero, List.set_cons_succ])
            refine' wpAnyH_take (i := 25) (oi := ({ dst := some 108, op := Op.load 31 (Operand.tmp 6), type := 31, pos := "law.go:44", after := #[{ on := 22, ground := Ground.guard }], guard := some (22, false) } : Oper)) (v := _) rfl (by kernel_rfl) (by kernel_rfl) (by kernel_rfl) (fun _ _ _ h => h) (yieldsIf_load_mid (by rfl) _ _ rfl _ _ rfl rc _ ?hS25_8 u1 rfl i1) (by assumption) ?rest25_8
            case hS25_8 => (intro w hSw; exact hSw.2.2.1)
            (try simp only [Act.put, List.setIfInBounds_toArray, List.set_cons_zero, List.set_cons_succ])
            refine wpAnyH_ready (rs := [24]) (by kernel_rfl) (by simp) ?_
            refine AllReadyH.cons (o := ({ dst := some 107, op := Op.call { callee := Callee.value (Operand.func 20), args := #[Operand.tmp 106], argTypes := #[28] }, type := 31, pos := "law.go:44", after := #[{ on := 23, ground := Ground.data }, { on := 22, ground := Ground.chain }, { on := 22, ground := Ground.guard }], guard := some (22, false) } : Oper)) rfl (fun K hK => ?_) AllReadyH.nil
            go_simp
            (refine (K3.out _ H6D.out).mono ?_; rintro e w7 ⟨rfl, h7⟩; have H7 := Lib.hid h7; clear h7)
            (try dsimp only)
            refine hK.out _ _ (H7.out.S _ _ RC.out SC.out) (fun hHeld => ?_)
            clear hK K
            (try simp only [Act.put, List.setIfInBounds_toArray, List.set_cons_zero, List.set_cons_succ])
            refine wpAnyH_take (i := 26) (oi := ({ dst := some 109, op := Op.binOp BinOp.neq 31 (Operand.tmp 107) (Operand.tmp 108) 31, type := 4, pos := "law.go:44", after := #[{ on := 24, ground := Ground.data }, { on := 25, ground := Ground.data }, { on := 22, ground := Ground.guard }], guard := some (22, false) } : Oper)) (v := ?v26_8) rfl (by kernel_rfl) (by kernel_rfl) (by kernel_rfl) (fun _ _ _ h => h) (Or.inl ⟨by rfl, ?hy26_8⟩) (by assumption) ?rest26_8
            case hy26_8 => (intro w hSw; (try dsimp only at hSw); go_simp; try (with_reducible rfl))
            (try simp only [Act.put, List.setIfInBounds_toArray, List.set_cons_zero, List.set_cons_succ])
            refine wpAnyH_take (i := 27) (oi := ({ dst := some 110, op := Op.pick (Operand.tmp 105) (Operand.const (Value.bool true)) (Operand.tmp 109), type := 4, pos := "law.go:44", after := #[{ on := 22, ground := Ground.data }, { on := 26, ground := Ground.data }], guard := none } : Oper)) (v := ?v27_8) rfl (by kernel_rfl) (by kernel_rfl) (by kernel_rfl) (fun _ _ _ h => h) (Or.inl ⟨by rfl, ?hy27_8⟩) (by assumption) ?rest27_8
            case hy27_8 => (intro w hSw; (try dsimp only at hSw); go_simp; try (with_reducible rfl))
            (try simp only [Act.put, List.setIfInBounds_toArray, List.set_cons_zero, List.set_cons_succ])
            refine wpAnyH_take (i := 28) (oi := ({ dst := some 111, op := Op.move (Operand.tmp 110), type := 4, pos := "law.go:44", after := #[{ on := 27, ground := Ground.data }, { on := 24, ground := Ground.chain }], guard := none } : Oper)) (v := ?v28_8) rfl (by kernel_rfl) (by kernel_rfl) (by kernel_rfl) (fun _ _ _ h => h) (Or.inl ⟨by rfl, ?hy28_8⟩) (by assumption) ?rest28_8
            case hy28_8 => (intro w hSw; (try dsimp only at hSw); go_simp; try (with_reducible rfl))
            (try simp only [Act.put, List.setIfInBounds_toArray, List.set_cons_zero, List.set_cons_succ])
            refine wpAnyH_take (i := 29) (oi := ({ dst := some 112, op := Op.move (Operand.tmp 14), type := 28, pos := "law.go:44", after := #[{ on := 28, ground := Ground.guard }], guard := some (28, false) } : Oper)) (v := ?v29_8) rfl (by kernel_rfl) (by kernel_rfl) (by kernel_rfl) (fun _ _ _ h => h) (Or.inl ⟨by rfl, ?hy29_8⟩) (by assumption) ?rest29_8
            case hy29_8 => (intro w hSw; (try dsimp only at hSw); go_simp; try (with_reducible rfl))
            (try simp only [Act.put, List.setIfInBounds_toArray, List.set_cons_zero, List.set_cons_succ])
            refine' wpAnyH_take (i := 31) (oi := ({ dst := some 114, op := Op.load 31 (Operand.tmp 7), type := 31, pos := "law.go:44", after := #[{ on := 28, ground := Ground.guard }], guard := some (28, false) } : Oper)) (v := _) rfl (by kernel_rfl) (by kernel_rfl) (by kernel_rfl) (fun _ _ _ h => h) (yieldsIf_load_mid (by rfl) _ _ rfl _ _ rfl sc _ ?hS31_8 u1 rfl i2) (by assumption) ?rest31_8
            case hS31_8 => (intro w hSw; exact hSw.2.2.2)
            (try simp only [Act.put, List.setIfInBounds_toArray, List.set_cons_zero, List.set_cons_succ])
            refine wpAnyH_ready (rs := [30]) (by kernel_rfl) (by simp) ?_
            refine AllReadyH.cons (o := ({ dst := some 113, op := Op.call { callee := Callee.value (Operand.func 21), args := #[Operand.tmp 112], argTypes := #[28] }, type := 31, pos := "law.go:44", after := #[{ on := 29, ground := Ground.data }, { on := 28, ground := Ground.chain }, { on := 28, ground := Ground.guard }], guard := some (28, false) } : Oper)) rfl (fun K hK => ?_) AllReadyH.nil
            go_simp
            (refine (K4.out _ H7.out).mono ?_; rintro e w8 ⟨rfl, h8⟩; have H8 := Lib.hid h8; clear h8)
            (try dsimp only)
            refine hK.out _ _ (H8.out.S _ _ RC.out SC.out) (fun hHeld => ?_)
            clear hK K
            (try simp only [Act.put, List.setIfInBounds_toArray, List.set_cons_zero, List.set_cons_succ])
            refine wpAnyH_take (i := 32) (oi := ({ dst := some 115, op := Op.binOp BinOp.neq 31 (Operand.tmp 113) (Operand.tmp 114) 31, type := 4, pos := "law.go:44", after := #[{ on := 30, ground := Ground.data }, { on := 31, ground := Ground.data }, { on := 28, ground := Ground.guard }], guard := some (28, false) } : Oper)) (v := ?v32_8) rfl (by kernel_rfl) (by kernel_rfl) (by kernel_rfl) (fun _ _ _ h => h) (Or.inl ⟨by rfl, ?hy32_8⟩) (by assumption) ?rest32_8
            case hy32_8 => (intro w hSw; (try dsimp only at hSw); go_simp; try (with_reducible rfl))
            (try simp only [Act.put, List.setIfInBounds_toArray, List.set_cons_zero, List.set_cons_succ])
            refine wpAnyH_take (i := 33) (oi := ({ dst := some 116, op := Op.pick (Operand.tmp 111) (Operand.const (Value.bool true)) (Operand.tmp 115), type := 4, pos := "law.go:44", after := #[{ on := 28, ground := Ground.data }, { on := 32, ground := Ground.data }], guard := none } : Oper)) (v := ?v33_8) rfl (by kernel_rfl) (by kernel_rfl) (by kernel_rfl) (fun _ _ _ h => h) (Or.inl ⟨by rfl, ?hy33_8⟩) (by assumption) ?rest33_8
            case hy33_8 => (intro w hSw; (try dsimp only at hSw); go_simp; try (with_reducible rfl))
            (try simp only [Act.put, List.setIfInBounds_toArray, List.set_cons_zero, List.set_cons_succ])
            refine wpAnyH_done (by kernel_rfl) ?_ _
            go_wp2_with fail
            go_roundw
            case rel => exact ⟨j + 1, c + 1, s.turn, by omega, by omega, by go_num, H8.out⟩
            case measure => simp [intOf]; omega
          | false =>
            have hst := ostep_no q p g s _ _ c M wr OC.out.o OC.out.fl d1 HCM.out ht
            have hst2 := fun w h1 h2 => rostep_no qr pr gr s c M w h1 h2 d3 HCM.out ht
            have HST := Lib.hid hst
            have HST2 := Lib.hid hst2
            clear hst hst2 ht
            go_wp2_with fail
            refine HST.out.mono ?_
            rintro e w5 ⟨rfl, hf5, ho5, hk5, -⟩
            obtain ⟨e1, e2, e3⟩ := OC.out.own OB.out hk5 hf5 ho5
            have E1 := Lib.hid e1
            have E2 := Lib.hid e2
            have E3 := Lib.hid e3
            have F5 := Lib.hid hf5
            have O5 := Lib.hid ho5
            clear e1 e2 e3 hf5 ho5 hk5
            go_wp2_with fail
            refine (HST2.out w5 E2.out E1.out).mono ?_
            rintro e w6 ⟨rfl, hf6, ho6, hk6, -⟩
            have h6 := OcR.both OB.out F5.out O5.out E3.out hk6 hf6 ho6
            have h6d := h6.drew
            clear hf6 ho6 hk6
            go_wp2_with fail
            obtain ⟨k1, k2, k3, k4⟩ := OcR.calls (w := w) (x := x) (y := y) (p := p) (g := g) (q := q) (pr := pr) (gr := gr) (qr := qr) (s := s.turn) (c := c) (M := M) rc sc RC.out SC.out
            have H6 := Lib.hid h6
            have H6D := Lib.hid h6d
            have K1 := Lib.hid k1
            have K2 := Lib.hid k2
            have K3 := Lib.hid k3
            have K4 := Lib.hid k4
            clear h6 h6d k1 k2 k3 k4
            refine wp_region_held_drew (S := (fun w' => w'.cell? ⟨qr, 1, none⟩ = some (.int .i64 c) ∧ w'.cell? ⟨qr, 2, none⟩ = some (.int .i64 M) ∧ w'.rangeAt x 0 rc ∧ w'.rangeAt y 0 sc)) (by kernel_rfl) (H6.out.S _ _ RC.out SC.out) (fun hHeld => ?_)
            refine wpAnyH_take (i := 0) (oi := ({ dst := some 83, op := Op.move (Operand.tmp 18), type := 33, pos := "law.go:44", after := #[], guard := none } : Oper)) (v := ?v0_9) rfl (by kernel_rfl) (by kernel_rfl) (by kernel_rfl) (fun _ _ _ h => h) (Or.inl ⟨by rfl, ?hy0_9⟩) (by assumption) ?rest0_9
            case hy0_9 => (intro w hSw; (try dsimp only at hSw); go_simp; try (with_reducible rfl))
            (try simp only [Act.put, List.setIfInBounds_toArray, List.set_cons_zero, List.set_cons_succ])
            refine wpAnyH_take (i := 2) (oi := ({ dst := some 85, op := Op.move (Operand.tmp 19), type := 3, pos := "law.go:44", after := #[], guard := none } : Oper)) (v := ?v2_9) rfl (by kernel_rfl) (by kernel_rfl) (by kernel_rfl) (fun _ _ _ h => h) (Or.inl ⟨by rfl, ?hy2_9⟩) (by assumption) ?rest2_9
            case hy2_9 => (intro w hSw; (try dsimp only at hSw); go_simp; try (with_reducible rfl))
            (try simp only [Act.put, List.setIfInBounds_toArray, List.set_cons_zero, List.set_cons_succ])
            refine wpAnyH_ready (rs := [1]) (by kernel_rfl) (by simp) ?_
            refine AllReadyH.cons (o := ({ dst := some 84, op := Op.call { callee := Callee.value (Operand.func 18), args := #[Operand.tmp 83], argTypes := #[33] }, type := 3, pos := "law.go:44", after := #[{ on := 0, ground := Ground.data }], guard := none } : Oper)) rfl (fun K hK => ?_) AllReadyH.nil
            go_simp
            (refine (num20_any _ _).mono ?_; rintro e w' ⟨rfl, rfl⟩)
            (try dsimp only)
            refine hK.out _ _ (H6.out.S _ _ RC.out SC.out) (fun hHeld => ?_)
            clear hK K
            (try simp only [Act.put, List.setIfInBounds_toArray, List.set_cons_zero, List.set_cons_succ])
            refine wpAnyH_take (i := 3) (oi := ({ dst := some 86, op := Op.binOp BinOp.neq 3 (Operand.tmp 84) (Operand.tmp 85) 3, type := 4, pos := "law.go:44", after := #[{ on := 1, ground := Ground.data }, { on := 2, ground := Ground.data }], guard := none } : Oper)) (v := ?v3_9) rfl (by kernel_rfl) (by kernel_rfl) (by kernel_rfl) (fun _ _ _ h => h) (Or.inl ⟨by rfl, ?hy3_9⟩) (by assumption) ?rest3_9
            case hy3_9 => (intro w hSw; (try dsimp only at hSw); go_simp; try (with_reducible rfl))
            (try simp only [Act.put, List.setIfInBounds_toArray, List.set_cons_zero, List.set_cons_succ])
            refine wpAnyH_take (i := 4) (oi := ({ dst := some 87, op := Op.move (Operand.tmp 86), type := 4, pos := "law.go:44", after := #[{ on := 3, ground := Ground.data }, { on := 1, ground := Ground.chain }], guard := none } : Oper)) (v := ?v4_9) rfl (by kernel_rfl) (by kernel_rfl) (by kernel_rfl) (fun _ _ _ h => h) (Or.inl ⟨by rfl, ?hy4_9⟩) (by assumption) ?rest4_9
            case hy4_9 => (intro w hSw; (try dsimp only at hSw); go_simp; try (with_reducible rfl))
            (try simp only [Act.put, List.setIfInBounds_toArray, List.set_cons_zero, List.set_cons_succ])
            refine wpAnyH_take (i := 5) (oi := ({ dst := some 88, op := Op.move (Operand.tmp 14), type := 28, pos := "law.go:44", after := #[{ on := 4, ground := Ground.guard }], guard := some (4, false) } : Oper)) (v := ?v5_9) rfl (by kernel_rfl) (by kernel_rfl) (by kernel_rfl) (fun _ _ _ h => h) (Or.inl ⟨by rfl, ?hy5_9⟩) (by assumption) ?rest5_9
            case hy5_9 => (intro w hSw; (try dsimp only at hSw); go_simp; try (with_reducible rfl))
            (try simp only [Act.put, List.setIfInBounds_toArray, List.set_cons_zero, List.set_cons_succ])
            refine wpAnyH_take (i := 7) (oi := ({ dst := some 90, op := Op.move (Operand.tmp 15), type := 42, pos := "law.go:44", after := #[{ on := 4, ground := Ground.guard }], guard := some (4, false) } : Oper)) (v := ?v7_9) rfl (by kernel_rfl) (by kernel_rfl) (by kernel_rfl) (fun _ _ _ h => h) (Or.inl ⟨by rfl, ?hy7_9⟩) (by assumption) ?rest7_9
            case hy7_9 => (intro w hSw; (try dsimp only at hSw); go_simp; try (with_reducible rfl))
            (try simp only [Act.put, List.setIfInBounds_toArray, List.set_cons_zero, List.set_cons_succ])
            refine wpAnyH_take (i := 8) (oi := ({ dst := some 91, op := Op.nilCheck (Operand.tmp 90), type := 0, pos := "law.go:44", after := #[{ on := 7, ground := Ground.data }, { on := 4, ground := Ground.guard }], guard := some (4, false) } : Oper)) (v := ?v8_9) rfl (by kernel_rfl) (by kernel_rfl) (by kernel_rfl) (fun _ _ _ h => h) (Or.inl ⟨by rfl, ?hy8_9⟩) (by assumption) ?rest8_9
            case hy8_9 => (intro w hSw; (try dsimp only at hSw); go_simp; try (with_reducible rfl))
            (try simp only [Act.put, List.setIfInBounds_toArray, List.set_cons_zero, List.set_cons_succ])
            refine wpAnyH_take (i := 9) (oi := ({ dst := some 92, op := Op.fieldAddr 46 (Operand.tmp 91) 1, type := 0, pos := "law.go:44", after := #[{ on := 8, ground := Ground.data }, { on := 4, ground := Ground.guard }], guard := some (4, false) } : Oper)) (v := ?v9_9) rfl (by kernel_rfl) (by kernel_rfl) (by kernel_rfl) (fun _ _ _ h => h) (Or.inl ⟨by rfl, ?hy9_9⟩) (by assumption) ?rest9_9
            case hy9_9 => (intro w hSw; (try dsimp only at hSw); go_simp; try (with_reducible rfl))
            (try simp only [Act.put, List.setIfInBounds_toArray, List.set_cons_zero, List.set_cons_succ])
            refine wpAnyH_take (i := 10) (oi := ({ dst := some 93, op := Op.load 3 (Operand.tmp 92), type := 3, pos := "law.go:44", after := #[{ on := 9, ground := Ground.data }, { on := 4, ground := Ground.guard }], guard := some (4, false) } : Oper)) (v := ?v10_9) rfl (by kernel_rfl) (by kernel_rfl) (by kernel_rfl) (fun _ _ _ h => h) (Or.inl ⟨by rfl, ?hy10_9⟩) (by assumption) ?rest10_9
            case hy10_9 => (intro w hSw; (try dsimp only at hSw); go_simp; try (with_reducible rfl))
            (try simp only [Act.put, List.setIfInBounds_toArray, List.set_cons_zero, List.set_cons_succ])
            refine wpAnyH_ready (rs := [6]) (by kernel_rfl) (by simp) ?_
            refine AllReadyH.cons (o := ({ dst := some 89, op := Op.call { callee := Callee.value (Operand.func 19), args := #[Operand.tmp 88], argTypes := #[28] }, type := 3, pos := "law.go:44", after := #[{ on := 5, ground := Ground.data }, { on := 4, ground := Ground.chain }, { on := 4, ground := Ground.guard }], guard := some (4, false) } : Oper)) rfl (fun K hK => ?_) AllReadyH.nil
            go_simp
            (refine (K1.out _ H6D.out).mono ?_; rintro e w' ⟨rfl, rfl⟩)
            (try dsimp only)
            refine hK.out _ _ (H6.out.S _ _ RC.out SC.out) (fun hHeld => ?_)
            clear hK K
            (try simp only [Act.put, List.setIfInBounds_toArray, List.set_cons_zero, List.set_cons_succ])
            refine wpAnyH_take (i := 11) (oi := ({ dst := some 94, op := Op.binOp BinOp.neq 3 (Operand.tmp 89) (Operand.tmp 93) 3, type := 4, pos := "law.go:44", after := #[{ on := 6, ground := Ground.data }, { on := 10, ground := Ground.data }, { on := 4, ground := Ground.guard }], guard := some (4, false) } : Oper)) (v := ?v11_9) rfl (by kernel_rfl) (by kernel_rfl) (by kernel_rfl) (fun _ _ _ h => h) (Or.inl ⟨by rfl, ?hy11_9⟩) (by assumption) ?rest11_9
            case hy11_9 => (intro w hSw; (try dsimp only at hSw); go_simp; try (with_reducible rfl))
            (try simp only [Act.put, List.setIfInBounds_toArray, List.set_cons_zero, List.set_cons_succ])
            refine wpAnyH_take (i := 12) (oi := ({ dst := some 95, op := Op.pick (Operand.tmp 87) (Operand.const (Value.bool true)) (Operand.tmp 94), type := 4, pos := "law.go:44", after := #[{ on := 4, ground := Ground.data }, { on := 11, ground := Ground.data }], guard := none } : Oper)) (v := ?v12_9) rfl (by kernel_rfl) (by kernel_rfl) (by kernel_rfl) (fun _ _ _ h => h) (Or.inl ⟨by rfl, ?hy12_9⟩) (by assumption) ?rest12_9
            case hy12_9 => (intro w hSw; (try dsimp only at hSw); go_simp; try (with_reducible rfl))
            (try simp only [Act.put, List.setIfInBounds_toArray, List.set_cons_zero, List.set_cons_succ])
            refine wpAnyH_take (i := 13) (oi := ({ dst := some 96, op := Op.move (Operand.tmp 95), type := 4, pos := "law.go:44", after := #[{ on := 12, ground := Ground.data }, { on := 6, ground := Ground.chain }], guard := none } : Oper)) (v := ?v13_9) rfl (by kernel_rfl) (by kernel_rfl) (by kernel_rfl) (fun _ _ _ h => h) (Or.inl ⟨by rfl, ?hy13_9⟩) (by assumption) ?rest13_9
            case hy13_9 => (intro w hSw; (try dsimp only at hSw); go_simp; try (with_reducible rfl))
            (try simp only [Act.put, List.setIfInBounds_toArray, List.set_cons_zero, List.set_cons_succ])
            refine wpAnyH_take (i := 14) (oi := ({ dst := some 97, op := Op.move (Operand.tmp 14), type := 28, pos := "law.go:44", after := #[{ on := 13, ground := Ground.guard }], guard := some (13, false) } : Oper)) (v := ?v14_9) rfl (by kernel_rfl) (by kernel_rfl) (by kernel_rfl) (fun _ _ _ h => h) (Or.inl ⟨by rfl, ?hy14_9⟩) (by assumption) ?rest14_9
            case hy14_9 => (intro w hSw; (try dsimp only at hSw); go_simp; try (with_reducible rfl))
            (try simp only [Act.put, List.setIfInBounds_toArray, List.set_cons_zero, List.set_cons_succ])
            refine wpAnyH_take (i := 16) (oi := ({ dst := some 99, op := Op.move (Operand.tmp 15), type := 42, pos := "law.go:44", after := #[{ on := 13, ground := Ground.guard }], guard := some (13, false) } : Oper)) (v := ?v16_9) rfl (by kernel_rfl) (by kernel_rfl) (by kernel_rfl) (fun _ _ _ h => h) (Or.inl ⟨by rfl, ?hy16_9⟩) (by assumption) ?rest16_9
            case hy16_9 => (intro w hSw; (try dsimp only at hSw); go_simp; try (with_reducible rfl))
            (try simp only [Act.put, List.setIfInBounds_toArray, List.set_cons_zero, List.set_cons_succ])
            refine wpAnyH_take (i := 17) (oi := ({ dst := some 100, op := Op.nilCheck (Operand.tmp 99), type := 0, pos := "law.go:44", after := #[{ on := 16, ground := Ground.data }, { on := 13, ground := Ground.guard }], guard := some (13, false) } : Oper)) (v := ?v17_9) rfl (by kernel_rfl) (by kernel_rfl) (by kernel_rfl) (fun _ _ _ h => h) (Or.inl ⟨by rfl, ?hy17_9⟩) (by assumption) ?rest17_9
            case hy17_9 => (intro w hSw; (try dsimp only at hSw); go_simp; try (with_reducible rfl))
            (try simp only [Act.put, List.setIfInBounds_toArray, List.set_cons_zero, List.set_cons_succ])
            refine wpAnyH_take (i := 18) (oi := ({ dst := some 101, op := Op.fieldAddr 46 (Operand.tmp 100) 2, type := 0, pos := "law.go:44", after := #[{ on := 17, ground := Ground.data }, { on := 13, ground := Ground.guard }], guard := some (13, false) } : Oper)) (v := ?v18_9) rfl (by kernel_rfl) (by kernel_rfl) (by kernel_rfl) (fun _ _ _ h => h) (Or.inl ⟨by rfl, ?hy18_9⟩) (by assumption) ?rest18_9
            case hy18_9 => (intro w hSw; (try dsimp only at hSw); go_simp; try (with_reducible rfl))
            (try simp only [Act.put, List.setIfInBounds_toArray, List.set_cons_zero, List.set_cons_succ])
            refine wpAnyH_take (i := 19) (oi := ({ dst := some 102, op := Op.load 3 (Operand.tmp 101), type := 3, pos := "law.go:44", after := #[{ on := 18, ground := Ground.data }, { on := 13, ground := Ground.guard }], guard := some (13, false) } : Oper)) (v := ?v19_9) rfl (by kernel_rfl) (by kernel_rfl) (by kernel_rfl) (fun _ _ _ h => h) (Or.inl ⟨by rfl, ?hy19_9⟩) (by assumption) ?rest19_9
            case hy19_9 => (intro w hSw; (try dsimp only at hSw); go_simp; try (with_reducible rfl))
            (try simp only [Act.put, List.setIfInBounds_toArray, List.set_cons_zero, List.set_cons_succ])
            refine wpAnyH_ready (rs := [15]) (by kernel_rfl) (by simp) ?_
            refine AllReadyH.cons (o := ({ dst := some 98, op := Op.call { callee := Callee.value (Operand.func 26), args := #[Operand.tmp 97], argTypes := #[28] }, type := 3, pos := "law.go:44", after := #[{ on := 14, ground := Ground.data }, { on := 13, ground := Ground.chain }, { on := 13, ground := Ground.guard }], guard := some (13, false) } : Oper)) rfl (fun K hK => ?_) AllReadyH.nil
            go_simp
            (refine (K2.out _ H6D.out).mono ?_; rintro e w' ⟨rfl, rfl⟩)
            (try dsimp only)
            refine hK.out _ _ (H6.out.S _ _ RC.out SC.out) (fun hHeld => ?_)
            clear hK K
            (try simp only [Act.put, List.setIfInBounds_toArray, List.set_cons_zero, List.set_cons_succ])
            refine wpAnyH_take (i := 20) (oi := ({ dst := some 103, op := Op.binOp BinOp.neq 3 (Operand.tmp 98) (Operand.tmp 102) 3, type := 4, pos := "law.go:44", after := #[{ on := 15, ground := Ground.data }, { on := 19, ground := Ground.data }, { on := 13, ground := Ground.guard }], guard := some (13, false) } : Oper)) (v := ?v20_9) rfl (by kernel_rfl) (by kernel_rfl) (by kernel_rfl) (fun _ _ _ h => h) (Or.inl ⟨by rfl, ?hy20_9⟩) (by assumption) ?rest20_9
            case hy20_9 => (intro w hSw; (try dsimp only at hSw); go_simp; try (with_reducible rfl))
            (try simp only [Act.put, List.setIfInBounds_toArray, List.set_cons_zero, List.set_cons_succ])
            refine wpAnyH_take (i := 21) (oi := ({ dst := some 104, op := Op.pick (Operand.tmp 96) (Operand.const (Value.bool true)) (Operand.tmp 103), type := 4, pos := "law.go:44", after := #[{ on := 13, ground := Ground.data }, { on := 20, ground := Ground.data }], guard := none } : Oper)) (v := ?v21_9) rfl (by kernel_rfl) (by kernel_rfl) (by kernel_rfl) (fun _ _ _ h => h) (Or.inl ⟨by rfl, ?hy21_9⟩) (by assumption) ?rest21_9
            case hy21_9 => (intro w hSw; (try dsimp only at hSw); go_simp; try (with_reducible rfl))
            (try simp only [Act.put, List.setIfInBounds_toArray, List.set_cons_zero, List.set_cons_succ])
            refine wpAnyH_take (i := 22) (oi := ({ dst := some 105, op := Op.move (Operand.tmp 104), type := 4, pos := "law.go:44", after := #[{ on := 21, ground := Ground.data }, { on := 15, ground := Ground.chain }], guard := none } : Oper)) (v := ?v22_9) rfl (by kernel_rfl) (by kernel_rfl) (by kernel_rfl) (fun _ _ _ h => h) (Or.inl ⟨by rfl, ?hy22_9⟩) (by assumption) ?rest22_9
            case hy22_9 => (intro w hSw; (try dsimp only at hSw); go_simp; try (with_reducible rfl))
            (try simp only [Act.put, List.setIfInBounds_toArray, List.set_cons_zero, List.set_cons_succ])
            refine wpAnyH_take (i := 23) (oi := ({ dst := some 106, op := Op.move (Operand.tmp 14), type := 28, pos := "law.go:44", after := #[{ on := 22, ground := Ground.guard }], guard := some (22, false) } : Oper)) (v := ?v23_9) rfl (by kernel_rfl) (by kernel_rfl) (by kernel_rfl) (fun _ _ _ h => h) (Or.inl ⟨by rfl, ?hy23_9⟩) (by assumption) ?rest23_9
            case hy23_9 => (intro w hSw; (try dsimp only at hSw); go_simp; try (with_reducible rfl))
            (try simp only [Act.put, List.setIfInBounds_toArray, List.set_cons_zero, List.set_cons_succ])
            refine' wpAnyH_take (i := 25) (oi := ({ dst := some 108, op := Op.load 31 (Operand.tmp 6), type := 31, pos := "law.go:44", after := #[{ on := 22, ground := Ground.guard }], guard := some (22, false) } : Oper)) (v := _) rfl (by kernel_rfl) (by kernel_rfl) (by kernel_rfl) (fun _ _ _ h => h) (yieldsIf_load_mid (by rfl) _ _ rfl _ _ rfl rc _ ?hS25_9 u1 rfl i1) (by assumption) ?rest25_9
            case hS25_9 => (intro w hSw; exact hSw.2.2.1)
            (try simp only [Act.put, List.setIfInBounds_toArray, List.set_cons_zero, List.set_cons_succ])
            refine wpAnyH_ready (rs := [24]) (by kernel_rfl) (by simp) ?_
            refine AllReadyH.cons (o := ({ dst := some 107, op := Op.call { callee := Callee.value (Operand.func 20), args := #[Operand.tmp 106], argTypes := #[28] }, type := 31, pos := "law.go:44", after := #[{ on := 23, ground := Ground.data }, { on := 22, ground := Ground.chain }, { on := 22, ground := Ground.guard }], guard := some (22, false) } : Oper)) rfl (fun K hK => ?_) AllReadyH.nil
            go_simp
            (refine (K3.out _ H6D.out).mono ?_; rintro e w7 ⟨rfl, h7⟩; have H7 := Lib.hid h7; clear h7)
            (try dsimp only)
            refine hK.out _ _ (H7.out.S _ _ RC.out SC.out) (fun hHeld => ?_)
            clear hK K
            (try simp only [Act.put, List.setIfInBounds_toArray, List.set_cons_zero, List.set_cons_succ])
            refine wpAnyH_take (i := 26) (oi := ({ dst := some 109, op := Op.binOp BinOp.neq 31 (Operand.tmp 107) (Operand.tmp 108) 31, type := 4, pos := "law.go:44", after := #[{ on := 24, ground := Ground.data }, { on := 25, ground := Ground.data }, { on := 22, ground := Ground.guard }], guard := some (22, false) } : Oper)) (v := ?v26_9) rfl (by kernel_rfl) (by kernel_rfl) (by kernel_rfl) (fun _ _ _ h => h) (Or.inl ⟨by rfl, ?hy26_9⟩) (by assumption) ?rest26_9
            case hy26_9 => (intro w hSw; (try dsimp only at hSw); go_simp; try (with_reducible rfl))
            (try simp only [Act.put, List.setIfInBounds_toArray, List.set_cons_zero, List.set_cons_succ])
            refine wpAnyH_take (i := 27) (oi := ({ dst := some 110, op := Op.pick (Operand.tmp 105) (Operand.const (Value.bool true)) (Operand.tmp 109), type := 4, pos := "law.go:44", after := #[{ on := 22, ground := Ground.data }, { on := 26, ground := Ground.data }], guard := none } : Oper)) (v := ?v27_9) rfl (by kernel_rfl) (by kernel_rfl) (by kernel_rfl) (fun _ _ _ h => h) (Or.inl ⟨by rfl, ?hy27_9⟩) (by assumption) ?rest27_9
            case hy27_9 => (intro w hSw; (try dsimp only at hSw); go_simp; try (with_reducible rfl))
            (try simp only [Act.put, List.setIfInBounds_toArray, List.set_cons_zero, List.set_cons_succ])
            refine wpAnyH_take (i := 28) (oi := ({ dst := some 111, op := Op.move (Operand.tmp 110), type := 4, pos := "law.go:44", after := #[{ on := 27, ground := Ground.data }, { on := 24, ground := Ground.chain }], guard := none } : Oper)) (v := ?v28_9) rfl (by kernel_rfl) (by kernel_rfl) (by kernel_rfl) (fun _ _ _ h => h) (Or.inl ⟨by rfl, ?hy28_9⟩) (by assumption) ?rest28_9
            case hy28_9 => (intro w hSw; (try dsimp only at hSw); go_simp; try (with_reducible rfl))
            (try simp only [Act.put, List.setIfInBounds_toArray, List.set_cons_zero, List.set_cons_succ])
            refine wpAnyH_take (i := 29) (oi := ({ dst := some 112, op := Op.move (Operand.tmp 14), type := 28, pos := "law.go:44", after := #[{ on := 28, ground := Ground.guard }], guard := some (28, false) } : Oper)) (v := ?v29_9) rfl (by kernel_rfl) (by kernel_rfl) (by kernel_rfl) (fun _ _ _ h => h) (Or.inl ⟨by rfl, ?hy29_9⟩) (by assumption) ?rest29_9
            case hy29_9 => (intro w hSw; (try dsimp only at hSw); go_simp; try (with_reducible rfl))
            (try simp only [Act.put, List.setIfInBounds_toArray, List.set_cons_zero, List.set_cons_succ])
            refine' wpAnyH_take (i := 31) (oi := ({ dst := some 114, op := Op.load 31 (Operand.tmp 7), type := 31, pos := "law.go:44", after := #[{ on := 28, ground := Ground.guard }], guard := some (28, false) } : Oper)) (v := _) rfl (by kernel_rfl) (by kernel_rfl) (by kernel_rfl) (fun _ _ _ h => h) (yieldsIf_load_mid (by rfl) _ _ rfl _ _ rfl sc _ ?hS31_9 u1 rfl i2) (by assumption) ?rest31_9
            case hS31_9 => (intro w hSw; exact hSw.2.2.2)
            (try simp only [Act.put, List.setIfInBounds_toArray, List.set_cons_zero, List.set_cons_succ])
            refine wpAnyH_ready (rs := [30]) (by kernel_rfl) (by simp) ?_
            refine AllReadyH.cons (o := ({ dst := some 113, op := Op.call { callee := Callee.value (Operand.func 21), args := #[Operand.tmp 112], argTypes := #[28] }, type := 31, pos := "law.go:44", after := #[{ on := 29, ground := Ground.data }, { on := 28, ground := Ground.chain }, { on := 28, ground := Ground.guard }], guard := some (28, false) } : Oper)) rfl (fun K hK => ?_) AllReadyH.nil
            go_simp
            (refine (K4.out _ H7.out).mono ?_; rintro e w8 ⟨rfl, h8⟩; have H8 := Lib.hid h8; clear h8)
            (try dsimp only)
            refine hK.out _ _ (H8.out.S _ _ RC.out SC.out) (fun hHeld => ?_)
            clear hK K
            (try simp only [Act.put, List.setIfInBounds_toArray, List.set_cons_zero, List.set_cons_succ])
            refine wpAnyH_take (i := 32) (oi := ({ dst := some 115, op := Op.binOp BinOp.neq 31 (Operand.tmp 113) (Operand.tmp 114) 31, type := 4, pos := "law.go:44", after := #[{ on := 30, ground := Ground.data }, { on := 31, ground := Ground.data }, { on := 28, ground := Ground.guard }], guard := some (28, false) } : Oper)) (v := ?v32_9) rfl (by kernel_rfl) (by kernel_rfl) (by kernel_rfl) (fun _ _ _ h => h) (Or.inl ⟨by rfl, ?hy32_9⟩) (by assumption) ?rest32_9
            case hy32_9 => (intro w hSw; (try dsimp only at hSw); go_simp; try (with_reducible rfl))
            (try simp only [Act.put, List.setIfInBounds_toArray, List.set_cons_zero, List.set_cons_succ])
            refine wpAnyH_take (i := 33) (oi := ({ dst := some 116, op := Op.pick (Operand.tmp 111) (Operand.const (Value.bool true)) (Operand.tmp 115), type := 4, pos := "law.go:44", after := #[{ on := 28, ground := Ground.data }, { on := 32, ground := Ground.data }], guard := none } : Oper)) (v := ?v33_9) rfl (by kernel_rfl) (by kernel_rfl) (by kernel_rfl) (fun _ _ _ h => h) (Or.inl ⟨by rfl, ?hy33_9⟩) (by assumption) ?rest33_9
            case hy33_9 => (intro w hSw; (try dsimp only at hSw); go_simp; try (with_reducible rfl))
            (try simp only [Act.put, List.setIfInBounds_toArray, List.set_cons_zero, List.set_cons_succ])
            refine wpAnyH_done (by kernel_rfl) ?_ _
            by_cases h30 : (j : Int) % 3 = 0
            · have hst := start_any p g s.turn _ H8.out.fl
              have HST3 := Lib.hid hst
              clear hst
              go_wp2_with fail
              refine HST3.out.mono ?_
              rintro e w9 ⟨rfl, hf9, hk9, -⟩
              have hk9' : Kept (fun y => y = p ∨ y = q) w8 w9 := hk9.mono (fun _ _ => .inl)
              obtain ⟨e1, e2, e3⟩ := H8.out.own OB.out hk9' hf9 (H8.out.o.kept hk9 d1)
              have O9 := Lib.hid (H8.out.o.kept hk9 d1)
              have hst2 := rstart_any pr gr s.turn w9 e1
              have HST4 := Lib.hid hst2
              have E2 := Lib.hid e2
              have E3 := Lib.hid e3
              have F9 := Lib.hid hf9
              clear hst2 e1 e2 e3 hf9 hk9 hk9'
              go_wp2_with fail
              refine HST4.out.mono ?_
              rintro e wA ⟨rfl, hrA, hkA, -⟩
              have hA9 := Lib.hid (OcR.both OB.out F9.out O9.out E3.out (hkA.mono (fun _ _ => .inl)) hrA (IsRo.kept E2.out hkA d3))
              clear hrA hkA
              go_wp2_with fail
              go_roundw
              case rel => exact ⟨j + 1, c, s.turn.start, by omega, by omega, by go_num, hA9.out⟩
              case measure => simp [intOf]; omega
            · go_wp2_with fail
              go_roundw
              case rel => exact ⟨j + 1, c, s.turn, by omega, by omega, by go_num, H8.out⟩
              case measure => simp [intOf]; omega
    · obtain rfl : j = n := by omega
      have gx1 := OC.out.b1
      have gx2 := OC.out.b2
      have GX1 := Lib.hid gx1
      have GX2 := Lib.hid gx2
      clear gx1 gx2 q1 q2 u1 i1 i2 gn
      go_wp2_with (first | ((with_reducible show wpList _ _ _ (Oper.mk (some 128) _ _ _ _ _ :: _) _ _); refine wpList_load_row rfl 31 _ rfl _ rfl 31 (arr .u8 r) (0, 0) _ GX1.out Try.underlying31 rfl Z1.out ?_) | ((with_reducible show wpList _ _ _ (Oper.mk (some 129) _ _ _ _ _ :: _) _ _); refine wpList_load_row rfl 31 _ rfl _ rfl 31 (arr .u8 sx) (0, 0) _ GX2.out Try.underlying31 rfl Z2.out ?_))
      refine (O1.out none wr).mono ?_
      rintro e w5 ⟨z, rfl, ho5, hz, hb5⟩
      have hro5 := (OC.out.ro.below hb5).cs.2.2
      have hbel := OC.out.below.trans (hb5.mono OC.out.below.size)
      have HBEL := Lib.hid hbel
      clear hbel hb5 hz
      by_cases hM0 : M = 0
      · have hst := ostep_full z _ _ _ _ _ w5 ho5 (by omega)
        have HST := Lib.hid hst
        clear hst ho5
        rw [hM0] at hro5
        clear hM0
        go_wp2_with fail
        refine HST.out.mono ?_
        rintro e w6 ⟨rfl, k6, rfl⟩
        go_wp2_with (go_at_call 18; refine (num20_any _ _).mono ?_; rintro e w' ⟨rfl, rfl⟩)
        go_ret
        exact ⟨rfl, Below.drewN HBEL.out _⟩
      · have hst := ostep_nil z _ _ _ _ w5 ho5 (by rw [beq_eq_false_iff_ne]; omega)
        have HST := Lib.hid hst
        clear hst ho5
        go_wp2_with fail
        refine HST.out.mono ?_
        rintro e w6 ⟨rfl, k6, rfl⟩
        go_wp2_with (go_at_call 18; refine (num20_any _ _).mono ?_; rintro e w' ⟨rfl, rfl⟩)
        go_ret
        exact ⟨rfl, Below.drewN HBEL.out _⟩

end Go.Proofs.Ytimlgkfhfofpbaa
