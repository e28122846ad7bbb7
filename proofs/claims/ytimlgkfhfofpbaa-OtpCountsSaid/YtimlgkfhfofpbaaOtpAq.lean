/- OtpApart, the walk through the loop. No condition. -/
import Derived.Test.YtimlgkfhfofpbaaOtpAp
import Derived.Test.YtimlgkfhfofpbaaOpen
import Derived.Deep.Grids
namespace Go.Proofs.Ytimlgkfhfofpbaa
open Go.RowKit

theorem size_one (w : World) : (sizeOf 5).run Try.prog w = .ok 1 w := by kernel_rfl
theorem guard_num : Try.prog.eqGuardType Try.prog.depth 31 = false := by kernel_rfl

set_option maxRecDepth 100000 in
set_option maxHeartbeats 6000000 in
theorem oapart_go (a b : Option Addr) (la ca lb cb : Nat) (A B : Nat → Bool) (C cut : Int) (w : World) (h1 : la ≤ 60) (h2 : la ≤ lb) (hC : C ≤ 100) (hC0 : -9223372036854775808 ≤ C)
    (hA : ∀ i, i < la → ∃ x, a = some x ∧ w.cell? (x.add i) = some (.bool (A i))) (hB : ∀ i, i < lb → ∃ x, b = some x ∧ w.cell? (x.add i) = some (.bool (B i))) :
    Calls Try.prog 3 #[.slice a la ca, .slice b lb cb, .agg #[.int .i64 C, .int .i64 cut]] w fun e w' => e = .returned (.bool true) ∧ Below w.heap.size w w' := by
  have h0 := fun w => alive20_any w
  have hnew := fun w => new_any 1 w
  obtain ⟨s0, e0⟩ : ∃ s, s = Fl.new 1 := ⟨_, rfl⟩
  have hoa0 := OA.start C cut ⟨hC0, hC⟩
  rw [← e0] at hnew hoa0
  have hpl := fun w p g (h : IsFl w p g s0) => plan_any p g s0 C cut w h (by omega)
  obtain ⟨s1, e1⟩ : ∃ s, s = s0.plan C cut := ⟨_, rfl⟩
  rw [← e1] at hpl hoa0
  have m1 : min (max 0 (1000 : Int)) 1048576 = 1000 := by omega
  have o1 := fun f w => onew_any f (one 1) (one 2) (one_len 1) (one_len 2) 1000 w
  have o2 := fun f w => onew_any f (one 3) (one 4) (one_len 3) (one_len 4) 1000 w
  rw [m1] at o1 o2
  obtain ⟨n1, en1⟩ : ∃ z, z = one 1 := ⟨_, rfl⟩
  obtain ⟨n2, en2⟩ : ∃ z, z = one 2 := ⟨_, rfl⟩
  obtain ⟨n3, en3⟩ : ∃ z, z = one 3 := ⟨_, rfl⟩
  obtain ⟨n4, en4⟩ : ∃ z, z = one 4 := ⟨_, rfl⟩
  have l1 : n1.length = 32 := by rw [en1]; exact one_len 1
  have l4 : n4.length = 32 := by rw [en4]; exact one_len 4
  have b1 := fun w => build_one 1 w
  have b2 := fun w => build_one 2 w
  have b3 := fun w => build_one 3 w
  have b4 := fun w => build_one 4 w
  rw [← en1] at o1 b1
  rw [← en2] at o1 b2
  rw [← en3] at o2 b3
  rw [← en4] at o2 b4
  have H0 := Lib.hid h0
  have HNEW := Lib.hid hnew
  have HPL := Lib.hid hpl
  have HOA := Lib.hid hoa0
  have O1 := Lib.hid o1
  have O2 := Lib.hid o2
  have B1 := Lib.hid b1
  have B2 := Lib.hid b2
  have B3 := Lib.hid b3
  have B4 := Lib.hid b4
  have L1 := Lib.hid l1
  have L4 := Lib.hid l4
  have cC0 : (w.alloc (.cells #[.int .i64 C, .int .i64 cut] 24)).cell? ⟨w.heap.size, 0, none⟩ = some (.int .i64 C) := by rw [cell_blk (blk_new w _)]; rfl
  have cC1 : (w.alloc (.cells #[.int .i64 C, .int .i64 cut] 24)).cell? ⟨w.heap.size, 1, none⟩ = some (.int .i64 cut) := by rw [cell_blk (blk_new w _)]; rfl
  have hbw0 : Below w.heap.size w (w.alloc (.cells #[.int .i64 C, .int .i64 cut] 24)) := (Below.refl _ w).alloc (Nat.le_refl _) _
  have hsz0 : (w.alloc (.cells #[.int .i64 C, .int .i64 cut] 24)).heap.size = w.heap.size + 1 := by simp
  have HSZ0 := Lib.hid hsz0
  have HA := Lib.hid hA
  have HB := Lib.hid hB
  have hlab : (la : Int) ≤ (lb : Int) := by omega
  clear h0 hnew hpl hoa0 o1 o2 b1 b2 b3 b4 l1 l4 e0 e1 en1 en2 en3 en4 m1 hsz0 hA hB
  go_enter Try.func3, Try.ntmps3
  go_wp2_with fail
  refine (H0.out _).mono ?_
  rintro e wa ⟨rfl, hba⟩
  have cD0 := below_cell hba cC0
  have cD1 := below_cell hba cC1
  have za := hba.size
  rw [HSZ0.out] at za
  have hbwa : Below w.heap.size w wa := hbw0.trans (hba.mono hbw0.size)
  clear cC0 cC1 hba hbw0
  go_wp2_with fail
  refine (HNEW.out wa).mono ?_
  rintro e w1 ⟨p, g, rfl, hf1, hp, hg, hb1⟩
  have cE0 := below_cell hb1 cD0
  have cE1 := below_cell hb1 cD1
  have hpg := hf1.lt
  have z1 := hb1.size
  have hbw1 : Below w.heap.size w w1 := hbwa.trans (hb1.mono hbwa.size)
  clear cD0 cD1 hb1 hbwa
  go_wp2_with (first | ((with_reducible show wpList _ _ _ (Oper.mk (some 41) _ _ _ _ _ :: _) _ _); refine wpList_build rfl 31 _ rfl #[(0, .int .u8 1)] rfl _ (B1.out _) ?_) | ((with_reducible show wpList _ _ _ (Oper.mk (some 42) _ _ _ _ _ :: _) _ _); refine wpList_build rfl 31 _ rfl #[(0, .int .u8 2)] rfl _ (B2.out _) ?_))
  refine (O1.out _ w1).mono ?_
  rintro e w2 ⟨q1, rfl, ho2, hq1, hb2⟩
  have hf2 := hf1.below hb2
  have cF0 := below_cell hb2 cE0
  have cF1 := below_cell hb2 cE1
  have z2 := hb2.size
  have y2 := blk_lt ho2.1
  have hbw2 : Below w.heap.size w w2 := hbw1.trans (hb2.mono hbw1.size)
  clear cE0 cE1 hb2 hbw1 hf1
  go_wp2_with (first | ((with_reducible show wpList _ _ _ (Oper.mk (some 45) _ _ _ _ _ :: _) _ _); refine wpList_build rfl 31 _ rfl #[(0, .int .u8 3)] rfl _ (B3.out _) ?_) | ((with_reducible show wpList _ _ _ (Oper.mk (some 46) _ _ _ _ _ :: _) _ _); refine wpList_build rfl 31 _ rfl #[(0, .int .u8 4)] rfl _ (B4.out _) ?_))
  refine (O2.out _ w2).mono ?_
  rintro e w3 ⟨q2, rfl, ho3, hq2, hb3⟩
  have hf3 := hf2.below hb3
  have ho3a := ho2.below hb3
  have cG0 := below_cell hb3 cF0
  have cG1 := below_cell hb3 cF1
  have z3 := hb3.size
  have y3 := blk_lt ho3.1
  have hbw3 : Below w.heap.size w w3 := hbw2.trans (hb3.mono hbw2.size)
  clear cF0 cF1 hb3 hbw2 hf2 ho2
  go_wp2_with fail
  refine (HPL.out _ p g hf3).mono ?_
  rintro e w4 ⟨rfl, hf4, hk4⟩
  have ob : OtB w.heap.size w.heap.size p g q1 q2 := ⟨by omega, by omega, by omega, by omega, by omega, by omega, by omega, by omega, by omega, by omega, by omega⟩
  have cH0 : w4.cell? ⟨w.heap.size, 0, none⟩ = some (.int .i64 C) := hk4.cellX cG0 (fun e => ob.bp e)
  have hr0 : OtR w w4 w.heap.size p g q1 q2 C C 0 0 s1 n1 n2 n3 n4 :=
    ⟨hf4, ho3a.kept hk4 (fun e => ob.q1p e), ho3.kept hk4 (fun e => ob.q2p e), cH0, HOA.out, hbw3.trans (hk4.toBelow hbw3.size (by rintro i rfl; exact ob.p0))⟩
  have HR0 := Lib.hid hr0
  clear cG0 cG1 hf3 ho3 ho3a hbw3 hk4 hf4 hr0 hq1 hq2 hp hg z1 z2 z3 y2 y3 za hpg
  go_wp2_with fail
  go_loopw [11, 12, 13, 14] (fun m n l i wr => ∃ (M N j : Nat) (L : Int) (s : Fl), M + N ≤ j ∧ j ≤ la ∧ m = .int .i64 M ∧ n = .int .i64 N ∧ l = .int .i64 L ∧ i = .int .i64 j ∧ OtR w wr w.heap.size p g q1 q2 C L M N s n1 n2 n3 n4) (fun _ _ _ i _ => la - (intOf i).toNat)
  case atStart => exact ⟨0, 0, 0, C, s1, by omega, by omega, rfl, rfl, rfl, rfl, HR0.out⟩
  case round =>
    obtain ⟨M, N, j, L, s, hmn, hj, rfl, rfl, rfl, rfl, hr⟩ := hrel
    clear HR0 cH0
    have hbox := hr.box
    have hlo := hr.oa.lo hC
    obtain ⟨hlo1, hlo2⟩ := hlo
    have HR := Lib.hid hr
    clear hr
    by_cases hlt : j < la
    · obtain ⟨xa, rfl, hxa⟩ := HA.out j hlt
      obtain ⟨xb, rfl, hxb⟩ := HB.out j (by omega)
      have hca : wr.cell? (xa.add j) = some (.bool (A j)) := below_cell HR.out.below hxa
      have hcb : wr.cell? (xb.add j) = some (.bool (B j)) := below_cell HR.out.below hxb
      have hjb : j < lb := by omega
      have b1000 : ((M : Int) == 1000) = false := by rw [beq_eq_false_iff_ne]; omega
      have c1000 : ((N : Int) == 1000) = false := by rw [beq_eq_false_iff_ne]; omega
      have B1000 := Lib.hid b1000
      have C1000 := Lib.hid c1000
      clear hxa hxb b1000 c1000
      by_cases hn : C < 0
      · cases hAj : A j with
        | true =>
          rw [hAj] at hca
          clear hAj hcb
          have hst := ostep_ok q1 p g s _ _ M 1000 wr HR.out.o1 HR.out.fl ob.q1p ob.q1g B1000.out (HR.out.oa.goes (.inl hn)) (by omega)
          have HST := Lib.hid hst
          clear hst
          go_wp2_with fail
          refine HST.out.mono ?_
          rintro e w5 ⟨rfl, hf5, ho5, hk5, hz5⟩
          have hr5 := HR.out.step1 (M' := M + 1) ob hf5 (by simpa using ho5) hk5 (HR.out.oa.turnN hn)
          obtain ⟨k1, k2⟩ := hr5.cnt
          have K1 := Lib.hid k1
          have K2 := Lib.hid k2
          have HR5 := Lib.hid hr5
          clear k1 k2 hr5 hf5 ho5 hk5 hz5
          go_wp2_with (first | (go_at_call 18; refine (num20_any _ _).mono ?_; rintro e w' ⟨rfl, rfl⟩) | (go_at_call 19; refine (K1.out _ rfl).mono ?_; rintro e w' ⟨rfl, rfl⟩; clear K1) | (go_at_call 19; refine (K2.out _ rfl).mono ?_; rintro e w' ⟨rfl, rfl⟩; clear K2))
          go_roundw
          case rel => exact ⟨M + 1, N, j + 1, wrap64 (L - 1), _, by omega, by omega, by first | rfl | go_num, by first | rfl | go_num, by first | rfl | go_num, by go_num, HR5.out⟩
          case measure => simp [intOf]; omega
        | false =>
          rw [hAj] at hca
          clear hAj
          cases hBj : B j with
          | true =>
            rw [hBj] at hcb
            clear hBj
            have hst := ostep_ok q2 p g s _ _ N 1000 wr HR.out.o2 HR.out.fl ob.q2p ob.q2g C1000.out (HR.out.oa.goes (.inl hn)) (by omega)
            have HST := Lib.hid hst
            clear hst
            go_wp2_with fail
            refine HST.out.mono ?_
            rintro e w5 ⟨rfl, hf5, ho5, hk5, hz5⟩
            have hr5 := HR.out.step2 (N' := N + 1) ob hf5 (by simpa using ho5) hk5 (HR.out.oa.turnN hn)
            obtain ⟨k1, k2⟩ := hr5.cnt
            have K1 := Lib.hid k1
            have K2 := Lib.hid k2
            have HR5 := Lib.hid hr5
            clear k1 k2 hr5 hf5 ho5 hk5 hz5
            go_wp2_with (first | (go_at_call 18; refine (num20_any _ _).mono ?_; rintro e w' ⟨rfl, rfl⟩) | (go_at_call 19; refine (K1.out _ rfl).mono ?_; rintro e w' ⟨rfl, rfl⟩; clear K1) | (go_at_call 19; refine (K2.out _ rfl).mono ?_; rintro e w' ⟨rfl, rfl⟩; clear K2))
            go_roundw
            case rel => exact ⟨M, N + 1, j + 1, wrap64 (L - 1), _, by omega, by omega, by first | rfl | go_num, by first | rfl | go_num, by first | rfl | go_num, by go_num, HR5.out⟩
            case measure => simp [intOf]; omega
          | false =>
            rw [hBj] at hcb
            clear hBj
            obtain ⟨k1, k2⟩ := HR.out.cnt
            have K1 := Lib.hid k1
            have K2 := Lib.hid k2
            clear k1 k2
            go_wp2_with (first | (go_at_call 18; refine (num20_any _ _).mono ?_; rintro e w' ⟨rfl, rfl⟩) | (go_at_call 19; refine (K1.out _ rfl).mono ?_; rintro e w' ⟨rfl, rfl⟩; clear K1) | (go_at_call 19; refine (K2.out _ rfl).mono ?_; rintro e w' ⟨rfl, rfl⟩; clear K2))
            go_roundw
            case rel => exact ⟨M, N, j + 1, L, _, by omega, by omega, by first | rfl | go_num, by first | rfl | go_num, by first | rfl | go_num, by go_num, HR.out⟩
            case measure => simp [intOf]; omega
      · have hc0 : 0 ≤ C := by omega
        obtain ⟨hl0, hlc⟩ := HR.out.oa.pos hc0
        by_cases hp0 : 0 < L
        · cases hAj : A j with
          | true =>
            rw [hAj] at hca
            clear hAj hcb
            have hst := ostep_ok q1 p g s _ _ M 1000 wr HR.out.o1 HR.out.fl ob.q1p ob.q1g B1000.out (HR.out.oa.goes (.inr hp0)) (by omega)
            have HST := Lib.hid hst
            clear hst
            go_wp2_with fail
            refine HST.out.mono ?_
            rintro e w5 ⟨rfl, hf5, ho5, hk5, hz5⟩
            have hr5 := HR.out.step1 (M' := M + 1) ob hf5 (by simpa using ho5) hk5 (HR.out.oa.turnP hc0 hp0)
            obtain ⟨k1, k2⟩ := hr5.cnt
            have K1 := Lib.hid k1
            have K2 := Lib.hid k2
            have HR5 := Lib.hid hr5
            clear k1 k2 hr5 hf5 ho5 hk5 hz5
            go_wp2_with (first | (go_at_call 18; refine (num20_any _ _).mono ?_; rintro e w' ⟨rfl, rfl⟩) | (go_at_call 19; refine (K1.out _ rfl).mono ?_; rintro e w' ⟨rfl, rfl⟩; clear K1) | (go_at_call 19; refine (K2.out _ rfl).mono ?_; rintro e w' ⟨rfl, rfl⟩; clear K2))
            go_roundw
            case rel => exact ⟨M + 1, N, j + 1, L - 1, _, by omega, by omega, by first | rfl | go_num, by first | rfl | go_num, by first | rfl | go_num, by go_num, HR5.out⟩
            case measure => simp [intOf]; omega
          | false =>
            rw [hAj] at hca
            clear hAj
            cases hBj : B j with
            | true =>
              rw [hBj] at hcb
              clear hBj
              have hst := ostep_ok q2 p g s _ _ N 1000 wr HR.out.o2 HR.out.fl ob.q2p ob.q2g C1000.out (HR.out.oa.goes (.inr hp0)) (by omega)
              have HST := Lib.hid hst
              clear hst
              go_wp2_with fail
              refine HST.out.mono ?_
              rintro e w5 ⟨rfl, hf5, ho5, hk5, hz5⟩
              have hr5 := HR.out.step2 (N' := N + 1) ob hf5 (by simpa using ho5) hk5 (HR.out.oa.turnP hc0 hp0)
              obtain ⟨k1, k2⟩ := hr5.cnt
              have K1 := Lib.hid k1
              have K2 := Lib.hid k2
              have HR5 := Lib.hid hr5
              clear k1 k2 hr5 hf5 ho5 hk5 hz5
              go_wp2_with (first | (go_at_call 18; refine (num20_any _ _).mono ?_; rintro e w' ⟨rfl, rfl⟩) | (go_at_call 19; refine (K1.out _ rfl).mono ?_; rintro e w' ⟨rfl, rfl⟩; clear K1) | (go_at_call 19; refine (K2.out _ rfl).mono ?_; rintro e w' ⟨rfl, rfl⟩; clear K2))
              go_roundw
              case rel => exact ⟨M, N + 1, j + 1, L - 1, _, by omega, by omega, by first | rfl | go_num, by first | rfl | go_num, by first | rfl | go_num, by go_num, HR5.out⟩
              case measure => simp [intOf]; omega
            | false =>
              rw [hBj] at hcb
              clear hBj
              obtain ⟨k1, k2⟩ := HR.out.cnt
              have K1 := Lib.hid k1
              have K2 := Lib.hid k2
              clear k1 k2
              go_wp2_with (first | (go_at_call 18; refine (num20_any _ _).mono ?_; rintro e w' ⟨rfl, rfl⟩) | (go_at_call 19; refine (K1.out _ rfl).mono ?_; rintro e w' ⟨rfl, rfl⟩; clear K1) | (go_at_call 19; refine (K2.out _ rfl).mono ?_; rintro e w' ⟨rfl, rfl⟩; clear K2))
              go_roundw
              case rel => exact ⟨M, N, j + 1, L, _, by omega, by omega, by first | rfl | go_num, by first | rfl | go_num, by first | rfl | go_num, by go_num, HR.out⟩
              case measure => simp [intOf]; omega
        · have hl00 : ¬ (C < 0 ∨ 0 < L) := by omega
          cases hAj : A j with
          | true =>
            rw [hAj] at hca
            clear hAj hcb
            have hst := ostep_no q1 p g s _ _ M 1000 wr HR.out.o1 HR.out.fl ob.q1p B1000.out (HR.out.oa.stops (by omega))
            have HST := Lib.hid hst
            clear hst
            go_wp2_with fail
            refine HST.out.mono ?_
            rintro e w5 ⟨rfl, hf5, ho5, hk5, hz5⟩
            have hr5 := HR.out.step1 ob hf5 ho5 hk5 (HR.out.oa.turnS (by omega))
            obtain ⟨k1, k2⟩ := hr5.cnt
            have K1 := Lib.hid k1
            have K2 := Lib.hid k2
            have HR5 := Lib.hid hr5
            clear k1 k2 hr5 hf5 ho5 hk5 hz5
            go_wp2_with (first | (go_at_call 18; refine (num20_any _ _).mono ?_; rintro e w' ⟨rfl, rfl⟩) | (go_at_call 19; refine (K1.out _ rfl).mono ?_; rintro e w' ⟨rfl, rfl⟩; clear K1) | (go_at_call 19; refine (K2.out _ rfl).mono ?_; rintro e w' ⟨rfl, rfl⟩; clear K2))
            go_roundw
            case rel => exact ⟨M, N, j + 1, L, _, by omega, by omega, by first | rfl | go_num, by first | rfl | go_num, by first | rfl | go_num, by go_num, HR5.out⟩
            case measure => simp [intOf]; omega
          | false =>
            rw [hAj] at hca
            clear hAj
            cases hBj : B j with
            | true =>
              rw [hBj] at hcb
              clear hBj
              have hst := ostep_no q2 p g s _ _ N 1000 wr HR.out.o2 HR.out.fl ob.q2p C1000.out (HR.out.oa.stops (by omega))
              have HST := Lib.hid hst
              clear hst
              go_wp2_with fail
              refine HST.out.mono ?_
              rintro e w5 ⟨rfl, hf5, ho5, hk5, hz5⟩
              have hr5 := HR.out.step2 ob hf5 ho5 hk5 (HR.out.oa.turnS (by omega))
              obtain ⟨k1, k2⟩ := hr5.cnt
              have K1 := Lib.hid k1
              have K2 := Lib.hid k2
              have HR5 := Lib.hid hr5
              clear k1 k2 hr5 hf5 ho5 hk5 hz5
              go_wp2_with (first | (go_at_call 18; refine (num20_any _ _).mono ?_; rintro e w' ⟨rfl, rfl⟩) | (go_at_call 19; refine (K1.out _ rfl).mono ?_; rintro e w' ⟨rfl, rfl⟩; clear K1) | (go_at_call 19; refine (K2.out _ rfl).mono ?_; rintro e w' ⟨rfl, rfl⟩; clear K2))
              go_roundw
              case rel => exact ⟨M, N, j + 1, L, _, by omega, by omega, by first | rfl | go_num, by first | rfl | go_num, by first | rfl | go_num, by go_num, HR5.out⟩
              case measure => simp [intOf]; omega
            | false =>
              rw [hBj] at hcb
              clear hBj
              obtain ⟨k1, k2⟩ := HR.out.cnt
              have K1 := Lib.hid k1
              have K2 := Lib.hid k2
              clear k1 k2
              go_wp2_with (first | (go_at_call 18; refine (num20_any _ _).mono ?_; rintro e w' ⟨rfl, rfl⟩) | (go_at_call 19; refine (K1.out _ rfl).mono ?_; rintro e w' ⟨rfl, rfl⟩; clear K1) | (go_at_call 19; refine (K2.out _ rfl).mono ?_; rintro e w' ⟨rfl, rfl⟩; clear K2))
              go_roundw
              case rel => exact ⟨M, N, j + 1, L, _, by omega, by omega, by first | rfl | go_num, by first | rfl | go_num, by first | rfl | go_num, by go_num, HR.out⟩
              case measure => simp [intOf]; omega
    · obtain rfl : j = la := by omega
      have hrt := oroot_any q1 _ _ _ _ _ wr HR.out.o1
      have HRT := Lib.hid hrt
      clear hrt hbox
      go_wp2_with fail
      refine HRT.out.mono ?_
      rintro e w6 ⟨rfl, hb6⟩
      have hse := osecret_any q2 _ _ _ _ _ w6 (HR.out.o2.below hb6)
      have HSE := Lib.hid hse
      clear hse
      go_wp2_with (first | ((with_reducible show wpList _ _ _ (Oper.mk (some 128) _ _ _ _ _ :: _) _ _); refine wpList_build rfl 31 _ rfl #[(0, .int .u8 1)] rfl _ (B1.out _) ?_) | ((with_reducible show wpList _ _ _ (Oper.mk (some 129) _ _ _ _ _ :: _) _ _); refine wpList_eql_arr rfl 31 _ 5 _ _ rfl 32 .u8 .u8 Try.underlying31 Try.underlying5 size_one guard_num n1 n1 rfl rfl L1.out L1.out true (by simp) ?_))
      refine HSE.out.mono ?_
      rintro e w7 ⟨rfl, hb7⟩
      go_wp2_with (first | ((with_reducible show wpList _ _ _ (Oper.mk (some 133) _ _ _ _ _ :: _) _ _); refine wpList_build rfl 31 _ rfl #[(0, .int .u8 4)] rfl _ (B4.out _) ?_) | ((with_reducible show wpList _ _ _ (Oper.mk (some 134) _ _ _ _ _ :: _) _ _); refine wpList_eql_arr rfl 31 _ 5 _ _ rfl 32 .u8 .u8 Try.underlying31 Try.underlying5 size_one guard_num n4 n4 rfl rfl L4.out L4.out true (by simp) ?_))
      go_ret
      exact ⟨rfl, (HR.out.below.trans (hb6.mono HR.out.below.size)).trans (hb7.mono (Nat.le_trans HR.out.below.size hb6.size))⟩

/-- OtpApart, at every input. -/
theorem oapart_any (a b : Option Addr) (la ca lb cb : Nat) (A B : Nat → Bool) (C cut : Int) (w : World) (hC : -9223372036854775808 ≤ C) (hA : RowB w a la ca A) (hB : RowB w b lb cb B) :
    Calls Try.prog 3 #[.slice a la ca, .slice b lb cb, .agg #[.int .i64 C, .int .i64 cut]] w fun e w' => e = .returned (.bool true) ∧ Below w.heap.size w w' := by
  by_cases he : 60 < la ∨ (la ≤ 60 ∧ lb < la) ∨ (la ≤ 60 ∧ la ≤ lb ∧ 100 < C)
  · exact oapart_early a b la ca lb cb C cut w he
  · have cells : ∀ (x : Option Addr) (n c : Nat) (D : Nat → Bool), RowB w x n c D → ∀ i, i < n → ∃ y, x = some y ∧ w.cell? (y.add i) = some (.bool (D i)) := by
      intro x n c D h i hi
      rcases h with ⟨rfl, rfl, rfl⟩ | ⟨y, rfl, k1, k2, k3⟩
      · omega
      · exact ⟨y, rfl, k3 i (by omega)⟩
    exact oapart_go a b la ca lb cb A B C cut w (by omega) (by omega) (by omega) hC (cells _ _ _ _ hA) (cells _ _ _ _ hB)

end Go.Proofs.Ytimlgkfhfofpbaa
