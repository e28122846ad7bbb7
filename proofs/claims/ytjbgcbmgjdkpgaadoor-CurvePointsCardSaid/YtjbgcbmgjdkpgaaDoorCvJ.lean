/- CurvePoints: it answers true. Condition: the document's tables hold what their text lays. -/
import Derived.Test.YtjbgcbmgjdkpgaaDoorCvI
import Derived.Test.YtjbgcbmgjdkpgaaDoorRpE
namespace Go.Proofs.YtjbgcbmgjdkpgaaDoor.Sl
open Go.RowKit Lm Fp Cu Rd Sc
set_option linter.unusedSimpArgs false

def yn (N : Nat) : List Int := (N : Int) :: List.replicate 31 0
theorem yn_k : ∀ N, N < 256 → yn N = nar (dig 256 32 N) := by decide +kernel
theorem yn_hi : ∀ N, N < 256 → (yn N).set 31 128 = nar (dig 256 32 (N + 2 ^ 255)) := by decide +kernel
def ya (N k : Nat) : List Int := (List.range 32).map fun j => if j = 0 then ((237 + N : Nat) : Int) else if j < k then 255 else 0
def okk (k : Nat) : Prop := 1 ≤ k ∧ k ≤ 32
theorem ya_len (N k : Nat) : (ya N k).length = 32 := by simp [ya]
theorem ya_one : ∀ N, N < 19 → ((237 + N : Nat) : Int) :: List.replicate 31 0 = ya N 1 := by decide +kernel
theorem ya_step : ∀ k, 1 ≤ k → k < 32 → ∀ N, (ya N k).set k 255 = ya N (k + 1) := by
  intro k h1 h2 N
  apply List.ext_getElem?
  intro i
  rw [List.getElem?_set]
  by_cases hi : i < 32
  · by_cases e : k = i
    · subst e
      rw [if_pos rfl, if_pos (by rw [ya_len]; exact h2)]
      simp only [ya, List.getElem?_map, List.getElem?_range h2, Option.map_some]
      rw [if_neg (by omega), if_pos (by omega)]
    · rw [if_neg e]
      simp only [ya, List.getElem?_map, List.getElem?_range hi, Option.map_some]
      congr 1
      by_cases h0 : i = 0
      · rw [if_pos h0, if_pos h0]
      · rw [if_neg h0, if_neg h0]
        by_cases h3 : i < k
        · rw [if_pos h3, if_pos (by omega)]
        · rw [if_neg h3, if_neg (by omega)]
  · by_cases e : k = i
    · omega
    · rw [if_neg e, List.getElem?_eq_none (by rw [ya_len]; omega), List.getElem?_eq_none (by rw [ya_len]; omega)]
theorem ya_end : ∀ N, N < 19 → (ya N 32).set 31 127 = nar (dig 256 32 (p + N)) := by decide +kernel
theorem ya_hi : ∀ N, N < 19 → (nar (dig 256 32 (p + N))).set 31 255 = nar (dig 256 32 (p + N + 2 ^ 255)) := by decide +kernel
theorem ya_top : ∀ N, N < 19 → (nar (dig 256 32 (p + N))).getD 31 0 = 127 := by decide +kernel
theorem may_big : ∀ N, N < 19 → (eread (p + N)).isSome = false ∧ (eread (p + N + 2 ^ 255)).isSome = false := by
  intro N h
  have hp := p_eq
  have h1 : (p + N) % 2 ^ 255 = p + N := Nat.mod_eq_of_lt (by omega)
  have h2 : (p + N + 2 ^ 255) % 2 ^ 255 = p + N := by rw [Nat.add_mod_right]; exact h1
  have a1 : eread (p + N) = none := by unfold eread; simp only [h1]; rw [if_neg (by omega)]
  have a2 : eread (p + N + 2 ^ 255) = none := by unfold eread; simp only [h2]; rw [if_neg (by omega)]
  exact ⟨by rw [a1]; rfl, by rw [a2]; rfl⟩
theorem big_hi : ∀ N, N < 256 → N + 2 ^ 255 < 256 ^ 32 := by decide +kernel
theorem big_p : ∀ N, N < 19 → p + N < 256 ^ 32 ∧ p + N + 2 ^ 255 < 256 ^ 32 := by decide +kernel
theorem may_one : (eread 1).isSome = true ∧ (eread (1 + 2 ^ 255)).isSome = false := by decide +kernel
theorem build_yn (x : Int) (w : World) : (Instr.build 23 #[(0, .int .u8 x)]).run Tryd.prog w = .ok (.agg (arr .u8 (x :: List.replicate 31 0))) w := by kernel_rfl

set_option maxRecDepth 100000 in
set_option maxHeartbeats 16000000 in
theorem points_any (n : Int) (hi ab : Bool) (w : World) (hn : 0 ≤ n ∧ n ≤ 255) (hTd : TabD w) (hTi : TabI w) :
    Calls Tryd.prog 5 #[.int .u8 n, .bool hi, .bool ab] w fun e w' => e = .returned (.bool true) ∧ Below w.heap.size w w' := by
  obtain ⟨N, rfl⟩ : ∃ N : Nat, n = (N : Int) := ⟨n.toNat, by omega⟩
  have hN : N < 256 := by omega
  have hyk : K32 (yn N) N := ⟨yn_k N hN, Nat.lt_trans hN (by decide)⟩
  have hym : K32 ((yn N).set 31 128) (N + 2 ^ 255) := ⟨yn_hi N hN, big_hi N hN⟩
  have hyt : (yn N).getD 31 0 = 0 := rfl
  have hby := fun w => build_yn (N : Int) w
  rw [show ((N : Int) :: List.replicate 31 0) = yn N from rfl] at hby
  obtain ⟨ys, hys⟩ : ∃ x, x = yn N := ⟨_, rfl⟩
  rw [← hys] at hyk hym hyt hby
  obtain ⟨yh, hyh⟩ : ∃ x, x = ys.set 31 128 := ⟨_, rfl⟩
  rw [← hyh] at hym
  have HYK := Lib.hid hyk
  have HYL := Lib.hid hyk.len
  have HYM := Lib.hid hym
  have HYML := Lib.hid hym.len
  have HYT := Lib.hid hyt
  have HBY := Lib.hid hby
  have HYH := Lib.hid hyh.symm
  have hal := fun w => alive13_any w
  have HAL := Lib.hid hal
  have HTD := Lib.hid hTd
  have HTI := Lib.hid hTi
  obtain ⟨zn, hzn⟩ : ∃ zs : List Int, zs = List.replicate 32 0 := ⟨_, rfl⟩
  have HZzn : Hid (∀ w, (zeroValue 23).run Tryd.prog w = .ok (.agg (arr .u8 zn)) w) := Lib.hid (by intro w; rw [hzn]; exact zero_num w)
  have HLzn : Hid (zn.length = 32) := Lib.hid (by rw [hzn]; rfl)
  have HI0 := Lib.hid (Blk.nil w)
  clear hzn hyk hym hyt hby hys hyh hal hTd hTi
  go_enter Tryd.func5, Tryd.ntmps5
  go_upto_region 2 with (first | ((with_reducible show Calls _ 9 _ _ _); go_at_call 9; refine (HAL.out _).mono ?_; rintro e w1 ⟨rfl, hb1⟩; have HI1 := Lib.hid (HI0.out.kept hb1); clear hb1))
  go_upto_region 3 with (first | ((with_reducible show wpList _ _ _ (Oper.mk (some 13) _ _ _ _ _ :: _) _ _); refine wpList_build (by rfl) 23 _ rfl #[(0, .int .u8 (N : Int))] rfl _ (HBY.out _) ?_) | ((with_reducible show wpList _ _ _ (Oper.mk (some 8) _ _ _ _ _ :: _) _ _); refine wpList_alloc_row rfl 23 rfl _ (HZzn.out _) ?_; have HI2 := Lib.hid (HI1.out.alloc (arr .u8 zn) 23); generalize w1.heap.size = g8 at HI2 ⊢; generalize w1.alloc (.cells (arr .u8 zn) 23) = w2 at HI2 ⊢) | ((with_reducible show wpList _ _ _ (Oper.mk none (Op.store _ (Operand.tmp 8) _) _ _ _ _ :: _) _ _); refine wpList_store_whole rfl 23 _ _ rfl (g8) _ _ 23 (HI2.out.get 0 rfl) rfl rfl (arr_len2 _ _ HYL.out HLzn.out) (num_s HYL.out) (all_arr _ _) ?_; intro w3 hb3 hk3 hz3; have HI3 := Lib.hid (HI2.out.put 0 rfl hk3 hb3); clear hb3 hk3 hz3))
  (try simp only [World.size_alloc, Act.put, List.setIfInBounds_toArray, List.set_cons_zero, List.set_cons_succ])
  cases ab with
  | false =>
    cases hi with
    | false =>
      obtain ⟨mb, hmb⟩ : ∃ b, b = (eread N).isSome := ⟨_, rfl⟩
      have HMB := Lib.hid hmb
      clear hmb
      go_upto_region 15 with (first | ((with_reducible show wpList _ _ _ (Oper.mk (some 33) _ _ _ _ _ :: _) _ _); refine wpList_load_part rfl 23 _ rfl (g8) 0 _ 23 (0, 0) _ (HI3.out.get 0 rfl) rfl .u8 ys (arr_part _ _) Tryd.underlying23 rfl (num_i HYL.out) ?_) | ((with_reducible show Calls _ 12 _ _ _); go_at_call 12; refine (cmay_any _ _ HYK.out).mono ?_; rw [← HMB.out]; rintro e w11 ⟨rfl, hb11⟩; have HI11 := Lib.hid (HI3.out.kept hb11); clear hb11))
      by_cases h1 : N = 1
      · subst h1
        have hm2 : mb = true := by rw [HMB.out]; exact may_one.1
        subst hm2
        go_wp2_with fail
        (try simp only [Exit.then])
        go_ret
        exact ⟨rfl, HI11.out.below⟩
      · have h1i : ((N : Int) == 1) = false := by rw [beq_eq_false_iff_ne]; omega
        have h1n : (N == 1) = false := by rw [beq_eq_false_iff_ne]; exact h1
        have hrm := fun w (h1 : TabD w) (h2 : TabI w) => may_any N w (by have := HYK.out.2; rwa [show (256 : Nat) ^ 32 = 2 ^ 256 by decide] at this) h1 h2
        rw [← HYK.out.1, ← HMB.out] at hrm
        have HRM := Lib.hid hrm
        clear hrm
        have HT1 := Lib.hid (range_below HTD.out HI11.out.below)
        have HT2 := Lib.hid (range_below HTI.out HI11.out.below)
        go_wp2_with (first | ((with_reducible show wpList _ _ _ (Oper.mk (some 53) _ _ _ _ _ :: _) _ _); refine wpList_load_wanted (by rfl) 23 _ rfl (g8) (0) _ 23 (0, 0) _ (HI11.out.get 0 rfl) rfl .u8 ys (arr_part _ _) Tryd.underlying23 rfl (num_i HYL.out) ?_) | ((with_reducible show Calls _ 13 _ _ _); go_at_call 13; refine (HRM.out _ HT1.out HT2.out).mono ?_; rintro e w12 ⟨rfl, hb12⟩; have HI12 := Lib.hid (HI11.out.kept hb12); clear hb12))
        (try simp only [Exit.then])
        go_ret
        exact ⟨by cases mb <;> rfl, HI12.out.below⟩
    | true =>
      have q0 := arr_get' (HI3.out.get 0 rfl) 31 (by rw [HYL.out]; decide)
      have q1 := free_blk (HI3.out.get 0 rfl) 31
      rw [HYT.out] at q0
      have hb2 := HI3.out.cell 0 rfl 31 (.int .u8 128)
      have e2 : (arr .u8 ys).setIfInBounds 31 (.int .u8 128) = arr .u8 yh := by rw [arr_set, HYH.out]
      have HI13 := Lib.hid (hb2.cast (l' := [(g8, arr .u8 yh, 23)]) (by rw [← e2]; rfl))
      clear hb2 e2
      have hor : bits .or .u8 0 128 = 128 := by decide
      go_upto_region 14 with fail
      clear q0 q1
      generalize w3.setCell ⟨g8, 31, none⟩ (.int .u8 128) = w13 at HI13 ⊢
      obtain ⟨mb, hmb⟩ : ∃ b, b = (eread (N + 2 ^ 255)).isSome := ⟨_, rfl⟩
      have HMB := Lib.hid hmb
      clear hmb
      go_upto_region 15 with (first | ((with_reducible show wpList _ _ _ (Oper.mk (some 33) _ _ _ _ _ :: _) _ _); refine wpList_load_part rfl 23 _ rfl (g8) 0 _ 23 (0, 0) _ (HI13.out.get 0 rfl) rfl .u8 yh (arr_part _ _) Tryd.underlying23 rfl (num_i HYML.out) ?_) | ((with_reducible show Calls _ 12 _ _ _); go_at_call 12; refine (cmay_any _ _ HYM.out).mono ?_; rw [← HMB.out]; rintro e w14 ⟨rfl, hb14⟩; have HI14 := Lib.hid (HI13.out.kept hb14); clear hb14))
      by_cases h1 : N = 1
      · subst h1
        have hm2 : mb = false := by rw [HMB.out]; exact may_one.2
        subst hm2
        go_wp2_with fail
        (try simp only [Exit.then])
        go_ret
        exact ⟨rfl, HI14.out.below⟩
      · have h1i : ((N : Int) == 1) = false := by rw [beq_eq_false_iff_ne]; omega
        have h1n : (N == 1) = false := by rw [beq_eq_false_iff_ne]; exact h1
        have hrm := fun w (h1 : TabD w) (h2 : TabI w) => may_any (N + 2 ^ 255) w (by have := HYM.out.2; rwa [show (256 : Nat) ^ 32 = 2 ^ 256 by decide] at this) h1 h2
        rw [← HYM.out.1, ← HMB.out] at hrm
        have HRM := Lib.hid hrm
        clear hrm
        have HT1 := Lib.hid (range_below HTD.out HI14.out.below)
        have HT2 := Lib.hid (range_below HTI.out HI14.out.below)
        go_wp2_with (first | ((with_reducible show wpList _ _ _ (Oper.mk (some 53) _ _ _ _ _ :: _) _ _); refine wpList_load_wanted (by rfl) 23 _ rfl (g8) (0) _ 23 (0, 0) _ (HI14.out.get 0 rfl) rfl .u8 yh (arr_part _ _) Tryd.underlying23 rfl (num_i HYML.out) ?_) | ((with_reducible show Calls _ 13 _ _ _); go_at_call 13; refine (HRM.out _ HT1.out HT2.out).mono ?_; rintro e w15 ⟨rfl, hb15⟩; have HI15 := Lib.hid (HI14.out.kept hb15); clear hb15))
        (try simp only [Exit.then])
        go_ret
        exact ⟨by cases mb <;> rfl, HI15.out.below⟩
  | true =>
    by_cases h18 : N < 19
    · have hya := ya_one N h18
      have hye := ya_end N h18
      have hyt2 := ya_top N h18
      have hyh2 := ya_hi N h18
      obtain ⟨mb1, mb2⟩ := may_big N h18
      have hp := p_eq
      obtain ⟨hYK, hYM⟩ := big_p N h18
      have hbya := fun w => build_yn ((237 + N : Nat) : Int) w
      rw [hya] at hbya
      obtain ⟨Y, hY⟩ : ∃ y, y = p + N := ⟨_, rfl⟩
      rw [← hY] at hye hyt2 hyh2 mb1 mb2 hYK hYM
      obtain ⟨yb, hyb⟩ : ∃ y, y = nar (dig 256 32 Y) := ⟨_, rfl⟩
      rw [← hyb] at hye hyt2 hyh2
      obtain ⟨yt, hyt⟩ : ∃ y, y = nar (dig 256 32 (Y + 2 ^ 255)) := ⟨_, rfl⟩
      rw [← hyt] at hyh2
      have HB1 : Hid (K32 yb Y) := Lib.hid ⟨hyb, hYK⟩
      have HB1L := Lib.hid HB1.out.len
      have HB2 : Hid (K32 yt (Y + 2 ^ 255)) := Lib.hid ⟨hyt, hYM⟩
      have HB2L := Lib.hid HB2.out.len
      have HYE := Lib.hid hye
      have HYT2 := Lib.hid hyt2
      have HYH2 := Lib.hid hyh2
      have HM1 := Lib.hid mb1
      have HM2 := Lib.hid mb2
      have HBYA := Lib.hid hbya
      have HYAL : Hid ((ya N 1).length = 32) := Lib.hid (ya_len _ _)
      have hadd : IntKind.u8.wrap (237 + (N : Int)) = ((237 + N : Nat) : Int) := by rw [IntKind.wrap_u8]; omega
      have h18i : ¬ ((18 : Int) < (N : Int)) := by omega
      clear hya hye hyt2 hyh2 mb1 mb2 hp hYK hYM hbya hY hyb hyt
      go_wp2_with (first | ((with_reducible show wpList _ _ _ (Oper.mk (some 20) _ _ _ _ _ :: _) _ _); refine wpList_build (by rfl) 23 _ rfl #[(0, .int .u8 ((237 + N : Nat) : Int))] rfl _ (HBYA.out _) ?_) | ((with_reducible show wpList _ _ _ (Oper.mk none (Op.store _ (Operand.tmp 8) _) _ _ _ _ :: _) _ _); refine wpList_store_whole rfl 23 _ _ rfl (g8) _ _ 23 (HI3.out.get 0 rfl) rfl rfl (arr_len2 _ _ HYAL.out HYL.out) (num_s HYAL.out) (all_arr _ _) ?_; intro w4 hb4 hk4 hz4; have HI4 := Lib.hid (HI3.out.put 0 rfl hk4 hb4); clear hb4 hk4 hz4))
      go_loopw [9] (fun v' wr => ∃ k : Nat, okk k ∧ v' = .int .i64 (k : Int) ∧ Blk w wr [(g8, arr .u8 (ya N k), 23)]) (fun v' _ => 32 - (intOf v').toNat)
      case atStart => exact ⟨1, ⟨Nat.le_refl _, by decide⟩, rfl, HI4.out⟩
      clear HI4 hadd h18i
      case round =>
      obtain ⟨k, ⟨hk1, hk2⟩, rfl, hB⟩ := hrel
      by_cases hlt : k < 32
      · have q3 := free_blk (hB.get 0 rfl) k
        have q0 := arr_get' (hB.get 0 rfl) k (by rw [ya_len]; exact hlt)
        generalize (ya N k).getD k 0 = y0 at q0
        have hb1 := hB.cell 0 rfl k (.int .u8 255)
        have e2 : (arr .u8 (ya N k)).setIfInBounds k (.int .u8 255) = arr .u8 (ya N (k + 1)) := by rw [arr_set, ya_step k hk1 hlt]
        have HB9 := Lib.hid (hb1.cast (l' := [(g8, arr .u8 (ya N (k + 1)), 23)]) (by rw [← e2]; rfl))
        clear hb1 e2 hB
        have hlti : (k : Int) < 32 := by omega
        go_upto_if 22 with fail
        go_upto_region 10 with fail
        go_upto_region 9 with fail
        go_wp2_with fail
        go_roundw
        case rel => exact ⟨k + 1, ⟨by omega, by omega⟩, by go_num, HB9.out⟩
        case measure => simp [intOf]; omega
      · obtain rfl : k = 32 := by omega
        have q0 := arr_get' (hB.get 0 rfl) 31 (by rw [ya_len]; decide)
        have q1 := free_blk (hB.get 0 rfl) 31
        have hb1 := hB.cell 0 rfl 31 (.int .u8 127)
        have e2 : (arr .u8 (ya N 32)).setIfInBounds 31 (.int .u8 127) = arr .u8 yb := by rw [arr_set, HYE.out]
        have HI5 := Lib.hid (hb1.cast (l' := [(g8, arr .u8 yb, 23)]) (by rw [← e2]; rfl))
        clear hb1 e2 hB
        go_upto_region 12 with fail
        clear q0 q1
        generalize wr.setCell ⟨g8, 31, none⟩ (.int .u8 127) = w5 at HI5 ⊢
        cases hi with
        | false =>
          go_wp2_with (first | ((with_reducible show wpList _ _ _ (Oper.mk (some 33) _ _ _ _ _ :: _) _ _); refine wpList_load_part rfl 23 _ rfl (g8) 0 _ 23 (0, 0) _ (HI5.out.get 0 rfl) rfl .u8 yb (arr_part _ _) Tryd.underlying23 rfl (num_i HB1L.out) ?_) | ((with_reducible show Calls _ 12 _ _ _); go_at_call 12; refine (cmay_any _ _ HB1.out).mono ?_; rw [HM1.out]; rintro e w16 ⟨rfl, hb16⟩; have HI16 := Lib.hid (HI5.out.kept hb16); clear hb16))
          (try simp only [Exit.then])
          go_ret
          exact ⟨rfl, HI16.out.below⟩
        | true =>
          have q0 := arr_get' (HI5.out.get 0 rfl) 31 (by rw [HB1L.out]; decide)
          have q1 := free_blk (HI5.out.get 0 rfl) 31
          rw [HYT2.out] at q0
          have hb2 := HI5.out.cell 0 rfl 31 (.int .u8 255)
          have e2 : (arr .u8 yb).setIfInBounds 31 (.int .u8 255) = arr .u8 yt := by rw [arr_set, HYH2.out]
          have HI17 := Lib.hid (hb2.cast (l' := [(g8, arr .u8 yt, 23)]) (by rw [← e2]; rfl))
          clear hb2 e2
          have hor : bits .or .u8 127 128 = 255 := by decide
          go_upto_region 14 with fail
          clear q0 q1
          generalize w5.setCell ⟨g8, 31, none⟩ (.int .u8 255) = w17 at HI17 ⊢
          go_wp2_with (first | ((with_reducible show wpList _ _ _ (Oper.mk (some 33) _ _ _ _ _ :: _) _ _); refine wpList_load_part rfl 23 _ rfl (g8) 0 _ 23 (0, 0) _ (HI17.out.get 0 rfl) rfl .u8 yt (arr_part _ _) Tryd.underlying23 rfl (num_i HB2L.out) ?_) | ((with_reducible show Calls _ 12 _ _ _); go_at_call 12; refine (cmay_any _ _ HB2.out).mono ?_; rw [HM2.out]; rintro e w18 ⟨rfl, hb18⟩; have HI18 := Lib.hid (HI17.out.kept hb18); clear hb18))
          (try simp only [Exit.then])
          go_ret
          exact ⟨rfl, HI18.out.below⟩
    · have h18i : (18 : Int) < (N : Int) := by omega
      go_wp2_with fail
      (try simp only [Exit.then])
      go_ret
      exact ⟨rfl, HI3.out.below⟩
end Go.Proofs.YtjbgcbmgjdkpgaaDoor.Sl
