/- FlashTears: the walk: which bytes of an erase, and of a program, are done when the power fails in it. No condition. -/
import Derived.Test.YtimlgkfhfofpbaaPokes
namespace Go.Proofs.Ytimlgkfhfofpbaa
open Go.RowKit

theorem flt02 : flt 0 = 0 ∧ flt 2 = 4611686018427387904 := al_flt

theorem tears_early (a : Option Addr) (len cap : Nat) (t c : Int) (d : Bool) (w : World) (h : 256 < len ∨ (len ≤ 256 ∧ t < 0) ∨ (len ≤ 256 ∧ 0 ≤ t ∧ 256 < t)) :
    Calls Try.prog 7 #[.slice a len cap, .int .i64 t, .int .i64 c, .bool d] w fun e w' => e = .returned (.bool true) ∧ Below w.heap.size w w' := by
  rcases h with h1 | ⟨h1, h2⟩ | ⟨h1, h2, h3⟩
  all_goals
    go_enter Try.func7, Try.ntmps7
    go_wp2_with (go_at_call 29; refine (alive19_any w).mono ?_; rintro e w' ⟨rfl, hb⟩)
    go_ret
    exact ⟨rfl, hb⟩

/-- A program that the power lets through counts. -/
theorem prog_pr {s : Fl} {L : Nat} (h : Calm s L) (a : Int) (xs : List Int) (hi : inB L a xs.length = true) (h1 : s.pr + 1 ≤ most) : (s.prog a xs).pr = s.pr + 1 ∧ (s.prog a xs).er = s.er := by
  have hp : s.progIn a xs.length = true := by simp [Fl.progIn, h.dead, h.len, hi]
  unfold Fl.prog
  rw [if_pos hp]
  refine ⟨?_, Fl.step_er s⟩
  simp only [h.goes, if_true]
  omega

theorem tear_erase {s : Fl} (hl : s.b.length = 512) (hd : s.dead = false) (ho : s.op = 0) :
    s.eraseOk 0 = false ∧ (s.erase 0).dead = true ∧ (s.erase 0).er = s.er ∧ (s.erase 0).pr = s.pr ∧ (s.erase 0).b.length = 512 ∧
      ∀ i, i < 512 → (s.erase 0).b.getD i 0 = if i < 256 ∧ (i : Int) < s.cut then 255 else s.b.getD i 0 := by
  have he : s.eraseIn 0 = true := by simp [Fl.eraseIn, hd, hl]
  have hg : s.goes = false := by simp [Fl.goes, ho]
  have hE : s.erase 0 = { s.step with b := upd s.b (256 * (0 : Int).toNat) (s.opN 256).toNat (fun _ _ => 255), er := s.er } := by
    unfold Fl.erase; rw [if_pos he]; simp [hg]
  refine ⟨by simp [Fl.eraseOk, hg], ?_, ?_, ?_, ?_, ?_⟩
  · rw [hE]; simp [Fl.step, ho]
  · rw [hE]
  · rw [hE]; exact Fl.step_pr s
  · rw [hE]; simp [upd_length, hl]
  · intro i hi
    rw [hE]
    show (upd s.b (256 * (0 : Int).toNat) (s.opN 256).toNat (fun _ _ => 255)).getD i 0 = _
    rw [upd_getD _ _ _ _ _ (by omega)]
    have hN : s.opN 256 = min (max 0 s.cut) 256 := by simp [Fl.opN, ho]
    rw [hN]
    by_cases hc : i < 256 ∧ (i : Int) < s.cut
    · rw [if_pos hc, if_pos (by simp; omega)]
    · rw [if_neg hc, if_neg (by simp; omega)]

theorem tear_prog {s : Fl} (hl : s.b.length = 512) (hd : s.dead = false) (ho : s.op = 0) (t : Nat) (xs : List Int) (hx : t + xs.length ≤ 512) :
    s.progOk t xs.length = false ∧ (s.prog t xs).dead = true ∧ (s.prog t xs).er = s.er ∧ (s.prog t xs).pr = s.pr ∧ (s.prog t xs).b.length = 512 ∧
      ∀ i, i < 512 → (s.prog t xs).b.getD i 0 = if t ≤ i ∧ i < t + xs.length ∧ (i : Int) - t < s.cut then bits .and .u8 (s.b.getD i 0) (xs.getD (i - t) 0) else s.b.getD i 0 := by
  have he : s.progIn t xs.length = true := by
    have hb : inB s.b.length (t : Int) xs.length = true := inB_iff.2 (by omega)
    simp [Fl.progIn, hd, hb]
  have hg : s.goes = false := by simp [Fl.goes, ho]
  have hE : s.prog t xs = { s.step with b := upd s.b (t : Int).toNat (s.opN xs.length).toNat (andB xs), pr := s.pr } := by
    unfold Fl.prog; rw [if_pos he]; simp [hg]
  refine ⟨by simp [Fl.progOk, hg], ?_, ?_, ?_, ?_, ?_⟩
  · rw [hE]; simp [Fl.step, ho]
  · rw [hE]; exact Fl.step_er s
  · rw [hE]
  · rw [hE]; simp [upd_length, hl]
  · intro i hi
    rw [hE]
    show (upd s.b (t : Int).toNat (s.opN xs.length).toNat (andB xs)).getD i 0 = _
    rw [upd_getD _ _ _ _ _ (by omega)]
    have hN : s.opN xs.length = min (max 0 s.cut) xs.length := by simp [Fl.opN, ho]
    rw [hN]
    by_cases hc : t ≤ i ∧ i < t + xs.length ∧ (i : Int) - t < s.cut
    · rw [if_pos hc, if_pos (by simp; omega)]
      simp [andB]
    · rw [if_neg hc, if_neg (by simp; omega)]

set_option maxRecDepth 100000 in
set_option maxHeartbeats 2000000 in
theorem tears_true (a : Option Addr) (len cap : Nat) (t : Nat) (c : Int) (w : World) (hl : len ≤ 256) (ht : t ≤ 256) 
     :
    Calls Try.prog 7 #[.slice a len cap, .int .i64 t, .int .i64 c, .bool true] w fun e w' => e = .returned (.bool true) ∧ Below w.heap.size w w' := by
  have hnew := fun w => new_any 2 w
  obtain ⟨s0, e0⟩ : ∃ s, s = Fl.new 2 := ⟨_, rfl⟩
  have hk0 : Calm s0 512 := by rw [e0]; exact Calm.new 2 512 rfl
  have hc0 : s0.pr = 0 ∧ s0.er = 0 := by rw [e0]; exact ⟨rfl, rfl⟩
  rw [← e0] at hnew
  have hp1 := fun w p g (h : IsFl w p g s0) => prog_new p g s0 0 3 [1, 2, 3] w h rfl
  obtain ⟨s1, e1⟩ : ∃ s, s = s0.prog 0 [1, 2, 3] := ⟨_, rfl⟩
  have hk1 : Calm s1 512 := by rw [e1]; exact hk0.prog _ _
  have hc1 : s1.pr = 1 ∧ s1.er = 0 := by
    have := prog_pr hk0 0 [1, 2, 3] (by decide) (by rw [hc0.1]; decide)
    rw [e1, this.1, this.2, hc0.1, hc0.2]; exact ⟨rfl, rfl⟩
  rw [← e1] at hp1
  have hp2 := fun w p g (h : IsFl w p g s1) => prog_new p g s1 t 1 [9] w h rfl
  obtain ⟨s2, e2⟩ : ∃ s, s = s1.prog t [9] := ⟨_, rfl⟩
  have hk2 : Calm s2 512 := by rw [e2]; exact hk1.prog _ _
  have hc2 : s2.pr = 2 ∧ s2.er = 0 := by
    have := prog_pr hk1 t [9] (inB_iff.2 (by simp; omega)) (by rw [hc1.1]; decide)
    rw [e2, this.1, this.2, hc1.1, hc1.2]; exact ⟨rfl, rfl⟩
  rw [← e2] at hp2
  have hi2 := fun w p g (h : IsFl w p g s2) => image_any p g s2 w h
  have hp3 := fun w p g (h : IsFl w p g s2) => plan_any p g s2 0 c w h (by omega)
  obtain ⟨s3, e3⟩ : ∃ s, s = s2.plan 0 c := ⟨_, rfl⟩
  rw [← e3] at hp3
  have hs3 : s3.b = s2.b ∧ s3.dead = false ∧ s3.op = 0 ∧ s3.cut = c ∧ s3.er = 0 ∧ s3.pr = 2 := by
    rw [e3]; exact ⟨rfl, hk2.dead, rfl, rfl, hc2.2, hc2.1⟩
  obtain ⟨q1, q2, q3, q4, q5, q6⟩ := hs3
  have hl3 : s3.b.length = 512 := by rw [q1]; exact hk2.len
  obtain ⟨t1, t2, t3, t4, t5, t6⟩ := tear_erase hl3 q2 q3
  have h4 := fun w p g (h : IsFl w p g s3) => erase_any p g s3 0 w h
  rw [t1] at h4
  obtain ⟨s4, e4⟩ : ∃ s, s = s3.erase 0 := ⟨_, rfl⟩
  rw [← e4] at h4 t2 t3 t4 t5 t6
  rw [q4, q1] at t6
  obtain ⟨bb, ebb⟩ : ∃ b, b = s2.b := ⟨_, rfl⟩
  have hbl : bb.length = 512 := by rw [ebb]; exact hk2.len
  rw [← ebb] at hi2 t6
  obtain ⟨cc, ecc⟩ : ∃ b, b = s4.b := ⟨_, rfl⟩
  have hi4 := fun w p g (h : IsFl w p g s4) => image_any p g s4 w h
  rw [← ecc] at hi4 t5 t6
  have hde := fun w p g (h : IsFl w p g s4) => dead_any p g s4 w h
  rw [t2] at hde
  have hto := fun w p g (h : IsFl w p g s4) => toll_any p g s4 w h
  rw [t3, t4, q5, q6, flt02.1, flt02.2] at hto
  have hord : ((FloatKind.f64.format.order 0 0 == some .eq) && (FloatKind.f64.format.order 4611686018427387904 4611686018427387904 == some .eq)) = true := by decide +kernel
  have HNEW := Lib.hid hnew
  have HP1 := Lib.hid hp1
  have HP2 := Lib.hid hp2
  have HP3 := Lib.hid hp3
  have HI2 := Lib.hid hi2
  have H4 := Lib.hid h4
  have HI4 := Lib.hid hi4
  have HDE := Lib.hid hde
  have HTO := Lib.hid hto
  have HBL := Lib.hid hbl
  have HCL := Lib.hid t5
  have HCG := Lib.hid t6
  clear e0 e1 e2 e3 e4 ebb ecc hk0 hk1 hk2 hc0 hc1 hc2 hnew hp1 hp2 hp3 hi2 h4 hi4 hde hto hbl t1 t2 t3 t4 t5 t6 q1 q2 q3 q4 q5 q6 hl3
  go_enter Try.func7, Try.ntmps7
  go_wp2_with (first | (go_at_call 29; refine (alive19_any w).mono ?_; rintro e w1 ⟨rfl, hb1⟩) | (go_at_call 14; refine (HNEW.out _).mono ?_; rintro e w2 ⟨p, g, rfl, hf2, hp, hg, hb2⟩) | fail)
  refine (HP1.out _ p g hf2).mono ?_
  rintro e w3 ⟨rfl, hf3, hk3⟩
  go_wp2_with fail
  refine (HP2.out _ p g hf3).mono ?_
  rintro e w4 ⟨rfl, hf4, hk4⟩
  go_wp2_with fail
  refine (HI2.out _ p g hf4).mono ?_
  rintro e w5 ⟨v, rfl, ho, hb5⟩
  obtain ⟨gi, capi, spi, rfl, hBi, hgi, -, -⟩ := ho
  have hf5 := hf4.below hb5
  have hpg := hf4.lt
  rw [HBL.out]
  go_wp2_with fail
  refine (HP3.out _ p g hf5).mono ?_
  rintro e w6 ⟨rfl, hf6, hk6⟩
  have hgi6 := hk6.blk hgi (by omega)
  have hsz1 := hb1.size
  have hsz2 := hb2.size
  have hsz3 := hk3.size
  have hsz4 := hk4.size
  have hsz5 := hb5.size
  have hpw : w.heap.size ≤ p := by omega
  have hgw : w.heap.size ≤ g := by omega
  have hbw4 : Below w.heap.size w w4 := ((hb1.trans (hb2.mono (by omega))).trans (hk3.toBelow (by omega) (pk_two hpw hgw))).trans (hk4.toBelow (by omega) (pk_two hpw hgw))
  have hbw6 : Below w.heap.size w w6 := (hbw4.trans (hb5.mono hbw4.size)).trans (hk6.toBelow (Nat.le_trans hbw4.size hsz5) (pk_one hpw))
  go_wp2_with fail
  refine (H4.out _ p g hf6).mono ?_
  rintro e w7 ⟨rfl, hf7, hk7, -⟩
  have hgi7 := hk7.blk hgi6 (by omega)
  have hbw7 : Below w.heap.size w w7 := hbw6.trans (hk7.toBelow hbw6.size (pk_two hpw hgw))
  go_wp2_with fail
  refine (HI4.out _ p g hf7).mono ?_
  rintro e w8 ⟨v, rfl, ho, hb8⟩
  obtain ⟨gj, capj, spj, rfl, hBj, hgj, -, -⟩ := ho
  have hf8 := hf7.below hb8
  have hgi8 := RowKit.Below.block hb8 gi (blk_lt hgi7)
  rw [hgi7] at hgi8
  have hbw8 : Below w.heap.size w w8 := hbw7.trans (hb8.mono hbw7.size)
  have hci : ∀ i, i < 512 → w8.cell? ⟨gi, i, none⟩ = some (.int .u8 (bb.getD i 0)) := fun i hi => img_cell hgi8 i (by rw [HBL.out]; exact hi)
  have hcj : ∀ i, i < 512 → w8.cell? ⟨gj, i, none⟩ = some (.int .u8 (if i < 256 ∧ (i : Int) < c then 255 else bb.getD i 0)) := by
    intro i hi
    rw [img_cell hgj i (by rw [HCL.out]; exact hi), HCG.out i hi]
  rw [HCL.out]
  have HCI := Lib.hid hci
  have HCJ := Lib.hid hcj
  clear hci hcj hgi hgi6 hgi7 hgi8 hgj
  go_wp2_with fail
  go_loop [14] (fun i => ∃ j : Nat, j ≤ 512 ∧ i = .int .i64 j) (fun i => 512 - (intOf i).toNat)
  case atStart => exact ⟨0, by omega, rfl⟩
  case round =>
    obtain ⟨j, hj, rfl⟩ := hrel
    by_cases hlt : j < 512
    · have hc1 := HCI.out j hlt
      have hc2 := HCJ.out j hlt
      by_cases hA : j < 256
      · by_cases hB : (j : Int) < c
        · rw [if_pos ⟨hA, hB⟩] at hc2
          generalize bb.getD j 0 = y at hc1
          go_wp2
          go_round
          case rel => exact ⟨j + 1, by omega, by go_num⟩
          case measure => simp [intOf]; omega
        · rw [if_neg (by omega)] at hc2
          generalize bb.getD j 0 = y at hc1 hc2
          go_wp2
          go_round
          case rel => exact ⟨j + 1, by omega, by go_num⟩
          case measure => simp [intOf]; omega
      · rw [if_neg (by omega)] at hc2
        generalize bb.getD j 0 = y at hc1 hc2
        go_wp2
        go_round
        case rel => exact ⟨j + 1, by omega, by go_num⟩
        case measure => simp [intOf]; omega
    · obtain rfl : j = 512 := by omega
      go_wp2_with fail
      refine (HDE.out _ p g hf8).mono ?_
      rintro e w9 ⟨rfl, rfl⟩
      go_wp2_with fail
      refine (HTO.out _ p g hf8).mono ?_
      rintro e w10 ⟨rfl, n9, rfl⟩
      go_wp2_with fail
      go_ret
      exact ⟨rfl, Below.drewN hbw8 n9⟩

set_option maxRecDepth 100000 in
set_option maxHeartbeats 2000000 in
theorem tears_false (a : Option Addr) (len cap : Nat) (xs : List Int) (t : Nat) (c : Int) (w : World) (hl : len ≤ 256) (ht : t ≤ 256) (hlc : len ≤ cap) (hno : a = none → len = 0 ∧ cap = 0) (hxl : len ≤ xs.length) 
    (hcell : ∀ i, i < len → ∃ x, a = some x ∧ w.cell? (x.add i) = some (.int .u8 (xs.getD i 0))) :
    Calls Try.prog 7 #[.slice a len cap, .int .i64 t, .int .i64 c, .bool false] w fun e w' => e = .returned (.bool true) ∧ Below w.heap.size w w' := by
  have hys : (xs.take len).length = len := by simp; omega
  have hsrc : Src w a len (xs.take len) := ⟨hys, fun i hi => by
    obtain ⟨x, h1, h2⟩ := hcell i hi
    refine ⟨x, h1, ?_⟩
    rw [h2]
    simp [List.getD, hi]⟩
  have hyg : ∀ i, i < len → (xs.take len).getD i 0 = xs.getD i 0 := by intro i hi; simp [List.getD, hi]
  have hnew := fun w => new_any 2 w
  obtain ⟨s0, e0⟩ : ∃ s, s = Fl.new 2 := ⟨_, rfl⟩
  have hk0 : Calm s0 512 := by rw [e0]; exact Calm.new 2 512 rfl
  have hc0 : s0.pr = 0 ∧ s0.er = 0 := by rw [e0]; exact ⟨rfl, rfl⟩
  rw [← e0] at hnew
  have hp1 := fun w p g (h : IsFl w p g s0) => prog_new p g s0 0 3 [1, 2, 3] w h rfl
  obtain ⟨s1, e1⟩ : ∃ s, s = s0.prog 0 [1, 2, 3] := ⟨_, rfl⟩
  have hk1 : Calm s1 512 := by rw [e1]; exact hk0.prog _ _
  have hc1 : s1.pr = 1 ∧ s1.er = 0 := by
    have := prog_pr hk0 0 [1, 2, 3] (by decide) (by rw [hc0.1]; decide)
    rw [e1, this.1, this.2, hc0.1, hc0.2]; exact ⟨rfl, rfl⟩
  rw [← e1] at hp1
  have hp2 := fun w p g (h : IsFl w p g s1) => prog_new p g s1 t 1 [9] w h rfl
  obtain ⟨s2, e2⟩ : ∃ s, s = s1.prog t [9] := ⟨_, rfl⟩
  have hk2 : Calm s2 512 := by rw [e2]; exact hk1.prog _ _
  have hc2 : s2.pr = 2 ∧ s2.er = 0 := by
    have := prog_pr hk1 t [9] (inB_iff.2 (by simp; omega)) (by rw [hc1.1]; decide)
    rw [e2, this.1, this.2, hc1.1, hc1.2]; exact ⟨rfl, rfl⟩
  rw [← e2] at hp2
  have hi2 := fun w p g (h : IsFl w p g s2) => image_any p g s2 w h
  have hp3 := fun w p g (h : IsFl w p g s2) => plan_any p g s2 0 c w h (by omega)
  obtain ⟨s3, e3⟩ : ∃ s, s = s2.plan 0 c := ⟨_, rfl⟩
  rw [← e3] at hp3
  have hs3 : s3.b = s2.b ∧ s3.dead = false ∧ s3.op = 0 ∧ s3.cut = c ∧ s3.er = 0 ∧ s3.pr = 2 := by
    rw [e3]; exact ⟨rfl, hk2.dead, rfl, rfl, hc2.2, hc2.1⟩
  obtain ⟨q1, q2, q3, q4, q5, q6⟩ := hs3
  have hl3 : s3.b.length = 512 := by rw [q1]; exact hk2.len
  obtain ⟨t1, t2, t3, t4, t5, t6⟩ := tear_prog hl3 q2 q3 t (xs.take len) (by rw [hys]; omega)
  have h4 := fun w p g (h : IsFl w p g s3) (hs : Src w a len (xs.take len)) (he : elseW a len p g) => prog_any p g s3 t a len cap (xs.take len) w h hs he hlc hno
  rw [hys] at t1 t6
  rw [t1] at h4
  obtain ⟨s4, e4⟩ : ∃ s, s = s3.prog t (xs.take len) := ⟨_, rfl⟩
  rw [← e4] at h4 t2 t3 t4 t5 t6
  rw [q4, q1] at t6
  obtain ⟨bb, ebb⟩ : ∃ b, b = s2.b := ⟨_, rfl⟩
  have hbl : bb.length = 512 := by rw [ebb]; exact hk2.len
  rw [← ebb] at hi2 t6
  obtain ⟨cc, ecc⟩ : ∃ b, b = s4.b := ⟨_, rfl⟩
  have hi4 := fun w p g (h : IsFl w p g s4) => image_any p g s4 w h
  rw [← ecc] at hi4 t5 t6
  have hde := fun w p g (h : IsFl w p g s4) => dead_any p g s4 w h
  rw [t2] at hde
  have hto := fun w p g (h : IsFl w p g s4) => toll_any p g s4 w h
  rw [t3, t4, q5, q6, flt02.1, flt02.2] at hto
  have hord : ((FloatKind.f64.format.order 0 0 == some .eq) && (FloatKind.f64.format.order 4611686018427387904 4611686018427387904 == some .eq)) = true := by decide +kernel
  have HNEW := Lib.hid hnew
  have HP1 := Lib.hid hp1
  have HP2 := Lib.hid hp2
  have HP3 := Lib.hid hp3
  have HI2 := Lib.hid hi2
  have H4 := Lib.hid h4
  have HI4 := Lib.hid hi4
  have HDE := Lib.hid hde
  have HTO := Lib.hid hto
  have HBL := Lib.hid hbl
  have HCL := Lib.hid t5
  have HCG := Lib.hid t6
  have HYS := Lib.hid hys
  have HYG := Lib.hid hyg
  clear hys hyg
  clear e0 e1 e2 e3 e4 ebb ecc hk0 hk1 hk2 hc0 hc1 hc2 hnew hp1 hp2 hp3 hi2 h4 hi4 hde hto hbl t1 t2 t3 t4 t5 t6 q1 q2 q3 q4 q5 q6 hl3
  go_enter Try.func7, Try.ntmps7
  go_wp2_with (first | (go_at_call 29; refine (alive19_any w).mono ?_; rintro e w1 ⟨rfl, hb1⟩) | (go_at_call 14; refine (HNEW.out _).mono ?_; rintro e w2 ⟨p, g, rfl, hf2, hp, hg, hb2⟩) | fail)
  refine (HP1.out _ p g hf2).mono ?_
  rintro e w3 ⟨rfl, hf3, hk3⟩
  go_wp2_with fail
  refine (HP2.out _ p g hf3).mono ?_
  rintro e w4 ⟨rfl, hf4, hk4⟩
  go_wp2_with fail
  refine (HI2.out _ p g hf4).mono ?_
  rintro e w5 ⟨v, rfl, ho, hb5⟩
  obtain ⟨gi, capi, spi, rfl, hBi, hgi, -, -⟩ := ho
  have hf5 := hf4.below hb5
  have hpg := hf4.lt
  rw [HBL.out]
  go_wp2_with fail
  refine (HP3.out _ p g hf5).mono ?_
  rintro e w6 ⟨rfl, hf6, hk6⟩
  have hgi6 := hk6.blk hgi (by omega)
  have hsz1 := hb1.size
  have hsz2 := hb2.size
  have hsz3 := hk3.size
  have hsz4 := hk4.size
  have hsz5 := hb5.size
  have hpw : w.heap.size ≤ p := by omega
  have hgw : w.heap.size ≤ g := by omega
  have hbw4 : Below w.heap.size w w4 := ((hb1.trans (hb2.mono (by omega))).trans (hk3.toBelow (by omega) (pk_two hpw hgw))).trans (hk4.toBelow (by omega) (pk_two hpw hgw))
  have hbw6 : Below w.heap.size w w6 := (hbw4.trans (hb5.mono hbw4.size)).trans (hk6.toBelow (Nat.le_trans hbw4.size hsz5) (pk_one hpw))
  have hsrc6 : Src w6 a len (xs.take len) := ⟨HYS.out, fun i hi => by
    obtain ⟨x, h1, h2⟩ := hsrc.cell i hi
    exact ⟨x, h1, below_cell hbw6 h2⟩⟩
  have hel6 : elseW a len p g := by
    intro x hx
    by_cases h0 : len = 0
    · exact .inl h0
    · obtain ⟨x', h1, h2⟩ := hcell 0 (by omega)
      rw [hx] at h1
      cases h1
      have := World.block_lt_of_cell? w _ h2
      rw [block_add] at this
      exact .inr ⟨by omega, by omega⟩
  go_wp2_with fail
  refine (H4.out _ p g hf6 hsrc6 hel6).mono ?_
  rintro e w7 ⟨rfl, hf7, hk7, -⟩
  have hgi7 := hk7.blk hgi6 (by omega)
  have hbw7 : Below w.heap.size w w7 := hbw6.trans (hk7.toBelow hbw6.size (pk_two hpw hgw))
  go_wp2_with fail
  refine (HI4.out _ p g hf7).mono ?_
  rintro e w8 ⟨v, rfl, ho, hb8⟩
  obtain ⟨gj, capj, spj, rfl, hBj, hgj, -, -⟩ := ho
  have hf8 := hf7.below hb8
  have hgi8 := RowKit.Below.block hb8 gi (blk_lt hgi7)
  rw [hgi7] at hgi8
  have hbw8 : Below w.heap.size w w8 := hbw7.trans (hb8.mono hbw7.size)
  have hci : ∀ i, i < 512 → w8.cell? ⟨gi, i, none⟩ = some (.int .u8 (bb.getD i 0)) := fun i hi => img_cell hgi8 i (by rw [HBL.out]; exact hi)
  have hcj : ∀ i, i < 512 → w8.cell? ⟨gj, i, none⟩ = some (.int .u8 (if t ≤ i ∧ i < t + len ∧ (i : Int) - t < c then bits .and .u8 (bb.getD i 0) (xs.getD (i - t) 0) else bb.getD i 0)) := by
    intro i hi
    rw [img_cell hgj i (by rw [HCL.out]; exact hi), HCG.out i hi]
    by_cases hc : t ≤ i ∧ i < t + len ∧ (i : Int) - t < c
    · rw [if_pos hc, if_pos hc, HYG.out _ (by omega)]
    · rw [if_neg hc, if_neg hc]
  rw [HCL.out]
  have HCI := Lib.hid hci
  have HCJ := Lib.hid hcj
  clear hci hcj hgi hgi6 hgi7 hgi8 hgj
  go_wp2_with fail
  go_loop [14] (fun i => ∃ j : Nat, j ≤ 512 ∧ i = .int .i64 j) (fun i => 512 - (intOf i).toNat)
  case atStart => exact ⟨0, by omega, rfl⟩
  case round =>
    obtain ⟨j, hj, rfl⟩ := hrel
    by_cases hlt : j < 512
    · have hc1 := HCI.out j hlt
      have hc2 := HCJ.out j hlt
      by_cases hA : t ≤ j
      · by_cases hB : j < t + len
        · by_cases hC : (j : Int) - t < c
          · rw [if_pos ⟨hA, hB, hC⟩] at hc2
            obtain ⟨x, rfl, hx⟩ := hcell (j - t) (by omega)
            have hx8 : w8.cell? (x.add (j - t)) = some (.int .u8 (xs.getD (j - t) 0)) := below_cell hbw8 hx
            generalize xs.getD (j - t) 0 = z at hc2 hx8
            generalize bb.getD j 0 = y at hc1 hc2
            have hjt : ((j : Int) - (t : Int)).toNat = j - t := by omega
            clear hx
            go_wp2
            go_round
            case rel => exact ⟨j + 1, by omega, by go_num⟩
            case measure => simp [intOf]; omega
          · rw [if_neg (by omega)] at hc2
            generalize bb.getD j 0 = y at hc1 hc2
            go_wp2
            go_round
            case rel => exact ⟨j + 1, by omega, by go_num⟩
            case measure => simp [intOf]; omega
        · rw [if_neg (by omega)] at hc2
          generalize bb.getD j 0 = y at hc1 hc2
          go_wp2
          go_round
          case rel => exact ⟨j + 1, by omega, by go_num⟩
          case measure => simp [intOf]; omega
      · rw [if_neg (by omega)] at hc2
        generalize bb.getD j 0 = y at hc1 hc2
        go_wp2
        go_round
        case rel => exact ⟨j + 1, by omega, by go_num⟩
        case measure => simp [intOf]; omega
    · obtain rfl : j = 512 := by omega
      go_wp2_with fail
      refine (HDE.out _ p g hf8).mono ?_
      rintro e w9 ⟨rfl, rfl⟩
      go_wp2_with fail
      refine (HTO.out _ p g hf8).mono ?_
      rintro e w10 ⟨rfl, n9, rfl⟩
      go_wp2_with fail
      go_ret
      exact ⟨rfl, Below.drewN hbw8 n9⟩

/-- FlashTears, at every input. -/
theorem tears_any (a : Option Addr) (len cap : Nat) (xs : List Int) (t c : Int) (d : Bool) (w : World) (h : RowI .u8 w a len cap xs) :
    Calls Try.prog 7 #[.slice a len cap, .int .i64 t, .int .i64 c, .bool d] w fun e w' => e = .returned (.bool true) ∧ Below w.heap.size w w' := by
  by_cases he : 256 < len ∨ (len ≤ 256 ∧ t < 0) ∨ (len ≤ 256 ∧ 0 ≤ t ∧ 256 < t)
  · exact tears_early a len cap t c d w he
  · obtain ⟨t', rfl⟩ := Int.eq_ofNat_of_zero_le (show 0 ≤ t by omega)
    have hx : len ≤ xs.length ∧ len ≤ cap ∧ (a = none → len = 0 ∧ cap = 0) ∧ ∀ i, i < len → ∃ x, a = some x ∧ w.cell? (x.add i) = some (.int .u8 (xs.getD i 0)) := by
      rcases h with ⟨rfl, rfl, rfl, rfl⟩ | ⟨x, rfl, h1, h2, h3, h4, h5⟩
      · exact ⟨by simp, by simp, by simp, fun i hi => absurd hi (by omega)⟩
      · exact ⟨by omega, h1, by simp, fun i hi => ⟨x, rfl, h4 i (by omega)⟩⟩
    obtain ⟨h1, h2, h3, h4⟩ := hx
    cases d
    · exact tears_false a len cap xs t' c w (by omega) (by omega) h2 h3 h1 h4
    · exact tears_true a len cap t' c w (by omega) (by omega)

end Go.Proofs.Ytimlgkfhfofpbaa
