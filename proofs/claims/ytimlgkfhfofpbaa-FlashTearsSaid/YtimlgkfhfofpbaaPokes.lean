/- FlashPokes: the walk: somebody else's bytes stand whatever was there, also while the power is off, and are no operation. No condition. -/
import Derived.Test.YtimlgkfhfofpbaaFlK
import Derived.Test.YtimlgkfhfofpbaaOpen
namespace Go.Proofs.Ytimlgkfhfofpbaa
open Go.RowKit

theorem pk_b : ((Fl.new 2).prog 0 (zeros 512)).b = zeros 512 := by decide +kernel
theorem pk_s : ((Fl.new 2).prog 0 (zeros 512)).er = 0 ∧ ((Fl.new 2).prog 0 (zeros 512)).pr = 1 ∧ ((Fl.new 2).prog 0 (zeros 512)).dead = false ∧ ((Fl.new 2).prog 0 (zeros 512)).op = -1 := by decide +kernel
theorem upd_zeros (N t len : Nat) (xs : List Int) (i : Nat) (hi : i < N) :
    (upd (zeros N) t len (fun i _ => (xs.take len).getD i 0)).getD i 0 = if t ≤ i ∧ i < t + len then xs.getD (i - t) 0 else 0 := by
  rw [upd_getD _ _ _ _ _ (by rw [zeros_len]; exact hi), zeros_get]
  by_cases hc : t ≤ i ∧ i < t + len
  · rw [if_pos hc, if_pos hc]
    simp [List.getD, show i - t < len by omega]
  · rw [if_neg hc, if_neg hc]
theorem img_cell {w : World} {gi : Nat} {bb : List Int} {spi : List Value} (hgi : w.heap[gi]? = some (.cells (row8 bb spi) 5 (0, 0))) (i : Nat) (hi : i < bb.length) : w.cell? ⟨gi, i, none⟩ = some (.int .u8 (bb.getD i 0)) := by
  rw [cell_blk hgi, row8_get _ _ _ hi]
theorem flt01 : flt 0 = 0 ∧ flt 1 = 4607182418800017408 := by decide +kernel

/-- What is known of the flash all along: its bytes, its counts. -/
structure Pk (s : Fl) (op : Int) (dead : Bool) (b : List Int) : Prop where
  b : s.b = b
  op : s.op = op
  dead : s.dead = dead
  er : s.er = 0
  pr : s.pr = 1

theorem Pk.toll {s : Fl} {op : Int} {dead : Bool} {b : List Int} (h : Pk s op dead b) (w : World) (p g : Nat) (hf : IsFl w p g s) :
    Calls Try.prog 34 #[.pointer (some ⟨p, 0, none⟩)] w fun e w' => e = .returned (.complex .f64 0 4607182418800017408) ∧ ∃ n, w' = w.drewN n := by
  have := toll_any p g s w hf
  rw [h.er, h.pr, flt01.1, flt01.2] at this
  exact this

theorem pk_two {p g B : Nat} (hp : B ≤ p) (hg : B ≤ g) : ∀ i, (i = p ∨ i = g) → B ≤ i := by rintro i (rfl | rfl) <;> assumption
theorem pk_one {p B : Nat} (hp : B ≤ p) : ∀ i, i = p → B ≤ i := by rintro i rfl; assumption

theorem pokes_early (a : Option Addr) (len cap : Nat) (t : Int) (d : Bool) (w : World) (h : 200 < len ∨ (len ≤ 200 ∧ t < 0) ∨ (len ≤ 200 ∧ 0 ≤ t ∧ 300 < t)) :
    Calls Try.prog 6 #[.slice a len cap, .int .i64 t, .bool d] w fun e w' => e = .returned (.bool true) ∧ Below w.heap.size w w' := by
  rcases h with h1 | ⟨h1, h2⟩ | ⟨h1, h2, h3⟩
  all_goals
    go_enter Try.func6, Try.ntmps6
    go_wp2_with (go_at_call 29; refine (alive19_any w).mono ?_; rintro e w' ⟨rfl, hb⟩)
    go_ret
    exact ⟨rfl, hb⟩

set_option maxRecDepth 100000 in
set_option maxHeartbeats 2000000 in
theorem pokes_true (a : Option Addr) (len cap : Nat) (xs : List Int) (t : Nat) (w : World) (hl : len ≤ 200) (ht : t ≤ 300) (hxl : len ≤ xs.length) (hxm : ∀ x ∈ xs, 0 ≤ x ∧ x ≤ 255)
    (hcell : ∀ i, i < len → ∃ x, a = some x ∧ w.cell? (x.add i) = some (.int .u8 (xs.getD i 0))) :
    Calls Try.prog 6 #[.slice a len cap, .int .i64 t, .bool true] w fun e w' => e = .returned (.bool true) ∧ Below w.heap.size w w' := by
  have hys : (xs.take len).length = len := by simp; omega
  have hsrc : Src w a len (xs.take len) := ⟨hys, fun i hi => by
    obtain ⟨x, h1, h2⟩ := hcell i hi
    refine ⟨x, h1, ?_⟩
    rw [h2]
    simp [List.getD, hi]⟩
  have hnew := fun w => new_any 2 w
  obtain ⟨s0, e0⟩ : ∃ s, s = Fl.new 2 := ⟨_, rfl⟩
  have hk0 : Calm s0 512 := by rw [e0]; exact Calm.new 2 512 rfl
  have hp1 := fun w p g (h : IsFl w p g s0) => prog_new p g s0 0 512 (zeros 512) w h (zeros_len 512)
  obtain ⟨s1, e1⟩ : ∃ s, s = s0.prog 0 (zeros 512) := ⟨_, rfl⟩
  have hk1 : Pk s1 (-1) false (zeros 512) := by
    rw [e1, e0]
    obtain ⟨q1, q2, q3, q4⟩ := pk_s
    exact ⟨pk_b, q4, q3, q1, q2⟩
  rw [← e0] at hnew
  rw [← e1] at hp1
  have hmk : ∀ w : World, (Instr.makeSlice 49 (.int .i64 512) (.int .i64 512)).run Try.prog w = .ok (.slice (some ⟨w.heap.size, 0, none⟩) 512 512) (w.alloc (.cells (row8 (zeros 512) []) 5)) := fun w => mk8 512 (by omega) w
  obtain ⟨s2, e2⟩ : ∃ s, s = s1.plan 1 0 := ⟨_, rfl⟩
  have hk2 : Pk s2 1 false (zeros 512) := by rw [e2]; exact ⟨hk1.b, rfl, hk1.dead, hk1.er, hk1.pr⟩
  have hp2 := fun w p g (h : IsFl w p g s1) => plan_any p g s1 1 0 w h (by omega)
  rw [← e2] at hp2
  obtain ⟨s3, e3⟩ : ∃ s, s = s2.turn := ⟨_, rfl⟩
  have turnA : ∀ (s s' : Fl) b, Pk s 1 false b → s' = s.turn → Pk s' 0 false b ∧ s.turnOk = true := by
    intro s s' b h e
    rw [e]
    refine ⟨⟨?_, ?_, ?_, ?_, ?_⟩, by simp [Fl.turnOk, Fl.goes, h.dead, h.op]⟩ <;> (simp [Fl.turn, Fl.step, h.dead, h.op, h.b, h.er, h.pr] <;> rfl)
  have turnB : ∀ (s s' : Fl) b, Pk s 0 false b → s' = s.turn → Pk s' (-1) true b ∧ s.turnOk = false := by
    intro s s' b h e
    rw [e]
    refine ⟨⟨?_, ?_, ?_, ?_, ?_⟩, by simp [Fl.turnOk, Fl.goes, h.dead, h.op]⟩ <;> (simp [Fl.turn, Fl.step, h.dead, h.op, h.b, h.er, h.pr] <;> rfl)
  obtain ⟨s4, e4⟩ : ∃ s, s = s3.turn := ⟨_, rfl⟩
  obtain ⟨hk3, ok3⟩ := turnA s2 s3 _ hk2 e3
  obtain ⟨hk4, ok4⟩ := turnB s3 s4 _ hk3 e4
  have ht3 := fun w p g (h : IsFl w p g s2) => turn_any p g s2 w h
  have ht4 := fun w p g (h : IsFl w p g s3) => turn_any p g s3 w h
  rw [← e3, ok3] at ht3
  rw [← e4, ok4] at ht4
  have HT3 := Lib.hid ht3
  have HT4 := Lib.hid ht4
  obtain ⟨s5, e5⟩ : ∃ s, s = s4.poke t (xs.take len) := ⟨_, rfl⟩
  have hin : inB 512 (t : Int) len = true := inB_iff.2 (by omega)
  have hk5 : Pk s5 (-1) true (upd (zeros 512) t len (fun i _ => (xs.take len).getD i 0)) := by
    rw [e5]
    have hb : inB s4.b.length (t : Int) (xs.take len).length = true := by rw [hk4.b, zeros_len, hys]; exact hin
    unfold Fl.poke
    rw [if_pos hb]
    exact ⟨by simp only [hk4.b, hys]; rfl, hk4.op, hk4.dead, hk4.er, hk4.pr⟩
  have hpk := fun w p g (h : IsFl w p g s4) (hs : Src w a len (xs.take len)) => poke_any p g s4 t a len cap (xs.take len) w h hs (fun x hx => hxm x (List.mem_of_mem_take hx))
  rw [← e5, show s4.pokeOk t len = true by unfold Fl.pokeOk; rw [hk4.b, zeros_len]; exact hin] at hpk
  have hto := fun w p g (h : IsFl w p g s4) => hk4.toll w p g h
  have hord : ((FloatKind.f64.format.order 0 0 == some .eq) && (FloatKind.f64.format.order 4607182418800017408 4607182418800017408 == some .eq)) = true := by decide +kernel
  obtain ⟨bb, ebb⟩ : ∃ b, b = upd (zeros 512) t len (fun i _ => (xs.take len).getD i 0) := ⟨_, rfl⟩
  have hbl : bb.length = 512 := by rw [ebb, upd_length, zeros_len]
  have hbg : ∀ i, i < 512 → bb.getD i 0 = if t ≤ i ∧ i < t + len then xs.getD (i - t) 0 else 0 := by
    intro i hi
    rw [ebb]
    exact upd_zeros 512 t len xs i hi
  rw [← ebb] at hk5
  have himg := fun w p g (h : IsFl w p g s5) => image_any p g s5 w h
  rw [hk5.b] at himg
  have HBL := Lib.hid hbl
  have HBG := Lib.hid hbg
  have hrd := fun w p g (h : IsFl w p g s5) => read_out p g s5 0 1 w h (by simp [Fl.readOk, hk5.dead])
  have hde := fun w p g (h : IsFl w p g s5) => dead_any p g s5 w h
  rw [hk5.dead] at hde
  have hto2 := fun w p g (h : IsFl w p g s5) => hk5.toll w p g h
  have HNEW := Lib.hid hnew
  have HP1 := Lib.hid hp1
  have HP2 := Lib.hid hp2
  have HPK := Lib.hid hpk
  have HTO := Lib.hid hto
  have HIMG := Lib.hid himg
  have HRD := Lib.hid hrd
  have HDE := Lib.hid hde
  have HTO2 := Lib.hid hto2
  have HYS := Lib.hid hys
  clear e0 e1 e2 e3 e4 e5 hk0 hk1 hk2 hk3 hk4 ht3 ht4 ok3 ok4 hk5 hnew hp1 hp2 hpk hto himg hrd hde hto2 hin turnA turnB hys hbl hbg ebb
  go_enter Try.func6, Try.ntmps6
  go_wp2_with (first | (go_at_call 29; refine (alive19_any w).mono ?_; rintro e w1 ⟨rfl, hb1⟩) | (go_at_call 14; refine (HNEW.out _).mono ?_; rintro e w2 ⟨p, g, rfl, hf2, hp, hg, hb2⟩) | (go_at_call 30; refine (HP1.out _ p g hf2).mono ?_; rintro e w3 ⟨rfl, hf3, hk3⟩) | (go_at_call 16; refine (HP2.out _ p g hf3).mono ?_; rintro e w4 ⟨rfl, hf4, hk4⟩) | fail)
  refine (HT3.out _ p g hf4).mono ?_
  rintro e w4a ⟨rfl, hf4a, hk4a, -⟩
  go_wp2_with fail
  refine (HT4.out _ p g hf4a).mono ?_
  rintro e w4b ⟨rfl, hf4b, hk4b, -⟩
  go_wp2_with fail
  refine (HTO.out _ p g hf4b).mono ?_
  rintro e w5 ⟨rfl, n5, rfl⟩
  have hf5 := hf4b.drewN n5
  have hsz1 := hb1.size
  have hsz2 := hb2.size
  have hsz3 := hk3.size
  have hsz4 := hk4.size
  have hpw : w.heap.size ≤ p := by omega
  have hgw : w.heap.size ≤ g := by omega
  have hbw4 : Below w.heap.size w w4 := ((hb1.trans (hb2.mono (by omega))).trans (hk3.toBelow (by omega) (pk_two hpw hgw))).trans (hk4.toBelow (by omega) (pk_one hpw))
  have hbw5 : Below w.heap.size w (w4b.drewN n5) := Below.drewN ((hbw4.trans (hk4a.toBelow hbw4.size (pk_one hpw))).trans (hk4b.toBelow (Nat.le_trans hbw4.size hk4a.size) (pk_one hpw))) n5
  have hsrc5 : Src (w4b.drewN n5) a len (xs.take len) := ⟨HYS.out, fun i hi => by
    obtain ⟨x, h1, h2⟩ := hsrc.cell i hi
    exact ⟨x, h1, below_cell hbw5 h2⟩⟩
  go_wp2_with fail
  refine (HPK.out _ p g hf5 hsrc5).mono ?_
  rintro e w6 ⟨rfl, hf6, hk6, -⟩
  have hbw6 : Below w.heap.size w w6 := hbw5.trans (hk6.toBelow hbw5.size (pk_two hpw hgw))
  go_wp2_with fail
  refine (HIMG.out _ p g hf6).mono ?_
  rintro e w7 ⟨v, rfl, ho, hb7⟩
  obtain ⟨gi, capi, spi, rfl, hBi, hgi, -, -⟩ := ho
  have hf7 := hf6.below hb7
  have hbw7 : Below w.heap.size w w7 := hbw6.trans (hb7.mono hbw6.size)
  have hci : ∀ i, i < 512 → w7.cell? ⟨gi, i, none⟩ = some (.int .u8 (if t ≤ i ∧ i < t + len then xs.getD (i - t) 0 else 0)) := by
    intro i hi
    rw [img_cell hgi i (by rw [HBL.out]; exact hi), HBG.out i hi]
  rw [HBL.out]
  have HCI := Lib.hid hci
  clear hci hgi
  go_wp2_with fail
  go_loop [12] (fun i => ∃ j : Nat, j ≤ 512 ∧ i = .int .i64 j) (fun i => 512 - (intOf i).toNat)
  case atStart => exact ⟨0, by omega, rfl⟩
  case round =>
    obtain ⟨j, hj, rfl⟩ := hrel
    by_cases hlt : j < 512
    · by_cases hA : t ≤ j
      · by_cases hB : j < t + len
        · have hc1 := HCI.out j hlt
          rw [if_pos ⟨hA, hB⟩] at hc1
          obtain ⟨x, rfl, hx⟩ := hcell (j - t) (by omega)
          have hx7 : w7.cell? (x.add (j - t)) = some (.int .u8 (xs.getD (j - t) 0)) := below_cell hbw7 hx
          generalize xs.getD (j - t) 0 = y at hc1 hx7
          have hjt : ((j : Int) - (t : Int)).toNat = j - t := by omega
          clear hx
          go_wp2
          go_round
          case rel => exact ⟨j + 1, by omega, by go_num⟩
          case measure => simp [intOf]; omega
        · have hc1 := HCI.out j hlt
          rw [if_neg (by omega)] at hc1
          go_wp2
          go_round
          case rel => exact ⟨j + 1, by omega, by go_num⟩
          case measure => simp [intOf]; omega
      · have hc1 := HCI.out j hlt
        rw [if_neg (by omega)] at hc1
        go_wp2
        go_round
        case rel => exact ⟨j + 1, by omega, by go_num⟩
        case measure => simp [intOf]; omega
    · obtain rfl : j = 512 := by omega
      go_wp2_with fail
      refine (HRD.out _ p g hf7).mono ?_
      rintro e w8 ⟨rfl, rfl⟩
      go_wp2_with fail
      refine (HTO2.out _ p g hf7).mono ?_
      rintro e w9 ⟨rfl, n9, rfl⟩
      go_wp2_with fail
      refine (HDE.out _ p g (hf7.drewN n9)).mono ?_
      rintro e w10 ⟨rfl, rfl⟩
      go_wp2_with fail
      go_ret
      exact ⟨rfl, Below.drewN hbw7 n9⟩

set_option maxRecDepth 100000 in
set_option maxHeartbeats 2000000 in
theorem pokes_false (a : Option Addr) (len cap : Nat) (xs : List Int) (t : Nat) (w : World) (hl : len ≤ 200) (ht : t ≤ 300) (hxl : len ≤ xs.length) (hxm : ∀ x ∈ xs, 0 ≤ x ∧ x ≤ 255)
    (hcell : ∀ i, i < len → ∃ x, a = some x ∧ w.cell? (x.add i) = some (.int .u8 (xs.getD i 0))) :
    Calls Try.prog 6 #[.slice a len cap, .int .i64 t, .bool false] w fun e w' => e = .returned (.bool true) ∧ Below w.heap.size w w' := by
  have hys : (xs.take len).length = len := by simp; omega
  have hsrc : Src w a len (xs.take len) := ⟨hys, fun i hi => by
    obtain ⟨x, h1, h2⟩ := hcell i hi
    refine ⟨x, h1, ?_⟩
    rw [h2]
    simp [List.getD, hi]⟩
  have hnew := fun w => new_any 2 w
  obtain ⟨s0, e0⟩ : ∃ s, s = Fl.new 2 := ⟨_, rfl⟩
  have hk0 : Calm s0 512 := by rw [e0]; exact Calm.new 2 512 rfl
  have hp1 := fun w p g (h : IsFl w p g s0) => prog_new p g s0 0 512 (zeros 512) w h (zeros_len 512)
  obtain ⟨s1, e1⟩ : ∃ s, s = s0.prog 0 (zeros 512) := ⟨_, rfl⟩
  have hk1 : Pk s1 (-1) false (zeros 512) := by
    rw [e1, e0]
    obtain ⟨q1, q2, q3, q4⟩ := pk_s
    exact ⟨pk_b, q4, q3, q1, q2⟩
  rw [← e0] at hnew
  rw [← e1] at hp1
  have hmk : ∀ w : World, (Instr.makeSlice 49 (.int .i64 512) (.int .i64 512)).run Try.prog w = .ok (.slice (some ⟨w.heap.size, 0, none⟩) 512 512) (w.alloc (.cells (row8 (zeros 512) []) 5)) := fun w => mk8 512 (by omega) w
  obtain ⟨s2, e2⟩ : ∃ s, s = s1.plan 1 0 := ⟨_, rfl⟩
  have hk2 : Pk s2 1 false (zeros 512) := by rw [e2]; exact ⟨hk1.b, rfl, hk1.dead, hk1.er, hk1.pr⟩
  have hp2 := fun w p g (h : IsFl w p g s1) => plan_any p g s1 1 0 w h (by omega)
  rw [← e2] at hp2
  obtain ⟨s3, e3⟩ : ∃ s, s = s2.turn := ⟨_, rfl⟩
  have turnA : ∀ (s s' : Fl) b, Pk s 1 false b → s' = s.turn → Pk s' 0 false b ∧ s.turnOk = true := by
    intro s s' b h e
    rw [e]
    refine ⟨⟨?_, ?_, ?_, ?_, ?_⟩, by simp [Fl.turnOk, Fl.goes, h.dead, h.op]⟩ <;> (simp [Fl.turn, Fl.step, h.dead, h.op, h.b, h.er, h.pr] <;> rfl)
  have turnB : ∀ (s s' : Fl) b, Pk s 0 false b → s' = s.turn → Pk s' (-1) true b ∧ s.turnOk = false := by
    intro s s' b h e
    rw [e]
    refine ⟨⟨?_, ?_, ?_, ?_, ?_⟩, by simp [Fl.turnOk, Fl.goes, h.dead, h.op]⟩ <;> (simp [Fl.turn, Fl.step, h.dead, h.op, h.b, h.er, h.pr] <;> rfl)
  obtain ⟨s5, e5⟩ : ∃ s, s = s2.poke t (xs.take len) := ⟨_, rfl⟩
  have hin : inB 512 (t : Int) len = true := inB_iff.2 (by omega)
  have hk5 : Pk s5 1 false (upd (zeros 512) t len (fun i _ => (xs.take len).getD i 0)) := by
    rw [e5]
    have hb : inB s2.b.length (t : Int) (xs.take len).length = true := by rw [hk2.b, zeros_len, hys]; exact hin
    unfold Fl.poke
    rw [if_pos hb]
    exact ⟨by simp only [hk2.b, hys]; rfl, hk2.op, hk2.dead, hk2.er, hk2.pr⟩
  have hpk := fun w p g (h : IsFl w p g s2) (hs : Src w a len (xs.take len)) => poke_any p g s2 t a len cap (xs.take len) w h hs (fun x hx => hxm x (List.mem_of_mem_take hx))
  rw [← e5, show s2.pokeOk t len = true by unfold Fl.pokeOk; rw [hk2.b, zeros_len]; exact hin] at hpk
  have hto := fun w p g (h : IsFl w p g s2) => hk2.toll w p g h
  have hord : ((FloatKind.f64.format.order 0 0 == some .eq) && (FloatKind.f64.format.order 4607182418800017408 4607182418800017408 == some .eq)) = true := by decide +kernel
  obtain ⟨bb, ebb⟩ : ∃ b, b = upd (zeros 512) t len (fun i _ => (xs.take len).getD i 0) := ⟨_, rfl⟩
  have hbl : bb.length = 512 := by rw [ebb, upd_length, zeros_len]
  have hbg : ∀ i, i < 512 → bb.getD i 0 = if t ≤ i ∧ i < t + len then xs.getD (i - t) 0 else 0 := by
    intro i hi
    rw [ebb]
    exact upd_zeros 512 t len xs i hi
  rw [← ebb] at hk5
  have himg := fun w p g (h : IsFl w p g s5) => image_any p g s5 w h
  rw [hk5.b] at himg
  have HBL := Lib.hid hbl
  have HBG := Lib.hid hbg
  obtain ⟨s6, e6⟩ : ∃ s, s = s5.turn := ⟨_, rfl⟩
  obtain ⟨s7, e7⟩ : ∃ s, s = s6.turn := ⟨_, rfl⟩
  obtain ⟨hk6, ok6⟩ := turnA s5 s6 _ hk5 e6
  obtain ⟨hk7, ok7⟩ := turnB s6 s7 _ hk6 e7
  have ht6 := fun w p g (h : IsFl w p g s5) => turn_any p g s5 w h
  have ht7 := fun w p g (h : IsFl w p g s6) => turn_any p g s6 w h
  rw [← e6, ok6] at ht6
  rw [← e7, ok7] at ht7
  have HT6 := Lib.hid ht6
  have HT7 := Lib.hid ht7
  have hrd := fun w p g (h : IsFl w p g s7) => read_out p g s7 0 1 w h (by simp [Fl.readOk, hk7.dead])
  have hde := fun w p g (h : IsFl w p g s7) => dead_any p g s7 w h
  rw [hk7.dead] at hde
  have hto2 := fun w p g (h : IsFl w p g s7) => hk7.toll w p g h
  have HNEW := Lib.hid hnew
  have HP1 := Lib.hid hp1
  have HP2 := Lib.hid hp2
  have HPK := Lib.hid hpk
  have HTO := Lib.hid hto
  have HIMG := Lib.hid himg
  have HRD := Lib.hid hrd
  have HDE := Lib.hid hde
  have HTO2 := Lib.hid hto2
  have HYS := Lib.hid hys
  clear e0 e1 e2 e3 e6 e7 e5 hk0 hk1 hk2 hk6 hk7 ht6 ht7 ok6 ok7 hk5 hnew hp1 hp2 hpk hto himg hrd hde hto2 hin turnA turnB hys hbl hbg ebb
  go_enter Try.func6, Try.ntmps6
  go_wp2_with (first | (go_at_call 29; refine (alive19_any w).mono ?_; rintro e w1 ⟨rfl, hb1⟩) | (go_at_call 14; refine (HNEW.out _).mono ?_; rintro e w2 ⟨p, g, rfl, hf2, hp, hg, hb2⟩) | (go_at_call 30; refine (HP1.out _ p g hf2).mono ?_; rintro e w3 ⟨rfl, hf3, hk3⟩) | (go_at_call 16; refine (HP2.out _ p g hf3).mono ?_; rintro e w4 ⟨rfl, hf4, hk4⟩) | fail)
  refine (HTO.out _ p g hf4).mono ?_
  rintro e w5 ⟨rfl, n5, rfl⟩
  have hf5 := hf4.drewN n5
  have hsz1 := hb1.size
  have hsz2 := hb2.size
  have hsz3 := hk3.size
  have hsz4 := hk4.size
  have hpw : w.heap.size ≤ p := by omega
  have hgw : w.heap.size ≤ g := by omega
  have hbw4 : Below w.heap.size w w4 := ((hb1.trans (hb2.mono (by omega))).trans (hk3.toBelow (by omega) (pk_two hpw hgw))).trans (hk4.toBelow (by omega) (pk_one hpw))
  have hbw5 : Below w.heap.size w (w4.drewN n5) := Below.drewN hbw4 n5
  have hsrc5 : Src (w4.drewN n5) a len (xs.take len) := ⟨HYS.out, fun i hi => by
    obtain ⟨x, h1, h2⟩ := hsrc.cell i hi
    exact ⟨x, h1, below_cell hbw5 h2⟩⟩
  go_wp2_with fail
  refine (HPK.out _ p g hf5 hsrc5).mono ?_
  rintro e w6 ⟨rfl, hf6, hk6, -⟩
  have hbw6 : Below w.heap.size w w6 := hbw5.trans (hk6.toBelow hbw5.size (pk_two hpw hgw))
  go_wp2_with fail
  refine (HIMG.out _ p g hf6).mono ?_
  rintro e w7 ⟨v, rfl, ho, hb7⟩
  obtain ⟨gi, capi, spi, rfl, hBi, hgi, -, -⟩ := ho
  have hf7 := hf6.below hb7
  have hbw7 : Below w.heap.size w w7 := hbw6.trans (hb7.mono hbw6.size)
  have hci : ∀ i, i < 512 → w7.cell? ⟨gi, i, none⟩ = some (.int .u8 (if t ≤ i ∧ i < t + len then xs.getD (i - t) 0 else 0)) := by
    intro i hi
    rw [img_cell hgi i (by rw [HBL.out]; exact hi), HBG.out i hi]
  rw [HBL.out]
  have HCI := Lib.hid hci
  clear hci hgi
  go_wp2_with fail
  go_loop [12] (fun i => ∃ j : Nat, j ≤ 512 ∧ i = .int .i64 j) (fun i => 512 - (intOf i).toNat)
  case atStart => exact ⟨0, by omega, rfl⟩
  case round =>
    obtain ⟨j, hj, rfl⟩ := hrel
    by_cases hlt : j < 512
    · by_cases hA : t ≤ j
      · by_cases hB : j < t + len
        · have hc1 := HCI.out j hlt
          rw [if_pos ⟨hA, hB⟩] at hc1
          obtain ⟨x, rfl, hx⟩ := hcell (j - t) (by omega)
          have hx7 : w7.cell? (x.add (j - t)) = some (.int .u8 (xs.getD (j - t) 0)) := below_cell hbw7 hx
          generalize xs.getD (j - t) 0 = y at hc1 hx7
          have hjt : ((j : Int) - (t : Int)).toNat = j - t := by omega
          clear hx
          go_wp2
          go_round
          case rel => exact ⟨j + 1, by omega, by go_num⟩
          case measure => simp [intOf]; omega
        · have hc1 := HCI.out j hlt
          rw [if_neg (by omega)] at hc1
          go_wp2
          go_round
          case rel => exact ⟨j + 1, by omega, by go_num⟩
          case measure => simp [intOf]; omega
      · have hc1 := HCI.out j hlt
        rw [if_neg (by omega)] at hc1
        go_wp2
        go_round
        case rel => exact ⟨j + 1, by omega, by go_num⟩
        case measure => simp [intOf]; omega
    · obtain rfl : j = 512 := by omega
      go_wp2_with fail
      refine (HT6.out _ p g hf7).mono ?_
      rintro e w8a ⟨rfl, hf8a, hk8a, -⟩
      go_wp2_with fail
      refine (HT7.out _ p g hf8a).mono ?_
      rintro e w8b ⟨rfl, hf8b, hk8b, -⟩
      have hbw8 : Below w.heap.size w w8b := (hbw7.trans (hk8a.toBelow hbw7.size (pk_one hpw))).trans (hk8b.toBelow (Nat.le_trans hbw7.size hk8a.size) (pk_one hpw))
      go_wp2_with fail
      refine (HRD.out _ p g hf8b).mono ?_
      rintro e w8 ⟨rfl, rfl⟩
      go_wp2_with fail
      refine (HTO2.out _ p g hf8b).mono ?_
      rintro e w9 ⟨rfl, n9, rfl⟩
      go_wp2_with fail
      refine (HDE.out _ p g (hf8b.drewN n9)).mono ?_
      rintro e w10 ⟨rfl, rfl⟩
      go_wp2_with fail
      go_ret
      exact ⟨rfl, Below.drewN hbw8 n9⟩

/-- FlashPokes, at every input. -/
theorem pokes_any (a : Option Addr) (len cap : Nat) (xs : List Int) (t : Int) (d : Bool) (w : World) (h : RowI .u8 w a len cap xs) :
    Calls Try.prog 6 #[.slice a len cap, .int .i64 t, .bool d] w fun e w' => e = .returned (.bool true) ∧ Below w.heap.size w w' := by
  by_cases he : 200 < len ∨ (len ≤ 200 ∧ t < 0) ∨ (len ≤ 200 ∧ 0 ≤ t ∧ 300 < t)
  · exact pokes_early a len cap t d w he
  · obtain ⟨t', rfl⟩ := Int.eq_ofNat_of_zero_le (show 0 ≤ t by omega)
    have hx : len ≤ xs.length ∧ (∀ x ∈ xs, 0 ≤ x ∧ x ≤ 255) ∧ ∀ i, i < len → ∃ x, a = some x ∧ w.cell? (x.add i) = some (.int .u8 (xs.getD i 0)) := by
      rcases h with ⟨rfl, rfl, rfl, rfl⟩ | ⟨x, rfl, h1, h2, h3, h4, h5⟩
      · exact ⟨by simp, by simp, fun i hi => absurd hi (by omega)⟩
      · exact ⟨by omega, fun y hy => wf_u8 (h5 y hy), fun i hi => ⟨x, rfl, h4 i (by omega)⟩⟩
    obtain ⟨h1, h2, h3⟩ := hx
    cases d
    · exact pokes_false a len cap xs t' w (by omega) (by omega) h1 h2 h3
    · exact pokes_true a len cap xs t' w (by omega) (by omega) h1 h2 h3

end Go.Proofs.Ytimlgkfhfofpbaa
