/- FlashBounds: the walk: which bytes and sectors there are. No condition. -/
import Derived.Test.YtimlgkfhfofpbaaFlK
namespace Go.Proofs.Ytimlgkfhfofpbaa
open Go.RowKit

theorem bounds_early (k a n : Int) (w : World) (h : k < 0 ∨ (0 ≤ k ∧ 20 < k) ∨ (0 ≤ k ∧ k ≤ 20 ∧ 10000 < n)) :
    Calls Try.prog 8 #[.int .i64 k, .int .i64 a, .int .i64 n] w fun e w' => e = .returned (.bool true) ∧ Below w.heap.size w w' := by
  rcases h with h1 | ⟨h1, h2⟩ | ⟨h1, h2, h3⟩
  all_goals
    go_enter Try.func8, Try.ntmps8
    go_wp2_with (go_at_call 29; refine (alive19_any w).mono ?_; rintro e w' ⟨rfl, hb⟩)
    go_ret
    exact ⟨rfl, hb⟩

theorem two_of {p g B : Nat} (hp : B ≤ p) (hg : B ≤ g) : ∀ i, (i = p ∨ i = g) → B ≤ i := by rintro i (rfl | rfl) <;> assumption

set_option maxRecDepth 100000 in
set_option maxHeartbeats 1000000 in
theorem bounds_1 (k : Nat) (a : Int) (n : Nat) (hn : n ≤ 10000) (w : World) (hk : k ≤ 20) (c1 : a < 0) :
    Calls Try.prog 8 #[.int .i64 k, .int .i64 a, .int .i64 n] w fun e w' => e = .returned (.bool true) ∧ Below w.heap.size w w' := by
  have hcalm := Calm.new (k : Int) (256 * k) (by omega)
  have hin : inB (256 * k) a n = false := inB_not.2 (by omega)
  have her : (decide (0 ≤ a) && decide (a < ((256 * k) / 256 : Nat))) = false := by rw [Bool.eq_false_iff, ne_eq, Bool.and_eq_true, decide_eq_true_eq, decide_eq_true_eq]; omega
  have hnew := fun w => new_any (k : Int) w
  obtain ⟨s0, e0⟩ : ∃ s, s = Fl.new (k : Int) := ⟨_, rfl⟩
  rw [← e0] at hcalm hnew
  have hread := fun w p g (h : IsFl w p g s0) => read_any p g s0 a n w h
  rw [hcalm.readOk, hin] at hread
  have hp := fun w p g (h : IsFl w p g s0) => prog_new p g s0 a n (zeros n) w h (zeros_len n)
  rw [hcalm.progOk, hin] at hp
  have hcalm1 := hcalm.prog a (zeros n)
  obtain ⟨s1, e1⟩ : ∃ s, s = s0.prog a (zeros n) := ⟨_, rfl⟩
  rw [← e1] at hp hcalm1
  have hq := fun w p g (h : IsFl w p g s1) => poke_new p g s1 a n (zeros n) w h (zeros_len n) (zeros_mem n)
  rw [hcalm1.pokeOk, hin] at hq
  have hcalm2 := hcalm1.poke a (zeros n)
  obtain ⟨s2, e2⟩ : ∃ s, s = s1.poke a (zeros n) := ⟨_, rfl⟩
  rw [← e2] at hq hcalm2
  have hz := fun w => mk8 n (by omega) w
  have he := fun w p g (h : IsFl w p g s2) => erase_any p g s2 a w h
  rw [hcalm2.eraseOk, her] at he
  have HP := Lib.hid hp
  have HQ := Lib.hid hq
  clear e1 e2 hcalm1 hcalm2 hp hq
  have HNEW := Lib.hid hnew
  have HREAD := Lib.hid hread
  have HE := Lib.hid he
  clear e0 hcalm hin her hnew hread he
  go_enter Try.func8, Try.ntmps8
  go_wp2_with (first | (go_at_call 29; refine (alive19_any w).mono ?_; rintro e w1 ⟨rfl, hb1⟩) | (go_at_call 14; refine (HNEW.out _).mono ?_; rintro e w2 ⟨p, g, rfl, hf, hp, hg, hb2⟩) | fail)
  refine (HREAD.out _ p g hf).mono ?_
  rintro e w3 ⟨v, rfl, -, hv, hb3⟩
  obtain rfl : v = .slice none 0 0 := by simpa using hv
  have hf3 := hf.below hb3
  go_wp2_with fail
  refine (HP.out _ p g hf3).mono ?_
  rintro e w4 ⟨rfl, hf4, hk4⟩
  go_wp2_with fail
  refine (HQ.out _ p g hf4).mono ?_
  rintro e w5 ⟨rfl, hf5, hk5⟩
  go_wp2_with fail
  refine (HE.out _ p g hf5).mono ?_
  rintro e w6 ⟨rfl, hf6, hk6, -⟩
  go_wp2_with fail
  go_ret
  refine ⟨by first | rfl | exact ret_bool (by simp; omega), ?_⟩
  have z1 := hb1.size
  have z2 := hb2.size
  have z3 := hb3.size
  have z4 := hk4.size
  have z5 := hk5.size
  have hp' : w.heap.size ≤ p := by omega
  have hg' : w.heap.size ≤ g := by omega
  exact ((((hb1.trans (hb2.mono (by omega))).trans (hb3.mono (by omega))).trans (hk4.toBelow (by omega) (two_of hp' hg'))).trans (hk5.toBelow (by omega) (two_of hp' hg'))).trans (hk6.toBelow (by omega) (two_of hp' hg'))

set_option maxRecDepth 100000 in
set_option maxHeartbeats 1000000 in
theorem bounds_2 (k : Nat) (a : Int) (n : Nat) (hn : n ≤ 10000) (w : World) (hk : k ≤ 20) (c1 : 0 ≤ a) (c2 : 256 * (k : Int) < a) :
    Calls Try.prog 8 #[.int .i64 k, .int .i64 a, .int .i64 n] w fun e w' => e = .returned (.bool true) ∧ Below w.heap.size w w' := by
  have hcalm := Calm.new (k : Int) (256 * k) (by omega)
  have hin : inB (256 * k) a n = false := inB_not.2 (by omega)
  have her : (decide (0 ≤ a) && decide (a < ((256 * k) / 256 : Nat))) = false := by rw [Bool.eq_false_iff, ne_eq, Bool.and_eq_true, decide_eq_true_eq, decide_eq_true_eq]; omega
  have hnew := fun w => new_any (k : Int) w
  obtain ⟨s0, e0⟩ : ∃ s, s = Fl.new (k : Int) := ⟨_, rfl⟩
  rw [← e0] at hcalm hnew
  have hread := fun w p g (h : IsFl w p g s0) => read_any p g s0 a n w h
  rw [hcalm.readOk, hin] at hread
  have hp := fun w p g (h : IsFl w p g s0) => prog_new p g s0 a n (zeros n) w h (zeros_len n)
  rw [hcalm.progOk, hin] at hp
  have hcalm1 := hcalm.prog a (zeros n)
  obtain ⟨s1, e1⟩ : ∃ s, s = s0.prog a (zeros n) := ⟨_, rfl⟩
  rw [← e1] at hp hcalm1
  have hq := fun w p g (h : IsFl w p g s1) => poke_new p g s1 a n (zeros n) w h (zeros_len n) (zeros_mem n)
  rw [hcalm1.pokeOk, hin] at hq
  have hcalm2 := hcalm1.poke a (zeros n)
  obtain ⟨s2, e2⟩ : ∃ s, s = s1.poke a (zeros n) := ⟨_, rfl⟩
  rw [← e2] at hq hcalm2
  have hz := fun w => mk8 n (by omega) w
  have he := fun w p g (h : IsFl w p g s2) => erase_any p g s2 a w h
  rw [hcalm2.eraseOk, her] at he
  have HP := Lib.hid hp
  have HQ := Lib.hid hq
  clear e1 e2 hcalm1 hcalm2 hp hq
  have HNEW := Lib.hid hnew
  have HREAD := Lib.hid hread
  have HE := Lib.hid he
  clear e0 hcalm hin her hnew hread he
  go_enter Try.func8, Try.ntmps8
  go_wp2_with (first | (go_at_call 29; refine (alive19_any w).mono ?_; rintro e w1 ⟨rfl, hb1⟩) | (go_at_call 14; refine (HNEW.out _).mono ?_; rintro e w2 ⟨p, g, rfl, hf, hp, hg, hb2⟩) | fail)
  refine (HREAD.out _ p g hf).mono ?_
  rintro e w3 ⟨v, rfl, -, hv, hb3⟩
  obtain rfl : v = .slice none 0 0 := by simpa using hv
  have hf3 := hf.below hb3
  go_wp2_with fail
  refine (HP.out _ p g hf3).mono ?_
  rintro e w4 ⟨rfl, hf4, hk4⟩
  go_wp2_with fail
  refine (HQ.out _ p g hf4).mono ?_
  rintro e w5 ⟨rfl, hf5, hk5⟩
  go_wp2_with fail
  refine (HE.out _ p g hf5).mono ?_
  rintro e w6 ⟨rfl, hf6, hk6, -⟩
  go_wp2_with fail
  go_ret
  refine ⟨by first | rfl | exact ret_bool (by simp; omega), ?_⟩
  have z1 := hb1.size
  have z2 := hb2.size
  have z3 := hb3.size
  have z4 := hk4.size
  have z5 := hk5.size
  have hp' : w.heap.size ≤ p := by omega
  have hg' : w.heap.size ≤ g := by omega
  exact ((((hb1.trans (hb2.mono (by omega))).trans (hb3.mono (by omega))).trans (hk4.toBelow (by omega) (two_of hp' hg'))).trans (hk5.toBelow (by omega) (two_of hp' hg'))).trans (hk6.toBelow (by omega) (two_of hp' hg'))

set_option maxRecDepth 100000 in
set_option maxHeartbeats 1000000 in
theorem bounds_3 (k : Nat) (a : Int) (n : Nat) (hn : n ≤ 10000) (w : World) (hk : k ≤ 20) (c1 : 0 ≤ a) (c2 : a ≤ 256 * (k : Int)) (c3 : 256 * (k : Int) - a < (n : Int)) (c4 : a < (k : Int)) :
    Calls Try.prog 8 #[.int .i64 k, .int .i64 a, .int .i64 n] w fun e w' => e = .returned (.bool true) ∧ Below w.heap.size w w' := by
  have hcalm := Calm.new (k : Int) (256 * k) (by omega)
  have hin : inB (256 * k) a n = false := inB_not.2 (by omega)
  have her : (decide (0 ≤ a) && decide (a < ((256 * k) / 256 : Nat))) = true := by rw [Bool.and_eq_true, decide_eq_true_eq, decide_eq_true_eq]; omega
  have hnew := fun w => new_any (k : Int) w
  obtain ⟨s0, e0⟩ : ∃ s, s = Fl.new (k : Int) := ⟨_, rfl⟩
  rw [← e0] at hcalm hnew
  have hread := fun w p g (h : IsFl w p g s0) => read_any p g s0 a n w h
  rw [hcalm.readOk, hin] at hread
  have hp := fun w p g (h : IsFl w p g s0) => prog_new p g s0 a n (zeros n) w h (zeros_len n)
  rw [hcalm.progOk, hin] at hp
  have hcalm1 := hcalm.prog a (zeros n)
  obtain ⟨s1, e1⟩ : ∃ s, s = s0.prog a (zeros n) := ⟨_, rfl⟩
  rw [← e1] at hp hcalm1
  have hq := fun w p g (h : IsFl w p g s1) => poke_new p g s1 a n (zeros n) w h (zeros_len n) (zeros_mem n)
  rw [hcalm1.pokeOk, hin] at hq
  have hcalm2 := hcalm1.poke a (zeros n)
  obtain ⟨s2, e2⟩ : ∃ s, s = s1.poke a (zeros n) := ⟨_, rfl⟩
  rw [← e2] at hq hcalm2
  have hz := fun w => mk8 n (by omega) w
  have he := fun w p g (h : IsFl w p g s2) => erase_any p g s2 a w h
  rw [hcalm2.eraseOk, her] at he
  have HP := Lib.hid hp
  have HQ := Lib.hid hq
  clear e1 e2 hcalm1 hcalm2 hp hq
  have HNEW := Lib.hid hnew
  have HREAD := Lib.hid hread
  have HE := Lib.hid he
  clear e0 hcalm hin her hnew hread he
  go_enter Try.func8, Try.ntmps8
  go_wp2_with (first | (go_at_call 29; refine (alive19_any w).mono ?_; rintro e w1 ⟨rfl, hb1⟩) | (go_at_call 14; refine (HNEW.out _).mono ?_; rintro e w2 ⟨p, g, rfl, hf, hp, hg, hb2⟩) | fail)
  refine (HREAD.out _ p g hf).mono ?_
  rintro e w3 ⟨v, rfl, -, hv, hb3⟩
  obtain rfl : v = .slice none 0 0 := by simpa using hv
  have hf3 := hf.below hb3
  go_wp2_with fail
  refine (HP.out _ p g hf3).mono ?_
  rintro e w4 ⟨rfl, hf4, hk4⟩
  go_wp2_with fail
  refine (HQ.out _ p g hf4).mono ?_
  rintro e w5 ⟨rfl, hf5, hk5⟩
  go_wp2_with fail
  refine (HE.out _ p g hf5).mono ?_
  rintro e w6 ⟨rfl, hf6, hk6, -⟩
  go_wp2_with fail
  go_ret
  refine ⟨by first | rfl | exact ret_bool (by simp; omega), ?_⟩
  have z1 := hb1.size
  have z2 := hb2.size
  have z3 := hb3.size
  have z4 := hk4.size
  have z5 := hk5.size
  have hp' : w.heap.size ≤ p := by omega
  have hg' : w.heap.size ≤ g := by omega
  exact ((((hb1.trans (hb2.mono (by omega))).trans (hb3.mono (by omega))).trans (hk4.toBelow (by omega) (two_of hp' hg'))).trans (hk5.toBelow (by omega) (two_of hp' hg'))).trans (hk6.toBelow (by omega) (two_of hp' hg'))

set_option maxRecDepth 100000 in
set_option maxHeartbeats 1000000 in
theorem bounds_4 (k : Nat) (a : Int) (n : Nat) (hn : n ≤ 10000) (w : World) (hk : k ≤ 20) (c1 : 0 ≤ a) (c2 : a ≤ 256 * (k : Int)) (c3 : 256 * (k : Int) - a < (n : Int)) (c4 : (k : Int) ≤ a) :
    Calls Try.prog 8 #[.int .i64 k, .int .i64 a, .int .i64 n] w fun e w' => e = .returned (.bool true) ∧ Below w.heap.size w w' := by
  have hcalm := Calm.new (k : Int) (256 * k) (by omega)
  have hin : inB (256 * k) a n = false := inB_not.2 (by omega)
  have her : (decide (0 ≤ a) && decide (a < ((256 * k) / 256 : Nat))) = false := by rw [Bool.eq_false_iff, ne_eq, Bool.and_eq_true, decide_eq_true_eq, decide_eq_true_eq]; omega
  have hnew := fun w => new_any (k : Int) w
  obtain ⟨s0, e0⟩ : ∃ s, s = Fl.new (k : Int) := ⟨_, rfl⟩
  rw [← e0] at hcalm hnew
  have hread := fun w p g (h : IsFl w p g s0) => read_any p g s0 a n w h
  rw [hcalm.readOk, hin] at hread
  have hp := fun w p g (h : IsFl w p g s0) => prog_new p g s0 a n (zeros n) w h (zeros_len n)
  rw [hcalm.progOk, hin] at hp
  have hcalm1 := hcalm.prog a (zeros n)
  obtain ⟨s1, e1⟩ : ∃ s, s = s0.prog a (zeros n) := ⟨_, rfl⟩
  rw [← e1] at hp hcalm1
  have hq := fun w p g (h : IsFl w p g s1) => poke_new p g s1 a n (zeros n) w h (zeros_len n) (zeros_mem n)
  rw [hcalm1.pokeOk, hin] at hq
  have hcalm2 := hcalm1.poke a (zeros n)
  obtain ⟨s2, e2⟩ : ∃ s, s = s1.poke a (zeros n) := ⟨_, rfl⟩
  rw [← e2] at hq hcalm2
  have hz := fun w => mk8 n (by omega) w
  have he := fun w p g (h : IsFl w p g s2) => erase_any p g s2 a w h
  rw [hcalm2.eraseOk, her] at he
  have HP := Lib.hid hp
  have HQ := Lib.hid hq
  clear e1 e2 hcalm1 hcalm2 hp hq
  have HNEW := Lib.hid hnew
  have HREAD := Lib.hid hread
  have HE := Lib.hid he
  clear e0 hcalm hin her hnew hread he
  go_enter Try.func8, Try.ntmps8
  go_wp2_with (first | (go_at_call 29; refine (alive19_any w).mono ?_; rintro e w1 ⟨rfl, hb1⟩) | (go_at_call 14; refine (HNEW.out _).mono ?_; rintro e w2 ⟨p, g, rfl, hf, hp, hg, hb2⟩) | fail)
  refine (HREAD.out _ p g hf).mono ?_
  rintro e w3 ⟨v, rfl, -, hv, hb3⟩
  obtain rfl : v = .slice none 0 0 := by simpa using hv
  have hf3 := hf.below hb3
  go_wp2_with fail
  refine (HP.out _ p g hf3).mono ?_
  rintro e w4 ⟨rfl, hf4, hk4⟩
  go_wp2_with fail
  refine (HQ.out _ p g hf4).mono ?_
  rintro e w5 ⟨rfl, hf5, hk5⟩
  go_wp2_with fail
  refine (HE.out _ p g hf5).mono ?_
  rintro e w6 ⟨rfl, hf6, hk6, -⟩
  go_wp2_with fail
  go_ret
  refine ⟨by first | rfl | exact ret_bool (by simp; omega), ?_⟩
  have z1 := hb1.size
  have z2 := hb2.size
  have z3 := hb3.size
  have z4 := hk4.size
  have z5 := hk5.size
  have hp' : w.heap.size ≤ p := by omega
  have hg' : w.heap.size ≤ g := by omega
  exact ((((hb1.trans (hb2.mono (by omega))).trans (hb3.mono (by omega))).trans (hk4.toBelow (by omega) (two_of hp' hg'))).trans (hk5.toBelow (by omega) (two_of hp' hg'))).trans (hk6.toBelow (by omega) (two_of hp' hg'))

set_option maxRecDepth 100000 in
set_option maxHeartbeats 1000000 in
theorem bounds_5 (k : Nat) (a : Int) (n : Nat) (hn : n ≤ 10000) (w : World) (hk : k ≤ 20) (c1 : 0 ≤ a) (c2 : a ≤ 256 * (k : Int)) (c3 : (n : Int) ≤ 256 * (k : Int) - a) (c4 : a < (k : Int)) :
    Calls Try.prog 8 #[.int .i64 k, .int .i64 a, .int .i64 n] w fun e w' => e = .returned (.bool true) ∧ Below w.heap.size w w' := by
  have hcalm := Calm.new (k : Int) (256 * k) (by omega)
  have hin : inB (256 * k) a n = true := inB_iff.2 (by omega)
  have her : (decide (0 ≤ a) && decide (a < ((256 * k) / 256 : Nat))) = true := by rw [Bool.and_eq_true, decide_eq_true_eq, decide_eq_true_eq]; omega
  have hnew := fun w => new_any (k : Int) w
  obtain ⟨s0, e0⟩ : ∃ s, s = Fl.new (k : Int) := ⟨_, rfl⟩
  rw [← e0] at hcalm hnew
  have hread := fun w p g (h : IsFl w p g s0) => read_any p g s0 a n w h
  rw [hcalm.readOk, hin] at hread
  have hp := fun w p g (h : IsFl w p g s0) => prog_new p g s0 a n (zeros n) w h (zeros_len n)
  rw [hcalm.progOk, hin] at hp
  have hcalm1 := hcalm.prog a (zeros n)
  obtain ⟨s1, e1⟩ : ∃ s, s = s0.prog a (zeros n) := ⟨_, rfl⟩
  rw [← e1] at hp hcalm1
  have hq := fun w p g (h : IsFl w p g s1) => poke_new p g s1 a n (zeros n) w h (zeros_len n) (zeros_mem n)
  rw [hcalm1.pokeOk, hin] at hq
  have hcalm2 := hcalm1.poke a (zeros n)
  obtain ⟨s2, e2⟩ : ∃ s, s = s1.poke a (zeros n) := ⟨_, rfl⟩
  rw [← e2] at hq hcalm2
  have hz := fun w => mk8 n (by omega) w
  have he := fun w p g (h : IsFl w p g s2) => erase_any p g s2 a w h
  rw [hcalm2.eraseOk, her] at he
  have HP := Lib.hid hp
  have HQ := Lib.hid hq
  clear e1 e2 hcalm1 hcalm2 hp hq
  have HNEW := Lib.hid hnew
  have HREAD := Lib.hid hread
  have HE := Lib.hid he
  have hrl : (s0.read a n).length = n := by
    simp only [Fl.read, List.length_take, List.length_drop, Int.toNat_natCast, hcalm.len]; omega
  have HRL := Lib.hid hrl
  clear hrl
  clear e0 hcalm hin her hnew hread he
  go_enter Try.func8, Try.ntmps8
  go_wp2_with (first | (go_at_call 29; refine (alive19_any w).mono ?_; rintro e w1 ⟨rfl, hb1⟩) | (go_at_call 14; refine (HNEW.out _).mono ?_; rintro e w2 ⟨p, g, rfl, hf, hp, hg, hb2⟩) | fail)
  refine (HREAD.out _ p g hf).mono ?_
  rintro e w3 ⟨v, rfl, ho, -, hb3⟩
  obtain ⟨g3, cap3, sp3, rfl, hB3, hg3, -, -⟩ : Owns w3 w2.heap.size v (s0.read a n) := by simpa using ho
  rw [HRL.out]
  have hf3 := hf.below hb3
  go_wp2_with fail
  refine (HP.out _ p g hf3).mono ?_
  rintro e w4 ⟨rfl, hf4, hk4⟩
  go_wp2_with fail
  refine (HQ.out _ p g hf4).mono ?_
  rintro e w5 ⟨rfl, hf5, hk5⟩
  go_wp2_with fail
  refine (HE.out _ p g hf5).mono ?_
  rintro e w6 ⟨rfl, hf6, hk6, -⟩
  go_wp2_with fail
  go_ret
  refine ⟨by first | rfl | exact ret_bool (by simp; omega), ?_⟩
  have z1 := hb1.size
  have z2 := hb2.size
  have z3 := hb3.size
  have z4 := hk4.size
  have z5 := hk5.size
  have hp' : w.heap.size ≤ p := by omega
  have hg' : w.heap.size ≤ g := by omega
  exact ((((hb1.trans (hb2.mono (by omega))).trans (hb3.mono (by omega))).trans (hk4.toBelow (by omega) (two_of hp' hg'))).trans (hk5.toBelow (by omega) (two_of hp' hg'))).trans (hk6.toBelow (by omega) (two_of hp' hg'))

set_option maxRecDepth 100000 in
set_option maxHeartbeats 1000000 in
theorem bounds_6 (k : Nat) (a : Int) (n : Nat) (hn : n ≤ 10000) (w : World) (hk : k ≤ 20) (c1 : 0 ≤ a) (c2 : a ≤ 256 * (k : Int)) (c3 : (n : Int) ≤ 256 * (k : Int) - a) (c4 : (k : Int) ≤ a) :
    Calls Try.prog 8 #[.int .i64 k, .int .i64 a, .int .i64 n] w fun e w' => e = .returned (.bool true) ∧ Below w.heap.size w w' := by
  have hcalm := Calm.new (k : Int) (256 * k) (by omega)
  have hin : inB (256 * k) a n = true := inB_iff.2 (by omega)
  have her : (decide (0 ≤ a) && decide (a < ((256 * k) / 256 : Nat))) = false := by rw [Bool.eq_false_iff, ne_eq, Bool.and_eq_true, decide_eq_true_eq, decide_eq_true_eq]; omega
  have hnew := fun w => new_any (k : Int) w
  obtain ⟨s0, e0⟩ : ∃ s, s = Fl.new (k : Int) := ⟨_, rfl⟩
  rw [← e0] at hcalm hnew
  have hread := fun w p g (h : IsFl w p g s0) => read_any p g s0 a n w h
  rw [hcalm.readOk, hin] at hread
  have hp := fun w p g (h : IsFl w p g s0) => prog_new p g s0 a n (zeros n) w h (zeros_len n)
  rw [hcalm.progOk, hin] at hp
  have hcalm1 := hcalm.prog a (zeros n)
  obtain ⟨s1, e1⟩ : ∃ s, s = s0.prog a (zeros n) := ⟨_, rfl⟩
  rw [← e1] at hp hcalm1
  have hq := fun w p g (h : IsFl w p g s1) => poke_new p g s1 a n (zeros n) w h (zeros_len n) (zeros_mem n)
  rw [hcalm1.pokeOk, hin] at hq
  have hcalm2 := hcalm1.poke a (zeros n)
  obtain ⟨s2, e2⟩ : ∃ s, s = s1.poke a (zeros n) := ⟨_, rfl⟩
  rw [← e2] at hq hcalm2
  have hz := fun w => mk8 n (by omega) w
  have he := fun w p g (h : IsFl w p g s2) => erase_any p g s2 a w h
  rw [hcalm2.eraseOk, her] at he
  have HP := Lib.hid hp
  have HQ := Lib.hid hq
  clear e1 e2 hcalm1 hcalm2 hp hq
  have HNEW := Lib.hid hnew
  have HREAD := Lib.hid hread
  have HE := Lib.hid he
  have hrl : (s0.read a n).length = n := by
    simp only [Fl.read, List.length_take, List.length_drop, Int.toNat_natCast, hcalm.len]; omega
  have HRL := Lib.hid hrl
  clear hrl
  clear e0 hcalm hin her hnew hread he
  go_enter Try.func8, Try.ntmps8
  go_wp2_with (first | (go_at_call 29; refine (alive19_any w).mono ?_; rintro e w1 ⟨rfl, hb1⟩) | (go_at_call 14; refine (HNEW.out _).mono ?_; rintro e w2 ⟨p, g, rfl, hf, hp, hg, hb2⟩) | fail)
  refine (HREAD.out _ p g hf).mono ?_
  rintro e w3 ⟨v, rfl, ho, -, hb3⟩
  obtain ⟨g3, cap3, sp3, rfl, hB3, hg3, -, -⟩ : Owns w3 w2.heap.size v (s0.read a n) := by simpa using ho
  rw [HRL.out]
  have hf3 := hf.below hb3
  go_wp2_with fail
  refine (HP.out _ p g hf3).mono ?_
  rintro e w4 ⟨rfl, hf4, hk4⟩
  go_wp2_with fail
  refine (HQ.out _ p g hf4).mono ?_
  rintro e w5 ⟨rfl, hf5, hk5⟩
  go_wp2_with fail
  refine (HE.out _ p g hf5).mono ?_
  rintro e w6 ⟨rfl, hf6, hk6, -⟩
  go_wp2_with fail
  go_ret
  refine ⟨by first | rfl | exact ret_bool (by simp; omega), ?_⟩
  have z1 := hb1.size
  have z2 := hb2.size
  have z3 := hb3.size
  have z4 := hk4.size
  have z5 := hk5.size
  have hp' : w.heap.size ≤ p := by omega
  have hg' : w.heap.size ≤ g := by omega
  exact ((((hb1.trans (hb2.mono (by omega))).trans (hb3.mono (by omega))).trans (hk4.toBelow (by omega) (two_of hp' hg'))).trans (hk5.toBelow (by omega) (two_of hp' hg'))).trans (hk6.toBelow (by omega) (two_of hp' hg'))

set_option maxRecDepth 100000 in
set_option maxHeartbeats 1000000 in
theorem bounds_7 (k : Nat) (a : Int) (n : Int) (hn : n < 0) (w : World) (hk : k ≤ 20) (c1 : a < 0) :
    Calls Try.prog 8 #[.int .i64 k, .int .i64 a, .int .i64 n] w fun e w' => e = .returned (.bool true) ∧ Below w.heap.size w w' := by
  have hcalm := Calm.new (k : Int) (256 * k) (by omega)
  have hin : inB (256 * k) a n = false := inB_not.2 (by omega)
  have her : (decide (0 ≤ a) && decide (a < ((256 * k) / 256 : Nat))) = false := by rw [Bool.eq_false_iff, ne_eq, Bool.and_eq_true, decide_eq_true_eq, decide_eq_true_eq]; omega
  have hnew := fun w => new_any (k : Int) w
  obtain ⟨s0, e0⟩ : ∃ s, s = Fl.new (k : Int) := ⟨_, rfl⟩
  rw [← e0] at hcalm hnew
  have hread := fun w p g (h : IsFl w p g s0) => read_any p g s0 a n w h
  rw [hcalm.readOk, hin] at hread
  have he := fun w p g (h : IsFl w p g s0) => erase_any p g s0 a w h
  rw [hcalm.eraseOk, her] at he
  have HNEW := Lib.hid hnew
  have HREAD := Lib.hid hread
  have HE := Lib.hid he
  clear e0 hcalm hin her hnew hread he
  go_enter Try.func8, Try.ntmps8
  go_wp2_with (first | (go_at_call 29; refine (alive19_any w).mono ?_; rintro e w1 ⟨rfl, hb1⟩) | (go_at_call 14; refine (HNEW.out _).mono ?_; rintro e w2 ⟨p, g, rfl, hf, hp, hg, hb2⟩) | fail)
  refine (HREAD.out _ p g hf).mono ?_
  rintro e w3 ⟨v, rfl, -, hv, hb3⟩
  obtain rfl : v = .slice none 0 0 := by simpa using hv
  have hf3 := hf.below hb3
  go_wp2_with fail
  refine (HE.out _ p g hf3).mono ?_
  rintro e w6 ⟨rfl, hf6, hk6, -⟩
  go_wp2_with fail
  go_ret
  refine ⟨by first | rfl | exact ret_bool (by simp; omega), ?_⟩
  have z1 := hb1.size
  have z2 := hb2.size
  have z3 := hb3.size
  have hp' : w.heap.size ≤ p := by omega
  have hg' : w.heap.size ≤ g := by omega
  exact ((hb1.trans (hb2.mono (by omega))).trans (hb3.mono (by omega))).trans (hk6.toBelow (by omega) (two_of hp' hg'))

set_option maxRecDepth 100000 in
set_option maxHeartbeats 1000000 in
theorem bounds_8 (k : Nat) (a : Int) (n : Int) (hn : n < 0) (w : World) (hk : k ≤ 20) (c1 : 0 ≤ a) (c4 : a < (k : Int)) :
    Calls Try.prog 8 #[.int .i64 k, .int .i64 a, .int .i64 n] w fun e w' => e = .returned (.bool true) ∧ Below w.heap.size w w' := by
  have hcalm := Calm.new (k : Int) (256 * k) (by omega)
  have hin : inB (256 * k) a n = false := inB_not.2 (by omega)
  have her : (decide (0 ≤ a) && decide (a < ((256 * k) / 256 : Nat))) = true := by rw [Bool.and_eq_true, decide_eq_true_eq, decide_eq_true_eq]; omega
  have hnew := fun w => new_any (k : Int) w
  obtain ⟨s0, e0⟩ : ∃ s, s = Fl.new (k : Int) := ⟨_, rfl⟩
  rw [← e0] at hcalm hnew
  have hread := fun w p g (h : IsFl w p g s0) => read_any p g s0 a n w h
  rw [hcalm.readOk, hin] at hread
  have he := fun w p g (h : IsFl w p g s0) => erase_any p g s0 a w h
  rw [hcalm.eraseOk, her] at he
  have HNEW := Lib.hid hnew
  have HREAD := Lib.hid hread
  have HE := Lib.hid he
  clear e0 hcalm hin her hnew hread he
  go_enter Try.func8, Try.ntmps8
  go_wp2_with (first | (go_at_call 29; refine (alive19_any w).mono ?_; rintro e w1 ⟨rfl, hb1⟩) | (go_at_call 14; refine (HNEW.out _).mono ?_; rintro e w2 ⟨p, g, rfl, hf, hp, hg, hb2⟩) | fail)
  refine (HREAD.out _ p g hf).mono ?_
  rintro e w3 ⟨v, rfl, -, hv, hb3⟩
  obtain rfl : v = .slice none 0 0 := by simpa using hv
  have hf3 := hf.below hb3
  go_wp2_with fail
  refine (HE.out _ p g hf3).mono ?_
  rintro e w6 ⟨rfl, hf6, hk6, -⟩
  go_wp2_with fail
  go_ret
  refine ⟨by first | rfl | exact ret_bool (by simp; omega), ?_⟩
  have z1 := hb1.size
  have z2 := hb2.size
  have z3 := hb3.size
  have hp' : w.heap.size ≤ p := by omega
  have hg' : w.heap.size ≤ g := by omega
  exact ((hb1.trans (hb2.mono (by omega))).trans (hb3.mono (by omega))).trans (hk6.toBelow (by omega) (two_of hp' hg'))

set_option maxRecDepth 100000 in
set_option maxHeartbeats 1000000 in
theorem bounds_9 (k : Nat) (a : Int) (n : Int) (hn : n < 0) (w : World) (hk : k ≤ 20) (c1 : 0 ≤ a) (c4 : (k : Int) ≤ a) :
    Calls Try.prog 8 #[.int .i64 k, .int .i64 a, .int .i64 n] w fun e w' => e = .returned (.bool true) ∧ Below w.heap.size w w' := by
  have hcalm := Calm.new (k : Int) (256 * k) (by omega)
  have hin : inB (256 * k) a n = false := inB_not.2 (by omega)
  have her : (decide (0 ≤ a) && decide (a < ((256 * k) / 256 : Nat))) = false := by rw [Bool.eq_false_iff, ne_eq, Bool.and_eq_true, decide_eq_true_eq, decide_eq_true_eq]; omega
  have hnew := fun w => new_any (k : Int) w
  obtain ⟨s0, e0⟩ : ∃ s, s = Fl.new (k : Int) := ⟨_, rfl⟩
  rw [← e0] at hcalm hnew
  have hread := fun w p g (h : IsFl w p g s0) => read_any p g s0 a n w h
  rw [hcalm.readOk, hin] at hread
  have he := fun w p g (h : IsFl w p g s0) => erase_any p g s0 a w h
  rw [hcalm.eraseOk, her] at he
  have HNEW := Lib.hid hnew
  have HREAD := Lib.hid hread
  have HE := Lib.hid he
  clear e0 hcalm hin her hnew hread he
  go_enter Try.func8, Try.ntmps8
  go_wp2_with (first | (go_at_call 29; refine (alive19_any w).mono ?_; rintro e w1 ⟨rfl, hb1⟩) | (go_at_call 14; refine (HNEW.out _).mono ?_; rintro e w2 ⟨p, g, rfl, hf, hp, hg, hb2⟩) | fail)
  refine (HREAD.out _ p g hf).mono ?_
  rintro e w3 ⟨v, rfl, -, hv, hb3⟩
  obtain rfl : v = .slice none 0 0 := by simpa using hv
  have hf3 := hf.below hb3
  go_wp2_with fail
  refine (HE.out _ p g hf3).mono ?_
  rintro e w6 ⟨rfl, hf6, hk6, -⟩
  go_wp2_with fail
  go_ret
  refine ⟨by first | rfl | exact ret_bool (by simp; omega), ?_⟩
  have z1 := hb1.size
  have z2 := hb2.size
  have z3 := hb3.size
  have hp' : w.heap.size ≤ p := by omega
  have hg' : w.heap.size ≤ g := by omega
  exact ((hb1.trans (hb2.mono (by omega))).trans (hb3.mono (by omega))).trans (hk6.toBelow (by omega) (two_of hp' hg'))

/-- FlashBounds, at every input. -/
theorem bounds_any (k a n : Int) (w : World) :
    Calls Try.prog 8 #[.int .i64 k, .int .i64 a, .int .i64 n] w fun e w' => e = .returned (.bool true) ∧ Below w.heap.size w w' := by
  by_cases he : k < 0 ∨ (0 ≤ k ∧ 20 < k) ∨ (0 ≤ k ∧ k ≤ 20 ∧ 10000 < n)
  · exact bounds_early k a n w he
  · obtain ⟨k', rfl⟩ := Int.eq_ofNat_of_zero_le (show 0 ≤ k by omega)
    by_cases hn : n < 0
    · by_cases c1 : a < 0
      · exact bounds_7 k' a n hn w (by omega) c1
      · by_cases c4 : a < (k' : Int)
        · exact bounds_8 k' a n hn w (by omega) (by omega) c4
        · exact bounds_9 k' a n hn w (by omega) (by omega) (by omega)
    · obtain ⟨n', rfl⟩ := Int.eq_ofNat_of_zero_le (show 0 ≤ n by omega)
      by_cases c1 : a < 0
      · exact bounds_1 k' a n' (by omega) w (by omega) c1
      · by_cases c2 : 256 * (k' : Int) < a
        · exact bounds_2 k' a n' (by omega) w (by omega) (by omega) c2
        · by_cases c3 : 256 * (k' : Int) - a < (n' : Int)
          · by_cases c4 : a < (k' : Int)
            · exact bounds_3 k' a n' (by omega) w (by omega) (by omega) (by omega) c3 c4
            · exact bounds_4 k' a n' (by omega) w (by omega) (by omega) (by omega) c3 (by omega)
          · by_cases c4 : a < (k' : Int)
            · exact bounds_5 k' a n' (by omega) w (by omega) (by omega) (by omega) (by omega) c4
            · exact bounds_6 k' a n' (by omega) w (by omega) (by omega) (by omega) (by omega) (by omega)

end Go.Proofs.Ytimlgkfhfofpbaa
