/- VerityNone: the walk: which areas there are none of. No condition. -/
import Derived.Test.YtimlgkfhfofpbaaVerB
namespace Go.Proofs.Ytimlgkfhfofpbaa
open Go.RowKit

theorem vnone_early (k s : Int) (w : World) (h : k < 0 ∨ (0 ≤ k ∧ 200 < k)) :
    Calls Try.prog 10 #[.int .i64 k, .int .i64 s] w fun e w' => e = .returned (.bool true) ∧ Below w.heap.size w w' := by
  rcases h with h1 | ⟨h1, h2⟩
  all_goals
    go_enter Try.func10, Try.ntmps10
    go_wp2_with (go_at_call 38; refine (alive25_any w).mono ?_; rintro e w' ⟨rfl, hb⟩)
    go_ret
    exact ⟨rfl, hb⟩

set_option maxHeartbeats 1000000 in
theorem vnone_no (k : Nat) (s : Int) (w : World) (hk : k ≤ 200) (h : k < 128 ∨ (128 ≤ k ∧ s < 0) ∨ (128 ≤ k ∧ 0 ≤ s ∧ 1 < s)) :
    Calls Try.prog 10 #[.int .i64 k, .int .i64 s] w fun e w' => e = .returned (.bool true) ∧ Below w.heap.size w w' := by
  have hnew := fun w => new_any (k : Int) w
  obtain ⟨s0, e0⟩ : ∃ s, s = Fl.new (k : Int) := ⟨_, rfl⟩
  have hk0 : Calm s0 (256 * k) := by rw [e0]; exact Calm.new (k : Int) (256 * k) (by omega)
  rw [← e0] at hnew
  have hv := fun w p g (h' : IsFl w p g s0) => vnew_no p g s0 s w h' (by
    rw [hk0.len, Nat.mul_div_cancel_left _ (by decide : 0 < 256)]; exact h)
  have HNEW := Lib.hid hnew
  have HV := Lib.hid hv
  clear e0 hk0 hnew hv
  rcases h with h1 | ⟨h1, h2⟩ | ⟨h1, h2, h3⟩
  · go_enter Try.func10, Try.ntmps10
    go_wp2_with fail
    refine (alive25_any w).mono ?_
    rintro e w1 ⟨rfl, hb1⟩
    go_wp2_with fail
    refine (vnew_nil s w1).mono ?_
    rintro e w' ⟨rfl, rfl⟩
    go_wp2_with fail
    refine (HNEW.out w1).mono ?_
    rintro e w2 ⟨p, g, rfl, hf, hp, hg, hb2⟩
    go_wp2_with fail
    refine (HV.out w2 p g hf).mono ?_
    rintro e w' ⟨rfl, rfl⟩
    go_wp2_with (go_at_call 40; refine (num25_any _ _).mono ?_; rintro e w' ⟨rfl, rfl⟩)
    go_ret
    exact ⟨rfl, hb1.trans (hb2.mono hb1.size)⟩
  · have n0 : (s == 0) = false := by simp; omega
    have n1 : (s == 1) = false := by simp; omega
    go_enter Try.func10, Try.ntmps10
    go_wp2_with fail
    refine (alive25_any w).mono ?_
    rintro e w1 ⟨rfl, hb1⟩
    go_wp2_with fail
    refine (vnew_nil s w1).mono ?_
    rintro e w' ⟨rfl, rfl⟩
    go_wp2_with fail
    refine (HNEW.out w1).mono ?_
    rintro e w2 ⟨p, g, rfl, hf, hp, hg, hb2⟩
    go_wp2_with fail
    refine (HV.out w2 p g hf).mono ?_
    rintro e w' ⟨rfl, rfl⟩
    go_wp2_with (go_at_call 40; refine (num25_any _ _).mono ?_; rintro e w' ⟨rfl, rfl⟩)
    go_ret
    exact ⟨rfl, hb1.trans (hb2.mono hb1.size)⟩
  · have n0 : (s == 0) = false := by simp; omega
    have n1 : (s == 1) = false := by simp; omega
    go_enter Try.func10, Try.ntmps10
    go_wp2_with fail
    refine (alive25_any w).mono ?_
    rintro e w1 ⟨rfl, hb1⟩
    go_wp2_with fail
    refine (vnew_nil s w1).mono ?_
    rintro e w' ⟨rfl, rfl⟩
    go_wp2_with fail
    refine (HNEW.out w1).mono ?_
    rintro e w2 ⟨p, g, rfl, hf, hp, hg, hb2⟩
    go_wp2_with fail
    refine (HV.out w2 p g hf).mono ?_
    rintro e w' ⟨rfl, rfl⟩
    go_wp2_with (go_at_call 40; refine (num25_any _ _).mono ?_; rintro e w' ⟨rfl, rfl⟩)
    go_ret
    exact ⟨rfl, hb1.trans (hb2.mono hb1.size)⟩

set_option maxHeartbeats 1000000 in
theorem vnone_yes (k : Nat) (s : Int) (w : World) (hk : k ≤ 200) (h1 : 128 ≤ k) (h : s = 0 ∨ s = 1) :
    Calls Try.prog 10 #[.int .i64 k, .int .i64 s] w fun e w' => e = .returned (.bool true) ∧ Below w.heap.size w w' := by
  have hnew := fun w => new_any (k : Int) w
  obtain ⟨s0, e0⟩ : ∃ s, s = Fl.new (k : Int) := ⟨_, rfl⟩
  have hk0 : Calm s0 (256 * k) := by rw [e0]; exact Calm.new (k : Int) (256 * k) (by omega)
  rw [← e0] at hnew
  have hv := fun w p g (h' : IsFl w p g s0) => vnew_yes p g s0 s w h' (by
    rw [hk0.len, Nat.mul_div_cancel_left _ (by decide : 0 < 256)]; exact h1) (by omega) (by omega)
  have HNEW := Lib.hid hnew
  have HV := Lib.hid hv
  clear e0 hk0 hnew hv
  rcases h with rfl | rfl
  all_goals
    go_enter Try.func10, Try.ntmps10
    go_wp2_with fail
    refine (alive25_any w).mono ?_
    rintro e w1 ⟨rfl, hb1⟩
    go_wp2_with fail
    refine (vnew_nil _ w1).mono ?_
    rintro e w' ⟨rfl, rfl⟩
    go_wp2_with fail
    refine (HNEW.out w1).mono ?_
    rintro e w2 ⟨p, g, rfl, hf, hp, hg, hb2⟩
    go_wp2_with fail
    refine (HV.out w2 p g hf).mono ?_
    rintro e w3 ⟨rfl, ha, hb3⟩
    go_wp2_with (go_at_call 40; refine (num25_any _ _).mono ?_; rintro e w' ⟨rfl, rfl⟩)
    go_ret
    exact ⟨rfl, (hb1.trans (hb2.mono hb1.size)).trans (hb3.mono (Nat.le_trans hb1.size hb2.size))⟩

/-- VerityNone, at every input. -/
theorem vnone_any (k s : Int) (w : World) :
    Calls Try.prog 10 #[.int .i64 k, .int .i64 s] w fun e w' => e = .returned (.bool true) ∧ Below w.heap.size w w' := by
  by_cases he : k < 0 ∨ (0 ≤ k ∧ 200 < k)
  · exact vnone_early k s w he
  · obtain ⟨k', rfl⟩ := Int.eq_ofNat_of_zero_le (show 0 ≤ k by omega)
    by_cases hs : 128 ≤ k' ∧ (s = 0 ∨ s = 1)
    · exact vnone_yes k' s w (by omega) hs.1 hs.2
    · exact vnone_no k' s w (by omega) (by omega)

end Go.Proofs.Ytimlgkfhfofpbaa
