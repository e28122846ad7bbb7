/- otp.Step: what it answers and what it makes of the counter and the flash. Condition: both lie there whole, in different blocks. -/
import Derived.Test.YtimlgkfhfofpbaaOtpA
namespace Go.Proofs.Ytimlgkfhfofpbaa
open Go.RowKit

theorem IsOtp.drewN {w : World} {q : Nat} {f : Value} {r s : List Int} {c m : Int} (h : IsOtp w q f r s c m) (n : Nat) : IsOtp (w.drewN n) q f r s c m := h
theorem IsOtp.fr {w : World} {q : Nat} {f : Value} {r s : List Int} {c m : Int} (h : IsOtp w q f r s c m) (o : Nat) : w.frozen? ⟨q, o, none⟩ = false := free_blk h.1 o

set_option maxHeartbeats 800000 in
theorem ostep_full (q : Nat) (f : Value) (r s : List Int) (c m : Int) (w : World) (h : IsOtp w q f r s c m) (hc : c = m) :
    Calls Try.prog 17 #[.pointer (some ⟨q, 0, none⟩)] w fun e w' => e = .returned (.int .i64 19) ∧ ∃ n, w' = w.drewN n := by
  subst hc
  obtain ⟨c0, c1, c2⟩ := h.cs
  go_enter Try.func17, Try.ntmps17
  go_wp2
  go_quiet (fail)
  go_wp2
  go_ret
  exact ⟨rfl, _, rfl⟩

set_option maxHeartbeats 800000 in
theorem ostep_nil (q : Nat) (r s : List Int) (c m : Int) (w : World) (h : IsOtp w q (.pointer none) r s c m) (hc : (c == m) = false) :
    Calls Try.prog 17 #[.pointer (some ⟨q, 0, none⟩)] w fun e w' => e = .returned (.int .i64 8) ∧ ∃ n, w' = w.drewN n := by
  obtain ⟨c0, c1, c2⟩ := h.cs
  go_enter Try.func17, Try.ntmps17
  go_wp2
  go_quiet (fail)
  go_wp2
  go_ret
  exact ⟨rfl, _, rfl⟩

set_option maxHeartbeats 800000 in
theorem ostep_no (q p g : Nat) (t : Fl) (r s : List Int) (c m : Int) (w : World) (h : IsOtp w q (.pointer (some ⟨p, 0, none⟩)) r s c m) (hf : IsFl w p g t) (hqp : q ≠ p) (hc : (c == m) = false) (ht : t.turnOk = false) :
    Calls Try.prog 17 #[.pointer (some ⟨q, 0, none⟩)] w fun e w' =>
      e = .returned (.int .i64 8) ∧ IsFl w' p g t.turn ∧ IsOtp w' q (.pointer (some ⟨p, 0, none⟩)) r s c m ∧ Kept (fun x => x = p ∨ x = q) w w' ∧ w'.heap.size = w.heap.size := by
  obtain ⟨c0, c1, c2⟩ := h.cs
  have htu := fun n => turn_any p g t (w.drewN n) (hf.drewN n)
  rw [ht] at htu
  have HTU := Lib.hid htu
  clear htu ht
  go_enter Try.func17, Try.ntmps17
  go_wp2
  go_quiet (fail)
  go_wp2_with (go_at_call 35; refine (HTU.out _).mono ?_; rintro e w1 ⟨rfl, hf1, hk1, hz1⟩; have HZ1 := Lib.hid hz1; clear hz1)
  go_ret
  exact ⟨rfl, hf1, h.kept (w := w) ⟨hk1.os, hk1.tape, hk1.output, hk1.size, hk1.block⟩ hqp, (show Kept _ w w1 from ⟨hk1.os, hk1.tape, hk1.output, hk1.size, fun k a b => hk1.block k a (fun e => b (.inl e))⟩), HZ1.out⟩

set_option maxHeartbeats 800000 in
theorem ostep_ok (q p g : Nat) (t : Fl) (r s : List Int) (c m : Int) (w : World) (h : IsOtp w q (.pointer (some ⟨p, 0, none⟩)) r s c m) (hf : IsFl w p g t) (hqp : q ≠ p) (hqg : q ≠ g) (hc : (c == m) = false) (ht : t.turnOk = true) (hb : 0 ≤ c ∧ c ≤ 1048576) :
    Calls Try.prog 17 #[.pointer (some ⟨q, 0, none⟩)] w fun e w' =>
      e = .returned (.int .i64 0) ∧ IsFl w' p g t.turn ∧ IsOtp w' q (.pointer (some ⟨p, 0, none⟩)) r s (c + 1) m ∧ Kept (fun x => x = p ∨ x = q) w w' ∧ w'.heap.size = w.heap.size := by
  obtain ⟨c0, c1, c2⟩ := h.cs
  obtain ⟨b0, b1⟩ := hb
  have htu := fun n => turn_any p g t (w.drewN n) (hf.drewN n)
  rw [ht] at htu
  have HTU := Lib.hid htu
  clear htu ht
  go_enter Try.func17, Try.ntmps17
  go_wp2
  go_quiet (fail)
  go_wp2_with (go_at_call 35; refine (HTU.out _).mono ?_; rintro e w1 ⟨rfl, hf1, hk1, hz1⟩; have HZ1 := Lib.hid hz1; clear hz1; have ho1 : IsOtp w1 q (.pointer (some ⟨p, 0, none⟩)) r s c m := h.kept (w := w) ⟨hk1.os, hk1.tape, hk1.output, hk1.size, hk1.block⟩ hqp; have d1 := ho1.cs.2.1; have d2 := ho1.fr 65)
  go_ret
  have hk : Kept (fun x => x = p ∨ x = q) w w1 := ⟨hk1.os, hk1.tape, hk1.output, hk1.size, fun k a b => hk1.block k a (fun e => b (.inl e))⟩
  refine ⟨rfl, ?_, ⟨?_, ho1.2⟩, hk.setCell (p := ⟨q, 65, none⟩) (.inl (.inr rfl)) _, ?_⟩
  · obtain ⟨sp, hs⟩ := hf1.row
    exact ⟨blk_setCell_ne hf1.st _ (fun e => hqp e.symm), ⟨sp, blk_setCell_ne hs _ (fun e => hqg e.symm)⟩, hf1.ne, hf1.ok⟩
  · rw [blk_setCell ho1.1, otpC_set ho1.2.1 ho1.2.2]
  · rw [size_setCell]; exact HZ1.out

end Go.Proofs.Ytimlgkfhfofpbaa
