/- toll.Of, flash.Toll: what the work has cost, as two floats. Condition: the flash lies there whole. -/
import Derived.Test.YtcecgbjpmegljaaFlG
import Derived.WalkLawsBesides
namespace Go.Proofs.Ytcecgbjpmegljaa
open Go.RowKit

/-- An integer as a float's bits. -/
def flt (n : Int) : Nat := FloatKind.f64.nearest n

theorem of_any (a b : Int) (w : World) (ha : 0 ≤ a ∧ a ≤ 1099511627776) (hb : 0 ≤ b ∧ b ≤ 1099511627776) :
    Calls Try.prog 24 #[.int .i64 a, .int .i64 b] w fun e w' => e = .returned (.tuple #[.complex .f64 (flt a) (flt b), .bool true]) ∧ w = w' := by
  obtain ⟨a0, a1⟩ := ha
  obtain ⟨b0, b1⟩ := hb
  go_enter Try.func24, Try.ntmps24
  go_wp2
  go_ret2
  exact ⟨rfl, rfl⟩

theorem toll_any (p g : Nat) (s : Fl) (w : World) (h : IsFl w p g s) :
    Calls Try.prog 11 #[.pointer (some ⟨p, 0, none⟩)] w fun e w' => e = .returned (.complex .f64 (flt s.er) (flt s.pr)) ∧ ∃ n, w' = w.drewN n := by
  obtain ⟨-, -, -, -, c4, c5⟩ := h.cs
  have e0 := h.ok.er0
  have e1 := h.ok.er1
  have p0 := h.ok.pr0
  have p1 := h.ok.pr1
  go_enter Try.func11, Try.ntmps11
  go_wp2
  go_quiet ((go_at_call 24; exact Calls.quiet_of_same ((of_any _ _ _ ⟨e0, e1⟩ ⟨p0, p1⟩).mono fun _ _ h => ⟨h.1, h.2.symm⟩)))
  go_wp2
  go_ret
  exact ⟨rfl, _, rfl⟩

end Go.Proofs.Ytcecgbjpmegljaa
