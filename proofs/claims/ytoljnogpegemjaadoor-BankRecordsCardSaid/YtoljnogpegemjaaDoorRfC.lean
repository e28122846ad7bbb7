/- portcullisref19.Flash: fits, Toll; portcullisref1.Of: what each answers. Condition: the flash lies there whole. -/
import Derived.Test.YtoljnogpegemjaaDoorRfB
namespace Go.Proofs.YtoljnogpegemjaaDoor
open Go.RowKit

theorem rfits_any (p g : Nat) (s : Fl) (a n : Int) (w : World) (h : IsRf w p g s) :
    Calls Tryd.prog 111 #[.pointer (some ⟨p, 0, none⟩), .int .i64 a, .int .i64 n] w fun e w' =>
      e = .returned (.bool (inB s.b.length a n)) ∧ w = w' := by
  have c0 := h.c0
  have hl := h.ok.len
  cases hi : inB s.b.length a n with
  | true =>
    obtain ⟨h1, h2, h3, h4⟩ := inB_iff.1 hi
    clear hi
    go_enter Tryd.func111, Tryd.ntmps111
    go_wp2
    go_ret
    exact ⟨rfl, rfl⟩
  | false =>
    rcases inB_not.1 hi with h1 | ⟨h1, h2⟩ | ⟨h1, h2, h3⟩ | ⟨h1, h2, h3, h4⟩ <;> clear hi
    all_goals
      go_enter Tryd.func111, Tryd.ntmps111
      go_wp2
      go_ret
      exact ⟨ret_bool (by first | rfl | (simp; omega)), rfl⟩

theorem rof_any (a b : Int) (w : World) (ha : 0 ≤ a ∧ a ≤ 1099511627776) (hb : 0 ≤ b ∧ b ≤ 1099511627776) :
    Calls Tryd.prog 119 #[.int .i64 a, .int .i64 b] w fun e w' => e = .returned (.tuple #[.complex .f64 (flt a) (flt b), .bool true]) ∧ w = w' := by
  obtain ⟨a0, a1⟩ := ha
  obtain ⟨b0, b1⟩ := hb
  go_enter Tryd.func119, Tryd.ntmps119
  go_wp2
  go_ret2
  exact ⟨rfl, rfl⟩

theorem rtoll_any (p g : Nat) (s : Fl) (w : World) (h : IsRf w p g s) :
    Calls Tryd.prog 88 #[.pointer (some ⟨p, 0, none⟩)] w fun e w' => e = .returned (.complex .f64 (flt s.er) (flt s.pr)) ∧ ∃ n, w' = w.drewN n := by
  obtain ⟨_, _, _, hst, -⟩ := h.st
  obtain ⟨-, -, -, -, -, c5, c6⟩ := rfCs hst
  have e0 := h.ok.er0
  have e1 := h.ok.er1
  have p0 := h.ok.pr0
  have p1 := h.ok.pr1
  go_enter Tryd.func88, Tryd.ntmps88
  go_wp2
  go_quiet ((go_at_call 119; exact Calls.quiet_of_same ((rof_any _ _ _ ⟨e0, e1⟩ ⟨p0, p1⟩).mono fun _ _ h => ⟨h.1, h.2.symm⟩)))
  go_wp2
  go_ret
  exact ⟨rfl, _, rfl⟩

end Go.Proofs.YtoljnogpegemjaaDoor
