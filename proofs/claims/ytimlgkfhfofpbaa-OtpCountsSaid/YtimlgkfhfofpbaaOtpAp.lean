/- OtpApart: the walk: two counters of one flash count apart, and lose their power together. No condition. -/
import Derived.Test.YtimlgkfhfofpbaaOtpC
namespace Go.Proofs.Ytimlgkfhfofpbaa
open Go.RowKit

/-- A slice of bools that came in. -/
def RowB (w : World) (a : Option Addr) (len cap : Nat) (B : Nat → Bool) : Prop :=
  (a = none ∧ len = 0 ∧ cap = 0) ∨ ∃ x, a = some x ∧ len ≤ cap ∧ cap ≤ maxLen ∧ ∀ i, i < cap → w.cell? (x.add i) = some (.bool (B i))

/-- What is left of the plan. -/
def OA (C L : Int) (s : Fl) : Prop :=
  (C < 0 ∧ s.dead = false ∧ s.op = -1 ∧ -9223372036854775808 ≤ L ∧ L ≤ 9223372036854775807) ∨
  (0 ≤ C ∧ 0 ≤ L ∧ L ≤ C ∧ ((s.dead = false ∧ s.op = L) ∨ (s.dead = true ∧ L = 0)))

theorem wrap64_bounds (n : Int) : -9223372036854775808 ≤ wrap64 n ∧ wrap64 n ≤ 9223372036854775807 := by unfold wrap64; omega
theorem OA.goes {C L : Int} {s : Fl} (h : OA C L s) (hg : C < 0 ∨ 0 < L) : s.turnOk = true := by
  rcases h with ⟨h1, h2, h3, _⟩ | ⟨h1, h2, h3, ⟨h4, h5⟩ | ⟨h4, h5⟩⟩
  · simp [Fl.turnOk, Fl.goes, h2, h3]
  · simp [Fl.turnOk, Fl.goes, h4, h5]; omega
  · omega
theorem OA.stops {C L : Int} {s : Fl} (h : OA C L s) (hg : ¬ (C < 0 ∨ 0 < L)) : s.turnOk = false := by
  rcases h with ⟨h1, h2, h3, _⟩ | ⟨h1, h2, h3, ⟨h4, h5⟩ | ⟨h4, h5⟩⟩
  · omega
  · simp [Fl.turnOk, Fl.goes, h4, h5]; omega
  · simp [Fl.turnOk, h4]
theorem OA.turnN {C L : Int} {s : Fl} (h : OA C L s) (hg : C < 0) : OA C (wrap64 (L - 1)) s.turn := by
  rcases h with ⟨h1, h2, h3, h4, h5⟩ | ⟨h1, _⟩
  · left
    have hw := wrap64_bounds (L - 1)
    refine ⟨h1, ?_, ?_, hw.1, hw.2⟩ <;> simp [Fl.turn, Fl.step, h2, h3] <;> rfl
  · omega
theorem OA.turnP {C L : Int} {s : Fl} (h : OA C L s) (h0 : 0 ≤ C) (hg : 0 < L) : OA C (L - 1) s.turn := by
  rcases h with ⟨h1, _⟩ | ⟨h1, h2, h3, ⟨h4, h5⟩ | ⟨h4, h5⟩⟩
  · omega
  · right
    refine ⟨h1, by omega, by omega, .inl ⟨?_, ?_⟩⟩
    · simp only [Fl.turn, Fl.step, h4, h5]; rw [if_neg (by simp), if_neg (by omega)]
    · simp only [Fl.turn, Fl.step, h4, h5]; rw [if_neg (by simp), if_neg (by omega)]
      show max (-1) (L - 1) = _
      omega
  · omega
theorem OA.turnS {C L : Int} {s : Fl} (h : OA C L s) (hg : ¬ (C < 0 ∨ 0 < L)) : OA C L s.turn := by
  rcases h with ⟨h1, _⟩ | ⟨h1, h2, h3, ⟨h4, h5⟩ | ⟨h4, h5⟩⟩
  · omega
  · right
    refine ⟨h1, h2, h3, .inr ⟨?_, by omega⟩⟩
    simp only [Fl.turn, Fl.step, h4]; rw [if_neg (by simp), if_pos (by omega)]
  · right
    refine ⟨h1, h2, h3, .inr ⟨?_, h5⟩⟩
    simp [Fl.turn, h4]
theorem OA.lo {C L : Int} {s : Fl} (h : OA C L s) (hC : C ≤ 100) : -9223372036854775808 ≤ L ∧ L ≤ 9223372036854775807 := by
  rcases h with ⟨_, _, _, h4, h5⟩ | ⟨h1, h2, h3, _⟩ <;> omega
theorem OA.pos {C L : Int} {s : Fl} (h : OA C L s) (h0 : 0 ≤ C) : 0 ≤ L ∧ L ≤ C := by
  rcases h with ⟨_, _⟩ | ⟨h1, h2, h3, _⟩ <;> omega

theorem OA.start (C cut : Int) (hC : -9223372036854775808 ≤ C ∧ C ≤ 100) : OA C C ((Fl.new 1).plan C cut) := by
  by_cases h : C < 0
  · left
    refine ⟨h, rfl, ?_, by omega, by omega⟩
    show max (-1) C = -1
    omega
  · right
    refine ⟨by omega, by omega, by omega, .inl ⟨rfl, ?_⟩⟩
    show max (-1) C = C
    omega

/-- Two counters, the flash, the box of the plan: all that the loop holds. -/
structure OtR (w wr : World) (bx p g q1 q2 : Nat) (C L : Int) (M N : Nat) (s : Fl) (r1 s1 r2 s2 : List Int) : Prop where
  fl : IsFl wr p g s
  o1 : IsOtp wr q1 (.pointer (some ⟨p, 0, none⟩)) r1 s1 M 1000
  o2 : IsOtp wr q2 (.pointer (some ⟨p, 0, none⟩)) r2 s2 N 1000
  box : wr.cell? ⟨bx, 0, none⟩ = some (.int .i64 C)
  oa : OA C L s
  below : Below w.heap.size w wr
/-- Which blocks they are: six different ones, all new. -/
structure OtB (B bx p g q1 q2 : Nat) : Prop where
  p0 : B ≤ p
  q10 : B ≤ q1
  q20 : B ≤ q2
  q1p : q1 ≠ p
  q2p : q2 ≠ p
  q1g : q1 ≠ g
  q2g : q2 ≠ g
  q12 : q1 ≠ q2
  bp : bx ≠ p
  b1 : bx ≠ q1
  b2 : bx ≠ q2

theorem OtR.cnt {w wr : World} {bx p g q1 q2 : Nat} {C L : Int} {M N : Nat} {s : Fl} {r1 s1 r2 s2 : List Int} (h : OtR w wr bx p g q1 q2 C L M N s r1 s1 r2 s2) :
    (∀ w', w' = wr → Calls Try.prog 19 #[.pointer (some ⟨q1, 0, none⟩)] w' fun e w'' => e = .returned (.int .i64 M) ∧ w' = w'') ∧ (∀ w', w' = wr → Calls Try.prog 19 #[.pointer (some ⟨q2, 0, none⟩)] w' fun e w'' => e = .returned (.int .i64 N) ∧ w' = w'') :=
  ⟨by rintro w' rfl; exact ocount_any q1 _ _ _ _ _ _ h.o1, by rintro w' rfl; exact ocount_any q2 _ _ _ _ _ _ h.o2⟩

theorem OtR.step1 {w wr w' : World} {bx p g q1 q2 : Nat} {C L L' : Int} {M M' N : Nat} {s : Fl} {r1 s1 r2 s2 : List Int} (h : OtR w wr bx p g q1 q2 C L M N s r1 s1 r2 s2) (hb : OtB w.heap.size bx p g q1 q2)
    (hf : IsFl w' p g s.turn) (ho : IsOtp w' q1 (.pointer (some ⟨p, 0, none⟩)) r1 s1 M' 1000) (hk : Kept (fun x => x = p ∨ x = q1) wr w') (hoa : OA C L' s.turn) : OtR w w' bx p g q1 q2 C L' M' N s.turn r1 s1 r2 s2 :=
  ⟨hf, ho, h.o2.kept hk (by rintro (e | e); exact hb.q2p e; exact hb.q12 e.symm), hk.cellX h.box (by rintro (e | e); exact hb.bp e; exact hb.b1 e), hoa,
    h.below.trans (hk.toBelow h.below.size (by rintro i (rfl | rfl); exact hb.p0; exact hb.q10))⟩
theorem OtR.step2 {w wr w' : World} {bx p g q1 q2 : Nat} {C L L' : Int} {M N N' : Nat} {s : Fl} {r1 s1 r2 s2 : List Int} (h : OtR w wr bx p g q1 q2 C L M N s r1 s1 r2 s2) (hb : OtB w.heap.size bx p g q1 q2)
    (hf : IsFl w' p g s.turn) (ho : IsOtp w' q2 (.pointer (some ⟨p, 0, none⟩)) r2 s2 N' 1000) (hk : Kept (fun x => x = p ∨ x = q2) wr w') (hoa : OA C L' s.turn) : OtR w w' bx p g q1 q2 C L' M N' s.turn r1 s1 r2 s2 :=
  ⟨hf, h.o1.kept hk (by rintro (e | e); exact hb.q1p e; exact hb.q12 e), ho, hk.cellX h.box (by rintro (e | e); exact hb.bp e; exact hb.b2 e), hoa,
    h.below.trans (hk.toBelow h.below.size (by rintro i (rfl | rfl); exact hb.p0; exact hb.q20))⟩

set_option maxRecDepth 100000 in
set_option maxHeartbeats 2000000 in
theorem oapart_early (a b : Option Addr) (la ca lb cb : Nat) (C cut : Int) (w : World) (h : 60 < la ∨ (la ≤ 60 ∧ lb < la) ∨ (la ≤ 60 ∧ la ≤ lb ∧ 100 < C)) :
    Calls Try.prog 3 #[.slice a la ca, .slice b lb cb, .agg #[.int .i64 C, .int .i64 cut]] w fun e w' => e = .returned (.bool true) ∧ Below w.heap.size w w' := by
  have h0 := fun w => alive20_any w
  have cellC : (w.alloc (.cells #[.int .i64 C, .int .i64 cut] 24)).cell? ⟨w.heap.size, 0, none⟩ = some (.int .i64 C) := by rw [cell_blk (blk_new w _)]; rfl
  have H0 := Lib.hid h0
  clear h0
  rcases h with h1 | ⟨h1, h2⟩ | ⟨h1, h2, h3⟩
  all_goals
    go_enter Try.func3, Try.ntmps3
    go_wp2_with (go_at_call 13; refine (H0.out _).mono ?_; rintro e w' ⟨rfl, hb⟩; have hcc := below_cell hb cellC)
    go_ret
    exact ⟨rfl, ((Below.refl _ w).alloc (Nat.le_refl _) _).trans (hb.mono (by simp))⟩

end Go.Proofs.Ytimlgkfhfofpbaa
