/- flash.operation, is, Size, Dead, Plan, Start, Turn: what each answers and what it makes of the flash. Condition: the flash lies there whole (IsFl). -/
import Derived.Test.YtcecgbjpmegljaaChecked
import Derived.Test.YtcecgbjpmegljaaFlP
import Derived.Test.YtcecgbjpmegljaaByt
namespace Go.Proofs.Ytcecgbjpmegljaa
open Go.RowKit

def flCells (g : Nat) (s : Fl) : Array Value :=
  #[.slice (some ⟨g, 0, none⟩) s.b.length s.b.length, .int .i64 s.op, .int .i64 s.cut, .bool s.dead, .int .i64 s.er, .int .i64 s.pr]
/-- Block p is a flash with the state s, whose bytes lie at the head of block g. -/
structure IsFl (w : World) (p g : Nat) (s : Fl) : Prop where
  st : w.heap[p]? = some (.cells (flCells g s) 56 (0, 0))
  row : ∃ sp, w.heap[g]? = some (.cells (row8 s.b sp) 5 (0, 0))
  ne : p ≠ g
  ok : s.Ok

theorem IsFl.cs {w : World} {p g : Nat} {s : Fl} (h : IsFl w p g s) :
    w.cell? ⟨p, 0, none⟩ = some (.slice (some ⟨g, 0, none⟩) s.b.length s.b.length) ∧ w.cell? ⟨p, 1, none⟩ = some (.int .i64 s.op) ∧ w.cell? ⟨p, 2, none⟩ = some (.int .i64 s.cut) ∧ w.cell? ⟨p, 3, none⟩ = some (.bool s.dead) ∧
      w.cell? ⟨p, 4, none⟩ = some (.int .i64 s.er) ∧ w.cell? ⟨p, 5, none⟩ = some (.int .i64 s.pr) :=
  ⟨cell_blk h.st 0, cell_blk h.st 1, cell_blk h.st 2, cell_blk h.st 3, cell_blk h.st 4, cell_blk h.st 5⟩
theorem IsFl.fr {w : World} {p g : Nat} {s : Fl} (h : IsFl w p g s) (o : Nat) : w.frozen? ⟨p, o, none⟩ = false := free_blk h.st o
theorem IsFl.kept {T : Nat → Prop} {w w' : World} {p g : Nat} {s : Fl} (h : IsFl w p g s) (k : Kept T w w') (hp : ¬ T p) (hg : ¬ T g) : IsFl w' p g s :=
  ⟨k.blk h.st hp, let ⟨sp, hs⟩ := h.row; ⟨sp, k.blk hs hg⟩, h.ne, h.ok⟩
theorem IsFl.below {w w' : World} {p g : Nat} {s : Fl} (h : IsFl w p g s) (k : Below w.heap.size w w') : IsFl w' p g s :=
  h.kept (T := fun _ => False) (Kept.of_below k) id id
theorem IsFl.drewN {w : World} {p g : Nat} {s : Fl} (h : IsFl w p g s) (n : Nat) : IsFl (w.drewN n) p g s := ⟨h.st, h.row, h.ne, h.ok⟩
theorem IsFl.lt {w : World} {p g : Nat} {s : Fl} (h : IsFl w p g s) : p < w.heap.size ∧ g < w.heap.size := ⟨blk_lt h.st, let ⟨_, hs⟩ := h.row; blk_lt hs⟩
theorem size_setCell (w : World) (a : Addr) (v : Value) : (w.setCell a v).heap.size = w.heap.size := by simp [World.setCell]

theorem op_goes (p g : Nat) (s : Fl) (n : Int) (w : World) (h : IsFl w p g s) (hne : s.op ≠ 0) :
    Calls Try.prog 21 #[.pointer (some ⟨p, 0, none⟩), .int .i64 n] w fun e w' =>
      e = .returned (.tuple #[.int .i64 (s.opN n), .bool s.goes]) ∧ IsFl w' p g s.step ∧ Kept (· = p) w w' ∧ w'.heap.size = w.heap.size := by
  obtain ⟨c0, c1, c2, c3, c4, c5⟩ := h.cs
  have f1 := h.fr 1
  have hb : (s.op != 0) = true := by simp [hne]
  have hg : s.goes = true := hb
  have hN : s.opN n = n := by simp [Fl.opN, hne]
  have g0 := h.ok.op0
  have g1 := h.ok.op1
  have fin : IsFl (w.setCell ⟨p, 1, none⟩ (.int .i64 (max (-1) (s.op - 1)))) p g s.step ∧ Kept (· = p) w (w.setCell ⟨p, 1, none⟩ (.int .i64 (max (-1) (s.op - 1)))) ∧ (w.setCell ⟨p, 1, none⟩ (.int .i64 (max (-1) (s.op - 1)))).heap.size = w.heap.size := by
    refine ⟨⟨?_, ?_, h.ne, h.ok.step⟩, (Kept.refl _ _).at _ _, size_setCell _ _ _⟩
    · rw [blk_setCell h.st]; simp [flCells, Fl.step, hne]
    · obtain ⟨sp, hs⟩ := h.row
      exact ⟨sp, by rw [Fl.step_b]; exact blk_setCell_ne hs _ h.ne.symm⟩
  have FIN := Lib.hid fin
  have HG := Lib.hid hg
  have HN := Lib.hid hN
  clear fin hg hN
  go_enter Try.func21, Try.ntmps21
  go_wp2
  go_ret2
  rw [HN.out, HG.out]
  exact ⟨rfl, FIN.out⟩

theorem op_fails (p g : Nat) (s : Fl) (n : Int) (w : World) (h : IsFl w p g s) (h0 : s.op = 0) :
    Calls Try.prog 21 #[.pointer (some ⟨p, 0, none⟩), .int .i64 n] w fun e w' =>
      e = .returned (.tuple #[.int .i64 (s.opN n), .bool s.goes]) ∧ IsFl w' p g s.step ∧ Kept (· = p) w w' ∧ w'.heap.size = w.heap.size := by
  obtain ⟨c0, c1, c2, c3, c4, c5⟩ := h.cs
  have f1 := h.fr 1
  have f2 := h.fr 2
  have f3 := h.fr 3
  have hg : s.goes = false := by simp [Fl.goes, h0]
  have hN : s.opN n = min (max 0 s.cut) n := by simp [Fl.opN, h0]
  rw [h0] at c1
  have fin : ∀ w', w' = (((w.setCell ⟨p, 1, none⟩ (.int .i64 (-1))).setCell ⟨p, 2, none⟩ (.int .i64 0)).setCell ⟨p, 3, none⟩ (.bool true)) → IsFl w' p g s.step ∧ Kept (· = p) w w' ∧ w'.heap.size = w.heap.size := by
    rintro w' rfl
    refine ⟨⟨?_, ?_, h.ne, h.ok.step⟩, (((Kept.refl _ _).at _ _).at _ _).at _ _, by simp only [size_setCell]⟩
    · rw [blk_setCell (blk_setCell (blk_setCell h.st _) _)]; simp [flCells, Fl.step, h0]
    · obtain ⟨sp, hs⟩ := h.row
      exact ⟨sp, by rw [Fl.step_b]; exact blk_setCell_ne (blk_setCell_ne (blk_setCell_ne hs _ h.ne.symm) _ h.ne.symm) _ h.ne.symm⟩
  have FIN := Lib.hid fin
  have HG := Lib.hid hg
  have HN := Lib.hid hN
  clear fin hg hN h0
  go_enter Try.func21, Try.ntmps21
  go_wp2
  go_ret2
  rw [HN.out, HG.out]
  exact ⟨rfl, FIN.out _ rfl⟩

theorem op_any (p g : Nat) (s : Fl) (n : Int) (w : World) (h : IsFl w p g s) :
    Calls Try.prog 21 #[.pointer (some ⟨p, 0, none⟩), .int .i64 n] w fun e w' =>
      e = .returned (.tuple #[.int .i64 (s.opN n), .bool s.goes]) ∧ IsFl w' p g s.step ∧ Kept (· = p) w w' ∧ w'.heap.size = w.heap.size := by
  by_cases h0 : s.op = 0
  · exact op_fails p g s n w h h0
  · exact op_goes p g s n w h h0

theorem is_any (p g : Nat) (s : Fl) (a n : Int) (w : World) (h : IsFl w p g s) :
    Calls Try.prog 20 #[.pointer (some ⟨p, 0, none⟩), .int .i64 a, .int .i64 n] w fun e w' =>
      e = .returned (.bool (inB s.b.length a n)) ∧ w = w' := by
  obtain ⟨c0, -, -, -, -, -⟩ := h.cs
  have hl := h.ok.len
  cases hi : inB s.b.length a n with
  | true =>
    obtain ⟨h1, h2, h3, h4⟩ := inB_iff.1 hi
    clear hi
    go_enter Try.func20, Try.ntmps20
    go_wp2
    go_ret
    exact ⟨rfl, rfl⟩
  | false =>
    rcases inB_not.1 hi with h1 | ⟨h1, h2⟩ | ⟨h1, h2, h3⟩ | ⟨h1, h2, h3, h4⟩ <;> clear hi
    all_goals
      go_enter Try.func20, Try.ntmps20
      go_wp2
      go_ret
      exact ⟨ret_bool (by first | rfl | (simp; omega)), rfl⟩

theorem size_any (p g : Nat) (s : Fl) (w : World) (h : IsFl w p g s) :
    Calls Try.prog 23 #[.pointer (some ⟨p, 0, none⟩)] w fun e w' => e = .returned (.int .i64 ((s.b.length / 256 : Nat) : Int)) ∧ w = w' := by
  obtain ⟨c0, -, -, -, -, -⟩ := h.cs
  have hl := h.ok.len
  go_enter Try.func23, Try.ntmps23
  go_wp2
  go_ret
  exact ⟨rfl, rfl⟩

theorem dead_any (p g : Nat) (s : Fl) (w : World) (h : IsFl w p g s) :
    Calls Try.prog 28 #[.pointer (some ⟨p, 0, none⟩)] w fun e w' => e = .returned (.bool s.dead) ∧ w = w' := by
  obtain ⟨-, -, -, c3, -, -⟩ := h.cs
  go_enter Try.func28, Try.ntmps28
  go_wp2
  go_ret
  exact ⟨rfl, rfl⟩

end Go.Proofs.Ytcecgbjpmegljaa
