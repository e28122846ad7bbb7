/- portcullisref19.Flash: op, Turn, Plan, Start, New: what each answers, in the words of Fl. Condition: the flash lies there whole (IsRf). -/
import Derived.Test.YtoljnogpegemjaaDoorF1
namespace Go.Proofs.YtoljnogpegemjaaDoor
open Go.RowKit

def rfCells (g : Nat) (s : Fl) (pl : Bool) (o c : Int) : Array Value :=
  #[.slice (some ⟨g, 0, none⟩) s.b.length s.b.length, .bool pl, .int .i64 o, .int .i64 c, .bool s.dead, .int .i64 s.er, .int .i64 s.pr]
/-- Block p is the document's flash with the state s, whose bytes lie at the head of block g. -/
structure IsRf (w : World) (p g : Nat) (s : Fl) : Prop where
  st : ∃ pl o c, w.heap[p]? = some (.cells (rfCells g s pl o c) 69 (0, 0)) ∧ ((pl = false ∧ s.op = -1) ∨ (pl = true ∧ s.op ≠ -1 ∧ o = s.op ∧ c = s.cut))
  row : ∃ sp, w.heap[g]? = some (.cells (row8 s.b sp) 5 (0, 0))
  ne : p ≠ g
  ok : s.Ok

theorem rfCs {w : World} {p g : Nat} {s : Fl} {pl : Bool} {o c : Int} (h : w.heap[p]? = some (.cells (rfCells g s pl o c) 69 (0, 0))) :
    w.cell? ⟨p, 0, none⟩ = some (.slice (some ⟨g, 0, none⟩) s.b.length s.b.length) ∧ w.cell? ⟨p, 1, none⟩ = some (.bool pl) ∧ w.cell? ⟨p, 2, none⟩ = some (.int .i64 o) ∧ w.cell? ⟨p, 3, none⟩ = some (.int .i64 c) ∧
      w.cell? ⟨p, 4, none⟩ = some (.bool s.dead) ∧ w.cell? ⟨p, 5, none⟩ = some (.int .i64 s.er) ∧ w.cell? ⟨p, 6, none⟩ = some (.int .i64 s.pr) :=
  ⟨cell_blk h 0, cell_blk h 1, cell_blk h 2, cell_blk h 3, cell_blk h 4, cell_blk h 5, cell_blk h 6⟩
theorem IsRf.c0 {w : World} {p g : Nat} {s : Fl} (h : IsRf w p g s) : w.cell? ⟨p, 0, none⟩ = some (.slice (some ⟨g, 0, none⟩) s.b.length s.b.length) := by
  obtain ⟨_, _, _, h, _⟩ := h.st; exact (rfCs h).1
theorem IsRf.c4 {w : World} {p g : Nat} {s : Fl} (h : IsRf w p g s) : w.cell? ⟨p, 4, none⟩ = some (.bool s.dead) := by
  obtain ⟨_, _, _, h, _⟩ := h.st; exact (rfCs h).2.2.2.2.1
theorem IsRf.fr {w : World} {p g : Nat} {s : Fl} (h : IsRf w p g s) (o : Nat) : w.frozen? ⟨p, o, none⟩ = false := by
  obtain ⟨_, _, _, h, _⟩ := h.st; exact free_blk h o
theorem IsRf.kept {T : Nat → Prop} {w w' : World} {p g : Nat} {s : Fl} (h : IsRf w p g s) (k : Kept T w w') (hp : ¬ T p) (hg : ¬ T g) : IsRf w' p g s :=
  ⟨let ⟨pl, o, c, h1, h2⟩ := h.st; ⟨pl, o, c, k.blk h1 hp, h2⟩, let ⟨sp, hs⟩ := h.row; ⟨sp, k.blk hs hg⟩, h.ne, h.ok⟩
theorem IsRf.below {w w' : World} {p g : Nat} {s : Fl} (h : IsRf w p g s) (k : Below w.heap.size w w') : IsRf w' p g s :=
  h.kept (T := fun _ => False) (Kept.of_below k) id id
theorem IsRf.drewN {w : World} {p g : Nat} {s : Fl} (h : IsRf w p g s) (n : Nat) : IsRf (w.drewN n) p g s := ⟨h.st, h.row, h.ne, h.ok⟩
theorem IsRf.lt {w : World} {p g : Nat} {s : Fl} (h : IsRf w p g s) : p < w.heap.size ∧ g < w.heap.size :=
  ⟨let ⟨_, _, _, h, _⟩ := h.st; blk_lt h, let ⟨_, hs⟩ := h.row; blk_lt hs⟩

theorem rop_any (p g : Nat) (s : Fl) (n : Int) (w : World) (h : IsRf w p g s) (hn : 0 ≤ n) :
    Calls Tryd.prog 142 #[.pointer (some ⟨p, 0, none⟩), .int .i64 n] w fun e w' =>
      e = .returned (.tuple #[.int .i64 (s.opN n), .bool s.goes]) ∧ IsRf w' p g s.step ∧ Kept (· = p) w w' ∧ w'.heap.size = w.heap.size := by
  obtain ⟨pl, o, c, hst, hpl⟩ := h.st
  obtain ⟨c0, c1, c2, c3, c4, c5, c6⟩ := rfCs hst
  have f1 := h.fr 1
  have f2 := h.fr 2
  have f4 := h.fr 4
  have g0 := h.ok.op0
  have g1 := h.ok.op1
  have hrow := h.row
  have hne := h.ne
  have hok := h.ok.step
  rcases hpl with ⟨rfl, h0⟩ | ⟨rfl, h0, rfl, rfl⟩
  · have hg : s.goes = true := by simp [Fl.goes, h0]
    have hN : s.opN n = n := by simp [Fl.opN, h0]
    have fin : IsRf w p g s.step := ⟨⟨false, o, c, by rw [hst, rfCells, rfCells, Fl.step, if_neg (by omega)], .inl ⟨rfl, by rw [Fl.step, if_neg (by omega)]; show max (-1) (s.op - 1) = -1; omega⟩⟩, by rw [Fl.step_b]; exact hrow, hne, hok⟩
    have FIN := Lib.hid fin
    have HG := Lib.hid hg
    have HN := Lib.hid hN
    clear fin hg hN h0 hrow hok hst h
    go_enter Tryd.func142, Tryd.ntmps142
    go_wp2
    go_ret2
    rw [HN.out, HG.out]
    exact ⟨rfl, FIN.out, Kept.refl _ _, rfl⟩
  · by_cases hz : s.op = 0
    · have hg : s.goes = false := by simp [Fl.goes, hz]
      have hN : s.opN n = min (max 0 s.cut) n := by simp [Fl.opN, hz]
      have fin : ∀ w', w' = (w.setCell ⟨p, 1, none⟩ (.bool false)).setCell ⟨p, 4, none⟩ (.bool true) → IsRf w' p g s.step ∧ Kept (· = p) w w' ∧ w'.heap.size = w.heap.size := by
        rintro w' rfl
        refine ⟨⟨⟨false, s.op, s.cut, ?_, .inl ⟨rfl, by simp [Fl.step, hz]⟩⟩, ?_, hne, hok⟩, ((Kept.refl _ _).at _ _).at _ _, by simp only [size_setCell]⟩
        · rw [blk_setCell (blk_setCell hst _)]; simp [rfCells, Fl.step, hz]
        · obtain ⟨sp, hs⟩ := hrow
          exact ⟨sp, by rw [Fl.step_b]; exact blk_setCell_ne (blk_setCell_ne hs _ hne.symm) _ hne.symm⟩
      rw [hz] at c2
      have FIN := Lib.hid fin
      have HG := Lib.hid hg
      have HN := Lib.hid hN
      clear fin hg hN h0 hrow hok hst h hz
      rcases (show s.cut < 0 ∨ (0 ≤ s.cut ∧ s.cut < n) ∨ (0 ≤ s.cut ∧ n ≤ s.cut) by omega) with h1 | ⟨h1, h2⟩ | ⟨h1, h2⟩
      · have e : min (max 0 s.cut) n = 0 := by omega
        rw [e] at HN
        clear e
        go_enter Tryd.func142, Tryd.ntmps142
        go_wp2
        go_ret2
        rw [HN.out, HG.out]
        exact ⟨rfl, FIN.out _ rfl⟩
      · have e : min (max 0 s.cut) n = s.cut := by omega
        rw [e] at HN
        clear e
        go_enter Tryd.func142, Tryd.ntmps142
        go_wp2
        go_ret2
        rw [HN.out, HG.out]
        exact ⟨rfl, FIN.out _ rfl⟩
      · have e : min (max 0 s.cut) n = n := by omega
        rw [e] at HN
        clear e
        go_enter Tryd.func142, Tryd.ntmps142
        go_wp2
        go_ret2
        rw [HN.out, HG.out]
        exact ⟨rfl, FIN.out _ rfl⟩
    · have hg : s.goes = true := by simp [Fl.goes, hz]
      have hN : s.opN n = n := by simp [Fl.opN, hz]
      have hp : 0 < s.op := by omega
      have fin : ∀ w', w' = w.setCell ⟨p, 2, none⟩ (.int .i64 (s.op - 1)) → IsRf w' p g s.step ∧ Kept (· = p) w w' ∧ w'.heap.size = w.heap.size := by
        rintro w' rfl
        have e : s.step = { s with op := s.op - 1 } := by unfold Fl.step; rw [if_neg hz]; congr 1; omega
        refine ⟨⟨⟨true, s.op - 1, s.cut, ?_, .inr ⟨rfl, ?_, ?_, ?_⟩⟩, ?_, hne, hok⟩, (Kept.refl _ _).at _ _, by simp only [size_setCell]⟩
        · rw [blk_setCell hst, e]; simp [rfCells]
        · rw [e]; show s.op - 1 ≠ -1; omega
        · rw [e]
        · rw [e]
        · obtain ⟨sp, hs⟩ := hrow
          exact ⟨sp, by rw [Fl.step_b]; exact blk_setCell_ne hs _ hne.symm⟩
      have FIN := Lib.hid fin
      have HG := Lib.hid hg
      have HN := Lib.hid hN
      clear fin hg hN h0 hrow hok hst h hz
      go_enter Tryd.func142, Tryd.ntmps142
      go_wp2
      go_ret2
      rw [HN.out, HG.out]
      exact ⟨rfl, FIN.out _ rfl⟩

theorem rturn_any (p g : Nat) (s : Fl) (w : World) (h : IsRf w p g s) :
    Calls Tryd.prog 115 #[.pointer (some ⟨p, 0, none⟩)] w fun e w' =>
      e = .returned (.bool s.turnOk) ∧ IsRf w' p g s.turn ∧ Kept (· = p) w w' ∧ w'.heap.size = w.heap.size := by
  have c4 := h.c4
  cases hd : s.dead with
  | true =>
    have h1 : s.turnOk = false := by simp [Fl.turnOk, hd]
    have h2 : s.turn = s := by simp [Fl.turn, hd]
    rw [hd] at c4
    have H1 := Lib.hid h1
    have H2 := Lib.hid h2
    clear h1 h2 hd
    go_enter Tryd.func115, Tryd.ntmps115
    go_wp2
    go_ret
    rw [H1.out, H2.out]
    exact ⟨rfl, h, Kept.refl _ _, rfl⟩
  | false =>
    have h1 : s.turnOk = s.goes := by simp [Fl.turnOk, hd]
    have h2 : s.turn = s.step := by simp [Fl.turn, hd]
    rw [hd] at c4
    have H1 := Lib.hid h1
    have H2 := Lib.hid h2
    clear h1 h2 hd
    go_enter Tryd.func115, Tryd.ntmps115
    go_wp2_with (go_at_call 142; refine (rop_any p g s 0 _ h (by omega)).mono ?_; rintro e w' ⟨rfl, hq⟩; have HQ := Lib.hid hq; clear hq)
    go_ret
    rw [H1.out, H2.out]
    exact ⟨rfl, HQ.out⟩

theorem rplan_any (p g : Nat) (s : Fl) (o c : Int) (w : World) (h : IsRf w p g s) (_ho : o ≤ 9223372036854775807) :
    Calls Tryd.prog 40 #[.pointer (some ⟨p, 0, none⟩), .agg #[.int .i64 o, .int .i64 c]] w fun e w' =>
      e = .returned (.tuple #[]) ∧ IsRf w' p g (s.plan o c) ∧ Kept (· = p) w w' := by
  have h' := h.below (((Below.refl _ w).alloc (Nat.le_refl _) (.cells #[.int .i64 o, .int .i64 c] 67)))
  obtain ⟨pl0, o0, c0, hst, -⟩ := h'.st
  have f1 := h'.fr 1
  have f2 := h'.fr 2
  have f3 := h'.fr 3
  obtain ⟨c0', c1, c2, c3, c4, c5, c6⟩ := rfCs hst
  have fin : ∀ w1 w' pl, w1 = w.alloc (.cells #[.int .i64 o, .int .i64 c] 67) → pl = decide (0 ≤ o) → w' = (((w1.setCell ⟨p, 2, none⟩ (.int .i64 o)).setCell ⟨p, 3, none⟩ (.int .i64 c)).setCell ⟨p, 1, none⟩ (.bool pl)) → IsRf w' p g (s.plan o c) ∧ Kept (· = p) w w' := by
    rintro w1 w' pl rfl rfl rfl
    refine ⟨⟨⟨decide (0 ≤ o), o, c, ?_, ?_⟩, ?_, h.ne, h.ok.plan _ _ _ho⟩, ((((Kept.refl _ w).alloc _).at _ _).at _ _).at _ _⟩
    · rw [blk_setCell (blk_setCell (blk_setCell hst _) _)]; simp [rfCells, Fl.plan]
    · by_cases h0 : 0 ≤ o
      · right
        refine ⟨by simp [h0], ?_, ?_, rfl⟩ <;> show _ <;> simp only [Fl.plan] <;> omega
      · left
        refine ⟨by simp [h0], ?_⟩
        simp only [Fl.plan]; omega
    · obtain ⟨sp, hs⟩ := h'.row
      exact ⟨sp, blk_setCell_ne (blk_setCell_ne (blk_setCell_ne hs _ h.ne.symm) _ h.ne.symm) _ h.ne.symm⟩
  have FIN := Lib.hid fin
  clear fin h' hst
  by_cases h0 : 0 ≤ o
  · go_enter Tryd.func40, Tryd.ntmps40
    go_wp2
    go_end0
    exact ⟨rfl, FIN.out _ _ _ rfl (by simp [h0]) rfl⟩
  · go_enter Tryd.func40, Tryd.ntmps40
    go_wp2
    go_end0
    exact ⟨rfl, FIN.out _ _ _ rfl (by simp [h0]) rfl⟩

theorem rstart_any (p g : Nat) (s : Fl) (w : World) (h : IsRf w p g s) :
    Calls Tryd.prog 38 #[.pointer (some ⟨p, 0, none⟩)] w fun e w' =>
      e = .returned (.tuple #[]) ∧ IsRf w' p g s.start ∧ Kept (· = p) w w' ∧ w'.heap.size = w.heap.size := by
  obtain ⟨pl0, o0, cc, hst, -⟩ := h.st
  obtain ⟨c0', c1, c2, c3, c4, c5, c6⟩ := rfCs hst
  have f1 := h.fr 1
  have f4 := h.fr 4
  have fin : ∀ w', w' = ((w.setCell ⟨p, 4, none⟩ (.bool false)).setCell ⟨p, 1, none⟩ (.bool false)) → IsRf w' p g s.start ∧ Kept (· = p) w w' ∧ w'.heap.size = w.heap.size := by
    rintro w' rfl
    refine ⟨⟨⟨false, o0, cc, ?_, .inl ⟨rfl, rfl⟩⟩, ?_, h.ne, h.ok.start⟩, ((Kept.refl _ _).at _ _).at _ _, by simp only [size_setCell]⟩
    · rw [blk_setCell (blk_setCell hst _)]; simp [rfCells, Fl.start]
    · obtain ⟨sp, hs⟩ := h.row
      exact ⟨sp, blk_setCell_ne (blk_setCell_ne hs _ h.ne.symm) _ h.ne.symm⟩
  have FIN := Lib.hid fin
  clear fin hst
  go_enter Tryd.func38, Tryd.ntmps38
  go_wp2
  go_end0
  exact ⟨rfl, FIN.out _ rfl⟩

end Go.Proofs.YtoljnogpegemjaaDoor
