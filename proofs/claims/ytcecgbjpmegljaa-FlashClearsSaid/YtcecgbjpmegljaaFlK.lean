/- What a law makes and hands to a flash: new slices of bytes; Program and Poke of them. Condition: the flash lies there whole. -/
import Derived.Test.YtcecgbjpmegljaaFlJ
import Derived.Deep.OwnRows
namespace Go.Proofs.Ytcecgbjpmegljaa
open Go.RowKit

theorem else_blk {b p g : Nat} (n : Nat) (h1 : b ≠ p) (h2 : b ≠ g) : elseW (some ⟨b, 0, none⟩) n p g := by
  intro a ha
  cases ha
  exact .inr ⟨h1, h2⟩

theorem prog_blk (p g : Nat) (s : Fl) (a : Int) (b n c : Nat) (xs : List Int) (sp : List Value) (w : World) (h : IsFl w p g s) (hb : w.heap[b]? = some (.cells (row8 xs sp) 5 (0, 0))) (h1 : b ≠ p) (h2 : b ≠ g) (hn : xs.length = n) (hc : n ≤ c) :
    Calls Try.prog 7 #[.pointer (some ⟨p, 0, none⟩), .int .i64 a, .slice (some ⟨b, 0, none⟩) n c] w fun e w' =>
      e = .returned (.bool (s.progOk a n)) ∧ IsFl w' p g (s.prog a xs) ∧ Kept (fun x => x = p ∨ x = g) w w' ∧ w'.heap.size = w.heap.size := by
  subst hn
  exact prog_any p g s a _ _ c xs w h (src_blk hb) (else_blk _ h1 h2) hc (by simp)

/-- Program, Poke of a slice that has just been made. -/
theorem prog_new (p g : Nat) (s : Fl) (a : Int) (n : Nat) (xs : List Int) (w : World) (h : IsFl w p g s) (hn : xs.length = n) :
    Calls Try.prog 7 #[.pointer (some ⟨p, 0, none⟩), .int .i64 a, .slice (some ⟨w.heap.size, 0, none⟩) n n] (w.alloc (.cells (row8 xs []) 5)) fun e w' =>
      e = .returned (.bool (s.progOk a n)) ∧ IsFl w' p g (s.prog a xs) ∧ Kept (fun x => x = p ∨ x = g) w w' := by
  have hl := h.lt
  refine (prog_blk p g s a w.heap.size n n xs [] _ (h.below ((Below.refl _ w).alloc (Nat.le_refl _) _)) (blk_new w _) (by omega) (by omega) hn (Nat.le_refl _)).mono ?_
  rintro e w' ⟨h1, h2, h3, -⟩
  exact ⟨h1, h2, ((Kept.refl _ w).alloc _).trans h3⟩
/-- The power is on, nothing is planned. -/
structure Calm (s : Fl) (L : Nat) : Prop where
  len : s.b.length = L
  dead : s.dead = false
  op : s.op = -1
theorem Calm.goes {s : Fl} {L : Nat} (h : Calm s L) : s.goes = true := by simp [Fl.goes, h.op]
theorem Calm.step {s : Fl} {L : Nat} (h : Calm s L) : s.step.dead = false ∧ s.step.op = -1 := by
  unfold Fl.step
  rw [if_neg (by rw [h.op]; decide)]
  exact ⟨h.dead, by show max (-1) (s.op - 1) = -1; rw [h.op]; rfl⟩
theorem Calm.prog {s : Fl} {L : Nat} (h : Calm s L) (a : Int) (xs : List Int) : Calm (s.prog a xs) L := by
  refine ⟨(Fl.prog_len _ _ _).trans h.len, ?_, ?_⟩ <;> (unfold Fl.prog; split)
  · exact h.step.1
  · exact h.dead
  · exact h.step.2
  · exact h.op
theorem Calm.poke {s : Fl} {L : Nat} (h : Calm s L) (a : Int) (xs : List Int) : Calm (s.poke a xs) L := by
  refine ⟨(Fl.poke_len _ _ _).trans h.len, ?_, ?_⟩ <;> (unfold Fl.poke; split)
  · exact h.dead
  · exact h.dead
  · exact h.op
  · exact h.op
theorem Calm.erase {s : Fl} {L : Nat} (h : Calm s L) (k : Int) : Calm (s.erase k) L := by
  refine ⟨(Fl.erase_len _ _).trans h.len, ?_, ?_⟩ <;> (unfold Fl.erase; split)
  · exact h.step.1
  · exact h.dead
  · exact h.step.2
  · exact h.op
theorem Calm.new (n : Int) (L : Nat) (h : 256 * (min (max 0 n) 1024).toNat = L) : Calm (Fl.new n) L := ⟨by simpa [Fl.new] using h, rfl, rfl⟩
theorem Calm.progOk {s : Fl} {L : Nat} (h : Calm s L) (a n : Int) : s.progOk a n = inB L a n := by simp [Fl.progOk, Fl.progIn, h.dead, h.goes, h.len]
theorem Calm.readOk {s : Fl} {L : Nat} (h : Calm s L) (a n : Int) : s.readOk a n = inB L a n := by simp [Fl.readOk, h.dead, h.len]
theorem Calm.pokeOk {s : Fl} {L : Nat} (h : Calm s L) (a n : Int) : s.pokeOk a n = inB L a n := by simp [Fl.pokeOk, h.len]
theorem Calm.eraseOk {s : Fl} {L : Nat} (h : Calm s L) (k : Int) : s.eraseOk k = (decide (0 ≤ k) && decide (k < (L / 256 : Nat))) := by simp [Fl.eraseOk, Fl.eraseIn, h.dead, h.goes, h.len]

end Go.Proofs.Ytcecgbjpmegljaa
