/- What a law makes and hands to a flash: new slices of bytes; Program and Poke of them. Condition: the flash lies there whole. -/
import Derived.Test.YtimlgkfhfofpbaaFlJ
import Derived.Deep.OwnRows
namespace Go.Proofs.Ytimlgkfhfofpbaa
open Go.RowKit

def zeros (n : Nat) : List Int := List.replicate n 0
theorem zeros_len (n : Nat) : (zeros n).length = n := by simp [zeros]
theorem zeros_get (n i : Nat) : (zeros n).getD i 0 = 0 := by
  simp only [zeros, List.getD, List.getElem?_replicate]
  split <;> rfl
theorem zeros_mem (n : Nat) : ∀ x ∈ zeros n, 0 ≤ x ∧ x ≤ 255 := by
  intro x hx
  have := List.eq_of_mem_replicate hx
  omega
theorem made8 (n : Nat) : madeCells #[Value.int .u8 0] n = row8 (zeros n) [] := by
  unfold row8 zeros
  apply Array.ext
  · simp [size_madeCells]
  · intro i h1 h2
    simp [madeCells, Nat.mod_one]

theorem mk8 (n : Nat) (hn : n ≤ 1099511627776) (w : World) :
    (Instr.makeSlice 49 (.int .i64 (n : Int)) (.int .i64 (n : Int))).run Try.prog w = .ok (.slice (some ⟨w.heap.size, 0, none⟩) n n) (w.alloc (.cells (row8 (zeros n) []) 5)) := by
  rw [← made8]
  exact run_make_row' 49 5 (.int .u8 0) 1 Try.underlying49 info_u8 rfl .i64 .i64 n (by omega) (by omega) w

theorem src_blk {w : World} {b : Nat} {xs : List Int} {sp : List Value} (h : w.heap[b]? = some (.cells (row8 xs sp) 5 (0, 0))) : Src w (some ⟨b, 0, none⟩) xs.length xs := by
  refine ⟨rfl, fun i hi => ⟨_, rfl, ?_⟩⟩
  have e : (⟨b, 0, none⟩ : Addr).add i = ⟨b, i, none⟩ := by unfold Addr.add; split <;> simp_all
  rw [e, cell_blk h, row8_get _ _ _ hi]

theorem else_blk {b p g : Nat} (n : Nat) (h1 : b ≠ p) (h2 : b ≠ g) : elseW (some ⟨b, 0, none⟩) n p g := by
  intro a ha
  cases ha
  exact .inr ⟨h1, h2⟩

theorem prog_blk (p g : Nat) (s : Fl) (a : Int) (b n c : Nat) (xs : List Int) (sp : List Value) (w : World) (h : IsFl w p g s) (hb : w.heap[b]? = some (.cells (row8 xs sp) 5 (0, 0))) (h1 : b ≠ p) (h2 : b ≠ g) (hn : xs.length = n) (hc : n ≤ c) :
    Calls Try.prog 30 #[.pointer (some ⟨p, 0, none⟩), .int .i64 a, .slice (some ⟨b, 0, none⟩) n c] w fun e w' =>
      e = .returned (.bool (s.progOk a n)) ∧ IsFl w' p g (s.prog a xs) ∧ Kept (fun x => x = p ∨ x = g) w w' ∧ w'.heap.size = w.heap.size := by
  subst hn
  exact prog_any p g s a _ _ c xs w h (src_blk hb) (else_blk _ h1 h2) hc (by simp)

theorem poke_blk (p g : Nat) (s : Fl) (a : Int) (b n c : Nat) (xs : List Int) (sp : List Value) (w : World) (h : IsFl w p g s) (hb : w.heap[b]? = some (.cells (row8 xs sp) 5 (0, 0))) (hn : xs.length = n) (hx : ∀ x ∈ xs, 0 ≤ x ∧ x ≤ 255) :
    Calls Try.prog 36 #[.pointer (some ⟨p, 0, none⟩), .int .i64 a, .slice (some ⟨b, 0, none⟩) n c] w fun e w' =>
      e = .returned (.bool (s.pokeOk a n)) ∧ IsFl w' p g (s.poke a xs) ∧ Kept (fun x => x = p ∨ x = g) w w' ∧ w'.heap.size = w.heap.size := by
  subst hn
  exact poke_any p g s a _ _ c xs w h (src_blk hb) hx

/-- Program, Poke of a slice that has just been made. -/
theorem prog_new (p g : Nat) (s : Fl) (a : Int) (n : Nat) (xs : List Int) (w : World) (h : IsFl w p g s) (hn : xs.length = n) :
    Calls Try.prog 30 #[.pointer (some ⟨p, 0, none⟩), .int .i64 a, .slice (some ⟨w.heap.size, 0, none⟩) n n] (w.alloc (.cells (row8 xs []) 5)) fun e w' =>
      e = .returned (.bool (s.progOk a n)) ∧ IsFl w' p g (s.prog a xs) ∧ Kept (fun x => x = p ∨ x = g) w w' := by
  have hl := h.lt
  refine (prog_blk p g s a w.heap.size n n xs [] _ (h.below ((Below.refl _ w).alloc (Nat.le_refl _) _)) (blk_new w _) (by omega) (by omega) hn (Nat.le_refl _)).mono ?_
  rintro e w' ⟨h1, h2, h3, -⟩
  exact ⟨h1, h2, ((Kept.refl _ w).alloc _).trans h3⟩
theorem poke_new (p g : Nat) (s : Fl) (a : Int) (n : Nat) (xs : List Int) (w : World) (h : IsFl w p g s) (hn : xs.length = n) (hx : ∀ x ∈ xs, 0 ≤ x ∧ x ≤ 255) :
    Calls Try.prog 36 #[.pointer (some ⟨p, 0, none⟩), .int .i64 a, .slice (some ⟨w.heap.size, 0, none⟩) n n] (w.alloc (.cells (row8 xs []) 5)) fun e w' =>
      e = .returned (.bool (s.pokeOk a n)) ∧ IsFl w' p g (s.poke a xs) ∧ Kept (fun x => x = p ∨ x = g) w w' := by
  refine (poke_blk p g s a w.heap.size n n xs [] _ (h.below ((Below.refl _ w).alloc (Nat.le_refl _) _)) (blk_new w _) hn hx).mono ?_
  rintro e w' ⟨h1, h2, h3, -⟩
  exact ⟨h1, h2, ((Kept.refl _ w).alloc _).trans h3⟩

/-- The power is on, nothing is planned. -/
structure Calm (s : Fl) (L : Nat) : Prop where
  len : s.b.length = L
  dead : s.dead = false
  op : s.op = -1
theorem Calm.goes {s : Fl} {L : Nat} (h : Calm s L) : s.goes = true := by simp [Fl.goes, h.op]
theorem Calm.step {s : Fl} {L : Nat} (h : Calm s L) : s.step.dead = false ∧ s.step.op = -1 := by
  unfold Fl.step
  rw [if_neg (by rw [h.op]; decide)]
  exact ⟨h.dead, by show max (-1) (s.op - 1) = -1; rw [h.op]; rfl⟩
theorem Calm.prog {s : Fl} {L : Nat} (h : Calm s L) (a : Int) (xs : List Int) : Calm (s.prog a xs) L := by
  refine ⟨(Fl.prog_len _ _ _).trans h.len, ?_, ?_⟩ <;> (unfold Fl.prog; split)
  · exact h.step.1
  · exact h.dead
  · exact h.step.2
  · exact h.op
theorem Calm.poke {s : Fl} {L : Nat} (h : Calm s L) (a : Int) (xs : List Int) : Calm (s.poke a xs) L := by
  refine ⟨(Fl.poke_len _ _ _).trans h.len, ?_, ?_⟩ <;> (unfold Fl.poke; split)
  · exact h.dead
  · exact h.dead
  · exact h.op
  · exact h.op
theorem Calm.erase {s : Fl} {L : Nat} (h : Calm s L) (k : Int) : Calm (s.erase k) L := by
  refine ⟨(Fl.erase_len _ _).trans h.len, ?_, ?_⟩ <;> (unfold Fl.erase; split)
  · exact h.step.1
  · exact h.dead
  · exact h.step.2
  · exact h.op
theorem Calm.new (n : Int) (L : Nat) (h : 256 * (min (max 0 n) 1024).toNat = L) : Calm (Fl.new n) L := ⟨by simpa [Fl.new] using h, rfl, rfl⟩
theorem Calm.progOk {s : Fl} {L : Nat} (h : Calm s L) (a n : Int) : s.progOk a n = inB L a n := by simp [Fl.progOk, Fl.progIn, h.dead, h.goes, h.len]
theorem Calm.readOk {s : Fl} {L : Nat} (h : Calm s L) (a n : Int) : s.readOk a n = inB L a n := by simp [Fl.readOk, h.dead, h.len]
theorem Calm.pokeOk {s : Fl} {L : Nat} (h : Calm s L) (a n : Int) : s.pokeOk a n = inB L a n := by simp [Fl.pokeOk, h.len]
theorem Calm.eraseOk {s : Fl} {L : Nat} (h : Calm s L) (k : Int) : s.eraseOk k = (decide (0 ≤ k) && decide (k < (L / 256 : Nat))) := by simp [Fl.eraseOk, Fl.eraseIn, h.dead, h.goes, h.len]

end Go.Proofs.Ytimlgkfhfofpbaa
