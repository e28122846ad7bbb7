/- verity.New, Raw, Write: what each answers and what it makes of the flash. Condition: the area and its flash lie there whole. -/
import Derived.Test.YtimlgkfhfofpbaaFlK
import Derived.Deep.RegionHeld3
namespace Go.Proofs.Ytimlgkfhfofpbaa
open Go.RowKit

/-- Block q is an area over the flash of block p, from a sector on. -/
def IsAr (w : World) (q p : Nat) (first : Int) : Prop := w.heap[q]? = some (.cells #[.pointer (some ⟨p, 0, none⟩), .int .i64 first] 88 (0, 0))
theorem IsAr.kept {T : Nat → Prop} {w w' : World} {q p : Nat} {f : Int} (h : IsAr w q p f) (k : Kept T w w') (hq : ¬ T q) : IsAr w' q p f := k.blk h hq
theorem IsAr.below {w w' : World} {q p : Nat} {f : Int} (h : IsAr w q p f) (k : Below w.heap.size w w') : IsAr w' q p f := Below.blk k h (blk_lt h)
theorem IsAr.cs {w : World} {q p : Nat} {f : Int} (h : IsAr w q p f) : w.cell? ⟨q, 0, none⟩ = some (.pointer (some ⟨p, 0, none⟩)) ∧ w.cell? ⟨q, 1, none⟩ = some (.int .i64 f) := ⟨cell_blk h 0, cell_blk h 1⟩
theorem IsFl.drew {w : World} {p g : Nat} {s : Fl} (h : IsFl w p g s) : IsFl w.drew p g s := ⟨h.st, h.row, h.ne, h.ok⟩

theorem vnew_nil (slot : Int) (w : World) :
    Calls Try.prog 39 #[.pointer none, .int .i64 slot] w fun e w' => e = .returned (.tuple #[.pointer none, .int .i64 1]) ∧ w = w' := by
  go_enter Try.func39, Try.ntmps39
  go_wp2
  go_ret2
  exact ⟨rfl, rfl⟩

theorem vnew_no (p g : Nat) (s : Fl) (slot : Int) (w : World) (h : IsFl w p g s) (hb : s.b.length / 256 < 128 ∨ (128 ≤ s.b.length / 256 ∧ slot < 0) ∨ (128 ≤ s.b.length / 256 ∧ 0 ≤ slot ∧ 1 < slot)) :
    Calls Try.prog 39 #[.pointer (some ⟨p, 0, none⟩), .int .i64 slot] w fun e w' => e = .returned (.tuple #[.pointer none, .int .i64 1]) ∧ w = w' := by
  have hs := size_any p g s w h
  obtain ⟨m, hm⟩ : ∃ m, m = s.b.length / 256 := ⟨_, rfl⟩
  rw [← hm] at hs hb
  have HS := Lib.hid hs
  clear hs hm
  rcases hb with h1 | ⟨h1, h2⟩ | ⟨h1, h2, h3⟩
  all_goals
    go_enter Try.func39, Try.ntmps39
    go_wp2_with (go_at_call 43; refine HS.out.mono ?_; rintro e w' ⟨rfl, rfl⟩)
    go_ret2
    exact ⟨rfl, rfl⟩

theorem vnew_yes (p g : Nat) (s : Fl) (slot : Int) (w : World) (h : IsFl w p g s) (hb : 128 ≤ s.b.length / 256) (h0 : 0 ≤ slot) (h1 : slot ≤ 1) :
    Calls Try.prog 39 #[.pointer (some ⟨p, 0, none⟩), .int .i64 slot] w fun e w' => e = .returned (.tuple #[.pointer (some ⟨w.heap.size, 0, none⟩), .int .i64 0]) ∧ IsAr w' w.heap.size p (64 + slot * 32) ∧ Below w.heap.size w w' := by
  have hs := size_any p g s w h
  obtain ⟨m, hm⟩ : ∃ m, m = s.b.length / 256 := ⟨_, rfl⟩
  rw [← hm] at hs hb
  have HS := Lib.hid hs
  clear hs hm
  go_enter Try.func39, Try.ntmps39
  go_wp2_with (go_at_call 43; refine HS.out.mono ?_; rintro e w' ⟨rfl, rfl⟩)
  go_ret2
  exact ⟨rfl, blk_new w _, (Below.refl _ w).alloc (Nat.le_refl _) _⟩

theorem vis_any (i : Int) (b : Bool) (hb : (decide (0 ≤ i) && decide (i < 32)) = b) (w : World) :
    Calls Try.prog 52 #[.int .i64 i] w fun e w' => e = .returned (.bool b) ∧ w = w' := by
  have h : Calls Try.prog 52 #[.int .i64 i] w fun e w' => e = .returned (.bool (decide (0 ≤ i) && decide (i < 32))) ∧ w = w' := by
    clear hb
    by_cases h0 : 0 ≤ i
    · go_enter Try.func52, Try.ntmps52
      go_wp2
      go_ret
      exact ⟨ret_bool (by simp [h0]), rfl⟩
    · go_enter Try.func52, Try.ntmps52
      go_wp2
      go_ret
      exact ⟨ret_bool (by simp; omega), rfl⟩
  rw [hb] at h
  exact h

theorem raw_out (q : Nat) (i : Int) (w : World) (h : i < 0 ∨ (0 ≤ i ∧ 32 ≤ i)) :
    Calls Try.prog 42 #[.pointer (some ⟨q, 0, none⟩), .int .i64 i] w fun e w' => e = .returned (.tuple #[.slice none 0 0, .bool false]) ∧ w = w' := by
  have hb : (decide (0 ≤ i) && decide (i < 32)) = false := by simp; omega
  go_enter Try.func42, Try.ntmps42
  go_wp2_with (go_at_call 52; refine (vis_any i false hb _).mono ?_; rintro e w' ⟨rfl, rfl⟩)
  go_ret2
  exact ⟨rfl, rfl⟩

set_option maxHeartbeats 800000 in
theorem raw_in (q p g : Nat) (s : Fl) (first i : Int) (w : World) (h : IsFl w p g s) (ha : IsAr w q p first) (h0 : 0 ≤ i) (h1 : i < 32) (hf0 : 0 ≤ first) (hf1 : first ≤ 1000) :
    Calls Try.prog 42 #[.pointer (some ⟨q, 0, none⟩), .int .i64 i] w fun e w' =>
      ∃ v, e = .returned (.tuple #[v, .bool (s.readOk ((first + i) * 256) 80)]) ∧ (s.readOk ((first + i) * 256) 80 = true → Owns w' w.heap.size v (s.read ((first + i) * 256) 80)) ∧ (s.readOk ((first + i) * 256) 80 = false → v = .slice none 0 0) ∧ Below w.heap.size w w' := by
  obtain ⟨c0, c1⟩ := ha.cs
  have hrd := read_any p g s ((first + i) * 256) 80 w.drew h.drew
  have HR := Lib.hid hrd
  have w1 : IntKind.i64.wrap (first + i) = first + i := IntWalk.i64_in _ (by omega)
  have w2 : IntKind.i64.wrap ((first + i) * 256) = (first + i) * 256 := IntWalk.i64_in _ (by omega)
  clear hrd
  have hb : (decide (0 ≤ i) && decide (i < 32)) = true := by simp; omega
  have HB := Lib.hid hb
  clear hb
  go_enter Try.func42, Try.ntmps42
  go_wp2_with (go_at_call 52; refine (vis_any i true HB.out _).mono ?_; rintro e w' ⟨rfl, rfl⟩)
  go_region_held3 (fun w' => w'.cell? ⟨q, 0, none⟩ = some (.pointer (some ⟨p, 0, none⟩)) ∧ w'.cell? ⟨q, 1, none⟩ = some (.int .i64 first)) (first | exact ⟨c0, c1⟩ | exact (IsAr.below ha hbw).cs) ((go_at_call 31; refine HR.out.mono ?_; rintro e w3 ⟨v, rfl, ho, hn, hb⟩; have hbw : Below w.heap.size w w3 := ⟨hb.os, hb.tape, hb.output, hb.size, hb.block⟩))
  go_wp2
  go_ret2
  exact ⟨v, rfl, ho, hn, hbw⟩

set_option maxHeartbeats 1600000 in
theorem write_calm (q p g L : Nat) (s : Fl) (first i : Int) (b c : Nat) (xs : List Int) (sp : List Value) (w : World) (h : IsFl w p g s) (hk : Calm s L) (ha : IsAr w q p first)
    (hb : w.heap[b]? = some (.cells (row8 xs sp) 5 (0, 0))) (hbp : b ≠ p) (hbg : b ≠ g) (hqp : q ≠ p) (hqg : q ≠ g) (hn : xs.length = 80) (hc : 80 ≤ c)
    (h0 : 0 ≤ i) (h1 : i < 32) (hf0 : 0 ≤ first) (hf1 : (first + i + 1) * 256 ≤ L) (hL : L ≤ 262144) :
    Calls Try.prog 41 #[.pointer (some ⟨q, 0, none⟩), .int .i64 i, .slice (some ⟨b, 0, none⟩) 80 c] w fun e w' =>
      e = .returned (.int .i64 0) ∧ IsFl w' p g ((s.erase (first + i)).prog ((first + i) * 256) xs) ∧ Kept (fun x => x = p ∨ x = g) w w' := by
  have hir : (decide (0 ≤ i) && decide (i < 32)) = true := by simp; omega
  obtain ⟨c0, c1⟩ := ha.cs
  have q1 : s.eraseOk (first + i) = true := by
    rw [hk.eraseOk]; simp; omega
  have hk1 := hk.erase (first + i)
  obtain ⟨s1, e1⟩ : ∃ t, t = s.erase (first + i) := ⟨_, rfl⟩
  have q2 : s1.progOk ((first + i) * 256) ((80 : Nat) : Int) = true := by
    rw [e1, hk1.progOk]; exact inB_iff.2 (by omega)
  have hd := fun w (h : IsFl w p g s) => dead_any p g s w h
  have he := fun w (h : IsFl w p g s) => erase_any p g s (first + i) w h
  rw [hk.dead] at hd
  rw [q1, ← e1] at he
  have hp := fun w (h : IsFl w p g s1) (hb : w.heap[b]? = some (.cells (row8 xs sp) 5 (0, 0))) => prog_blk p g s1 ((first + i) * 256) b 80 c xs sp w h hb hbp hbg hn hc
  rw [q2] at hp
  rw [← e1]
  have HIR := Lib.hid hir
  have HD := Lib.hid hd
  have HE := Lib.hid he
  have HP := Lib.hid hp
  have w1 : IntKind.i64.wrap (first + i) = first + i := IntWalk.i64_in _ (by omega)
  have w2 : IntKind.i64.wrap ((first + i) * 256) = (first + i) * 256 := IntWalk.i64_in _ (by omega)
  have hnq : ∀ x, (x = p ∨ x = g) → q ≠ x := by rintro x (rfl | rfl) <;> assumption
  clear q1 q2 hk1 e1 hd he hp hir hn
  go_enter Try.func41, Try.ntmps41
  go_wp2_with (go_at_call 52; refine (vis_any i true HIR.out _).mono ?_; rintro e w' ⟨rfl, rfl⟩)
  go_region_held3 (fun w' => w'.cell? ⟨q, 0, none⟩ = some (.pointer (some ⟨p, 0, none⟩)) ∧ w'.cell? ⟨q, 1, none⟩ = some (.int .i64 first)) (first | exact ⟨c0, c1⟩ | exact a3.cs | exact a4.cs) (first | (go_at_call 37; refine (HD.out _ h.drew).mono ?_; rintro e w' ⟨rfl, rfl⟩) | (go_at_call 33; refine (HE.out _ h.drew).mono ?_; rintro e w3 ⟨rfl, hf3, hk3, -⟩; have a3 : IsAr w3 q p first := IsAr.kept (w := w.drew) ha hk3 (fun e => hnq _ e rfl)) | (go_at_call 30; refine (HP.out _ hf3 (hk3.blk (a := w.drew) hb (by rintro (e | e); exact hbp e; exact hbg e))).mono ?_; rintro e w4 ⟨rfl, hf4, hk4, -⟩; have a4 : IsAr w4 q p first := a3.kept hk4 (fun e => hnq _ e rfl)))
  go_wp2
  go_ret
  exact ⟨rfl, hf4, (Kept.drew (Kept.refl _ w)).trans (hk3.trans hk4)⟩

end Go.Proofs.Ytimlgkfhfofpbaa
