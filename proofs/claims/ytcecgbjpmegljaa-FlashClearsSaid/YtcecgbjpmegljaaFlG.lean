/- flash.New: a flash that is erased. Condition: none. -/
import Derived.Test.YtcecgbjpmegljaaFlF
namespace Go.Proofs.Ytcecgbjpmegljaa
open Go.RowKit

theorem repeat_all (x c n : Nat) (v : Int) (w : World) (hn : n ≤ 262144) (hx : w.cell? ⟨x, 0, none⟩ = some (.int .u8 v)) (hc : 1 ≤ c) :
    Calls Try.prog 19 #[.slice (some ⟨x, 0, none⟩) 1 c, .int .i64 n] w fun e w' =>
      e = .returned (.slice (some ⟨w.heap.size, 0, none⟩) n n) ∧ (∃ sp, w'.heap[w.heap.size]? = some (.cells (row8 (List.replicate n v) sp) 5 (0, 0))) ∧ Below w.heap.size w w' := by
  by_cases h0 : n = 0
  · subst h0
    refine (repeat_zero x c w).mono ?_
    rintro e w' ⟨rfl, rfl⟩
    exact ⟨rfl, ⟨[], blk_new w _⟩, (Below.refl _ w).alloc (Nat.le_refl _) _⟩
  · by_cases hb : n ≤ 8192
    · refine (repeat_small x c n v w hn (by omega) hb hx hc).mono ?_
      rintro e w' ⟨rfl, L, hf⟩
      exact ⟨rfl, hf.done, hf.below⟩
    · refine (repeat_big x c n v w hn (by omega) (by omega) hx hc).mono ?_
      rintro e w' ⟨rfl, L, hf⟩
      exact ⟨rfl, hf.done, hf.below⟩

theorem new_any (n : Int) (w : World) :
    Calls Try.prog 6 #[.int .i64 n] w fun e w' =>
      ∃ p g, e = .returned (.pointer (some ⟨p, 0, none⟩)) ∧ IsFl w' p g (Fl.new n) ∧ w.heap.size ≤ p ∧ w.heap.size ≤ g ∧ Below w.heap.size w w' := by
  obtain ⟨k, hk, hk2⟩ : ∃ k : Nat, min (max 0 n) 1024 = (k : Int) ∧ k ≤ 1024 := ⟨(min (max 0 n) 1024).toNat, by omega, by omega⟩
  have hrep := repeat_all w.heap.size 1 (k * 256) 255 (w.alloc (.cells #[.int .u8 255] 5)) (by omega) (by rw [cell_blk (blk_new w _)]; rfl) (by omega)
  have ec : ((k * 256 : Nat) : Int) = (k : Int) * 256 := by omega
  rw [ec] at hrep
  have hnew : Fl.new n = ⟨List.replicate (k * 256) 255, -1, 0, false, 0, 0⟩ := by
    unfold Fl.new; rw [hk]; congr 2; omega
  have hok := Fl.Ok.new n
  rw [hnew] at hok
  have HREP := Lib.hid hrep
  have HNEW := Lib.hid hnew
  clear hrep ec hnew
  go_enter Try.func6, Try.ntmps6
  go_wp2_with (go_at_call 19; refine HREP.out.mono ?_; rintro e w1 ⟨rfl, hr, hb⟩; have HR := Lib.hid hr; clear hr)
  go_ret
  obtain ⟨sp, hs⟩ := HR.out
  have hz := hb.size
  have h1 : (w.alloc (.cells #[.int .u8 255] 5)).heap.size = w.heap.size + 1 := by simp
  rw [h1] at hs hz hb
  refine ⟨w1.heap.size, w.heap.size + 1, rfl, ?_, by omega, by omega, ?_⟩
  · rw [HNEW.out]
    refine ⟨?_, ⟨sp, blk_alloc hs _⟩, by have := blk_lt hs; omega, hok⟩
    rw [blk_new]
    simp [flCells]
  · exact (((Below.refl _ w).alloc (Nat.le_refl _) _).trans (hb.mono (by omega))).alloc (by omega) _

end Go.Proofs.Ytcecgbjpmegljaa
