/- What the walks of lists and arrays share. No condition. -/
import Derived.Test.YtoljnogpegemjaaDoorKth
import Derived.Test.YtoljnogpegemjaaDoorSrcL
import Derived.Test.YtoljnogpegemjaaDoorL1
import Derived.Test.YtoljnogpegemjaaDoorHnm
namespace Go.Proofs.YtoljnogpegemjaaDoor.Sl
open Go.RowKit Lm Fp Cu Sc
set_option linter.unusedSimpArgs false
set_option linter.unusedVariables false
theorem zero_sig (w : World) : (zeroValue 26).run Tryd.prog w = .ok (.agg (arr .u8 (List.replicate 64 0))) w := by kernel_rfl
theorem size_sig : (Tryd.prog.info? 26).map (·.size) = some 64 := by kernel_rfl
theorem sig_s {xs : List Int} (h : xs.length = 64) : (Tryd.prog.info? 26).map (·.size) = some (arr .u8 xs).size := by rw [arr_size, h]; exact size_sig
theorem sig_i {xs : List Int} (h : xs.length = 64) : (Tryd.prog.info? 26).map (·.size) = some xs.length := by rw [h]; exact size_sig
theorem src_off {w : World} {g : Nat} {xs : List Int} {t : TypeId} {fr : Nat × Nat} (h : w.heap[g]? = some (.cells (arr .u8 xs) t fr)) (o m : Nat) (hm : o + m ≤ xs.length) : Src w (some ⟨g, o, none⟩) m ((xs.drop o).take m) := by
  refine ⟨by rw [List.length_take, List.length_drop]; omega, fun i hi => ⟨_, rfl, ?_⟩⟩
  rw [Addr.add_lit, blk_arr' h (o + i) (by omega)]
  have e : ((xs.drop o).take m).getD i 0 = xs.getD (o + i) 0 := by simp [List.getD, List.getElem?_take, hi, List.getElem?_drop]
  rw [e]
theorem src_all {w : World} {g : Nat} {xs : List Int} {t : TypeId} {fr : Nat × Nat} (h : w.heap[g]? = some (.cells (arr .u8 xs) t fr)) (m : Nat) (hm : xs.length = m) : Src w (some ⟨g, 0, none⟩) m xs := by
  have := src_off h 0 m (by omega)
  rwa [List.drop_zero, List.take_of_length_le (by omega)] at this
theorem csrcL_one {w : World} {si : Option Addr} {n ci : Nat} {l : List Int} (h : Src w si n l) (hc : n ≤ ci) :
    SrcL (w.alloc (.cells #[.slice si n ci] 24)) (some ⟨w.heap.size, 0, none⟩) 1 [l] := by
  have hl := h.len
  subst hl
  refine ⟨rfl, fun i hi => ?_⟩
  obtain rfl : i = 0 := by omega
  refine ⟨_, si, ci, rfl, ?_, hc, h.below ((Below.refl _ w).alloc (Nat.le_refl _) _)⟩
  rw [show (⟨w.heap.size, 0, none⟩ : Addr).add 0 = ⟨w.heap.size, 0, none⟩ from rfl, cell_blk (blk_new w _)]
  rfl
theorem below_new {w w' : World} {o : Obj} (h : Below (w.alloc o).heap.size (w.alloc o) w') : Below w.heap.size w w' := by
  have b1 : Below w.heap.size w (w.alloc o) := (Below.refl _ w).alloc (Nat.le_refl _) o
  exact b1.trans (h.mono b1.size)
theorem Blk.add {w wr w' : World} {l : List (Nat × Array Value × TypeId)} (h : Blk w wr l) (b : Below wr.heap.size wr w') {g : Nat} {c : Array Value} {t : TypeId} (hg : w'.heap[g]? = some (.cells c t (0, 0))) (hle : wr.heap.size ≤ g) : Blk w w' (l ++ [(g, c, t)]) := by
  have h1 := h.kept b
  have hlt : ∀ (i g' : Nat) (c' : Array Value) (t' : TypeId), l[i]? = some (g', c', t') → g' < wr.heap.size := fun i g' c' t' hi => h.lt i hi
  refine ⟨fun i g' c' t' hi => ?_, fun i j g' c1 t1 c2 t2 hi hj => ?_, h1.below⟩
  · rcases Nat.lt_or_ge i l.length with hl | hl
    · rw [List.getElem?_append_left hl] at hi
      exact h1.mem i g' c' t' hi
    · rw [List.getElem?_append_right hl] at hi
      obtain ⟨hh0, e⟩ := List.getElem?_eq_some_iff.1 hi
      have e2 : (g, c, t) = (g', c', t') := by rw [← e]; simp
      cases e2
      exact ⟨hg, Nat.le_trans h.below.size hle⟩
  · have key : ∀ (i g' : Nat) (c' : Array Value) (t' : TypeId), (l ++ [(g, c, t)])[i]? = some (g', c', t') → (i < l.length ∧ l[i]? = some (g', c', t')) ∨ (i = l.length ∧ g' = g) := by
      intro i g' c' t' hi
      rcases Nat.lt_or_ge i l.length with hl | hl
      · rw [List.getElem?_append_left hl] at hi
        exact .inl ⟨hl, hi⟩
      · rw [List.getElem?_append_right hl] at hi
        obtain ⟨hh, e⟩ := List.getElem?_eq_some_iff.1 hi
        have e2 : (g, c, t) = (g', c', t') := by rw [← e]; simp
        cases e2
        simp at hh
        exact .inr ⟨by omega, rfl⟩
    rcases key i g' c1 t1 hi with ⟨a1, a2⟩ | ⟨a1, a2⟩ <;> rcases key j g' c2 t2 hj with ⟨b1, b2⟩ | ⟨b1, b2⟩
    · exact h.inj i j _ _ _ _ _ a2 b2
    · have := hlt i g' c1 t1 a2; omega
    · have := hlt j g' c2 t2 b2; omega
    · omega
theorem part_off (xs : List Int) (o m : Nat) (h : o + m ≤ xs.length) : ((arr .u8 xs).toList.drop o).take ((xs.drop o).take m).length = ((xs.drop o).take m).map (Value.int .u8) := by
  show ((xs.map (Value.int .u8)).drop o).take _ = _
  rw [List.length_take, List.length_drop, ← List.map_drop, List.map_take]
  congr 1
  omega
theorem src_two {w : World} {g : Nat} {t : TypeId} {fr : Nat × Nat} {s1 s2 : Option Addr} {n1 n2 c1 c2 : Nat} {x1 x2 : List Int} (h : w.heap[g]? = some (.cells #[.slice s1 n1 c1, .slice s2 n2 c2] t fr)) (h1 : Src w s1 n1 x1) (h2 : Src w s2 n2 x2) (l1 : n1 ≤ c1) (l2 : n2 ≤ c2) :
    SrcL w (some ⟨g, 0, none⟩) 2 [x1, x2] := by
  have e1 := h1.len
  have e2 := h2.len
  subst e1 e2
  refine ⟨rfl, fun i hi => ?_⟩
  match i, hi with
  | 0, _ => exact ⟨_, s1, c1, rfl, by rw [show (⟨g, 0, none⟩ : Addr).add 0 = ⟨g, 0, none⟩ from rfl, cell_blk h]; rfl, l1, h1⟩
  | 1, _ => exact ⟨_, s2, c2, rfl, by rw [show (⟨g, 0, none⟩ : Addr).add 1 = ⟨g, 1, none⟩ from rfl, cell_blk h]; rfl, l2, h2⟩
theorem part_take (xs : List Int) (n : Nat) : ((arr .u8 xs).toList.drop 0).take (xs.take n).length = (xs.take n).map (Value.int .u8) := by
  show ((xs.map (Value.int .u8)).drop 0).take _ = _
  rw [List.drop_zero, List.length_take, ← List.map_take]
  congr 1
  apply List.ext_getElem?
  intro i
  simp only [List.getElem?_take]
  by_cases h1 : i < xs.length
  · by_cases h2 : i < n
    · rw [if_pos (by omega), if_pos h2]
    · rw [if_neg (by omega), if_neg h2]
  · simp [List.getElem?_eq_none (Nat.not_lt.1 h1)]

end Go.Proofs.YtoljnogpegemjaaDoor.Sl
