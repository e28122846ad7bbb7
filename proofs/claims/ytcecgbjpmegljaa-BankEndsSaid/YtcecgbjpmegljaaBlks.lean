/- The first blocks of a call's own, told whole. No condition. -/
import Derived.Test.YtcecgbjpmegljaaLong
namespace Go.Proofs.Ytcecgbjpmegljaa
open Go.RowKit

theorem results_cell_tmp_row {P : Program} {fn : Func} {p u : Tmp} {ty : TypeId} (h : fn.results = #[.cell p ty, .tmp u]) (tmps : Array Value) (w : World) (g : Nat) (t : TypeId) (cs : Array Value) (fr : Nat × Nat) (d : TypeDesc) (v : Value)
    (hp : tmps.getD p undef = .pointer (some ⟨g, 0, none⟩)) (hg : w.heap[g]? = some (.cells cs t fr))
    (hu : P.underlying ty = some d) (hd : (match d with | .struct _ | .array _ _ => true | _ => false) = true) (hi : (P.info? ty).map (·.size) = some cs.size) (hv : tmps.getD u undef = v) :
    (results fn tmps).run P w = .ok (.tuple #[.agg cs, v]) w := by
  rw [results_cell_tmp h, hp, hv]
  simp only [asAddr, Sem.run_pure, Result.andThen_ok, run_loadVar_row w g t ty cs fr d hg hu hd hi]

theorem arr_part (k : IntKind) (xs : List Int) : ((arr k xs).toList.drop 0).take xs.length = xs.map (Value.int k) := by rw [List.drop_zero, arr_toList, List.take_of_length_le (by simp)]
theorem blk_arr' {w : World} {g : Nat} {k : IntKind} {xs : List Int} {t : TypeId} {fr : Nat × Nat} (h : w.heap[g]? = some (.cells (arr k xs) t fr)) (i : Nat) (hi : i < xs.length) : w.cell? ⟨g, i, none⟩ = some (.int k (xs.getD i 0)) := (cell_blk h i).trans (arr_get _ _ _ hi)
theorem arr_set (k : IntKind) (xs : List Int) (i : Nat) (x : Int) : (arr k xs).setIfInBounds i (.int k x) = arr k (xs.set i x) := by simp [arr, List.map_set]

/-- 2 blocks of the call's own. -/
structure B2 (w wr : World) (c0 c1 : Array Value) (t0 t1 : TypeId) : Prop where
  b0 : wr.heap[w.heap.size]? = some (.cells c0 t0 (0, 0))
  b1 : wr.heap[w.heap.size + 1]? = some (.cells c1 t1 (0, 0))
  below : Below w.heap.size w wr
theorem B2.start (w : World) (c0 c1 : Array Value) (t0 t1 : TypeId) : B2 w ((w.alloc (.cells c0 t0)).alloc (.cells c1 t1)) c0 c1 t0 t1 := by
  have e1 : ∀ o0 : Obj, (w.alloc o0).heap.size = w.heap.size + 1 := by simp
  refine ⟨?_, ?_, (((Below.refl _ w).alloc (by exact Nat.le_refl _) _).alloc (by rw [e1]; omega) _)⟩
  · exact blk_alloc (blk_new _ _) _
  · rw [← e1 (.cells c0 t0)]
    exact blk_new _ _
theorem B2.drewN {w wr : World} {c0 c1 : Array Value} {t0 t1 : TypeId} (h : B2 w wr c0 c1 t0 t1) (k : Nat) : B2 w (wr.drewN k) c0 c1 t0 t1 := ⟨h.b0, h.b1, Go.Proofs.Ytcecgbjpmegljaa.Below.drewN h.below k⟩
theorem B2.drew {w wr : World} {c0 c1 : Array Value} {t0 t1 : TypeId} (h : B2 w wr c0 c1 t0 t1) : B2 w wr.drew c0 c1 t0 t1 := ⟨h.b0, h.b1, ⟨h.below.os, h.below.tape, h.below.output, h.below.size, h.below.block⟩⟩
theorem B2.after {w wr w' : World} {c0 c1 : Array Value} {t0 t1 : TypeId} (h : B2 w wr c0 c1 t0 t1) (b : Below wr.heap.size wr w') : B2 w w' c0 c1 t0 t1 := ⟨Below.blk b h.b0 (blk_lt h.b0), Below.blk b h.b1 (blk_lt h.b1), h.below.trans (b.mono h.below.size)⟩
theorem B2.alloc {w wr : World} {c0 c1 : Array Value} {t0 t1 : TypeId} (h : B2 w wr c0 c1 t0 t1) (o : Obj) : B2 w (wr.alloc o) c0 c1 t0 t1 := h.after ((Below.refl _ wr).alloc (Nat.le_refl _) o)
theorem B2.set0 {w wr : World} {c0 c1 : Array Value} {t0 t1 : TypeId} (h : B2 w wr c0 c1 t0 t1) (i : Nat) (v : Value) : B2 w (wr.setCell ⟨w.heap.size, i, none⟩ v) (c0.setIfInBounds i v) c1 t0 t1 := ⟨blk_setCell h.b0 v, blk_setCell_ne h.b1 _ (by omega), h.below.setCell (p := ⟨w.heap.size, i, none⟩) (by simp) _⟩
theorem B2.put0 {w wr w' : World} {c0 c1 d : Array Value} {t0 t1 : TypeId} (h : B2 w wr c0 c1 t0 t1) (k : Kept (fun x => x = w.heap.size) wr w') (hd : w'.heap[w.heap.size]? = some (.cells d t0 (0, 0))) : B2 w w' d c1 t0 t1 := ⟨hd, k.blk h.b1 (by omega), h.below.trans (k.toBelow h.below.size (by rintro i rfl; omega))⟩
theorem B2.set1 {w wr : World} {c0 c1 : Array Value} {t0 t1 : TypeId} (h : B2 w wr c0 c1 t0 t1) (i : Nat) (v : Value) : B2 w (wr.setCell ⟨w.heap.size + 1, i, none⟩ v) c0 (c1.setIfInBounds i v) t0 t1 := ⟨blk_setCell_ne h.b0 _ (by omega), blk_setCell h.b1 v, h.below.setCell (p := ⟨w.heap.size + 1, i, none⟩) (by simp) _⟩
theorem B2.put1 {w wr w' : World} {c0 c1 d : Array Value} {t0 t1 : TypeId} (h : B2 w wr c0 c1 t0 t1) (k : Kept (fun x => x = w.heap.size + 1) wr w') (hd : w'.heap[w.heap.size + 1]? = some (.cells d t1 (0, 0))) : B2 w w' c0 d t0 t1 := ⟨k.blk h.b0 (by omega), hd, h.below.trans (k.toBelow h.below.size (by rintro i rfl; omega))⟩
theorem B2.far {w wr : World} {c0 c1 : Array Value} {t0 t1 : TypeId} (h : B2 w wr c0 c1 t0 t1) (g i : Nat) (v : Value) (hg : w.heap.size + 1 < g) : B2 w (wr.setCell ⟨g, i, none⟩ v) c0 c1 t0 t1 := ⟨blk_setCell_ne h.b0 _ (by omega), blk_setCell_ne h.b1 _ (by omega), h.below.setCell (p := ⟨g, i, none⟩) (by simp; omega) _⟩
theorem B2.farK {w wr w' : World} {c0 c1 : Array Value} {t0 t1 : TypeId} {T : Nat → Prop} (h : B2 w wr c0 c1 t0 t1) (k : Kept T wr w') (hT : ∀ i, T i → w.heap.size + 1 < i) : B2 w w' c0 c1 t0 t1 := ⟨k.blk h.b0 (fun e => by have := hT _ e; omega), k.blk h.b1 (fun e => by have := hT _ e; omega), h.below.trans (k.toBelow h.below.size (fun i hi => by have := hT i hi; omega))⟩

/-- 3 blocks of the call's own. -/
structure B3 (w wr : World) (c0 c1 c2 : Array Value) (t0 t1 t2 : TypeId) : Prop where
  b0 : wr.heap[w.heap.size]? = some (.cells c0 t0 (0, 0))
  b1 : wr.heap[w.heap.size + 1]? = some (.cells c1 t1 (0, 0))
  b2 : wr.heap[w.heap.size + 1 + 1]? = some (.cells c2 t2 (0, 0))
  below : Below w.heap.size w wr
theorem B3.start (w : World) (c0 c1 c2 : Array Value) (t0 t1 t2 : TypeId) : B3 w (((w.alloc (.cells c0 t0)).alloc (.cells c1 t1)).alloc (.cells c2 t2)) c0 c1 c2 t0 t1 t2 := by
  have e1 : ∀ o0 : Obj, (w.alloc o0).heap.size = w.heap.size + 1 := by simp
  have e2 : ∀ o0 o1 : Obj, ((w.alloc o0).alloc o1).heap.size = w.heap.size + 1 + 1 := by simp
  refine ⟨?_, ?_, ?_, ((((Below.refl _ w).alloc (by exact Nat.le_refl _) _).alloc (by rw [e1]; omega) _).alloc (by rw [e2]; omega) _)⟩
  · exact blk_alloc (blk_alloc (blk_new _ _) _) _
  · rw [← e1 (.cells c0 t0)]
    exact blk_alloc (blk_new _ _) _
  · rw [← e2 (.cells c0 t0) (.cells c1 t1)]
    exact blk_new _ _
theorem B3.drewN {w wr : World} {c0 c1 c2 : Array Value} {t0 t1 t2 : TypeId} (h : B3 w wr c0 c1 c2 t0 t1 t2) (k : Nat) : B3 w (wr.drewN k) c0 c1 c2 t0 t1 t2 := ⟨h.b0, h.b1, h.b2, Go.Proofs.Ytcecgbjpmegljaa.Below.drewN h.below k⟩
theorem B3.drew {w wr : World} {c0 c1 c2 : Array Value} {t0 t1 t2 : TypeId} (h : B3 w wr c0 c1 c2 t0 t1 t2) : B3 w wr.drew c0 c1 c2 t0 t1 t2 := ⟨h.b0, h.b1, h.b2, ⟨h.below.os, h.below.tape, h.below.output, h.below.size, h.below.block⟩⟩
theorem B3.after {w wr w' : World} {c0 c1 c2 : Array Value} {t0 t1 t2 : TypeId} (h : B3 w wr c0 c1 c2 t0 t1 t2) (b : Below wr.heap.size wr w') : B3 w w' c0 c1 c2 t0 t1 t2 := ⟨Below.blk b h.b0 (blk_lt h.b0), Below.blk b h.b1 (blk_lt h.b1), Below.blk b h.b2 (blk_lt h.b2), h.below.trans (b.mono h.below.size)⟩
theorem B3.alloc {w wr : World} {c0 c1 c2 : Array Value} {t0 t1 t2 : TypeId} (h : B3 w wr c0 c1 c2 t0 t1 t2) (o : Obj) : B3 w (wr.alloc o) c0 c1 c2 t0 t1 t2 := h.after ((Below.refl _ wr).alloc (Nat.le_refl _) o)
theorem B3.set0 {w wr : World} {c0 c1 c2 : Array Value} {t0 t1 t2 : TypeId} (h : B3 w wr c0 c1 c2 t0 t1 t2) (i : Nat) (v : Value) : B3 w (wr.setCell ⟨w.heap.size, i, none⟩ v) (c0.setIfInBounds i v) c1 c2 t0 t1 t2 := ⟨blk_setCell h.b0 v, blk_setCell_ne h.b1 _ (by omega), blk_setCell_ne h.b2 _ (by omega), h.below.setCell (p := ⟨w.heap.size, i, none⟩) (by simp) _⟩
theorem B3.put0 {w wr w' : World} {c0 c1 c2 d : Array Value} {t0 t1 t2 : TypeId} (h : B3 w wr c0 c1 c2 t0 t1 t2) (k : Kept (fun x => x = w.heap.size) wr w') (hd : w'.heap[w.heap.size]? = some (.cells d t0 (0, 0))) : B3 w w' d c1 c2 t0 t1 t2 := ⟨hd, k.blk h.b1 (by omega), k.blk h.b2 (by omega), h.below.trans (k.toBelow h.below.size (by rintro i rfl; omega))⟩
theorem B3.set1 {w wr : World} {c0 c1 c2 : Array Value} {t0 t1 t2 : TypeId} (h : B3 w wr c0 c1 c2 t0 t1 t2) (i : Nat) (v : Value) : B3 w (wr.setCell ⟨w.heap.size + 1, i, none⟩ v) c0 (c1.setIfInBounds i v) c2 t0 t1 t2 := ⟨blk_setCell_ne h.b0 _ (by omega), blk_setCell h.b1 v, blk_setCell_ne h.b2 _ (by omega), h.below.setCell (p := ⟨w.heap.size + 1, i, none⟩) (by simp) _⟩
theorem B3.put1 {w wr w' : World} {c0 c1 c2 d : Array Value} {t0 t1 t2 : TypeId} (h : B3 w wr c0 c1 c2 t0 t1 t2) (k : Kept (fun x => x = w.heap.size + 1) wr w') (hd : w'.heap[w.heap.size + 1]? = some (.cells d t1 (0, 0))) : B3 w w' c0 d c2 t0 t1 t2 := ⟨k.blk h.b0 (by omega), hd, k.blk h.b2 (by omega), h.below.trans (k.toBelow h.below.size (by rintro i rfl; omega))⟩
theorem B3.set2 {w wr : World} {c0 c1 c2 : Array Value} {t0 t1 t2 : TypeId} (h : B3 w wr c0 c1 c2 t0 t1 t2) (i : Nat) (v : Value) : B3 w (wr.setCell ⟨w.heap.size + 1 + 1, i, none⟩ v) c0 c1 (c2.setIfInBounds i v) t0 t1 t2 := ⟨blk_setCell_ne h.b0 _ (by omega), blk_setCell_ne h.b1 _ (by omega), blk_setCell h.b2 v, h.below.setCell (p := ⟨w.heap.size + 1 + 1, i, none⟩) (by simp; omega) _⟩
theorem B3.put2 {w wr w' : World} {c0 c1 c2 d : Array Value} {t0 t1 t2 : TypeId} (h : B3 w wr c0 c1 c2 t0 t1 t2) (k : Kept (fun x => x = w.heap.size + 1 + 1) wr w') (hd : w'.heap[w.heap.size + 1 + 1]? = some (.cells d t2 (0, 0))) : B3 w w' c0 c1 d t0 t1 t2 := ⟨k.blk h.b0 (by omega), k.blk h.b1 (by omega), hd, h.below.trans (k.toBelow h.below.size (by rintro i rfl; omega))⟩
theorem B3.far {w wr : World} {c0 c1 c2 : Array Value} {t0 t1 t2 : TypeId} (h : B3 w wr c0 c1 c2 t0 t1 t2) (g i : Nat) (v : Value) (hg : w.heap.size + 1 + 1 < g) : B3 w (wr.setCell ⟨g, i, none⟩ v) c0 c1 c2 t0 t1 t2 := ⟨blk_setCell_ne h.b0 _ (by omega), blk_setCell_ne h.b1 _ (by omega), blk_setCell_ne h.b2 _ (by omega), h.below.setCell (p := ⟨g, i, none⟩) (by simp; omega) _⟩
theorem B3.farK {w wr w' : World} {c0 c1 c2 : Array Value} {t0 t1 t2 : TypeId} {T : Nat → Prop} (h : B3 w wr c0 c1 c2 t0 t1 t2) (k : Kept T wr w') (hT : ∀ i, T i → w.heap.size + 1 + 1 < i) : B3 w w' c0 c1 c2 t0 t1 t2 := ⟨k.blk h.b0 (fun e => by have := hT _ e; omega), k.blk h.b1 (fun e => by have := hT _ e; omega), k.blk h.b2 (fun e => by have := hT _ e; omega), h.below.trans (k.toBelow h.below.size (fun i hi => by have := hT i hi; omega))⟩

/-- 4 blocks of the call's own. -/
structure B4 (w wr : World) (c0 c1 c2 c3 : Array Value) (t0 t1 t2 t3 : TypeId) : Prop where
  b0 : wr.heap[w.heap.size]? = some (.cells c0 t0 (0, 0))
  b1 : wr.heap[w.heap.size + 1]? = some (.cells c1 t1 (0, 0))
  b2 : wr.heap[w.heap.size + 1 + 1]? = some (.cells c2 t2 (0, 0))
  b3 : wr.heap[w.heap.size + 1 + 1 + 1]? = some (.cells c3 t3 (0, 0))
  below : Below w.heap.size w wr
theorem B4.start (w : World) (c0 c1 c2 c3 : Array Value) (t0 t1 t2 t3 : TypeId) : B4 w ((((w.alloc (.cells c0 t0)).alloc (.cells c1 t1)).alloc (.cells c2 t2)).alloc (.cells c3 t3)) c0 c1 c2 c3 t0 t1 t2 t3 := by
  have e1 : ∀ o0 : Obj, (w.alloc o0).heap.size = w.heap.size + 1 := by simp
  have e2 : ∀ o0 o1 : Obj, ((w.alloc o0).alloc o1).heap.size = w.heap.size + 1 + 1 := by simp
  have e3 : ∀ o0 o1 o2 : Obj, (((w.alloc o0).alloc o1).alloc o2).heap.size = w.heap.size + 1 + 1 + 1 := by simp
  refine ⟨?_, ?_, ?_, ?_, (((((Below.refl _ w).alloc (by exact Nat.le_refl _) _).alloc (by rw [e1]; omega) _).alloc (by rw [e2]; omega) _).alloc (by rw [e3]; omega) _)⟩
  · exact blk_alloc (blk_alloc (blk_alloc (blk_new _ _) _) _) _
  · rw [← e1 (.cells c0 t0)]
    exact blk_alloc (blk_alloc (blk_new _ _) _) _
  · rw [← e2 (.cells c0 t0) (.cells c1 t1)]
    exact blk_alloc (blk_new _ _) _
  · rw [← e3 (.cells c0 t0) (.cells c1 t1) (.cells c2 t2)]
    exact blk_new _ _
theorem B4.drewN {w wr : World} {c0 c1 c2 c3 : Array Value} {t0 t1 t2 t3 : TypeId} (h : B4 w wr c0 c1 c2 c3 t0 t1 t2 t3) (k : Nat) : B4 w (wr.drewN k) c0 c1 c2 c3 t0 t1 t2 t3 := ⟨h.b0, h.b1, h.b2, h.b3, Go.Proofs.Ytcecgbjpmegljaa.Below.drewN h.below k⟩
theorem B4.drew {w wr : World} {c0 c1 c2 c3 : Array Value} {t0 t1 t2 t3 : TypeId} (h : B4 w wr c0 c1 c2 c3 t0 t1 t2 t3) : B4 w wr.drew c0 c1 c2 c3 t0 t1 t2 t3 := ⟨h.b0, h.b1, h.b2, h.b3, ⟨h.below.os, h.below.tape, h.below.output, h.below.size, h.below.block⟩⟩
theorem B4.after {w wr w' : World} {c0 c1 c2 c3 : Array Value} {t0 t1 t2 t3 : TypeId} (h : B4 w wr c0 c1 c2 c3 t0 t1 t2 t3) (b : Below wr.heap.size wr w') : B4 w w' c0 c1 c2 c3 t0 t1 t2 t3 := ⟨Below.blk b h.b0 (blk_lt h.b0), Below.blk b h.b1 (blk_lt h.b1), Below.blk b h.b2 (blk_lt h.b2), Below.blk b h.b3 (blk_lt h.b3), h.below.trans (b.mono h.below.size)⟩
theorem B4.alloc {w wr : World} {c0 c1 c2 c3 : Array Value} {t0 t1 t2 t3 : TypeId} (h : B4 w wr c0 c1 c2 c3 t0 t1 t2 t3) (o : Obj) : B4 w (wr.alloc o) c0 c1 c2 c3 t0 t1 t2 t3 := h.after ((Below.refl _ wr).alloc (Nat.le_refl _) o)
theorem B4.set0 {w wr : World} {c0 c1 c2 c3 : Array Value} {t0 t1 t2 t3 : TypeId} (h : B4 w wr c0 c1 c2 c3 t0 t1 t2 t3) (i : Nat) (v : Value) : B4 w (wr.setCell ⟨w.heap.size, i, none⟩ v) (c0.setIfInBounds i v) c1 c2 c3 t0 t1 t2 t3 := ⟨blk_setCell h.b0 v, blk_setCell_ne h.b1 _ (by omega), blk_setCell_ne h.b2 _ (by omega), blk_setCell_ne h.b3 _ (by omega), h.below.setCell (p := ⟨w.heap.size, i, none⟩) (by simp) _⟩
theorem B4.put0 {w wr w' : World} {c0 c1 c2 c3 d : Array Value} {t0 t1 t2 t3 : TypeId} (h : B4 w wr c0 c1 c2 c3 t0 t1 t2 t3) (k : Kept (fun x => x = w.heap.size) wr w') (hd : w'.heap[w.heap.size]? = some (.cells d t0 (0, 0))) : B4 w w' d c1 c2 c3 t0 t1 t2 t3 := ⟨hd, k.blk h.b1 (by omega), k.blk h.b2 (by omega), k.blk h.b3 (by omega), h.below.trans (k.toBelow h.below.size (by rintro i rfl; omega))⟩
theorem B4.set1 {w wr : World} {c0 c1 c2 c3 : Array Value} {t0 t1 t2 t3 : TypeId} (h : B4 w wr c0 c1 c2 c3 t0 t1 t2 t3) (i : Nat) (v : Value) : B4 w (wr.setCell ⟨w.heap.size + 1, i, none⟩ v) c0 (c1.setIfInBounds i v) c2 c3 t0 t1 t2 t3 := ⟨blk_setCell_ne h.b0 _ (by omega), blk_setCell h.b1 v, blk_setCell_ne h.b2 _ (by omega), blk_setCell_ne h.b3 _ (by omega), h.below.setCell (p := ⟨w.heap.size + 1, i, none⟩) (by simp) _⟩
theorem B4.put1 {w wr w' : World} {c0 c1 c2 c3 d : Array Value} {t0 t1 t2 t3 : TypeId} (h : B4 w wr c0 c1 c2 c3 t0 t1 t2 t3) (k : Kept (fun x => x = w.heap.size + 1) wr w') (hd : w'.heap[w.heap.size + 1]? = some (.cells d t1 (0, 0))) : B4 w w' c0 d c2 c3 t0 t1 t2 t3 := ⟨k.blk h.b0 (by omega), hd, k.blk h.b2 (by omega), k.blk h.b3 (by omega), h.below.trans (k.toBelow h.below.size (by rintro i rfl; omega))⟩
theorem B4.set2 {w wr : World} {c0 c1 c2 c3 : Array Value} {t0 t1 t2 t3 : TypeId} (h : B4 w wr c0 c1 c2 c3 t0 t1 t2 t3) (i : Nat) (v : Value) : B4 w (wr.setCell ⟨w.heap.size + 1 + 1, i, none⟩ v) c0 c1 (c2.setIfInBounds i v) c3 t0 t1 t2 t3 := ⟨blk_setCell_ne h.b0 _ (by omega), blk_setCell_ne h.b1 _ (by omega), blk_setCell h.b2 v, blk_setCell_ne h.b3 _ (by omega), h.below.setCell (p := ⟨w.heap.size + 1 + 1, i, none⟩) (by simp; omega) _⟩
theorem B4.put2 {w wr w' : World} {c0 c1 c2 c3 d : Array Value} {t0 t1 t2 t3 : TypeId} (h : B4 w wr c0 c1 c2 c3 t0 t1 t2 t3) (k : Kept (fun x => x = w.heap.size + 1 + 1) wr w') (hd : w'.heap[w.heap.size + 1 + 1]? = some (.cells d t2 (0, 0))) : B4 w w' c0 c1 d c3 t0 t1 t2 t3 := ⟨k.blk h.b0 (by omega), k.blk h.b1 (by omega), hd, k.blk h.b3 (by omega), h.below.trans (k.toBelow h.below.size (by rintro i rfl; omega))⟩
theorem B4.set3 {w wr : World} {c0 c1 c2 c3 : Array Value} {t0 t1 t2 t3 : TypeId} (h : B4 w wr c0 c1 c2 c3 t0 t1 t2 t3) (i : Nat) (v : Value) : B4 w (wr.setCell ⟨w.heap.size + 1 + 1 + 1, i, none⟩ v) c0 c1 c2 (c3.setIfInBounds i v) t0 t1 t2 t3 := ⟨blk_setCell_ne h.b0 _ (by omega), blk_setCell_ne h.b1 _ (by omega), blk_setCell_ne h.b2 _ (by omega), blk_setCell h.b3 v, h.below.setCell (p := ⟨w.heap.size + 1 + 1 + 1, i, none⟩) (by simp; omega) _⟩
theorem B4.put3 {w wr w' : World} {c0 c1 c2 c3 d : Array Value} {t0 t1 t2 t3 : TypeId} (h : B4 w wr c0 c1 c2 c3 t0 t1 t2 t3) (k : Kept (fun x => x = w.heap.size + 1 + 1 + 1) wr w') (hd : w'.heap[w.heap.size + 1 + 1 + 1]? = some (.cells d t3 (0, 0))) : B4 w w' c0 c1 c2 d t0 t1 t2 t3 := ⟨k.blk h.b0 (by omega), k.blk h.b1 (by omega), k.blk h.b2 (by omega), hd, h.below.trans (k.toBelow h.below.size (by rintro i rfl; omega))⟩
theorem B4.far {w wr : World} {c0 c1 c2 c3 : Array Value} {t0 t1 t2 t3 : TypeId} (h : B4 w wr c0 c1 c2 c3 t0 t1 t2 t3) (g i : Nat) (v : Value) (hg : w.heap.size + 1 + 1 + 1 < g) : B4 w (wr.setCell ⟨g, i, none⟩ v) c0 c1 c2 c3 t0 t1 t2 t3 := ⟨blk_setCell_ne h.b0 _ (by omega), blk_setCell_ne h.b1 _ (by omega), blk_setCell_ne h.b2 _ (by omega), blk_setCell_ne h.b3 _ (by omega), h.below.setCell (p := ⟨g, i, none⟩) (by simp; omega) _⟩
theorem B4.farK {w wr w' : World} {c0 c1 c2 c3 : Array Value} {t0 t1 t2 t3 : TypeId} {T : Nat → Prop} (h : B4 w wr c0 c1 c2 c3 t0 t1 t2 t3) (k : Kept T wr w') (hT : ∀ i, T i → w.heap.size + 1 + 1 + 1 < i) : B4 w w' c0 c1 c2 c3 t0 t1 t2 t3 := ⟨k.blk h.b0 (fun e => by have := hT _ e; omega), k.blk h.b1 (fun e => by have := hT _ e; omega), k.blk h.b2 (fun e => by have := hT _ e; omega), k.blk h.b3 (fun e => by have := hT _ e; omega), h.below.trans (k.toBelow h.below.size (fun i hi => by have := hT i hi; omega))⟩

/-- 5 blocks of the call's own. -/
structure B5 (w wr : World) (c0 c1 c2 c3 c4 : Array Value) (t0 t1 t2 t3 t4 : TypeId) : Prop where
  b0 : wr.heap[w.heap.size]? = some (.cells c0 t0 (0, 0))
  b1 : wr.heap[w.heap.size + 1]? = some (.cells c1 t1 (0, 0))
  b2 : wr.heap[w.heap.size + 1 + 1]? = some (.cells c2 t2 (0, 0))
  b3 : wr.heap[w.heap.size + 1 + 1 + 1]? = some (.cells c3 t3 (0, 0))
  b4 : wr.heap[w.heap.size + 1 + 1 + 1 + 1]? = some (.cells c4 t4 (0, 0))
  below : Below w.heap.size w wr
theorem B5.start (w : World) (c0 c1 c2 c3 c4 : Array Value) (t0 t1 t2 t3 t4 : TypeId) : B5 w (((((w.alloc (.cells c0 t0)).alloc (.cells c1 t1)).alloc (.cells c2 t2)).alloc (.cells c3 t3)).alloc (.cells c4 t4)) c0 c1 c2 c3 c4 t0 t1 t2 t3 t4 := by
  have e1 : ∀ o0 : Obj, (w.alloc o0).heap.size = w.heap.size + 1 := by simp
  have e2 : ∀ o0 o1 : Obj, ((w.alloc o0).alloc o1).heap.size = w.heap.size + 1 + 1 := by simp
  have e3 : ∀ o0 o1 o2 : Obj, (((w.alloc o0).alloc o1).alloc o2).heap.size = w.heap.size + 1 + 1 + 1 := by simp
  have e4 : ∀ o0 o1 o2 o3 : Obj, ((((w.alloc o0).alloc o1).alloc o2).alloc o3).heap.size = w.heap.size + 1 + 1 + 1 + 1 := by simp
  refine ⟨?_, ?_, ?_, ?_, ?_, ((((((Below.refl _ w).alloc (by exact Nat.le_refl _) _).alloc (by rw [e1]; omega) _).alloc (by rw [e2]; omega) _).alloc (by rw [e3]; omega) _).alloc (by rw [e4]; omega) _)⟩
  · exact blk_alloc (blk_alloc (blk_alloc (blk_alloc (blk_new _ _) _) _) _) _
  · rw [← e1 (.cells c0 t0)]
    exact blk_alloc (blk_alloc (blk_alloc (blk_new _ _) _) _) _
  · rw [← e2 (.cells c0 t0) (.cells c1 t1)]
    exact blk_alloc (blk_alloc (blk_new _ _) _) _
  · rw [← e3 (.cells c0 t0) (.cells c1 t1) (.cells c2 t2)]
    exact blk_alloc (blk_new _ _) _
  · rw [← e4 (.cells c0 t0) (.cells c1 t1) (.cells c2 t2) (.cells c3 t3)]
    exact blk_new _ _
theorem B5.drewN {w wr : World} {c0 c1 c2 c3 c4 : Array Value} {t0 t1 t2 t3 t4 : TypeId} (h : B5 w wr c0 c1 c2 c3 c4 t0 t1 t2 t3 t4) (k : Nat) : B5 w (wr.drewN k) c0 c1 c2 c3 c4 t0 t1 t2 t3 t4 := ⟨h.b0, h.b1, h.b2, h.b3, h.b4, Go.Proofs.Ytcecgbjpmegljaa.Below.drewN h.below k⟩
theorem B5.drew {w wr : World} {c0 c1 c2 c3 c4 : Array Value} {t0 t1 t2 t3 t4 : TypeId} (h : B5 w wr c0 c1 c2 c3 c4 t0 t1 t2 t3 t4) : B5 w wr.drew c0 c1 c2 c3 c4 t0 t1 t2 t3 t4 := ⟨h.b0, h.b1, h.b2, h.b3, h.b4, ⟨h.below.os, h.below.tape, h.below.output, h.below.size, h.below.block⟩⟩
theorem B5.after {w wr w' : World} {c0 c1 c2 c3 c4 : Array Value} {t0 t1 t2 t3 t4 : TypeId} (h : B5 w wr c0 c1 c2 c3 c4 t0 t1 t2 t3 t4) (b : Below wr.heap.size wr w') : B5 w w' c0 c1 c2 c3 c4 t0 t1 t2 t3 t4 := ⟨Below.blk b h.b0 (blk_lt h.b0), Below.blk b h.b1 (blk_lt h.b1), Below.blk b h.b2 (blk_lt h.b2), Below.blk b h.b3 (blk_lt h.b3), Below.blk b h.b4 (blk_lt h.b4), h.below.trans (b.mono h.below.size)⟩
theorem B5.alloc {w wr : World} {c0 c1 c2 c3 c4 : Array Value} {t0 t1 t2 t3 t4 : TypeId} (h : B5 w wr c0 c1 c2 c3 c4 t0 t1 t2 t3 t4) (o : Obj) : B5 w (wr.alloc o) c0 c1 c2 c3 c4 t0 t1 t2 t3 t4 := h.after ((Below.refl _ wr).alloc (Nat.le_refl _) o)
theorem B5.set0 {w wr : World} {c0 c1 c2 c3 c4 : Array Value} {t0 t1 t2 t3 t4 : TypeId} (h : B5 w wr c0 c1 c2 c3 c4 t0 t1 t2 t3 t4) (i : Nat) (v : Value) : B5 w (wr.setCell ⟨w.heap.size, i, none⟩ v) (c0.setIfInBounds i v) c1 c2 c3 c4 t0 t1 t2 t3 t4 := ⟨blk_setCell h.b0 v, blk_setCell_ne h.b1 _ (by omega), blk_setCell_ne h.b2 _ (by omega), blk_setCell_ne h.b3 _ (by omega), blk_setCell_ne h.b4 _ (by omega), h.below.setCell (p := ⟨w.heap.size, i, none⟩) (by simp) _⟩
theorem B5.put0 {w wr w' : World} {c0 c1 c2 c3 c4 d : Array Value} {t0 t1 t2 t3 t4 : TypeId} (h : B5 w wr c0 c1 c2 c3 c4 t0 t1 t2 t3 t4) (k : Kept (fun x => x = w.heap.size) wr w') (hd : w'.heap[w.heap.size]? = some (.cells d t0 (0, 0))) : B5 w w' d c1 c2 c3 c4 t0 t1 t2 t3 t4 := ⟨hd, k.blk h.b1 (by omega), k.blk h.b2 (by omega), k.blk h.b3 (by omega), k.blk h.b4 (by omega), h.below.trans (k.toBelow h.below.size (by rintro i rfl; omega))⟩
theorem B5.set1 {w wr : World} {c0 c1 c2 c3 c4 : Array Value} {t0 t1 t2 t3 t4 : TypeId} (h : B5 w wr c0 c1 c2 c3 c4 t0 t1 t2 t3 t4) (i : Nat) (v : Value) : B5 w (wr.setCell ⟨w.heap.size + 1, i, none⟩ v) c0 (c1.setIfInBounds i v) c2 c3 c4 t0 t1 t2 t3 t4 := ⟨blk_setCell_ne h.b0 _ (by omega), blk_setCell h.b1 v, blk_setCell_ne h.b2 _ (by omega), blk_setCell_ne h.b3 _ (by omega), blk_setCell_ne h.b4 _ (by omega), h.below.setCell (p := ⟨w.heap.size + 1, i, none⟩) (by simp) _⟩
theorem B5.put1 {w wr w' : World} {c0 c1 c2 c3 c4 d : Array Value} {t0 t1 t2 t3 t4 : TypeId} (h : B5 w wr c0 c1 c2 c3 c4 t0 t1 t2 t3 t4) (k : Kept (fun x => x = w.heap.size + 1) wr w') (hd : w'.heap[w.heap.size + 1]? = some (.cells d t1 (0, 0))) : B5 w w' c0 d c2 c3 c4 t0 t1 t2 t3 t4 := ⟨k.blk h.b0 (by omega), hd, k.blk h.b2 (by omega), k.blk h.b3 (by omega), k.blk h.b4 (by omega), h.below.trans (k.toBelow h.below.size (by rintro i rfl; omega))⟩
theorem B5.set2 {w wr : World} {c0 c1 c2 c3 c4 : Array Value} {t0 t1 t2 t3 t4 : TypeId} (h : B5 w wr c0 c1 c2 c3 c4 t0 t1 t2 t3 t4) (i : Nat) (v : Value) : B5 w (wr.setCell ⟨w.heap.size + 1 + 1, i, none⟩ v) c0 c1 (c2.setIfInBounds i v) c3 c4 t0 t1 t2 t3 t4 := ⟨blk_setCell_ne h.b0 _ (by omega), blk_setCell_ne h.b1 _ (by omega), blk_setCell h.b2 v, blk_setCell_ne h.b3 _ (by omega), blk_setCell_ne h.b4 _ (by omega), h.below.setCell (p := ⟨w.heap.size + 1 + 1, i, none⟩) (by simp; omega) _⟩
theorem B5.put2 {w wr w' : World} {c0 c1 c2 c3 c4 d : Array Value} {t0 t1 t2 t3 t4 : TypeId} (h : B5 w wr c0 c1 c2 c3 c4 t0 t1 t2 t3 t4) (k : Kept (fun x => x = w.heap.size + 1 + 1) wr w') (hd : w'.heap[w.heap.size + 1 + 1]? = some (.cells d t2 (0, 0))) : B5 w w' c0 c1 d c3 c4 t0 t1 t2 t3 t4 := ⟨k.blk h.b0 (by omega), k.blk h.b1 (by omega), hd, k.blk h.b3 (by omega), k.blk h.b4 (by omega), h.below.trans (k.toBelow h.below.size (by rintro i rfl; omega))⟩
theorem B5.set3 {w wr : World} {c0 c1 c2 c3 c4 : Array Value} {t0 t1 t2 t3 t4 : TypeId} (h : B5 w wr c0 c1 c2 c3 c4 t0 t1 t2 t3 t4) (i : Nat) (v : Value) : B5 w (wr.setCell ⟨w.heap.size + 1 + 1 + 1, i, none⟩ v) c0 c1 c2 (c3.setIfInBounds i v) c4 t0 t1 t2 t3 t4 := ⟨blk_setCell_ne h.b0 _ (by omega), blk_setCell_ne h.b1 _ (by omega), blk_setCell_ne h.b2 _ (by omega), blk_setCell h.b3 v, blk_setCell_ne h.b4 _ (by omega), h.below.setCell (p := ⟨w.heap.size + 1 + 1 + 1, i, none⟩) (by simp; omega) _⟩
theorem B5.put3 {w wr w' : World} {c0 c1 c2 c3 c4 d : Array Value} {t0 t1 t2 t3 t4 : TypeId} (h : B5 w wr c0 c1 c2 c3 c4 t0 t1 t2 t3 t4) (k : Kept (fun x => x = w.heap.size + 1 + 1 + 1) wr w') (hd : w'.heap[w.heap.size + 1 + 1 + 1]? = some (.cells d t3 (0, 0))) : B5 w w' c0 c1 c2 d c4 t0 t1 t2 t3 t4 := ⟨k.blk h.b0 (by omega), k.blk h.b1 (by omega), k.blk h.b2 (by omega), hd, k.blk h.b4 (by omega), h.below.trans (k.toBelow h.below.size (by rintro i rfl; omega))⟩
theorem B5.set4 {w wr : World} {c0 c1 c2 c3 c4 : Array Value} {t0 t1 t2 t3 t4 : TypeId} (h : B5 w wr c0 c1 c2 c3 c4 t0 t1 t2 t3 t4) (i : Nat) (v : Value) : B5 w (wr.setCell ⟨w.heap.size + 1 + 1 + 1 + 1, i, none⟩ v) c0 c1 c2 c3 (c4.setIfInBounds i v) t0 t1 t2 t3 t4 := ⟨blk_setCell_ne h.b0 _ (by omega), blk_setCell_ne h.b1 _ (by omega), blk_setCell_ne h.b2 _ (by omega), blk_setCell_ne h.b3 _ (by omega), blk_setCell h.b4 v, h.below.setCell (p := ⟨w.heap.size + 1 + 1 + 1 + 1, i, none⟩) (by simp; omega) _⟩
theorem B5.put4 {w wr w' : World} {c0 c1 c2 c3 c4 d : Array Value} {t0 t1 t2 t3 t4 : TypeId} (h : B5 w wr c0 c1 c2 c3 c4 t0 t1 t2 t3 t4) (k : Kept (fun x => x = w.heap.size + 1 + 1 + 1 + 1) wr w') (hd : w'.heap[w.heap.size + 1 + 1 + 1 + 1]? = some (.cells d t4 (0, 0))) : B5 w w' c0 c1 c2 c3 d t0 t1 t2 t3 t4 := ⟨k.blk h.b0 (by omega), k.blk h.b1 (by omega), k.blk h.b2 (by omega), k.blk h.b3 (by omega), hd, h.below.trans (k.toBelow h.below.size (by rintro i rfl; omega))⟩
theorem B5.far {w wr : World} {c0 c1 c2 c3 c4 : Array Value} {t0 t1 t2 t3 t4 : TypeId} (h : B5 w wr c0 c1 c2 c3 c4 t0 t1 t2 t3 t4) (g i : Nat) (v : Value) (hg : w.heap.size + 1 + 1 + 1 + 1 < g) : B5 w (wr.setCell ⟨g, i, none⟩ v) c0 c1 c2 c3 c4 t0 t1 t2 t3 t4 := ⟨blk_setCell_ne h.b0 _ (by omega), blk_setCell_ne h.b1 _ (by omega), blk_setCell_ne h.b2 _ (by omega), blk_setCell_ne h.b3 _ (by omega), blk_setCell_ne h.b4 _ (by omega), h.below.setCell (p := ⟨g, i, none⟩) (by simp; omega) _⟩
theorem B5.farK {w wr w' : World} {c0 c1 c2 c3 c4 : Array Value} {t0 t1 t2 t3 t4 : TypeId} {T : Nat → Prop} (h : B5 w wr c0 c1 c2 c3 c4 t0 t1 t2 t3 t4) (k : Kept T wr w') (hT : ∀ i, T i → w.heap.size + 1 + 1 + 1 + 1 < i) : B5 w w' c0 c1 c2 c3 c4 t0 t1 t2 t3 t4 := ⟨k.blk h.b0 (fun e => by have := hT _ e; omega), k.blk h.b1 (fun e => by have := hT _ e; omega), k.blk h.b2 (fun e => by have := hT _ e; omega), k.blk h.b3 (fun e => by have := hT _ e; omega), k.blk h.b4 (fun e => by have := hT _ e; omega), h.below.trans (k.toBelow h.below.size (fun i hi => by have := hT i hi; omega))⟩

end Go.Proofs.Ytcecgbjpmegljaa
