/- A list of blocks of the call's own, told whole. Over any program; no condition. -/
import Derived.Test.YtcecgbjpmegljaaBlks
import Derived.Test.YtcecgbjpmegljaaHeld
namespace Go.Proofs.Ytcecgbjpmegljaa
open Go.RowKit

/-- The blocks of l are the call's own (it began at w), none of them stands twice. -/
structure Blk (w wr : World) (l : List (Nat × Array Value × TypeId)) : Prop where
  mem : ∀ (i g : Nat) (c : Array Value) (t : TypeId), l[i]? = some (g, c, t) → wr.heap[g]? = some (.cells c t (0, 0)) ∧ w.heap.size ≤ g
  inj : ∀ (i j : Nat) (g : Nat) (c : Array Value) (t : TypeId) (c' : Array Value) (t' : TypeId), l[i]? = some (g, c, t) → l[j]? = some (g, c', t') → i = j
  below : Below w.heap.size w wr
theorem Blk.nil (w : World) : Blk w w [] := ⟨fun _ _ _ _ h => by simp at h, fun _ _ _ _ _ _ _ h => by simp at h, Below.refl _ w⟩
theorem Blk.get {w wr : World} {l : List (Nat × Array Value × TypeId)} (h : Blk w wr l) (i : Nat) {g : Nat} {c : Array Value} {t : TypeId} (hi : l[i]? = some (g, c, t)) : wr.heap[g]? = some (.cells c t (0, 0)) := (h.mem i g c t hi).1
theorem Blk.low {w wr : World} {l : List (Nat × Array Value × TypeId)} (h : Blk w wr l) (i : Nat) {g : Nat} {c : Array Value} {t : TypeId} (hi : l[i]? = some (g, c, t)) : w.heap.size ≤ g := (h.mem i g c t hi).2
theorem Blk.lt {w wr : World} {l : List (Nat × Array Value × TypeId)} (h : Blk w wr l) (i : Nat) {g : Nat} {c : Array Value} {t : TypeId} (hi : l[i]? = some (g, c, t)) : g < wr.heap.size := blk_lt (h.get i hi)
theorem Blk.kept {w wr w' : World} {l : List (Nat × Array Value × TypeId)} (h : Blk w wr l) (b : Below wr.heap.size wr w') : Blk w w' l :=
  ⟨fun i _ _ _ hi => ⟨Below.blk b (h.get i hi) (h.lt i hi), h.low i hi⟩, h.inj, h.below.trans (b.mono h.below.size)⟩
theorem Blk.drew {w wr : World} {l : List (Nat × Array Value × TypeId)} (h : Blk w wr l) : Blk w wr.drew l := ⟨h.mem, h.inj, ⟨h.below.os, h.below.tape, h.below.output, h.below.size, h.below.block⟩⟩
theorem Blk.drewN {w wr : World} {l : List (Nat × Array Value × TypeId)} (h : Blk w wr l) (k : Nat) : Blk w (wr.drewN k) l := ⟨h.mem, h.inj, Go.Proofs.Ytcecgbjpmegljaa.Below.drewN h.below k⟩
theorem Blk.alloc {w wr : World} {l : List (Nat × Array Value × TypeId)} (h : Blk w wr l) (c : Array Value) (t : TypeId) : Blk w (wr.alloc (.cells c t)) (l ++ [(wr.heap.size, c, t)]) := by
  have hb : Below wr.heap.size wr (wr.alloc (.cells c t)) := (Below.refl _ wr).alloc (Nat.le_refl _) _
  have h1 := h.kept hb
  refine ⟨fun i g c' t' hi => ?_, fun i j g c1 t1 c2 t2 hi hj => ?_, h1.below⟩
  · rcases Nat.lt_or_ge i l.length with hl | hl
    · rw [List.getElem?_append_left hl] at hi
      exact h1.mem i g c' t' hi
    · rw [List.getElem?_append_right hl] at hi
      rcases Nat.eq_zero_or_pos (i - l.length) with h0 | h0
      · rw [h0] at hi
        simp only [List.getElem?_cons_zero, Option.some.injEq, Prod.mk.injEq] at hi
        obtain ⟨rfl, rfl, rfl⟩ := hi
        exact ⟨blk_new wr _, h.below.size⟩
      · rw [List.getElem?_eq_none (by simp; omega)] at hi
        cases hi
  · rcases Nat.lt_or_ge i l.length with hl | hl
    · rw [List.getElem?_append_left hl] at hi
      rcases Nat.lt_or_ge j l.length with hm | hm
      · rw [List.getElem?_append_left hm] at hj
        exact h.inj i j _ _ _ _ _ hi hj
      · rw [List.getElem?_append_right hm] at hj
        rcases Nat.eq_zero_or_pos (j - l.length) with h0 | h0
        · rw [h0] at hj
          simp only [List.getElem?_cons_zero, Option.some.injEq, Prod.mk.injEq] at hj
          have := h.lt i hi
          omega
        · rw [List.getElem?_eq_none (by simp; omega)] at hj
          cases hj
    · rw [List.getElem?_append_right hl] at hi
      rcases Nat.eq_zero_or_pos (i - l.length) with h0 | h0
      · rw [h0] at hi
        simp only [List.getElem?_cons_zero, Option.some.injEq, Prod.mk.injEq] at hi
        rcases Nat.lt_or_ge j l.length with hm | hm
        · rw [List.getElem?_append_left hm] at hj
          have := h.lt j hj
          omega
        · rw [List.getElem?_append_right hm] at hj
          rcases Nat.eq_zero_or_pos (j - l.length) with h2 | h2
          · omega
          · rw [List.getElem?_eq_none (by simp; omega)] at hj
            cases hj
      · rw [List.getElem?_eq_none (by simp; omega)] at hi
        cases hi
theorem Blk.put {w wr w' : World} {l : List (Nat × Array Value × TypeId)} (h : Blk w wr l) (i : Nat) {g : Nat} {c : Array Value} {t : TypeId} (hi : l[i]? = some (g, c, t)) {d : Array Value} (k : Kept (fun x => x = g) wr w') (hd : w'.heap[g]? = some (.cells d t (0, 0))) : Blk w w' (l.set i (g, d, t)) := by
  have hil : i < l.length := (List.getElem?_eq_some_iff.1 hi).1
  refine ⟨fun j g' c' t' hj => ?_, fun j j' g' c1 t1 c2 t2 hj hj' => ?_, h.below.trans (k.toBelow h.below.size (by rintro x rfl; exact h.low i hi))⟩
  · rw [List.getElem?_set] at hj
    by_cases e : i = j
    · subst e
      rw [if_pos rfl, if_pos hil] at hj
      simp only [Option.some.injEq, Prod.mk.injEq] at hj
      obtain ⟨rfl, rfl, rfl⟩ := hj
      exact ⟨hd, h.low i hi⟩
    · rw [if_neg e] at hj
      refine ⟨k.blk (h.get j hj) ?_, h.low j hj⟩
      rintro rfl
      exact e (h.inj i j _ _ _ _ _ hi hj)
  · have un : ∀ (m : Nat) (c0 : Array Value) (t0 : TypeId), (l.set i (g, d, t))[m]? = some (g', c0, t0) → ∃ c0 t0, l[m]? = some (g', c0, t0) := by
      intro m c0 t0 hm
      rw [List.getElem?_set] at hm
      by_cases e : i = m
      · subst e
        rw [if_pos rfl, if_pos hil] at hm
        simp only [Option.some.injEq, Prod.mk.injEq] at hm
        obtain ⟨rfl, -, -⟩ := hm
        exact ⟨_, _, hi⟩
      · rw [if_neg e] at hm
        exact ⟨_, _, hm⟩
    obtain ⟨a1, b1, e1⟩ := un j c1 t1 hj
    obtain ⟨a2, b2, e2⟩ := un j' c2 t2 hj'
    exact h.inj j j' _ _ _ _ _ e1 e2
theorem Blk.cell {w wr : World} {l : List (Nat × Array Value × TypeId)} (h : Blk w wr l) (i : Nat) {g : Nat} {c : Array Value} {t : TypeId} (hi : l[i]? = some (g, c, t)) (o : Nat) (v : Value) : Blk w (wr.setCell ⟨g, o, none⟩ v) (l.set i (g, c.setIfInBounds o v, t)) :=
  h.put i hi ((Kept.refl (fun x => x = g) wr).at o v) (blk_setCell (h.get i hi) v)
theorem Blk.ne {w wr : World} {l : List (Nat × Array Value × TypeId)} (h : Blk w wr l) (i j : Nat) {g g' : Nat} {c c' : Array Value} {t t' : TypeId} (hi : l[i]? = some (g, c, t)) (hj : l[j]? = some (g', c', t')) (hij : i ≠ j) : g ≠ g' := by
  rintro rfl
  exact hij (h.inj i j _ _ _ _ _ hi hj)
theorem Blk.cast {w wr : World} {l l' : List (Nat × Array Value × TypeId)} (h : Blk w wr l) (e : l = l') : Blk w wr l' := e ▸ h
theorem Blk.less {w wr : World} {l : List (Nat × Array Value × TypeId)} (h : Blk w wr l) (n : Nat) : Blk w wr (l.take n) := by
  have un : ∀ (i : Nat) (x : Nat × Array Value × TypeId), (l.take n)[i]? = some x → l[i]? = some x := by
    intro i x hx
    rw [List.getElem?_take] at hx
    split at hx
    · exact hx
    · cases hx
  exact ⟨fun i g c t hi => h.mem i g c t (un _ _ hi), fun i j g c t c' t' hi hj => h.inj i j g c t c' t' (un _ _ hi) (un _ _ hj), h.below⟩
theorem Blk.one (w : World) (c : Array Value) (t : TypeId) : Blk w (w.alloc (.cells c t)) [(w.heap.size, c, t)] := (Blk.nil w).alloc c t
theorem size1 (w : World) (o : Obj) : (w.alloc o).heap.size = w.heap.size + 1 := by simp
theorem Blk.two (w : World) (c d : Array Value) (t u : TypeId) : Blk w ((w.alloc (.cells c t)).alloc (.cells d u)) [(w.heap.size, c, t), (w.heap.size + 1, d, u)] := by
  have := (Blk.one w c t).alloc d u
  rw [size1] at this
  exact this
theorem Blk.three (w : World) (c d e : Array Value) (t u v : TypeId) : Blk w (((w.alloc (.cells c t)).alloc (.cells d u)).alloc (.cells e v)) [(w.heap.size, c, t), (w.heap.size + 1, d, u), (w.heap.size + 1 + 1, e, v)] := by
  have := (Blk.two w c d t u).alloc e v
  rw [size1, size1] at this
  exact this
theorem Blk.four (w : World) (c d e f : Array Value) (t u v x : TypeId) : Blk w ((((w.alloc (.cells c t)).alloc (.cells d u)).alloc (.cells e v)).alloc (.cells f x)) [(w.heap.size, c, t), (w.heap.size + 1, d, u), (w.heap.size + 1 + 1, e, v), (w.heap.size + 1 + 1 + 1, f, x)] := by
  have := (Blk.three w c d e t u v).alloc f x
  rw [size1, size1, size1] at this
  exact this

/-! ### Arrays of known length -/
theorem arr_len2 (k k' : IntKind) {xs ys : List Int} {n : Nat} (hx : xs.length = n) (hy : ys.length = n) : (arr k xs).size = (arr k' ys).size := by rw [arr_size, arr_size, hx, hy]
theorem arr_get' {w : World} {g : Nat} {k : IntKind} {xs : List Int} {t : TypeId} (h : w.heap[g]? = some (.cells (arr k xs) t (0, 0))) (i : Nat) (hi : i < xs.length) : w.cell? ⟨g, i, none⟩ = some (.int k (xs.getD i 0)) := blk_arr' h i hi
/-- The m-th of parts of equal length. -/
theorem part_mid (k : IntKind) (a b c : List Int) (n : Nat) (ha : a.length = n) : ((arr k (a ++ (b ++ c))).toList.drop n).take b.length = b.map (Value.int k) := by
  rw [arr_toList, List.map_append, List.map_append, List.drop_left' (by rw [List.length_map]; exact ha), List.take_left' (by rw [List.length_map])]
theorem four_part (k : IntKind) (a b c d : List Int) (n : Nat) (ha : a.length = n) (hb : b.length = n) (hc : c.length = n) :
    ((arr k (a ++ (b ++ (c ++ d)))).toList.drop 0).take a.length = a.map (Value.int k) ∧ ((arr k (a ++ (b ++ (c ++ d)))).toList.drop n).take b.length = b.map (Value.int k) ∧
    ((arr k (a ++ (b ++ (c ++ d)))).toList.drop (n + n)).take c.length = c.map (Value.int k) ∧ ((arr k (a ++ (b ++ (c ++ d)))).toList.drop (n + n + n)).take d.length = d.map (Value.int k) := by
  refine ⟨?_, part_mid k a b (c ++ d) n ha, ?_, ?_⟩
  · have := part_mid k [] a (b ++ (c ++ d)) 0 rfl
    simpa using this
  · have := part_mid k (a ++ b) c d (n + n) (by rw [List.length_append, ha, hb])
    simpa using this
  · have := part_mid k (a ++ (b ++ c)) d [] (n + n + n) (by rw [List.length_append, List.length_append, ha, hb, hc]; omega)
    simpa using this
end Go.Proofs.Ytcecgbjpmegljaa
