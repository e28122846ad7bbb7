/- One step of a region that draws its order: a long array made, a long array stored over a whole block. Over any program; no condition. A list of blocks of the call's own, told whole. Over any program; no condition. Blocks in another order, or some of them. No program here; no condition. A region that draws its order, walked once an operation: what each operation finds and leaves is told by one predicate J over what has come up so far. Over any program; no condition. The steps of a region that is walked once an operation: a value, a call, an alloc; blocks of which it is not said in which order they came. Over any program; no condition. A region that draws its order, with guards: walked once an operation (as XLin, where an operation may be wanted or not). Over any program; no condition. -/
import Derived.Test.YtoljnogpegemjaaDoorLong
import Derived.Deep.RegionHeld3
import Derived.Deep.DeepCutAuto
import Derived.Test.YtoljnogpegemjaaDoorLL
namespace Go.Proofs.YtoljnogpegemjaaDoor
open Go.RowKit
section
variable {P : Program}
theorem step_alloc_row {ops : Array Oper} {o : Oper} {a : Act} {w : World} {K : Act → World → Prop} {Q : Exit → Act → World → Prop} {E : Prop} (hgd : o.guard = none) (t : TypeId) (ho : o.op = .alloc t)
    (z : Array Value) (hz : (zeroValue t).run P w = .ok (.agg z) w) (h : K (a.put o.dst (.pointer (some ⟨w.heap.size, 0, none⟩))) (w.alloc (.cells z t))) :
    if Region.wanted o (yielded ops a.tmps) = true then Oper.wp P o a w K Q else E := by
  have hw : Region.wanted o (yielded ops a.tmps) = true := by simp [Region.wanted, hgd]
  rw [if_pos hw]
  unfold Oper.wp execOp
  simp only [ho, Instr.alloc, Sem.run_bind, hz, Result.andThen_ok]
  exact h
theorem step_store_whole {ops : Array Oper} {o : Oper} {a : Act} {w : World} {K : Act → World → Prop} {Q : Exit → Act → World → Prop} {E : Prop} (hgd : o.guard = none) (ty : TypeId) (x y : Operand) (ho : o.op = .store ty x y)
    (g : Nat) (cs ds : Array Value) (t : TypeId) (hb : w.heap[g]? = some (.cells cs t (0, 0))) (hx : a.eval x = .pointer (some ⟨g, 0, none⟩)) (hy : a.eval y = .agg ds)
    (hs : ds.size = cs.size) (hi : (P.info? ty).map (·.size) = some ds.size) (h1 : ds.all (·.oneCell') = true)
    (h : ∀ w', w'.heap[g]? = some (.cells ds t (0, 0)) → Kept (fun i => i = g) w w' → w'.heap.size = w.heap.size → K (a.put o.dst undef) w') :
    if Region.wanted o (yielded ops a.tmps) = true then Oper.wp P o a w K Q else E := by
  have hw : Region.wanted o (yielded ops a.tmps) = true := by simp [Region.wanted, hgd]
  rw [if_pos hw]
  refine wp_store_mid ty x y ho g 0 ds hx hy (fun j hj => ?_) hi h1 (h _ ?_ ?_ ?_)
  · rw [cell_blk hb]
    exact ⟨by rw [Array.getElem?_eq_getElem (by omega)]; rfl, free_blk hb _⟩
  · rw [blk_setCells _ _ _ _ _ _ _ hb (by simp [hs])]
    have e : cs.toList.drop (0 + ds.toList.length) = [] := List.drop_eq_nil_of_le (by simp [hs])
    rw [e]
    simp
  · exact kept_setCells g _ _ _ (Kept.refl _ _) (.inl rfl)
  · have : ∀ (vs : List Value) (o : Nat) (w : World), (w.setCells g o vs).heap.size = w.heap.size := by
      intro vs
      induction vs with
      | nil => intro o w; rfl
      | cons v vs ih => intro o w; rw [World.setCells, ih]; simp [World.setCell]
    exact this _ _ _
theorem step_load_part {ops : Array Oper} {o : Oper} {a : Act} {w : World} {K : Act → World → Prop} {Q : Exit → Act → World → Prop} {E : Prop} (hgd : o.guard = none) (ty : TypeId) (x : Operand) (ho : o.op = .load ty x)
    (g off : Nat) (cs : Array Value) (t : TypeId) (fr : Nat × Nat) (d : TypeDesc) (hb : w.heap[g]? = some (.cells cs t fr)) (hx : a.eval x = .pointer (some ⟨g, off, none⟩)) (k : IntKind) (xs : List Int)
    (hp : (cs.toList.drop off).take xs.length = xs.map (Value.int k)) (hu : P.underlying ty = some d) (hd : d.isRow = true) (hi : (P.info? ty).map (·.size) = some xs.length)
    (h : K (a.put o.dst (.agg (arr k xs))) w) : if Region.wanted o (yielded ops a.tmps) = true then Oper.wp P o a w K Q else E := by
  have hw : Region.wanted o (yielded ops a.tmps) = true := by simp [Region.wanted, hgd]
  rw [if_pos hw]
  exact wp_load_mid ty x ho g off hx (xs.map (Value.int k)) d (range_part hb off _ (by rw [List.length_map]; exact hp)) hu hd (by rw [List.length_map]; exact hi) h
end
end Go.Proofs.YtoljnogpegemjaaDoor
namespace Go.Proofs.YtoljnogpegemjaaDoor
open Go.RowKit

/-- The blocks of l are the call's own (it began at w), none of them stands twice. -/
structure Blk (w wr : World) (l : List (Nat × Array Value × TypeId)) : Prop where
  mem : ∀ (i g : Nat) (c : Array Value) (t : TypeId), l[i]? = some (g, c, t) → wr.heap[g]? = some (.cells c t (0, 0)) ∧ w.heap.size ≤ g
  inj : ∀ (i j : Nat) (g : Nat) (c : Array Value) (t : TypeId) (c' : Array Value) (t' : TypeId), l[i]? = some (g, c, t) → l[j]? = some (g, c', t') → i = j
  below : Below w.heap.size w wr
theorem Blk.nil (w : World) : Blk w w [] := ⟨fun _ _ _ _ h => by simp at h, fun _ _ _ _ _ _ _ h => by simp at h, Below.refl _ w⟩
theorem Blk.get {w wr : World} {l : List (Nat × Array Value × TypeId)} (h : Blk w wr l) (i : Nat) {g : Nat} {c : Array Value} {t : TypeId} (hi : l[i]? = some (g, c, t)) : wr.heap[g]? = some (.cells c t (0, 0)) := (h.mem i g c t hi).1
theorem Blk.low {w wr : World} {l : List (Nat × Array Value × TypeId)} (h : Blk w wr l) (i : Nat) {g : Nat} {c : Array Value} {t : TypeId} (hi : l[i]? = some (g, c, t)) : w.heap.size ≤ g := (h.mem i g c t hi).2
theorem Blk.lt {w wr : World} {l : List (Nat × Array Value × TypeId)} (h : Blk w wr l) (i : Nat) {g : Nat} {c : Array Value} {t : TypeId} (hi : l[i]? = some (g, c, t)) : g < wr.heap.size := blk_lt (h.get i hi)
theorem Blk.kept {w wr w' : World} {l : List (Nat × Array Value × TypeId)} (h : Blk w wr l) (b : Below wr.heap.size wr w') : Blk w w' l :=
  ⟨fun i _ _ _ hi => ⟨Below.blk b (h.get i hi) (h.lt i hi), h.low i hi⟩, h.inj, h.below.trans (b.mono h.below.size)⟩
theorem Blk.drew {w wr : World} {l : List (Nat × Array Value × TypeId)} (h : Blk w wr l) : Blk w wr.drew l := ⟨h.mem, h.inj, ⟨h.below.os, h.below.tape, h.below.output, h.below.size, h.below.block⟩⟩
theorem Blk.drewN {w wr : World} {l : List (Nat × Array Value × TypeId)} (h : Blk w wr l) (k : Nat) : Blk w (wr.drewN k) l := ⟨h.mem, h.inj, Go.Proofs.YtoljnogpegemjaaDoor.Below.drewN h.below k⟩
theorem Blk.alloc {w wr : World} {l : List (Nat × Array Value × TypeId)} (h : Blk w wr l) (c : Array Value) (t : TypeId) : Blk w (wr.alloc (.cells c t)) (l ++ [(wr.heap.size, c, t)]) := by
  have hb : Below wr.heap.size wr (wr.alloc (.cells c t)) := (Below.refl _ wr).alloc (Nat.le_refl _) _
  have h1 := h.kept hb
  refine ⟨fun i g c' t' hi => ?_, fun i j g c1 t1 c2 t2 hi hj => ?_, h1.below⟩
  · rcases Nat.lt_or_ge i l.length with hl | hl
    · rw [List.getElem?_append_left hl] at hi
      exact h1.mem i g c' t' hi
    · rw [List.getElem?_append_right hl] at hi
      rcases Nat.eq_zero_or_pos (i - l.length) with h0 | h0
      · rw [h0] at hi
        simp only [List.getElem?_cons_zero, Option.some.injEq, Prod.mk.injEq] at hi
        obtain ⟨rfl, rfl, rfl⟩ := hi
        exact ⟨blk_new wr _, h.below.size⟩
      · rw [List.getElem?_eq_none (by simp; omega)] at hi
        cases hi
  · rcases Nat.lt_or_ge i l.length with hl | hl
    · rw [List.getElem?_append_left hl] at hi
      rcases Nat.lt_or_ge j l.length with hm | hm
      · rw [List.getElem?_append_left hm] at hj
        exact h.inj i j _ _ _ _ _ hi hj
      · rw [List.getElem?_append_right hm] at hj
        rcases Nat.eq_zero_or_pos (j - l.length) with h0 | h0
        · rw [h0] at hj
          simp only [List.getElem?_cons_zero, Option.some.injEq, Prod.mk.injEq] at hj
          have := h.lt i hi
          omega
        · rw [List.getElem?_eq_none (by simp; omega)] at hj
          cases hj
    · rw [List.getElem?_append_right hl] at hi
      rcases Nat.eq_zero_or_pos (i - l.length) with h0 | h0
      · rw [h0] at hi
        simp only [List.getElem?_cons_zero, Option.some.injEq, Prod.mk.injEq] at hi
        rcases Nat.lt_or_ge j l.length with hm | hm
        · rw [List.getElem?_append_left hm] at hj
          have := h.lt j hj
          omega
        · rw [List.getElem?_append_right hm] at hj
          rcases Nat.eq_zero_or_pos (j - l.length) with h2 | h2
          · omega
          · rw [List.getElem?_eq_none (by simp; omega)] at hj
            cases hj
      · rw [List.getElem?_eq_none (by simp; omega)] at hi
        cases hi
theorem Blk.put {w wr w' : World} {l : List (Nat × Array Value × TypeId)} (h : Blk w wr l) (i : Nat) {g : Nat} {c : Array Value} {t : TypeId} (hi : l[i]? = some (g, c, t)) {d : Array Value} (k : Kept (fun x => x = g) wr w') (hd : w'.heap[g]? = some (.cells d t (0, 0))) : Blk w w' (l.set i (g, d, t)) := by
  have hil : i < l.length := (List.getElem?_eq_some_iff.1 hi).1
  refine ⟨fun j g' c' t' hj => ?_, fun j j' g' c1 t1 c2 t2 hj hj' => ?_, h.below.trans (k.toBelow h.below.size (by rintro x rfl; exact h.low i hi))⟩
  · rw [List.getElem?_set] at hj
    by_cases e : i = j
    · subst e
      rw [if_pos rfl, if_pos hil] at hj
      simp only [Option.some.injEq, Prod.mk.injEq] at hj
      obtain ⟨rfl, rfl, rfl⟩ := hj
      exact ⟨hd, h.low i hi⟩
    · rw [if_neg e] at hj
      refine ⟨k.blk (h.get j hj) ?_, h.low j hj⟩
      rintro rfl
      exact e (h.inj i j _ _ _ _ _ hi hj)
  · have un : ∀ (m : Nat) (c0 : Array Value) (t0 : TypeId), (l.set i (g, d, t))[m]? = some (g', c0, t0) → ∃ c0 t0, l[m]? = some (g', c0, t0) := by
      intro m c0 t0 hm
      rw [List.getElem?_set] at hm
      by_cases e : i = m
      · subst e
        rw [if_pos rfl, if_pos hil] at hm
        simp only [Option.some.injEq, Prod.mk.injEq] at hm
        obtain ⟨rfl, -, -⟩ := hm
        exact ⟨_, _, hi⟩
      · rw [if_neg e] at hm
        exact ⟨_, _, hm⟩
    obtain ⟨a1, b1, e1⟩ := un j c1 t1 hj
    obtain ⟨a2, b2, e2⟩ := un j' c2 t2 hj'
    exact h.inj j j' _ _ _ _ _ e1 e2
theorem Blk.cell {w wr : World} {l : List (Nat × Array Value × TypeId)} (h : Blk w wr l) (i : Nat) {g : Nat} {c : Array Value} {t : TypeId} (hi : l[i]? = some (g, c, t)) (o : Nat) (v : Value) : Blk w (wr.setCell ⟨g, o, none⟩ v) (l.set i (g, c.setIfInBounds o v, t)) :=
  h.put i hi ((Kept.refl (fun x => x = g) wr).at o v) (blk_setCell (h.get i hi) v)
theorem Blk.ne {w wr : World} {l : List (Nat × Array Value × TypeId)} (h : Blk w wr l) (i j : Nat) {g g' : Nat} {c c' : Array Value} {t t' : TypeId} (hi : l[i]? = some (g, c, t)) (hj : l[j]? = some (g', c', t')) (hij : i ≠ j) : g ≠ g' := by
  rintro rfl
  exact hij (h.inj i j _ _ _ _ _ hi hj)
theorem Blk.cast {w wr : World} {l l' : List (Nat × Array Value × TypeId)} (h : Blk w wr l) (e : l = l') : Blk w wr l' := e ▸ h
theorem Blk.less {w wr : World} {l : List (Nat × Array Value × TypeId)} (h : Blk w wr l) (n : Nat) : Blk w wr (l.take n) := by
  have un : ∀ (i : Nat) (x : Nat × Array Value × TypeId), (l.take n)[i]? = some x → l[i]? = some x := by
    intro i x hx
    rw [List.getElem?_take] at hx
    split at hx
    · exact hx
    · cases hx
  exact ⟨fun i g c t hi => h.mem i g c t (un _ _ hi), fun i j g c t c' t' hi hj => h.inj i j g c t c' t' (un _ _ hi) (un _ _ hj), h.below⟩
theorem Blk.one (w : World) (c : Array Value) (t : TypeId) : Blk w (w.alloc (.cells c t)) [(w.heap.size, c, t)] := (Blk.nil w).alloc c t
theorem size1 (w : World) (o : Obj) : (w.alloc o).heap.size = w.heap.size + 1 := by simp
theorem Blk.two (w : World) (c d : Array Value) (t u : TypeId) : Blk w ((w.alloc (.cells c t)).alloc (.cells d u)) [(w.heap.size, c, t), (w.heap.size + 1, d, u)] := by
  have := (Blk.one w c t).alloc d u
  rw [size1] at this
  exact this
theorem Blk.three (w : World) (c d e : Array Value) (t u v : TypeId) : Blk w (((w.alloc (.cells c t)).alloc (.cells d u)).alloc (.cells e v)) [(w.heap.size, c, t), (w.heap.size + 1, d, u), (w.heap.size + 1 + 1, e, v)] := by
  have := (Blk.two w c d t u).alloc e v
  rw [size1, size1] at this
  exact this
theorem Blk.four (w : World) (c d e f : Array Value) (t u v x : TypeId) : Blk w ((((w.alloc (.cells c t)).alloc (.cells d u)).alloc (.cells e v)).alloc (.cells f x)) [(w.heap.size, c, t), (w.heap.size + 1, d, u), (w.heap.size + 1 + 1, e, v), (w.heap.size + 1 + 1 + 1, f, x)] := by
  have := (Blk.three w c d e t u v).alloc f x
  rw [size1, size1, size1] at this
  exact this

/-! ### Arrays of known length -/
theorem arr_len2 (k k' : IntKind) {xs ys : List Int} {n : Nat} (hx : xs.length = n) (hy : ys.length = n) : (arr k xs).size = (arr k' ys).size := by rw [arr_size, arr_size, hx, hy]
theorem arr_get' {w : World} {g : Nat} {k : IntKind} {xs : List Int} {t : TypeId} (h : w.heap[g]? = some (.cells (arr k xs) t (0, 0))) (i : Nat) (hi : i < xs.length) : w.cell? ⟨g, i, none⟩ = some (.int k (xs.getD i 0)) := blk_arr' h i hi
/-- The m-th of parts of equal length. -/
theorem part_mid (k : IntKind) (a b c : List Int) (n : Nat) (ha : a.length = n) : ((arr k (a ++ (b ++ c))).toList.drop n).take b.length = b.map (Value.int k) := by
  rw [arr_toList, List.map_append, List.map_append, List.drop_left' (by rw [List.length_map]; exact ha), List.take_left' (by rw [List.length_map])]
theorem four_part (k : IntKind) (a b c d : List Int) (n : Nat) (ha : a.length = n) (hb : b.length = n) (hc : c.length = n) :
    ((arr k (a ++ (b ++ (c ++ d)))).toList.drop 0).take a.length = a.map (Value.int k) ∧ ((arr k (a ++ (b ++ (c ++ d)))).toList.drop n).take b.length = b.map (Value.int k) ∧
    ((arr k (a ++ (b ++ (c ++ d)))).toList.drop (n + n)).take c.length = c.map (Value.int k) ∧ ((arr k (a ++ (b ++ (c ++ d)))).toList.drop (n + n + n)).take d.length = d.map (Value.int k) := by
  refine ⟨?_, part_mid k a b (c ++ d) n ha, ?_, ?_⟩
  · have := part_mid k [] a (b ++ (c ++ d)) 0 rfl
    simpa using this
  · have := part_mid k (a ++ b) c d (n + n) (by rw [List.length_append, ha, hb])
    simpa using this
  · have := part_mid k (a ++ (b ++ c)) d [] (n + n + n) (by rw [List.length_append, List.length_append, ha, hb, hc]; omega)
    simpa using this
end Go.Proofs.YtoljnogpegemjaaDoor
namespace Go.Proofs.YtoljnogpegemjaaDoor
open Go.RowKit

theorem Blk.sel {w wr : World} {l : List (Nat × Array Value × TypeId)} (h : Blk w wr l) (idx : List Nat) (hn : idx.Nodup) (hl : (idx.all fun i => decide (i < l.length)) = true) : Blk w wr (idx.map fun i => l.getD i (0, #[], 0)) := by
  have key : ∀ (i : Nat) (x : Nat × Array Value × TypeId), (idx.map fun i => l.getD i (0, #[], 0))[i]? = some x → ∃ k, idx[i]? = some k ∧ l[k]? = some x := by
    intro i x hx
    rw [List.getElem?_map, Option.map_eq_some_iff] at hx
    obtain ⟨k, hk, rfl⟩ := hx
    refine ⟨k, hk, ?_⟩
    have := of_decide_eq_true (List.all_eq_true.1 hl k (List.mem_of_getElem? hk))
    rw [List.getD, List.getElem?_eq_getElem this]
    rfl
  refine ⟨fun i g c t hi => ?_, fun i j g c t c' t' hi hj => ?_, h.below⟩
  · obtain ⟨k, _, hk⟩ := key _ _ hi
    exact h.mem k g c t hk
  · obtain ⟨k, e1, hk⟩ := key _ _ hi
    obtain ⟨m, e2, hm⟩ := key _ _ hj
    have := h.inj k m _ _ _ _ _ hk hm
    subst this
    have hi' := (List.getElem?_eq_some_iff.1 e1)
    have hj' := (List.getElem?_eq_some_iff.1 e2)
    obtain ⟨a1, a2⟩ := hi'
    obtain ⟨b1, b2⟩ := hj'
    exact (List.getElem_inj hn).1 (a2.trans b2.symm)
end Go.Proofs.YtoljnogpegemjaaDoor
namespace Go.Proofs.YtoljnogpegemjaaDoor
open Go.RowKit

/-- What the operations that have come up have left. -/
abbrev Fill := Nat → Option Value
def Fill.upd (f : Fill) (i : Nat) (v : Value) : Fill := fun j => if j = i then some v else f j
def laid : List Oper → Nat → Fill → Act → Act
  | [], _, _, a => a
  | o :: l, k, f, a => laid l (k + 1) f (match f k with | some v => a.put o.dst v | none => a)

def apartD (x y : Option Tmp) : Bool := match x, y with
  | some d, some e => d != e
  | _, _ => true
theorem apartD_spec {x y : Option Tmp} (h : apartD x y = true) : ∀ d, x = some d → y ≠ some d := by
  rintro d rfl rfl
  simp [apartD] at h
def distinctD : List Oper → Bool
  | [] => true
  | o :: l => l.all (fun o' => apartD o.dst o'.dst) && distinctD l
/-- No guard, and each operation writes a slot of its own that there is. -/
def linB (l : List Oper) (n : Nat) : Bool := l.all (fun o => o.guard.isNone && (match o.dst with | some s => decide (s < n) | none => true)) && distinctD l

theorem laid_congr : ∀ (l : List Oper) (k : Nat) (f g : Fill) (a : Act), (∀ i, k ≤ i → f i = g i) → laid l k f a = laid l k g a
  | [], _, _, _, _, _ => rfl
  | o :: l, k, f, g, a, h => by
    simp only [laid]
    rw [h k (Nat.le_refl _)]
    exact laid_congr l (k + 1) f g _ (fun i hi => h i (by omega))
theorem laid_put : ∀ (l : List Oper) (k : Nat) (f : Fill) (a : Act) (x : Option Tmp) (v : Value), (∀ o ∈ l, apartD x o.dst = true) → (laid l k f a).put x v = laid l k f (a.put x v)
  | [], _, _, _, _, _, _ => rfl
  | o :: l, k, f, a, x, v, h => by
    simp only [laid]
    rw [laid_put l (k + 1) f _ x v (fun o' ho' => h o' (List.mem_cons_of_mem _ ho'))]
    congr 1
    cases f k with
    | none => rfl
    | some u => exact (Act.put_comm a v u (apartD_spec (h o (List.mem_cons_self ..)))).symm
theorem laid_upd : ∀ (l : List Oper) (k : Nat) (f : Fill) (a : Act) (i : Nat) (o : Oper) (v : Value), distinctD l = true → l[i]? = some o → f (k + i) = none → (laid l k f a).put o.dst v = laid l k (f.upd (k + i) v) a
  | [], _, _, _, _, _, _, _, h, _ => by simp at h
  | o :: l, k, f, a, 0, o', v, hd, ho, hf => by
    simp only [distinctD, Bool.and_eq_true, List.all_eq_true] at hd
    simp only [List.getElem?_cons_zero, Option.some.injEq] at ho
    subst ho
    simp only [laid, Nat.add_zero] at hf ⊢
    rw [hf, laid_put l (k + 1) f a o.dst v hd.1]
    have e : f.upd k v k = some v := by simp [Fill.upd]
    simp only [e]
    exact laid_congr l (k + 1) f _ _ (fun i hi => by simp only [Fill.upd]; rw [if_neg (by omega)])
  | o :: l, k, f, a, i + 1, o', v, hd, ho, hf => by
    simp only [distinctD, Bool.and_eq_true] at hd
    simp only [List.getElem?_cons_succ] at ho
    simp only [laid]
    rw [laid_upd l (k + 1) f _ i o' v hd.2 ho (by rw [← hf]; congr 1; omega)]
    have e : f.upd (k + (i + 1)) v k = f k := by simp only [Fill.upd]; rw [if_neg (by omega)]
    rw [e, show k + 1 + i = k + (i + 1) by omega]
theorem put_get_ne (a : Act) (x : Option Tmp) (v : Value) (s : Tmp) (h : x ≠ some s) : (a.put x v).tmps.getD s undef = a.tmps.getD s undef := by
  cases x with
  | none => rfl
  | some d =>
    have : d ≠ s := fun e => h (by rw [e])
    simp [Act.put, Array.getElem?_setIfInBounds_ne this]
theorem put_size (a : Act) (x : Option Tmp) (v : Value) : (a.put x v).tmps.size = a.tmps.size := by
  cases x <;> simp [Act.put]
theorem laid_old : ∀ (l : List Oper) (k : Nat) (f : Fill) (a : Act) (s : Tmp), (∀ o ∈ l, o.dst ≠ some s) → (laid l k f a).tmps.getD s undef = a.tmps.getD s undef
  | [], _, _, _, _, _ => rfl
  | o :: l, k, f, a, s, h => by
    simp only [laid]
    rw [laid_old l (k + 1) f _ s (fun o' ho' => h o' (List.mem_cons_of_mem _ ho'))]
    cases f k with
    | none => rfl
    | some u => exact put_get_ne a _ _ s (h o (List.mem_cons_self ..))
theorem laid_new : ∀ (l : List Oper) (k : Nat) (f : Fill) (a : Act) (i : Nat) (o : Oper) (s : Tmp) (v : Value), distinctD l = true → l[i]? = some o → o.dst = some s → s < a.tmps.size → f (k + i) = some v → (laid l k f a).tmps.getD s undef = v
  | [], _, _, _, _, _, _, _, _, h, _, _, _ => by simp at h
  | o :: l, k, f, a, 0, o', s, v, hd, ho, hs, hn, hf => by
    simp only [distinctD, Bool.and_eq_true, List.all_eq_true] at hd
    simp only [List.getElem?_cons_zero, Option.some.injEq] at ho
    subst ho
    simp only [laid, Nat.add_zero] at hf ⊢
    rw [hf, laid_old l (k + 1) f _ s (fun o' ho' e => apartD_spec (hd.1 o' ho') s hs e)]
    simp [Act.put, hs, hn]
  | o :: l, k, f, a, i + 1, o', s, v, hd, ho, hs, hn, hf => by
    simp only [distinctD, Bool.and_eq_true] at hd
    simp only [List.getElem?_cons_succ] at ho
    simp only [laid]
    refine laid_new l (k + 1) f _ i o' s v hd.2 ho hs ?_ (by rw [← hf]; congr 1; omega)
    cases f k with
    | none => exact hn
    | some u => rw [put_size]; exact hn

/-- Which operations have come up: with each all that it waits for. -/
def Closed (l : List Oper) (f : Fill) : Prop := ∀ i o, l[i]? = some o → (f i).isSome = true → ∀ e ∈ o.after, Region.binds .any e = true → (f e.on).isSome = true
def waitsOn (l : List Oper) (i j : Nat) : Bool := match l[i]? with
  | some o => o.after.any fun e => Region.binds .any e && e.on == j
  | none => false
theorem Closed.up {l : List Oper} {f : Fill} (h : Closed l f) (i j : Nat) (hw : waitsOn l i j = true) (hi : (f i).isSome = true) : (f j).isSome = true := by
  unfold waitsOn at hw
  split at hw
  · rename_i o ho
    obtain ⟨e, he, hb⟩ := Array.any_eq_true'.1 hw
    simp only [Bool.and_eq_true, beq_iff_eq] at hb
    rw [← hb.2]
    exact h i o ho hi e he hb.1
  · cases hw
/-- What waits for one that has not come up has not come up. -/
theorem Closed.down {l : List Oper} {f : Fill} (h : Closed l f) (i j : Nat) (hw : waitsOn l i j = true) (hj : f j = none) : f i = none := by
  cases hi : f i with
  | none => rfl
  | some v =>
    have := h.up i j hw (by rw [hi]; rfl)
    rw [hj] at this
    cases this
/-- What the frame a' shows of the values f beside the frame a. -/
structure Sees (l : List Oper) (f : Fill) (a a' : Act) : Prop where
  new : ∀ i o s v, l[i]? = some o → o.dst = some s → f i = some v → a'.tmps.getD s undef = v
  old : ∀ s, (l.all fun o => o.dst != some s) = true → a'.tmps.getD s undef = a.tmps.getD s undef
theorem Sees.val {l : List Oper} {f : Fill} {a a' : Act} (h : Sees l f a a') (i : Nat) (s : Tmp) {v : Value} (hi : (l[i]?).bind (·.dst) = some s) (hf : f i = some v) : a'.eval (.tmp s) = v := by
  obtain ⟨o, ho, hs⟩ := Option.bind_eq_some_iff.1 hi
  exact h.new i o s v ho hs hf
theorem Sees.old' {l : List Oper} {f : Fill} {a a' : Act} (h : Sees l f a a') (s : Tmp) (hs : (l.all fun o => o.dst != some s) = true) {v : Value} (hv : a.tmps.getD s undef = v) : a'.eval (.tmp s) = v := (h.old s hs).trans hv

section
variable {P : Program} {Q : Exit → Act → World → Prop}
/-- What is to be shown of operation number i. -/
def LinStep (P : Program) (Q : Exit → Act → World → Prop) (l : List Oper) (J : Fill → World → Prop) (a : Act) (i : Nat) (o : Oper) : Prop :=
  ∀ (f : Fill) (b : Act) (u : World) (K : Act → World → Prop), J f u → f i = none → Closed l f → (∀ j, waitsOn l i j = true → (f j).isSome = true) → Sees l f a b →
    (∀ v u', J (f.upd i v) u' → K (b.put o.dst v) u') → if Region.wanted o (yielded l.toArray b.tmps) = true then Oper.wp P o b u K Q else False
def LinAll (P : Program) (Q : Exit → Act → World → Prop) (l : List Oper) (J : Fill → World → Prop) (a : Act) : List Oper → Nat → Prop
  | [], _ => True
  | o :: r, k => LinStep P Q l J a k o ∧ LinAll P Q l J a r (k + 1)
theorem LinAll.nil {l : List Oper} {J : Fill → World → Prop} {a : Act} {k : Nat} : LinAll P Q l J a [] k := trivial
theorem LinAll.cons {l : List Oper} {J : Fill → World → Prop} {a : Act} {o : Oper} {r : List Oper} {k : Nat} (h : LinStep P Q l J a k o) (hr : LinAll P Q l J a r (k + 1)) : LinAll P Q l J a (o :: r) k := ⟨h, hr⟩
theorem LinAll.at {l : List Oper} {J : Fill → World → Prop} {a : Act} : ∀ {r : List Oper} {k : Nat}, LinAll P Q l J a r k → ∀ i o, r[i]? = some o → LinStep P Q l J a (k + i) o
  | [], _, _, _, _, h => by simp at h
  | o :: r, k, h, 0, o', ho => by
    simp only [List.getElem?_cons_zero, Option.some.injEq] at ho
    subst ho
    exact h.1
  | o :: r, k, h, i + 1, o', ho => by
    simp only [List.getElem?_cons_succ] at ho
    rw [show k + (i + 1) = k + 1 + i by omega]
    exact LinAll.at h.2 i o' ho

def unl : Nat → Fill → Nat
  | 0, _ => 0
  | n + 1, f => unl n f + (if (f n).isNone then 1 else 0)
theorem unl_same : ∀ (n : Nat) (f : Fill) (i : Nat) (v : Value), n ≤ i → unl n (f.upd i v) = unl n f
  | 0, _, _, _, _ => rfl
  | n + 1, f, i, v, h => by
    have e : f.upd i v n = f n := by simp only [Fill.upd]; rw [if_neg (by omega)]
    simp only [unl, e]
    rw [unl_same n f i v (by omega)]
theorem unl_upd : ∀ (n : Nat) (f : Fill) (i : Nat) (v : Value), i < n → f i = none → unl n (f.upd i v) + 1 = unl n f
  | 0, _, _, _, h, _ => absurd h (Nat.not_lt_zero _)
  | n + 1, f, i, v, h, hf => by
    simp only [unl]
    by_cases e : i = n
    · subst e
      rw [unl_same i f i v (Nat.le_refl _)]
      simp [Fill.upd, hf]
    · have h2 : f.upd i v n = f n := by simp only [Fill.upd]; rw [if_neg (by omega)]
      rw [h2]
      have := unl_upd n f i v (by omega) hf
      omega
theorem unl_zero : ∀ (n : Nat) (f : Fill), unl n f = 0 → ∀ i, i < n → (f i).isSome = true
  | 0, _, _, _, h => absurd h (Nat.not_lt_zero _)
  | n + 1, f, h, i, hi => by
    simp only [unl] at h
    by_cases e : i = n
    · subst e
      cases hf : f i with
      | none => rw [hf] at h; simp at h
      | some v => rfl
    · exact unl_zero n f (by omega) i (by omega)
theorem unl_le : ∀ (n : Nat) (f : Fill), unl n f ≤ n
  | 0, _ => Nat.le_refl _
  | n + 1, f => by
    have := unl_le n f
    simp only [unl]
    split <;> omega
/-- Nobody waits for a later one. -/
def backB (l : List Oper) : Bool := (List.range l.length).all fun i => match l[i]? with
  | some o => o.after.all fun e => !Region.binds .any e || decide (e.on < i)
  | none => true

theorem wp_region_lin {id : Nat} {a : Act} {w : World} {l : List Oper} (J : Fill → World → Prop) (hm : P.follows .mixedOrders = true) (hB : (linB l a.tmps.size && backB l) = true)
    (h0 : J (fun _ => none) w.drew) (hs : LinAll P Q l J a l 0)
    (hend : ∀ f u, (∀ i, i < l.length → (f i).isSome = true) → J f u → Q .normal (laid l 0 f a) u) : (Code.region id l.toArray true).wp P Q a w := by
  refine wp_region_any hm ?_
  simp only [linB, Bool.and_eq_true, List.all_eq_true] at hB
  obtain ⟨⟨hg, hd⟩, hbk⟩ := hB
  have hback : ∀ i o, l[i]? = some o → ∀ e ∈ o.after, Region.binds .any e = true → e.on < i := by
    intro i o ho e he hb
    have hlt : i < l.length := (List.getElem?_eq_some_iff.1 ho).1
    have h1 := List.all_eq_true.1 hbk i (List.mem_range.2 hlt)
    rw [ho] at h1
    have h2 := Array.all_eq_true_iff_forall_mem.1 h1 e he
    simpa [hb] using h2
  have main : ∀ (fuel : Nat) (listed : Array Bool) (f : Fill) (u : World), listed.size = l.length → (∀ i, i < l.length → listed.getD i false = (f i).isSome) → Closed l f → J f u →
      unl l.length f ≤ fuel → wpAny P .any l.toArray Q fuel listed (laid l 0 f a) u := by
    intro fuel
    have lt_of : ∀ {j : Nat} {o : Oper}, l.toArray[j]? = some o → j < l.length ∧ l[j]? = some o := by
      intro j o h
      have h2 : l[j]? = some o := by simpa using h
      exact ⟨(List.getElem?_eq_some_iff.1 h2).1, h2⟩
    have getT : ∀ (listed : Array Bool) (j : Nat), listed.size = l.length → j < l.length → listed.getD j true = listed.getD j false := by
      intro listed j h1 h2
      simp [h1, h2]
    have endd : ∀ (listed : Array Bool) (f : Fill) (u : World), listed.size = l.length → (∀ i, i < l.length → listed.getD i false = (f i).isSome) → J f u → Region.ready .any l.toArray listed = [] → Q .normal (laid l 0 f a) u := by
      intro listed f u hls hlf hJ hr
      refine hend f u (fun i => ?_) hJ
      induction i using Nat.strongRecOn with
      | _ i ih =>
        intro hi
        cases hf : f i with
        | some v => rfl
        | none =>
          exfalso
          have hm : i ∈ Region.ready .any l.toArray listed := by
            refine mem_ready.2 ⟨?_, l[i], by simp [hi], fun e he hb => ?_⟩
            · rw [getT _ _ hls hi, hlf i hi, hf]; rfl
            · have h1 := hback i l[i] (List.getElem?_eq_getElem hi) e he hb
              rw [hlf _ (by omega)]
              exact ih e.on h1 (by omega)
          rw [hr] at hm
          cases hm
    induction fuel with
    | zero =>
      intro listed f u hls hlf hcl hJ hun
      have hall := unl_zero l.length f (by omega)
      have hr : Region.ready .any l.toArray listed = [] := by
        apply List.eq_nil_iff_forall_not_mem.2
        intro j hj
        obtain ⟨h1, o, ho, _⟩ := mem_ready.1 hj
        have hlt := (lt_of ho).1
        rw [getT _ _ hls hlt, hlf j hlt, hall j hlt] at h1
        cases h1
      exact ⟨hr, endd listed f u hls hlf hJ hr⟩
    | succ fuel ih =>
      intro listed f u hls hlf hcl hJ hun
      refine ⟨endd listed f u hls hlf hJ, fun i hi => ?_⟩
      obtain ⟨hl, o, ho, hall⟩ := mem_ready.1 hi
      obtain ⟨hlt, ho'⟩ := lt_of ho
      have hfi : f i = none := by
        rw [getT _ _ hls hlt, hlf i hlt] at hl
        cases e : f i with
        | none => rfl
        | some v => rw [e] at hl; cases hl
      have hst := (by simpa using hs.at i o ho' : LinStep P Q l J a i o)
      have hgo := hg o (List.mem_of_getElem? ho')
      simp only [Option.isNone_iff_eq_none] at hgo
      have hwant : Region.wanted o (yielded l.toArray (laid l 0 f a).tmps) = true := by simp [Region.wanted, hgo.1]
      have hsees : Sees l f a (laid l 0 f a) := by
        refine ⟨fun j oj s v hoj hsj hv => ?_, fun s hs => ?_⟩
        · refine laid_new l 0 f a j oj s v hd hoj hsj ?_ (by simpa using hv)
          have := (hg oj (List.mem_of_getElem? hoj)).2
          rw [hsj] at this
          exact of_decide_eq_true this
        · refine laid_old l 0 f a s (fun o' ho' e => ?_)
          have := List.all_eq_true.1 hs o' ho'
          simp [e] at this
      have hup : ∀ j, waitsOn l i j = true → (f j).isSome = true := by
        intro j hw
        unfold waitsOn at hw
        rw [ho'] at hw
        obtain ⟨e, he, hb⟩ := Array.any_eq_true'.1 hw
        simp only [Bool.and_eq_true, beq_iff_eq] at hb
        have h1 := hall e he hb.1
        have h2 := hback i o ho' e he hb.1
        rw [hlf _ (by omega)] at h1
        rw [← hb.2]; exact h1
      have H := hst f (laid l 0 f a) u (fun b u' => wpAny P .any l.toArray Q fuel (listed.setIfInBounds i true) b u') hJ hfi hcl hup hsees (fun v u' hJ' => by
        rw [laid_upd l 0 f a i o v hd ho' (by simpa using hfi), Nat.zero_add]
        refine ih _ _ _ (by simpa using hls) (fun k hk => ?_) (fun k ok hok hks e he hb => ?_) hJ' ?_
        · by_cases e : k = i
          · subst e
            simp [Fill.upd, hls, hk]
          · rw [getD_set_ne false (Ne.symm e), hlf k hk]
            simp [Fill.upd, e]
        · by_cases e2 : e.on = i
          · simp [Fill.upd, e2]
          · have h3 : (f.upd i v e.on) = f e.on := by simp [Fill.upd, e2]
            rw [h3]
            by_cases e3 : k = i
            · subst e3
              rw [ho'] at hok
              cases hok
              have h1 := hall e he hb
              have h2 := hback k o ho' e he hb
              rwa [hlf _ (by omega)] at h1
            · have h4 : f.upd i v k = f k := by simp [Fill.upd, e3]
              rw [h4] at hks
              exact hcl k ok hok hks e he hb
        · have := unl_upd l.length f i v hlt hfi
          omega)
      rw [if_pos hwant] at H
      unfold wpOp
      simp only [ho, hwant, if_true]
      exact .inl H
  have h := main l.length (Array.replicate l.length false) (fun _ => none) w.drew (by simp) (fun i hi => by simp [hi]) (fun i o _ h => by cases h) h0 (unl_le _ _)
  have e0 : laid l 0 (fun _ => none) a = a := by
    have : ∀ (l : List Oper) (k : Nat), laid l k (fun _ => none) a = a := by
      intro l
      induction l with
      | nil => intro k; rfl
      | cons o l ih => intro k; simp only [laid]; exact ih (k + 1)
    exact this l 0
  rw [e0] at h
  have e1 : l.toArray.size = l.length := by simp
  rw [e1]
  exact h
end
end Go.Proofs.YtoljnogpegemjaaDoor
namespace Go.Proofs.YtoljnogpegemjaaDoor
open Go.RowKit
section
variable {P : Program} {Q : Exit → Act → World → Prop} {ops : Array Oper}
theorem lin_pure {o : Oper} {b : Act} {u : World} {K : Act → World → Prop} {E : Prop} (hgd : o.guard = none) (v : Value) (hrun : (execOp b.eval o).run P u = .ok (.value v) u) (h : K (b.put o.dst v) u) :
    if Region.wanted o (yielded ops b.tmps) = true then Oper.wp P o b u K Q else E := by
  have hw : Region.wanted o (yielded ops b.tmps) = true := by simp [Region.wanted, hgd]
  rw [if_pos hw]
  unfold Oper.wp
  rw [hrun]
  exact h
theorem wpList_load_wanted {rest : List Oper} {o : Oper} {a : Act} {w : World} (hgd : Region.wanted o (yielded ops a.tmps) = true) (ty : TypeId) (x : Operand) (ho : o.op = .load ty x)
    (g off : Nat) (cs : Array Value) (t : TypeId) (fr : Nat × Nat) (d : TypeDesc) (hb : w.heap[g]? = some (.cells cs t fr)) (hx : a.eval x = .pointer (some ⟨g, off, none⟩)) (k : IntKind) (xs : List Int)
    (hp : (cs.toList.drop off).take xs.length = xs.map (Value.int k)) (hu : P.underlying ty = some d) (hd : d.isRow = true) (hi : (P.info? ty).map (·.size) = some xs.length)
    (h : wpList P ops Q rest (a.put o.dst (.agg (arr k xs))) w) : wpList P ops Q (o :: rest) a w := by
  unfold wpList
  rw [if_pos hgd]
  left
  exact wp_load_mid ty x ho g off hx (xs.map (Value.int k)) d (range_part hb off _ (by rw [List.length_map]; exact hp)) hu hd (by rw [List.length_map]; exact hi) h
theorem exec_build_l {o : Oper} {ev : Operand → Value} {w : World} (t : TypeId) (ps : Array (Nat × Operand)) (ho : o.op = .build t ps) (vs : Array (Nat × Value)) (hvs : ps.toList.map (fun p => (p.1, ev p.2)) = vs.toList) (v : Value) (hrun : (Instr.build t vs).run P w = .ok v w) : (execOp ev o).run P w = .ok (.value v) w := by
  have hv : ps.map (fun p => (p.1, ev p.2)) = vs := by apply Array.toList_inj.1; rw [Array.toList_map]; exact hvs
  simp only [execOp, ho, hv, Sem.run_bind, hrun, Result.andThen_ok]
  rfl
theorem lin_call {o : Oper} {b : Act} {u : World} {K : Act → World → Prop} {E : Prop} (hgd : o.guard = none) (F : FuncId) (xs : List Operand) (ts : Array TypeId) (vs : List Value)
    (ho : o.op = .call { callee := .value (.func F), args := xs.toArray, argTypes := ts }) (hv : xs.map b.eval = vs) (hF : ∀ (args : Array Value) (u : World), (callFunc F args).run P u = .ok (.enter F args) u)
    (h : Calls P F vs.toArray u (fun e w' => ∃ v, e = .returned v ∧ K (b.put o.dst v) w')) :
    if Region.wanted o (yielded ops b.tmps) = true then Oper.wp P o b u K Q else E := by
  have hw : Region.wanted o (yielded ops b.tmps) = true := by simp [Region.wanted, hgd]
  rw [if_pos hw]
  unfold Oper.wp
  have e : (execOp b.eval o).run P u = .ok (.enter F vs.toArray) u := by
    have hv' : xs.toArray.map b.eval = vs.toArray := by rw [List.map_toArray, hv]
    simp only [execOp, ho, resolve, hv', Act.eval, Deferred.ofValue, Sem.run_bind, Sem.run_pure, Result.andThen_ok, invoke, Array.append_empty, Array.empty_append, hF]
  rw [e]
  exact Calls.mono h (fun e w' ⟨v, he, hk⟩ => by subst he; exact hk)
theorem Sees.at {l : List Oper} {f : Fill} {a b : Act} {i : Nat} (hs : Sees l f a b) (hup : ∀ j, waitsOn l i j = true → (f j).isSome = true) (j : Nat) (s : Tmp) (hw : waitsOn l i j = true) (hd : (l[j]?).bind (·.dst) = some s)
    {V : Value} {R : Prop} (hV : ∀ v, f j = some v → v = V ∧ R) : b.eval (.tmp s) = V ∧ R := by
  obtain ⟨v, hv⟩ := Option.isSome_iff_exists.1 (hup j hw)
  obtain ⟨h1, h2⟩ := hV v hv
  exact ⟨(hs.val j s hd hv).trans h1, h2⟩
/-- The block that an alloc has left, if it has come up. -/
def ent (o : Option Value) (c : Array Value) (t : TypeId) : List (Nat × Array Value × TypeId) := match o with
  | some (.pointer (some a)) => [(a.block, c, t)]
  | some (.slice (some a) _ _) => [(a.block, c, t)]
  | _ => []
theorem ent_none (c : Array Value) (t : TypeId) : ent none c t = [] := rfl
theorem ent_some (g : Nat) (c : Array Value) (t : TypeId) : ent (some (.pointer (some ⟨g, 0, none⟩))) c t = [(g, c, t)] := rfl
theorem ent_slice (g n m : Nat) (c : Array Value) (t : TypeId) : ent (some (.slice (some ⟨g, 0, none⟩) n m)) c t = [(g, c, t)] := rfl
theorem Blk.perm {w wr : World} {l l' : List (Nat × Array Value × TypeId)} (h : Blk w wr l) (p : l.Perm l') : Blk w wr l' := by
  have hmem : ∀ g c t, (g, c, t) ∈ l → wr.heap[g]? = some (.cells c t (0, 0)) ∧ w.heap.size ≤ g := by
    intro g c t hm
    obtain ⟨i, hi⟩ := List.getElem?_of_mem hm
    exact h.mem i g c t hi
  have hpw : l.Pairwise (fun x y => x.1 ≠ y.1) := by
    rw [List.pairwise_iff_getElem]
    intro i j hi hj hij e
    obtain ⟨⟨g, c, t⟩, hx⟩ : ∃ x, l[i] = x := ⟨_, rfl⟩
    obtain ⟨⟨g', c', t'⟩, hy⟩ : ∃ x, l[j] = x := ⟨_, rfl⟩
    rw [hx, hy] at e
    have e' : g = g' := e
    subst e'
    have := h.inj i j g c t c' t' (by rw [List.getElem?_eq_getElem hi, hx]) (by rw [List.getElem?_eq_getElem hj, hy])
    omega
  have hpw' : l'.Pairwise (fun x y => x.1 ≠ y.1) := (p.pairwise_iff (fun h => Ne.symm h)).1 hpw
  refine ⟨fun i g c t hi => hmem g c t (p.mem_iff.2 (List.mem_of_getElem? hi)), fun i j g c t c' t' hi hj => ?_, h.below⟩
  obtain ⟨hi1, hi2⟩ := List.getElem?_eq_some_iff.1 hi
  obtain ⟨hj1, hj2⟩ := List.getElem?_eq_some_iff.1 hj
  rw [List.pairwise_iff_getElem] at hpw'
  rcases Nat.lt_trichotomy i j with hlt | heq | hgt
  · exact absurd (by rw [hi2, hj2]) (hpw' i j hi1 hj1 hlt)
  · exact heq
  · exact absurd (by rw [hi2, hj2]) (hpw' j i hj1 hi1 hgt)
theorem perm_ins {α : Type} (a b : List α) (x : α) : ((a ++ b) ++ [x]).Perm (a ++ ([x] ++ b)) := (List.perm_append_singleton x (a ++ b)).trans List.perm_middle.symm
theorem Blk.ins {w wr : World} {l a b l' : List (Nat × Array Value × TypeId)} (h : Blk w wr l) (c : Array Value) (t : TypeId) (e : l = a ++ b) (e' : a ++ ([(wr.heap.size, c, t)] ++ b) = l') : Blk w (wr.alloc (.cells c t)) l' := by
  subst e e'
  exact (h.alloc c t).perm (perm_ins a b _)
end
end Go.Proofs.YtoljnogpegemjaaDoor
namespace Go.Proofs.YtoljnogpegemjaaDoor
open Go.RowKit
def linB2 (l : List Oper) (n : Nat) : Bool := l.all (fun o => match o.dst with | some s => decide (s < n) | none => true) && distinctD l
section
variable {P : Program} {Q : Exit → Act → World → Prop}
/-- What is to be shown of operation number i. -/
def LinStepG (P : Program) (Q : Exit → Act → World → Prop) (l : List Oper) (J : Fill → World → Prop) (a : Act) (i : Nat) (o : Oper) : Prop :=
  ∀ (f : Fill) (b : Act) (u : World) (K : Act → World → Prop), J f u → f i = none → Closed l f → (∀ j, waitsOn l i j = true → (f j).isSome = true) → Sees l f a b →
    (∀ v u', J (f.upd i v) u' → K (b.put o.dst v) u') → if Region.wanted o (yielded l.toArray b.tmps) = true then Oper.wp P o b u K Q else K (b.put o.dst undef) u
def LinAllG (P : Program) (Q : Exit → Act → World → Prop) (l : List Oper) (J : Fill → World → Prop) (a : Act) : List Oper → Nat → Prop
  | [], _ => True
  | o :: r, k => LinStepG P Q l J a k o ∧ LinAllG P Q l J a r (k + 1)
theorem LinAllG.nil {l : List Oper} {J : Fill → World → Prop} {a : Act} {k : Nat} : LinAllG P Q l J a [] k := trivial
theorem LinAllG.cons {l : List Oper} {J : Fill → World → Prop} {a : Act} {o : Oper} {r : List Oper} {k : Nat} (h : LinStepG P Q l J a k o) (hr : LinAllG P Q l J a r (k + 1)) : LinAllG P Q l J a (o :: r) k := ⟨h, hr⟩
theorem LinAllG.at {l : List Oper} {J : Fill → World → Prop} {a : Act} : ∀ {r : List Oper} {k : Nat}, LinAllG P Q l J a r k → ∀ i o, r[i]? = some o → LinStepG P Q l J a (k + i) o
  | [], _, _, _, _, h => by simp at h
  | o :: r, k, h, 0, o', ho => by
    simp only [List.getElem?_cons_zero, Option.some.injEq] at ho
    subst ho
    exact h.1
  | o :: r, k, h, i + 1, o', ho => by
    simp only [List.getElem?_cons_succ] at ho
    rw [show k + (i + 1) = k + 1 + i by omega]
    exact LinAllG.at h.2 i o' ho

theorem wp_region_ling {id : Nat} {a : Act} {w : World} {l : List Oper} (J : Fill → World → Prop) (hm : P.follows .mixedOrders = true) (hB : (linB2 l a.tmps.size && backB l) = true)
    (h0 : J (fun _ => none) w.drew) (hs : LinAllG P Q l J a l 0)
    (hend : ∀ f u, (∀ i, i < l.length → (f i).isSome = true) → J f u → Q .normal (laid l 0 f a) u) : (Code.region id l.toArray true).wp P Q a w := by
  refine wp_region_any hm ?_
  simp only [linB2, Bool.and_eq_true, List.all_eq_true] at hB
  obtain ⟨⟨hg, hd⟩, hbk⟩ := hB
  have hback : ∀ i o, l[i]? = some o → ∀ e ∈ o.after, Region.binds .any e = true → e.on < i := by
    intro i o ho e he hb
    have hlt : i < l.length := (List.getElem?_eq_some_iff.1 ho).1
    have h1 := List.all_eq_true.1 hbk i (List.mem_range.2 hlt)
    rw [ho] at h1
    have h2 := Array.all_eq_true_iff_forall_mem.1 h1 e he
    simpa [hb] using h2
  have main : ∀ (fuel : Nat) (listed : Array Bool) (f : Fill) (u : World), listed.size = l.length → (∀ i, i < l.length → listed.getD i false = (f i).isSome) → Closed l f → J f u →
      unl l.length f ≤ fuel → wpAny P .any l.toArray Q fuel listed (laid l 0 f a) u := by
    intro fuel
    have lt_of : ∀ {j : Nat} {o : Oper}, l.toArray[j]? = some o → j < l.length ∧ l[j]? = some o := by
      intro j o h
      have h2 : l[j]? = some o := by simpa using h
      exact ⟨(List.getElem?_eq_some_iff.1 h2).1, h2⟩
    have getT : ∀ (listed : Array Bool) (j : Nat), listed.size = l.length → j < l.length → listed.getD j true = listed.getD j false := by
      intro listed j h1 h2
      simp [h1, h2]
    have endd : ∀ (listed : Array Bool) (f : Fill) (u : World), listed.size = l.length → (∀ i, i < l.length → listed.getD i false = (f i).isSome) → J f u → Region.ready .any l.toArray listed = [] → Q .normal (laid l 0 f a) u := by
      intro listed f u hls hlf hJ hr
      refine hend f u (fun i => ?_) hJ
      induction i using Nat.strongRecOn with
      | _ i ih =>
        intro hi
        cases hf : f i with
        | some v => rfl
        | none =>
          exfalso
          have hm : i ∈ Region.ready .any l.toArray listed := by
            refine mem_ready.2 ⟨?_, l[i], by simp [hi], fun e he hb => ?_⟩
            · rw [getT _ _ hls hi, hlf i hi, hf]; rfl
            · have h1 := hback i l[i] (List.getElem?_eq_getElem hi) e he hb
              rw [hlf _ (by omega)]
              exact ih e.on h1 (by omega)
          rw [hr] at hm
          cases hm
    induction fuel with
    | zero =>
      intro listed f u hls hlf hcl hJ hun
      have hall := unl_zero l.length f (by omega)
      have hr : Region.ready .any l.toArray listed = [] := by
        apply List.eq_nil_iff_forall_not_mem.2
        intro j hj
        obtain ⟨h1, o, ho, _⟩ := mem_ready.1 hj
        have hlt := (lt_of ho).1
        rw [getT _ _ hls hlt, hlf j hlt, hall j hlt] at h1
        cases h1
      exact ⟨hr, endd listed f u hls hlf hJ hr⟩
    | succ fuel ih =>
      intro listed f u hls hlf hcl hJ hun
      refine ⟨endd listed f u hls hlf hJ, fun i hi => ?_⟩
      obtain ⟨hl, o, ho, hall⟩ := mem_ready.1 hi
      obtain ⟨hlt, ho'⟩ := lt_of ho
      have hfi : f i = none := by
        rw [getT _ _ hls hlt, hlf i hlt] at hl
        cases e : f i with
        | none => rfl
        | some v => rw [e] at hl; cases hl
      have hst := (by simpa using hs.at i o ho' : LinStepG P Q l J a i o)
      have hsees : Sees l f a (laid l 0 f a) := by
        refine ⟨fun j oj s v hoj hsj hv => ?_, fun s hs => ?_⟩
        · refine laid_new l 0 f a j oj s v hd hoj hsj ?_ (by simpa using hv)
          have := hg oj (List.mem_of_getElem? hoj)
          rw [hsj] at this
          exact of_decide_eq_true this
        · refine laid_old l 0 f a s (fun o' ho' e => ?_)
          have := List.all_eq_true.1 hs o' ho'
          simp [e] at this
      have hup : ∀ j, waitsOn l i j = true → (f j).isSome = true := by
        intro j hw
        unfold waitsOn at hw
        rw [ho'] at hw
        obtain ⟨e, he, hb⟩ := Array.any_eq_true'.1 hw
        simp only [Bool.and_eq_true, beq_iff_eq] at hb
        have h1 := hall e he hb.1
        have h2 := hback i o ho' e he hb.1
        rw [hlf _ (by omega)] at h1
        rw [← hb.2]; exact h1
      have H := hst f (laid l 0 f a) u (fun b u' => wpAny P .any l.toArray Q fuel (listed.setIfInBounds i true) b u') hJ hfi hcl hup hsees (fun v u' hJ' => by
        rw [laid_upd l 0 f a i o v hd ho' (by simpa using hfi), Nat.zero_add]
        refine ih _ _ _ (by simpa using hls) (fun k hk => ?_) (fun k ok hok hks e he hb => ?_) hJ' ?_
        · by_cases e : k = i
          · subst e
            simp [Fill.upd, hls, hk]
          · rw [getD_set_ne false (Ne.symm e), hlf k hk]
            simp [Fill.upd, e]
        · by_cases e2 : e.on = i
          · simp [Fill.upd, e2]
          · have h3 : (f.upd i v e.on) = f e.on := by simp [Fill.upd, e2]
            rw [h3]
            by_cases e3 : k = i
            · subst e3
              rw [ho'] at hok
              cases hok
              have h1 := hall e he hb
              have h2 := hback k o ho' e he hb
              rwa [hlf _ (by omega)] at h1
            · have h4 : f.upd i v k = f k := by simp [Fill.upd, e3]
              rw [h4] at hks
              exact hcl k ok hok hks e he hb
        · have := unl_upd l.length f i v hlt hfi
          omega)
      unfold wpOp
      simp only [ho]
      split
      · rename_i hw
        rw [if_pos hw] at H
        exact .inl H
      · rename_i hw
        rw [if_neg hw] at H
        exact H
  have h := main l.length (Array.replicate l.length false) (fun _ => none) w.drew (by simp) (fun i hi => by simp [hi]) (fun i o _ h => by cases h) h0 (unl_le _ _)
  have e0 : laid l 0 (fun _ => none) a = a := by
    have : ∀ (l : List Oper) (k : Nat), laid l k (fun _ => none) a = a := by
      intro l
      induction l with
      | nil => intro k; rfl
      | cons o l ih => intro k; simp only [laid]; exact ih (k + 1)
    exact this l 0
  rw [e0] at h
  have e1 : l.toArray.size = l.length := by simp
  rw [e1]
  exact h
theorem wanted_of {l : List Oper} {o : Oper} {j s : Nat} {b : Act} (hg : o.guard = some (j, true)) (hd : (l[j]?).bind (·.dst) = some s) (hv : b.eval (.tmp s) = .bool true) : Region.wanted o (yielded l.toArray b.tmps) = true := by
  have h1 : b.tmps[s]? = some (.bool true) := by
    have h2 : b.tmps.getD s undef = .bool true := hv
    rw [Array.getD_eq_getD_getElem?] at h2
    cases h3 : b.tmps[s]? with
    | none => rw [h3] at h2; cases h2
    | some v => rw [h3] at h2; rw [show v = .bool true from h2]
  have h4 : yielded l.toArray b.tmps j = some true := by
    unfold yielded
    rw [show (l.toArray[j]?).bind (·.dst) = some s by simpa using hd]
    simp [h1]
  simp [Region.wanted, hg, h4]
theorem lin_callW {ops : Array Oper} {o : Oper} {b : Act} {u : World} {K : Act → World → Prop} {E : Prop} (hw : Region.wanted o (yielded ops b.tmps) = true) (F : FuncId) (xs : List Operand) (ts : Array TypeId) (vs : List Value)
    (ho : o.op = .call { callee := .value (.func F), args := xs.toArray, argTypes := ts }) (hv : xs.map b.eval = vs) (hF : ∀ (args : Array Value) (u : World), (callFunc F args).run P u = .ok (.enter F args) u)
    (h : Calls P F vs.toArray u (fun e w' => ∃ v, e = .returned v ∧ K (b.put o.dst v) w')) :
    if Region.wanted o (yielded ops b.tmps) = true then Oper.wp P o b u K Q else E := by
  rw [if_pos hw]
  have h0 := lin_call (P := P) (Q := Q) (ops := #[]) (o := { o with guard := none }) (b := b) (u := u) (K := K) (E := True) rfl F xs ts vs ho hv hF h
  rw [if_pos (by simp [Region.wanted])] at h0
  exact h0
theorem lin_pureW {ops : Array Oper} {o : Oper} {b : Act} {u : World} {K : Act → World → Prop} {E : Prop} (hw : Region.wanted o (yielded ops b.tmps) = true) (v : Value) (hrun : (execOp b.eval o).run P u = .ok (.value v) u) (h : K (b.put o.dst v) u) :
    if Region.wanted o (yielded ops b.tmps) = true then Oper.wp P o b u K Q else E := by
  rw [if_pos hw]
  unfold Oper.wp
  rw [hrun]
  exact h
/-- A guarded operation that is wanted is as one without a guard. -/
theorem lin_unguard {ops : Array Oper} {o : Oper} {b : Act} {u : World} {K : Act → World → Prop} {E : Prop} (hw : Region.wanted o (yielded ops b.tmps) = true)
    (h : if Region.wanted { o with guard := none } (yielded ops b.tmps) = true then Oper.wp P { o with guard := none } b u K Q else E) :
    if Region.wanted o (yielded ops b.tmps) = true then Oper.wp P o b u K Q else E := by
  rw [if_pos (show Region.wanted { o with guard := none } (yielded ops b.tmps) = true by simp [Region.wanted])] at h
  rw [if_pos hw]
  exact h
theorem exec_slice {o : Oper} {ev : Operand → Value} {w : World} (t : TypeId) (x : Operand) (lo hi : Option Operand) (ho : o.op = .slice t x lo hi none) (vx : Value) (vlo vhi : Option Value) (hx : ev x = vx) (hlo : lo.map ev = vlo) (hhi : hi.map ev = vhi) (v : Value)
    (hrun : (Instr.sliceAt t vx vlo vhi none).run P w = .ok v w) : (execOp ev o).run P w = .ok (.value v) w := by
  simp only [execOp, ho, hx, hlo, hhi, Option.map_none, Sem.run_bind, hrun, Result.andThen_ok]
  rfl
end
end Go.Proofs.YtoljnogpegemjaaDoor
