/- Long arrays: made, stored, loaded whole or out of the middle of a block, indexed. Over any program; no condition. -/
import Derived.Test.YtoljnogpegemjaaDoorArr
namespace Go.Proofs.YtoljnogpegemjaaDoor
open Go.RowKit

theorem arr_toList (k : IntKind) (xs : List Int) : (arr k xs).toList = xs.map (Value.int k) := rfl
theorem all_arr (k : IntKind) (xs : List Int) : (arr k xs).all (·.oneCell') = true :=
  all_oneCell_toArray (by intro v hv; obtain ⟨y, _, rfl⟩ := List.mem_map.1 hv; rfl)

section
variable {P : Program}

theorem wpList_alloc_row {ops : Array Oper} {rest : List Oper} {o : Oper} {a : Act} {w : World} {Q : Exit → Act → World → Prop} (hgd : o.guard = none) (t : TypeId) (ho : o.op = .alloc t)
    (z : Array Value) (hz : (zeroValue t).run P w = .ok (.agg z) w) (h : wpList P ops Q rest (a.put o.dst (.pointer (some ⟨w.heap.size, 0, none⟩))) (w.alloc (.cells z t))) : wpList P ops Q (o :: rest) a w := by
  refine wpList_plain hgd fun K hK => ?_
  unfold Oper.wp execOp
  simp only [ho, Instr.alloc, Sem.run_bind, hz, Result.andThen_ok]
  exact hK _ _ h

/-- A store of a long array over a part of a block that is known whole. -/
theorem wpList_store_part {ops : Array Oper} {rest : List Oper} {o : Oper} {a : Act} {w : World} {Q : Exit → Act → World → Prop} (hgd : o.guard = none) (ty : TypeId) (x y : Operand) (ho : o.op = .store ty x y)
    (g off : Nat) (cs ds : Array Value) (t : TypeId) (hb : w.heap[g]? = some (.cells cs t (0, 0))) (hx : a.eval x = .pointer (some ⟨g, off, none⟩)) (hy : a.eval y = .agg ds)
    (hs : off + ds.size ≤ cs.size) (hi : (P.info? ty).map (·.size) = some ds.size) (h1 : ds.all (·.oneCell') = true)
    (h : ∀ w', w'.heap[g]? = some (.cells (cs.toList.take off ++ ds.toList ++ cs.toList.drop (off + ds.size)).toArray t (0, 0)) → Kept (fun i => i = g) w w' → w'.heap.size = w.heap.size → wpList P ops Q rest (a.put o.dst undef) w') :
    wpList P ops Q (o :: rest) a w := by
  refine wpList_store_mid hgd ty x y ho g off ds hx hy (fun j hj => ?_) hi h1 (h _ ?_ ?_ ?_)
  · rw [cell_blk hb]
    exact ⟨by rw [Array.getElem?_eq_getElem (by omega)]; rfl, free_blk hb _⟩
  · rw [blk_setCells _ _ _ _ _ _ _ hb (by simpa using hs)]
    simp
  · exact kept_setCells g _ _ _ (Kept.refl _ _) (.inl rfl)
  · have : ∀ (vs : List Value) (o : Nat) (w : World), (w.setCells g o vs).heap.size = w.heap.size := by
      intro vs
      induction vs with
      | nil => intro o w; rfl
      | cons v vs ih => intro o w; rw [World.setCells, ih]; simp [World.setCell]
    exact this _ _ _
/-- A store of a long array over a whole block. -/
theorem wpList_store_whole {ops : Array Oper} {rest : List Oper} {o : Oper} {a : Act} {w : World} {Q : Exit → Act → World → Prop} (hgd : o.guard = none) (ty : TypeId) (x y : Operand) (ho : o.op = .store ty x y)
    (g : Nat) (cs ds : Array Value) (t : TypeId) (hb : w.heap[g]? = some (.cells cs t (0, 0))) (hx : a.eval x = .pointer (some ⟨g, 0, none⟩)) (hy : a.eval y = .agg ds)
    (hs : ds.size = cs.size) (hi : (P.info? ty).map (·.size) = some ds.size) (h1 : ds.all (·.oneCell') = true)
    (h : ∀ w', w'.heap[g]? = some (.cells ds t (0, 0)) → Kept (fun i => i = g) w w' → w'.heap.size = w.heap.size → wpList P ops Q rest (a.put o.dst undef) w') :
    wpList P ops Q (o :: rest) a w := by
  refine wpList_store_part hgd ty x y ho g 0 cs ds t hb hx hy (by omega) hi h1 fun w' h2 h3 h4 => h w' ?_ h3 h4
  rw [h2]
  congr 2
  have : cs.toList.drop ds.size = [] := List.drop_eq_nil_of_le (by simp [hs])
  simp [this]

/-- A part of a block that is known whole. -/
theorem range_part {w : World} {g : Nat} {cs : Array Value} {t : TypeId} {fr : Nat × Nat} (hb : w.heap[g]? = some (.cells cs t fr)) (off : Nat) (xs : List Value) (hx : (cs.toList.drop off).take xs.length = xs) : w.rangeAt g off xs := by
  intro j v hj
  rw [cell_blk hb]
  have hl : j < xs.length := (List.getElem?_eq_some_iff.1 hj).1
  have := congrArg (fun l => l[j]?) hx
  simp only [List.getElem?_take, hl, if_true, List.getElem?_drop, hj] at this
  simpa using this
theorem wpList_load_part {ops : Array Oper} {rest : List Oper} {o : Oper} {a : Act} {w : World} {Q : Exit → Act → World → Prop} (hgd : o.guard = none) (ty : TypeId) (x : Operand) (ho : o.op = .load ty x)
    (g off : Nat) (cs : Array Value) (t : TypeId) (fr : Nat × Nat) (d : TypeDesc) (hb : w.heap[g]? = some (.cells cs t fr)) (hx : a.eval x = .pointer (some ⟨g, off, none⟩)) (k : IntKind) (xs : List Int)
    (hp : (cs.toList.drop off).take xs.length = xs.map (Value.int k)) (hu : P.underlying ty = some d) (hd : d.isRow = true) (hi : (P.info? ty).map (·.size) = some xs.length)
    (h : wpList P ops Q rest (a.put o.dst (.agg (arr k xs))) w) : wpList P ops Q (o :: rest) a w :=
  wpList_load_mid hgd ty x ho g off hx (xs.map (Value.int k)) d (range_part hb off _ (by rw [List.length_map]; exact hp)) hu hd (by rw [List.length_map]; exact hi) h

theorem run_index_arr (w : World) (t e : TypeId) (n : Nat) (k k' ik : IntKind) (ht : P.underlying t = some (.array n e)) (he : P.underlying e = some (.int k')) (hsz : ∀ w, (sizeOf e).run P w = .ok 1 w)
    (xs : List Int) (hx : xs.length = n) (j : Nat) (hj : j < n) : (Instr.index t (.agg (arr k xs)) (.int ik j)).run P w = .ok (.int k (xs.getD j 0)) w := by
  simp only [Instr.index, asIntOf, Sem.run_bind, Sem.run_pure, Result.andThen_ok, run_underlying ht]
  rw [if_pos (by omega)]
  simp only [Sem.run_bind, hsz, Result.andThen_ok, Int.toNat_natCast, Nat.mul_one]
  simp [part, isAgg, run_underlying he, arr, List.getD, List.getElem?_eq_getElem (show j < xs.length by omega)]
end
end Go.Proofs.YtoljnogpegemjaaDoor
