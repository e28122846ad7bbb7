/- One step of a region that draws its order: a long array made, a long array stored over a whole block. Over any program; no condition. -/
import Derived.Test.YtcecgbjpmegljaaLong
import Derived.Deep.RegionHeld3
import Derived.Deep.DeepCutAuto
namespace Go.Proofs.Ytcecgbjpmegljaa
open Go.RowKit
section
variable {P : Program}
theorem step_alloc_row {ops : Array Oper} {o : Oper} {a : Act} {w : World} {K : Act → World → Prop} {Q : Exit → Act → World → Prop} {E : Prop} (hgd : o.guard = none) (t : TypeId) (ho : o.op = .alloc t)
    (z : Array Value) (hz : (zeroValue t).run P w = .ok (.agg z) w) (h : K (a.put o.dst (.pointer (some ⟨w.heap.size, 0, none⟩))) (w.alloc (.cells z t))) :
    if Region.wanted o (yielded ops a.tmps) = true then Oper.wp P o a w K Q else E := by
  have hw : Region.wanted o (yielded ops a.tmps) = true := by simp [Region.wanted, hgd]
  rw [if_pos hw]
  unfold Oper.wp execOp
  simp only [ho, Instr.alloc, Sem.run_bind, hz, Result.andThen_ok]
  exact h
theorem step_store_whole {ops : Array Oper} {o : Oper} {a : Act} {w : World} {K : Act → World → Prop} {Q : Exit → Act → World → Prop} {E : Prop} (hgd : o.guard = none) (ty : TypeId) (x y : Operand) (ho : o.op = .store ty x y)
    (g : Nat) (cs ds : Array Value) (t : TypeId) (hb : w.heap[g]? = some (.cells cs t (0, 0))) (hx : a.eval x = .pointer (some ⟨g, 0, none⟩)) (hy : a.eval y = .agg ds)
    (hs : ds.size = cs.size) (hi : (P.info? ty).map (·.size) = some ds.size) (h1 : ds.all (·.oneCell') = true)
    (h : ∀ w', w'.heap[g]? = some (.cells ds t (0, 0)) → Kept (fun i => i = g) w w' → w'.heap.size = w.heap.size → K (a.put o.dst undef) w') :
    if Region.wanted o (yielded ops a.tmps) = true then Oper.wp P o a w K Q else E := by
  have hw : Region.wanted o (yielded ops a.tmps) = true := by simp [Region.wanted, hgd]
  rw [if_pos hw]
  refine wp_store_mid ty x y ho g 0 ds hx hy (fun j hj => ?_) hi h1 (h _ ?_ ?_ ?_)
  · rw [cell_blk hb]
    exact ⟨by rw [Array.getElem?_eq_getElem (by omega)]; rfl, free_blk hb _⟩
  · rw [blk_setCells _ _ _ _ _ _ _ hb (by simp [hs])]
    have e : cs.toList.drop (0 + ds.toList.length) = [] := List.drop_eq_nil_of_le (by simp [hs])
    rw [e]
    simp
  · exact kept_setCells g _ _ _ (Kept.refl _ _) (.inl rfl)
  · have : ∀ (vs : List Value) (o : Nat) (w : World), (w.setCells g o vs).heap.size = w.heap.size := by
      intro vs
      induction vs with
      | nil => intro o w; rfl
      | cons v vs ih => intro o w; rw [World.setCells, ih]; simp [World.setCell]
    exact this _ _ _
theorem step_load_part {ops : Array Oper} {o : Oper} {a : Act} {w : World} {K : Act → World → Prop} {Q : Exit → Act → World → Prop} {E : Prop} (hgd : o.guard = none) (ty : TypeId) (x : Operand) (ho : o.op = .load ty x)
    (g off : Nat) (cs : Array Value) (t : TypeId) (fr : Nat × Nat) (d : TypeDesc) (hb : w.heap[g]? = some (.cells cs t fr)) (hx : a.eval x = .pointer (some ⟨g, off, none⟩)) (k : IntKind) (xs : List Int)
    (hp : (cs.toList.drop off).take xs.length = xs.map (Value.int k)) (hu : P.underlying ty = some d) (hd : d.isRow = true) (hi : (P.info? ty).map (·.size) = some xs.length)
    (h : K (a.put o.dst (.agg (arr k xs))) w) : if Region.wanted o (yielded ops a.tmps) = true then Oper.wp P o a w K Q else E := by
  have hw : Region.wanted o (yielded ops a.tmps) = true := by simp [Region.wanted, hgd]
  rw [if_pos hw]
  exact wp_load_mid ty x ho g off hx (xs.map (Value.int k)) d (range_part hb off _ (by rw [List.length_map]; exact hp)) hu hd (by rw [List.length_map]; exact hi) h
end
end Go.Proofs.Ytcecgbjpmegljaa
