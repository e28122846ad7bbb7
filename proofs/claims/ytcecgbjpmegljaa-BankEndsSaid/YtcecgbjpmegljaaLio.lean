/- The steps of a region that is walked once an operation: a value, a call, an alloc; blocks of which it is not said in which order they came. Over any program; no condition. -/
import Derived.Test.YtcecgbjpmegljaaLin
namespace Go.Proofs.Ytcecgbjpmegljaa
open Go.RowKit
section
variable {P : Program} {Q : Exit → Act → World → Prop} {ops : Array Oper}
theorem lin_pure {o : Oper} {b : Act} {u : World} {K : Act → World → Prop} {E : Prop} (hgd : o.guard = none) (v : Value) (hrun : (execOp b.eval o).run P u = .ok (.value v) u) (h : K (b.put o.dst v) u) :
    if Region.wanted o (yielded ops b.tmps) = true then Oper.wp P o b u K Q else E := by
  have hw : Region.wanted o (yielded ops b.tmps) = true := by simp [Region.wanted, hgd]
  rw [if_pos hw]
  unfold Oper.wp
  rw [hrun]
  exact h
theorem wpList_load_wanted {rest : List Oper} {o : Oper} {a : Act} {w : World} (hgd : Region.wanted o (yielded ops a.tmps) = true) (ty : TypeId) (x : Operand) (ho : o.op = .load ty x)
    (g off : Nat) (cs : Array Value) (t : TypeId) (fr : Nat × Nat) (d : TypeDesc) (hb : w.heap[g]? = some (.cells cs t fr)) (hx : a.eval x = .pointer (some ⟨g, off, none⟩)) (k : IntKind) (xs : List Int)
    (hp : (cs.toList.drop off).take xs.length = xs.map (Value.int k)) (hu : P.underlying ty = some d) (hd : d.isRow = true) (hi : (P.info? ty).map (·.size) = some xs.length)
    (h : wpList P ops Q rest (a.put o.dst (.agg (arr k xs))) w) : wpList P ops Q (o :: rest) a w := by
  unfold wpList
  rw [if_pos hgd]
  left
  exact wp_load_mid ty x ho g off hx (xs.map (Value.int k)) d (range_part hb off _ (by rw [List.length_map]; exact hp)) hu hd (by rw [List.length_map]; exact hi) h
theorem exec_build_l {o : Oper} {ev : Operand → Value} {w : World} (t : TypeId) (ps : Array (Nat × Operand)) (ho : o.op = .build t ps) (vs : Array (Nat × Value)) (hvs : ps.toList.map (fun p => (p.1, ev p.2)) = vs.toList) (v : Value) (hrun : (Instr.build t vs).run P w = .ok v w) : (execOp ev o).run P w = .ok (.value v) w := by
  have hv : ps.map (fun p => (p.1, ev p.2)) = vs := by apply Array.toList_inj.1; rw [Array.toList_map]; exact hvs
  simp only [execOp, ho, hv, Sem.run_bind, hrun, Result.andThen_ok]
  rfl
theorem lin_call {o : Oper} {b : Act} {u : World} {K : Act → World → Prop} {E : Prop} (hgd : o.guard = none) (F : FuncId) (xs : List Operand) (ts : Array TypeId) (vs : List Value)
    (ho : o.op = .call { callee := .value (.func F), args := xs.toArray, argTypes := ts }) (hv : xs.map b.eval = vs) (hF : ∀ (args : Array Value) (u : World), (callFunc F args).run P u = .ok (.enter F args) u)
    (h : Calls P F vs.toArray u (fun e w' => ∃ v, e = .returned v ∧ K (b.put o.dst v) w')) :
    if Region.wanted o (yielded ops b.tmps) = true then Oper.wp P o b u K Q else E := by
  have hw : Region.wanted o (yielded ops b.tmps) = true := by simp [Region.wanted, hgd]
  rw [if_pos hw]
  unfold Oper.wp
  have e : (execOp b.eval o).run P u = .ok (.enter F vs.toArray) u := by
    have hv' : xs.toArray.map b.eval = vs.toArray := by rw [List.map_toArray, hv]
    simp only [execOp, ho, resolve, hv', Act.eval, Deferred.ofValue, Sem.run_bind, Sem.run_pure, Result.andThen_ok, invoke, Array.append_empty, Array.empty_append, hF]
  rw [e]
  exact Calls.mono h (fun e w' ⟨v, he, hk⟩ => by subst he; exact hk)
theorem Sees.at {l : List Oper} {f : Fill} {a b : Act} {i : Nat} (hs : Sees l f a b) (hup : ∀ j, waitsOn l i j = true → (f j).isSome = true) (j : Nat) (s : Tmp) (hw : waitsOn l i j = true) (hd : (l[j]?).bind (·.dst) = some s)
    {V : Value} {R : Prop} (hV : ∀ v, f j = some v → v = V ∧ R) : b.eval (.tmp s) = V ∧ R := by
  obtain ⟨v, hv⟩ := Option.isSome_iff_exists.1 (hup j hw)
  obtain ⟨h1, h2⟩ := hV v hv
  exact ⟨(hs.val j s hd hv).trans h1, h2⟩
/-- The block that an alloc has left, if it has come up. -/
def ent (o : Option Value) (c : Array Value) (t : TypeId) : List (Nat × Array Value × TypeId) := match o with
  | some (.pointer (some a)) => [(a.block, c, t)]
  | some (.slice (some a) _ _) => [(a.block, c, t)]
  | _ => []
theorem ent_none (c : Array Value) (t : TypeId) : ent none c t = [] := rfl
theorem ent_some (g : Nat) (c : Array Value) (t : TypeId) : ent (some (.pointer (some ⟨g, 0, none⟩))) c t = [(g, c, t)] := rfl
theorem ent_slice (g n m : Nat) (c : Array Value) (t : TypeId) : ent (some (.slice (some ⟨g, 0, none⟩) n m)) c t = [(g, c, t)] := rfl
theorem Blk.perm {w wr : World} {l l' : List (Nat × Array Value × TypeId)} (h : Blk w wr l) (p : l.Perm l') : Blk w wr l' := by
  have hmem : ∀ g c t, (g, c, t) ∈ l → wr.heap[g]? = some (.cells c t (0, 0)) ∧ w.heap.size ≤ g := by
    intro g c t hm
    obtain ⟨i, hi⟩ := List.getElem?_of_mem hm
    exact h.mem i g c t hi
  have hpw : l.Pairwise (fun x y => x.1 ≠ y.1) := by
    rw [List.pairwise_iff_getElem]
    intro i j hi hj hij e
    obtain ⟨⟨g, c, t⟩, hx⟩ : ∃ x, l[i] = x := ⟨_, rfl⟩
    obtain ⟨⟨g', c', t'⟩, hy⟩ : ∃ x, l[j] = x := ⟨_, rfl⟩
    rw [hx, hy] at e
    have e' : g = g' := e
    subst e'
    have := h.inj i j g c t c' t' (by rw [List.getElem?_eq_getElem hi, hx]) (by rw [List.getElem?_eq_getElem hj, hy])
    omega
  have hpw' : l'.Pairwise (fun x y => x.1 ≠ y.1) := (p.pairwise_iff (fun h => Ne.symm h)).1 hpw
  refine ⟨fun i g c t hi => hmem g c t (p.mem_iff.2 (List.mem_of_getElem? hi)), fun i j g c t c' t' hi hj => ?_, h.below⟩
  obtain ⟨hi1, hi2⟩ := List.getElem?_eq_some_iff.1 hi
  obtain ⟨hj1, hj2⟩ := List.getElem?_eq_some_iff.1 hj
  rw [List.pairwise_iff_getElem] at hpw'
  rcases Nat.lt_trichotomy i j with hlt | heq | hgt
  · exact absurd (by rw [hi2, hj2]) (hpw' i j hi1 hj1 hlt)
  · exact heq
  · exact absurd (by rw [hi2, hj2]) (hpw' j i hj1 hi1 hgt)
theorem perm_ins {α : Type} (a b : List α) (x : α) : ((a ++ b) ++ [x]).Perm (a ++ ([x] ++ b)) := (List.perm_append_singleton x (a ++ b)).trans List.perm_middle.symm
theorem Blk.ins {w wr : World} {l a b l' : List (Nat × Array Value × TypeId)} (h : Blk w wr l) (c : Array Value) (t : TypeId) (e : l = a ++ b) (e' : a ++ ([(wr.heap.size, c, t)] ++ b) = l') : Blk w (wr.alloc (.cells c t)) l' := by
  subst e e'
  exact (h.alloc c t).perm (perm_ins a b _)
end
end Go.Proofs.Ytcecgbjpmegljaa
