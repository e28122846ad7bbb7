/- Bytes of strings. No condition. -/
import Derived.Test.YtoljnogpegemjaaDoorL1
import Derived.Test.YtoljnogpegemjaaDoorSrcL
import Derived.Test.YtoljnogpegemjaaDoorArr
import Derived.Lib.AppendStr
import Derived.Lib.ConvBytes
namespace Go.Proofs.YtoljnogpegemjaaDoor
open Go.RowKit
def sbytes (s : ByteArray) : List Int := s.data.toList.map fun b => (b.toNat : Int)
theorem sbytes_len (s : ByteArray) : (sbytes s).length = s.size := by rw [sbytes, List.length_map, Array.length_toList]; rfl
theorem bytes_sbytes (s : ByteArray) : ∀ x ∈ sbytes s, 0 ≤ x ∧ x ≤ 255 := by
  intro x hx
  simp only [sbytes, List.mem_map] at hx
  obtain ⟨b, _, rfl⟩ := hx
  have := b.toNat_lt
  omega
theorem strCells_sb (s : ByteArray) : Lib.strCells s = (sbytes s).map (Value.int .u8) := by simp [Lib.strCells, sbytes]

theorem run_app8_str {w : World} {B : Nat} {v : Value} {xs : List Int} {s : ByteArray} {u ty : TypeId} (hu : Tryd.prog.underlying u = some .string) (hown : Own8 w B v xs) (hlen : xs.length + s.size ≤ 140737488355328) (hbase : B ≤ w.heap.size) :
    ∃ v' w', (Builtin.append_ #[24, u] ty #[v, .string s]).run Tryd.prog w = .ok v' w' ∧ Own8 w' B v' (xs ++ sbytes s) ∧ w.grownBy w' v.ownBlock := by
  obtain ⟨i0, hi, hz0, hz1, hz2⟩ := info_parts info_u8
  obtain ⟨v', w', hr, h1, h2, -⟩ := Lib.run_append_own_string (P := Tryd.prog) w B 24 u ty 5 i0 Tryd.underlying24 hu hi hz0 hz1 hz2 v xs.length (xs.map (Value.int .u8)) hown s (by simp only [maxLen]; omega) hlen hbase
  refine ⟨v', w', hr, ?_, h2⟩
  rw [strCells_sb, ← List.map_append] at h1
  rwa [show xs.length + s.size = (xs ++ sbytes s).length by rw [List.length_append, sbytes_len]] at h1
theorem wp_app8_str {w : World} {o : Oper} {a : Act} {K : Act → World → Prop} {Q : Exit → Act → World → Prop} (s x : Operand) (u : TypeId) (hu : Tryd.prog.underlying u = some .string)
    (ho : o.op = .call { callee := .builtin .append, args := #[s, x], argTypes := #[24, u] })
    (B : Nat) (v : Value) (xs : List Int) (t : ByteArray) (hs : a.eval s = v) (hx : a.eval x = .string t) (hown : Own8 w B v xs)
    (hlen : xs.length + t.size ≤ 140737488355328) (hbase : B ≤ w.heap.size)
    (h : ∀ v' w', Own8 w' B v' (xs ++ sbytes t) → w.grownBy w' v.ownBlock → K (a.put o.dst v') w') : o.wp Tryd.prog a w K Q := by
  obtain ⟨v', w', hr, h2, h3⟩ := run_app8_str (ty := o.type) hu hown hlen hbase
  unfold Oper.wp execOp
  simp only [ho, resolve, invoke, builtin, Sem.run_bind, Sem.run_pure, Result.andThen_ok, List.map_toArray, List.map_cons, List.map_nil, hs, hx, hr]
  exact h v' w' h2 h3
theorem wpList_app8_str {w : World} {ops : Array Oper} {rest : List Oper} {o : Oper} {a : Act} {Q : Exit → Act → World → Prop} (hgd : o.guard = none) (s x : Operand) (u : TypeId) (hu : Tryd.prog.underlying u = some .string)
    (ho : o.op = .call { callee := .builtin .append, args := #[s, x], argTypes := #[24, u] })
    (B : Nat) (v : Value) (xs : List Int) (t : ByteArray) (hs : a.eval s = v) (hx : a.eval x = .string t) (hown : Own8 w B v xs)
    (hlen : xs.length + t.size ≤ 140737488355328) (hbase : B ≤ w.heap.size)
    (h : ∀ v' w', Own8 w' B v' (xs ++ sbytes t) → w.grownBy w' v.ownBlock → wpList Tryd.prog ops Q rest (a.put o.dst v') w') : wpList Tryd.prog ops Q (o :: rest) a w :=
  wpList_plain hgd fun _ hK => wp_app8_str s x u hu ho B v xs t hs hx hown hlen hbase fun v' w' h2 h3 => hK _ _ (h v' w' h2 h3)
theorem step_app8_str {w : World} {ops : Array Oper} {o : Oper} {a : Act} {K : Act → World → Prop} {Q : Exit → Act → World → Prop} {E : Prop} (hgd : o.guard = none) (s x : Operand) (u : TypeId) (hu : Tryd.prog.underlying u = some .string)
    (ho : o.op = .call { callee := .builtin .append, args := #[s, x], argTypes := #[24, u] })
    (B : Nat) (v : Value) (xs : List Int) (t : ByteArray) (hs : a.eval s = v) (hx : a.eval x = .string t) (hown : Own8 w B v xs)
    (hlen : xs.length + t.size ≤ 140737488355328) (hbase : B ≤ w.heap.size)
    (h : ∀ v' w', Own8 w' B v' (xs ++ sbytes t) → w.grownBy w' v.ownBlock → K (a.put o.dst v') w') :
    if Region.wanted o (yielded ops a.tmps) = true then Oper.wp Tryd.prog o a w K Q else E := by
  have hw : Region.wanted o (yielded ops a.tmps) = true := by simp [Region.wanted, hgd]
  rw [if_pos hw]
  exact wp_app8_str s x u hu ho B v xs t hs hx hown hlen hbase h

theorem conv_str (s : ByteArray) (w : World) : (convert 9 24 (.string s)).run Tryd.prog w = .ok (.slice (some ⟨w.heap.size, 0, none⟩) s.size (grownCap w s.size 0 5)) (Lib.bytesWorld w 5 s) :=
  Lib.run_convert_string_bytes w 9 24 5 s Tryd.underlying9 Tryd.underlying24 Tryd.underlying5
theorem conv_str_below (w : World) (s : ByteArray) : Below w.heap.size w (Lib.bytesWorld w 5 s) :=
  ⟨rfl, rfl, rfl, by rw [Lib.bytesWorld_size]; omega, fun k hk => Lib.bytesWorld_at_old w _ s k hk⟩
theorem conv_str_src (w : World) (s : ByteArray) : Src (Lib.bytesWorld w 5 s) (some ⟨w.heap.size, 0, none⟩) s.size (sbytes s) := by
  refine ⟨sbytes_len s, fun i hi => ⟨_, rfl, ?_⟩⟩
  have e : (⟨w.heap.size, 0, none⟩ : Addr).add i = ⟨w.heap.size, i, none⟩ := by unfold Addr.add; split <;> simp_all
  rw [e, Lib.bytesWorld_cell w _ s i hi]
  have hl : s.data[i]? = some s.data[i] := Array.getElem?_eq_getElem hi
  simp [sbytes, List.getD, hl]
theorem conv_str_cap (w : World) (s : ByteArray) : s.size ≤ grownCap w s.size 0 5 := grownCap_ge w s.size 0 _

section
variable {P : Program}
theorem step_store_part {ops : Array Oper} {o : Oper} {a : Act} {w : World} {K : Act → World → Prop} {Q : Exit → Act → World → Prop} {E : Prop} (hgd : o.guard = none) (ty : TypeId) (x y : Operand) (ho : o.op = .store ty x y)
    (g off : Nat) (cs ds : Array Value) (t : TypeId) (hb : w.heap[g]? = some (.cells cs t (0, 0))) (hx : a.eval x = .pointer (some ⟨g, off, none⟩)) (hy : a.eval y = .agg ds)
    (hs : off + ds.size ≤ cs.size) (hi : (P.info? ty).map (·.size) = some ds.size) (h1 : ds.all (·.oneCell') = true)
    (h : ∀ w', w'.heap[g]? = some (.cells (cs.toList.take off ++ ds.toList ++ cs.toList.drop (off + ds.size)).toArray t (0, 0)) → Kept (fun i => i = g) w w' → w'.heap.size = w.heap.size → K (a.put o.dst undef) w') :
    if Region.wanted o (yielded ops a.tmps) = true then Oper.wp P o a w K Q else E := by
  have hw : Region.wanted o (yielded ops a.tmps) = true := by simp [Region.wanted, hgd]
  rw [if_pos hw]
  refine wp_store_mid ty x y ho g off ds hx hy (fun j hj => ?_) hi h1 (h _ ?_ ?_ ?_)
  · rw [cell_blk hb]
    exact ⟨by rw [Array.getElem?_eq_getElem (by omega)]; rfl, free_blk hb _⟩
  · rw [blk_setCells _ _ _ _ _ _ _ hb (by simpa using hs)]
    simp
  · exact kept_setCells g _ _ _ (Kept.refl _ _) (.inl rfl)
  · have : ∀ (vs : List Value) (o : Nat) (w : World), (w.setCells g o vs).heap.size = w.heap.size := by
      intro vs
      induction vs with
      | nil => intro o w; rfl
      | cons v vs ih => intro o w; rw [World.setCells, ih]; simp [World.setCell]
    exact this _ _ _
end
end Go.Proofs.YtoljnogpegemjaaDoor
